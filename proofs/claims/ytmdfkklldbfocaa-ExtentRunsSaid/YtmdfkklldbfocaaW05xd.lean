/-
  CHAPTER 05x: the functions do what their models say (4).
-/
import Derived.Test.YtmdfkklldbfocaaM05x
set_option linter.unusedVariables false
set_option linter.unusedSimpArgs false
set_option maxRecDepth 100000
set_option maxHeartbeats 8000000
namespace Go.Proofs.Ytmdfkklldbfocaa
open Go Go.RowKit Sx

theorem w_extent_New_2 (F : Nat) {y : Unit} (hm : m_extent_New_2 F = some y) : CallG Try.prog 8 #[] (X := Nat) (fun (x0 : Nat) => .pointer (some ⟨x0, 0, none⟩)) [] [] (fun (x0 : Nat) => [.cells x0 56 [.bool true, .pointer none, .int .i64 0]]) := by
  intro w hg
  rw [m_extent_New_2] at hm
  refine GS.start (S := mayT [] []) (mem := []) Try.func8 rfl Try.ntmps8 (Nat.le_of_ble_eq_true rfl) (hg.start rfl) ?_
  refine GS.conv (env' := []) rfl rfl ?_
  refine GS.seq ?_
  refine GS.region (env' := fun _ => []) (mem' := fun _ => []) (RunsTo.mk [] [] [] (fun _ => []) (fun _ => by kernel_rfl) (fun _ => trivial)) ?_
  intro _
  refine GS.seq ?_
  refine GS.region (env' := fun fr2 => [(0, .pointer (some ⟨(fr2 1).x, 0, none⟩))]) (mem' := fun fr2 => [(1, .cells ((fr2 1).x) 56 [.bool true, .pointer none, .int .i64 0])]) (RunsTo.mk [(1, { act := .new .var, key := some 1 })] [0] [1] (fun fr2 => []) (fun fr2 => by kernel_rfl) (fun fr2 => trivial)) ?_
  intro fr2
  have hy := Option.some.inj hm
  subst hy
  refine GS.ret (fn := Try.f8) [0] [.pointer (some ⟨(fr2 1).x, 0, none⟩)] [] rfl Try.func8 (by kernel_rfl) trivial (fun w' hs => ?_)
  exact ⟨((fr2 1).x), rfl, hs.turnedG (ks := [1]) rfl rfl⟩

theorem w___extent_Map__is_2 (F : Nat) (a0b : Nat) {y : Unit} (hm : m___extent_Map__is_2 F = some y) : CallG Try.prog 25 #[.pointer (some ⟨a0b, 0, none⟩)] (X := Unit) (fun (_ : Unit) => .bool true) [] [.rd (some ⟨a0b, 0, none⟩) 3 ([[.bool true, .pointer none, .int .i64 0]] : List (List Value))] (fun (_ : Unit) => []) := by
  intro w hg
  rw [m___extent_Map__is_2] at hm
  refine GS.start (S := mayT [] [.rd (some ⟨a0b, 0, none⟩) 3 ([[.bool true, .pointer none, .int .i64 0]] : List (List Value))]) (mem := [(1, .rd (some ⟨a0b, 0, none⟩) 3 ([[.bool true, .pointer none, .int .i64 0]] : List (List Value)))]) Try.func25 rfl Try.ntmps25 (Nat.le_of_ble_eq_true rfl) (hg.start rfl) ?_
  refine GS.conv (env' := [(0, .pointer (some ⟨a0b, 0, none⟩))]) rfl rfl ?_
  refine GS.seq ?_
  refine GS.region (env' := fun _ => [(0, .pointer (some ⟨a0b, 0, none⟩))]) (mem' := fun _ => [(1, .rd (some ⟨a0b, 0, none⟩) 3 ([[.bool true, .pointer none, .int .i64 0]] : List (List Value)))]) (RunsTo.mk [] [0] [1] (fun _ => []) (fun _ => by kernel_rfl) (fun _ => trivial)) ?_
  intro _
  refine GS.seq ?_
  refine GS.region (env' := fun _ => [(2, .bool true)]) (mem' := fun _ => []) (RunsTo.mk [(6, { act := .load 1 0 0 [.bool true, .pointer none, .int .i64 0] })] [2] [] (fun _ => [a0b = blk (some ⟨a0b, 0, none⟩), 0 = offs (some ⟨a0b, 0, none⟩) + (0 * 3 + 0), ([[.bool true, .pointer none, .int .i64 0]] : List (List Value))[0]? = some [.bool true, .pointer none, .int .i64 0]]) (fun _ => by kernel_rfl) (fun _ => ⟨rfl, rfl, rfl, trivial⟩)) ?_
  intro _
  have hy := Option.some.inj hm
  subst hy
  refine GS.ret (fn := Try.f25) [0] [.bool true] [] rfl Try.func25 (by kernel_rfl) trivial (fun w' hs => ?_)
  exact ⟨(), rfl, hs.turnedG (ks := []) rfl rfl⟩

theorem w___extent_Map__may_2 (F : Nat) (a0b : Nat) {y : Unit} (hm : m___extent_Map__may_2 F = some y) : CallG Try.prog 22 #[.pointer (some ⟨a0b, 0, none⟩), .int .i64 2, .int .i64 2] (X := Unit) (fun (_ : Unit) => .int .i64 0) [] [.rd (some ⟨a0b, 0, none⟩) 3 ([[.bool true, .pointer none, .int .i64 0]] : List (List Value))] (fun (_ : Unit) => []) := by
  intro w hg
  rw [m___extent_Map__may_2] at hm
  refine GS.start (S := mayT [] [.rd (some ⟨a0b, 0, none⟩) 3 ([[.bool true, .pointer none, .int .i64 0]] : List (List Value))]) (mem := [(1, .rd (some ⟨a0b, 0, none⟩) 3 ([[.bool true, .pointer none, .int .i64 0]] : List (List Value)))]) Try.func22 rfl Try.ntmps22 (Nat.le_of_ble_eq_true rfl) (hg.start rfl) ?_
  refine GS.conv (env' := [(0, .pointer (some ⟨a0b, 0, none⟩)), (1, .int .i64 2), (2, .int .i64 2)]) rfl rfl ?_
  refine GS.seq ?_
  refine GS.region (env' := fun _ => [(0, .pointer (some ⟨a0b, 0, none⟩)), (1, .int .i64 2), (2, .int .i64 2)]) (mem' := fun _ => [(1, .rd (some ⟨a0b, 0, none⟩) 3 ([[.bool true, .pointer none, .int .i64 0]] : List (List Value)))]) (RunsTo.mk [] [0, 1, 2] [1] (fun _ => []) (fun _ => by kernel_rfl) (fun _ => trivial)) ?_
  intro _
  refine GS.seq ?_
  refine GS.block ?_
  refine GS.seq ?_
  refine bnd_elim hm (fun y3 e4 hm => ?_)
  refine GS.region (env' := fun _ => [(1, .int .i64 2), (2, .int .i64 2), (7, .bool false)]) (mem' := fun _ => []) (RunsTo.mk [(1, { act := .call [1] (.bool true) })] [1, 2, 7] [] (fun _ => [CallOK Try.prog 25 #[.pointer (some ⟨a0b, 0, none⟩)] (.bool true) [some (.rd (some ⟨a0b, 0, none⟩) 3 ([[.bool true, .pointer none, .int .i64 0]] : List (List Value)))]]) (fun _ => by kernel_rfl) (fun _ => ⟨(by have h1 := w___extent_Map__is_2 F a0b e4; exact h1.ok ⟨(.inl ⟨.rd (some ⟨a0b, 0, none⟩) 3 ([[.bool true, .pointer none, .int .i64 0]] : List (List Value)), .head _, Cov.refl _⟩), trivial⟩), trivial⟩)) ?_
  intro _
  refine GS.cond (t := false) rfl rfl (fun hf => by cases hf) (fun _ => ?_)
  refine GS.seq ?_
  refine GS.region (env' := fun _ => [(1, .int .i64 2), (2, .int .i64 2), (11, .bool false)]) (mem' := fun _ => []) (RunsTo.mk [] [1, 2, 11] [] (fun _ => []) (fun _ => by kernel_rfl) (fun _ => trivial)) ?_
  intro _
  refine GS.cond (t := false) rfl rfl (fun hf => by cases hf) (fun _ => ?_)
  refine GS.seq ?_
  refine GS.region (env' := fun _ => [(18, .bool false)]) (mem' := fun _ => []) (RunsTo.mk [] [18] [] (fun _ => []) (fun _ => by kernel_rfl) (fun _ => trivial)) ?_
  intro _
  refine GS.cond (t := false) rfl rfl (fun hf => by cases hf) (fun _ => ?_)
  refine GS.skip ?_
  refine GS.inBlock ?_
  refine GS.seq ?_
  refine GS.region (env' := fun _ => [(6, .int .i64 0)]) (mem' := fun _ => []) (RunsTo.mk [] [6] [] (fun _ => []) (fun _ => by kernel_rfl) (fun _ => trivial)) ?_
  intro _
  have hy := Option.some.inj hm
  subst hy
  refine GS.ret (fn := Try.f22) [0] [.int .i64 0] [] rfl Try.func22 (by kernel_rfl) trivial (fun w' hs => ?_)
  exact ⟨(), rfl, hs.turnedG (ks := []) rfl rfl⟩

theorem w___extent_Map__clear_2 (F : Nat) (a0b : Nat) {y : Unit} (hm : m___extent_Map__clear_2 F = some y) : CallG Try.prog 23 #[.pointer (some ⟨a0b, 0, none⟩), .int .i64 2, .int .i64 4] (X := Unit) (fun (_ : Unit) => .tuple #[]) [.cells a0b 56 [.bool true, .pointer none, .int .i64 0]] [] (fun (_ : Unit) => [.cells a0b 56 [.bool true, .pointer none, .int .i64 0]]) := by
  intro w hg
  rw [m___extent_Map__clear_2] at hm
  refine GS.start (S := mayT [.cells a0b 56 [.bool true, .pointer none, .int .i64 0]] []) (mem := [(1, .cells a0b 56 [.bool true, .pointer none, .int .i64 0])]) Try.func23 rfl Try.ntmps23 (Nat.le_of_ble_eq_true rfl) (hg.start rfl) ?_
  refine GS.conv (env' := [(0, .pointer (some ⟨a0b, 0, none⟩)), (1, .int .i64 2), (2, .int .i64 4)]) rfl rfl ?_
  refine GS.scope ?_
  refine GS.seq ?_
  refine GS.region (env' := fun _ => [(0, .pointer (some ⟨a0b, 0, none⟩)), (1, .int .i64 2), (2, .int .i64 4), (6, .pointer none)]) (mem' := fun _ => [(1, .cells a0b 56 [.bool true, .pointer none, .int .i64 0])]) (RunsTo.mk [(3, { act := .load 1 0 0 [] })] [0, 1, 2, 6] [1] (fun _ => [a0b = a0b]) (fun _ => by kernel_rfl) (fun _ => ⟨rfl, trivial⟩)) ?_
  intro _
  refine GS.seq ?_
  refine GS.region (env' := fun _ => [(0, .pointer (some ⟨a0b, 0, none⟩)), (1, .int .i64 2), (2, .int .i64 4), (6, .pointer none)]) (mem' := fun _ => [(1, .cells a0b 56 [.bool true, .pointer none, .int .i64 0])]) (RunsTo.mk [(3, { act := .store 0 0 [], key := some 1 })] [0, 1, 2, 6] [1] (fun _ => [a0b = a0b, ((.pointer none) : Value).cells.toList.all Value.oneCell' = true]) (fun _ => by kernel_rfl) (fun _ => ⟨rfl, rfl, trivial⟩)) ?_
  intro _
  refine GS.seq ?_
  refine GS.region (env' := fun fr3 => [(1, .int .i64 2), (2, .int .i64 4), (6, .pointer none), (7, .pointer (some ⟨(fr3 3).x, 0, none⟩))]) (mem' := fun fr3 => [(1, .cells a0b 56 [.bool true, .pointer none, .int .i64 0]), (2, .cells ((fr3 3).x) 60 [.pointer (some ⟨a0b, 1, none⟩)])]) (RunsTo.mk [(3, { act := .new .var, key := some 2 }), (4, { act := .store 0 0 [], key := some 2 })] [1, 2, 6, 7] [1, 2] (fun fr3 => [(fr3 3).x = (fr3 3).x, ((.pointer (some ⟨a0b, 1, none⟩)) : Value).cells.toList.all Value.oneCell' = true]) (fun fr3 => by kernel_rfl) (fun fr3 => ⟨rfl, rfl, trivial⟩)) ?_
  intro fr3
  refine GS.seq ?_
  refine GS.region (env' := fun _ => [(1, .int .i64 2), (2, .int .i64 4), (6, .pointer none), (8, .func (.func 34) #[] #[.pointer (some ⟨(fr3 3).x, 0, none⟩)])]) (mem' := fun _ => [(1, .cells a0b 56 [.bool true, .pointer none, .int .i64 0]), (2, .cells ((fr3 3).x) 60 [.pointer (some ⟨a0b, 1, none⟩)])]) (RunsTo.mk [] [1, 2, 6, 8] [1, 2] (fun _ => []) (fun _ => by kernel_rfl) (fun _ => trivial)) ?_
  intro _
  refine GS.seq ?_
  refine GS.label ?_
  refine GS.seq ?_
  refine GS.region (env' := fun _ => [(1, .int .i64 2), (2, .int .i64 4), (8, .func (.func 34) #[] #[.pointer (some ⟨(fr3 3).x, 0, none⟩)]), (9, .pointer none)]) (mem' := fun _ => [(1, .cells a0b 56 [.bool true, .pointer none, .int .i64 0]), (2, .cells ((fr3 3).x) 60 [.pointer (some ⟨a0b, 1, none⟩)])]) (RunsTo.mk [] [1, 2, 8, 9] [1, 2] (fun _ => []) (fun _ => by kernel_rfl) (fun _ => trivial)) ?_
  intro _
  refine GS.block ?_
  refine GS.loop ?_
  refine GS.seq ?_
  refine GS.seq ?_
  refine GS.region (env' := fun _ => [(1, .int .i64 2), (2, .int .i64 4), (8, .func (.func 34) #[] #[.pointer (some ⟨(fr3 3).x, 0, none⟩)]), (9, .pointer none), (23, .bool false)]) (mem' := fun _ => [(1, .cells a0b 56 [.bool true, .pointer none, .int .i64 0]), (2, .cells ((fr3 3).x) 60 [.pointer (some ⟨a0b, 1, none⟩)])]) (RunsTo.mk [] [1, 2, 8, 9, 23] [1, 2] (fun _ => []) (fun _ => by kernel_rfl) (fun _ => trivial)) ?_
  intro _
  refine GS.cond (t := false) rfl rfl (fun hf => by cases hf) (fun _ => ?_)
  refine GS.exit rfl ?_
  refine GS.inScope ?_
  have hy := Option.some.inj hm
  subst hy
  refine GS.end_ (fn := Try.f23) [] [] [] rfl Try.func23 (by kernel_rfl) trivial (fun w' hs => ?_)
  exact ⟨(), rfl, hs.turnedG (ks := [1]) rfl rfl⟩

theorem w___extent_Map__Write_2 (F : Nat) (a0b : Nat) (a2_o : Option Addr) (a2_c : Nat) {y : Unit} (hm : m___extent_Map__Write_2 F = some y) : CallG Try.prog 9 #[.pointer (some ⟨a0b, 0, none⟩), .int .i64 2, .slice a2_o 2 a2_c] (X := Nat × Option Addr × Nat) (fun ⟨x0, x1, x2⟩ => .int .i64 0) [.cells a0b 56 [.bool true, .pointer none, .int .i64 0]] [.rd a2_o 1 [[.int .u8 97], [.int .u8 98]]] (fun ⟨x0, x1, x2⟩ => [.cells a0b 56 [.bool true, .pointer (some ⟨x0, 0, none⟩), .int .i64 4], .cells x0 59 [.int .i64 2, .slice x1 2 x2, .pointer none], .osl x1 x2 5 1 [[.int .u8 97], [.int .u8 98]]]) := by
  intro w hg
  rw [m___extent_Map__Write_2] at hm
  refine GS.start (S := mayT [.cells a0b 56 [.bool true, .pointer none, .int .i64 0]] [.rd a2_o 1 [[.int .u8 97], [.int .u8 98]]]) (mem := [(1, .cells a0b 56 [.bool true, .pointer none, .int .i64 0]), (2, .rd a2_o 1 [[.int .u8 97], [.int .u8 98]])]) Try.func9 rfl Try.ntmps9 (Nat.le_of_ble_eq_true rfl) (hg.start rfl) ?_
  refine GS.conv (env' := [(0, .pointer (some ⟨a0b, 0, none⟩)), (1, .int .i64 2), (2, .slice a2_o 2 a2_c)]) rfl rfl ?_
  refine GS.seq ?_
  refine GS.region (env' := fun _ => [(0, .pointer (some ⟨a0b, 0, none⟩)), (1, .int .i64 2), (2, .slice a2_o 2 a2_c)]) (mem' := fun _ => [(1, .cells a0b 56 [.bool true, .pointer none, .int .i64 0]), (2, .rd a2_o 1 [[.int .u8 97], [.int .u8 98]])]) (RunsTo.mk [] [0, 1, 2] [1, 2] (fun _ => []) (fun _ => by kernel_rfl) (fun _ => trivial)) ?_
  intro _
  refine GS.seq ?_
  refine GS.seq ?_
  refine bnd_elim hm (fun y3 e4 hm => ?_)
  refine GS.region (env' := fun _ => [(0, .pointer (some ⟨a0b, 0, none⟩)), (1, .int .i64 2), (2, .slice a2_o 2 a2_c), (7, .int .i64 0)]) (mem' := fun _ => [(1, .cells a0b 56 [.bool true, .pointer none, .int .i64 0]), (2, .rd a2_o 1 [[.int .u8 97], [.int .u8 98]])]) (RunsTo.mk [(4, { act := .call [1] (.int .i64 0) })] [0, 1, 2, 7] [1, 2] (fun _ => [CallOK Try.prog 22 #[.pointer (some ⟨a0b, 0, none⟩), .int .i64 2, .int .i64 2] (.int .i64 0) [some (.cells a0b 56 [.bool true, .pointer none, .int .i64 0])]]) (fun _ => by kernel_rfl) (fun _ => ⟨(by have h1 := w___extent_Map__may_2 F a0b e4; exact h1.ok ⟨(.inl ⟨.cells a0b 56 [.bool true, .pointer none, .int .i64 0], .head _, Cov.cells_rd⟩), trivial⟩), trivial⟩)) ?_
  intro _
  refine GS.seq ?_
  refine GS.region (env' := fun _ => [(0, .pointer (some ⟨a0b, 0, none⟩)), (1, .int .i64 2), (2, .slice a2_o 2 a2_c), (7, .int .i64 0), (22, .bool false)]) (mem' := fun _ => [(1, .cells a0b 56 [.bool true, .pointer none, .int .i64 0]), (2, .rd a2_o 1 [[.int .u8 97], [.int .u8 98]])]) (RunsTo.mk [] [0, 1, 2, 7, 22] [1, 2] (fun _ => []) (fun _ => by kernel_rfl) (fun _ => trivial)) ?_
  intro _
  refine GS.cond (t := false) rfl rfl (fun hf => by cases hf) (fun _ => ?_)
  refine GS.skip ?_
  refine GS.seq ?_
  refine bnd_elim hm (fun y7 e8 hm => ?_)
  refine GS.open_ ?_
  refine GR.run (i := 0) 6 (env' := fun _ => [(0, .pointer (some ⟨a0b, 0, none⟩)), (1, .int .i64 2), (2, .slice a2_o 2 a2_c), (24, .pointer (some ⟨a0b, 0, none⟩)), (25, .int .i64 2), (29, .int .i64 4)]) (mem' := fun _ => [(1, .cells a0b 56 [.bool true, .pointer none, .int .i64 0]), (2, .rd a2_o 1 [[.int .u8 97], [.int .u8 98]])]) (Nat.le_of_ble_eq_true (by kernel_rfl)) (RunsTo.mk [] [0, 1, 2, 24, 25, 29] [1, 2] (fun _ => []) (fun _ => by kernel_rfl) (fun _ => trivial)) ?_
  intro _
  refine GR.callG (X := Unit) (i := 6) (g := 23) (args := #[.pointer (some ⟨a0b, 0, none⟩), .int .i64 2, .int .i64 4]) (v := fun (_ : Unit) => .tuple #[]) (own := [.cells a0b 56 [.bool true, .pointer none, .int .i64 0]]) (ro := []) (es' := fun (_ : Unit) => [.cells a0b 56 [.bool true, .pointer none, .int .i64 0]]) (mem' := fun (_ : Unit) => [(1, .cells a0b 56 [.bool true, .pointer none, .int .i64 0]), (2, .rd a2_o 1 [[.int .u8 97], [.int .u8 98]])]) (env' := fun (_ : Unit) => [(0, .pointer (some ⟨a0b, 0, none⟩)), (1, .int .i64 2), (2, .slice a2_o 2 a2_c)]) [1] [1] [0, 1, 2] [1, 2] false (by kernel_rfl) (by kernel_rfl) (by kernel_rfl) (by kernel_rfl) (by kernel_rfl) (fun _ => rfl) (fun _ _ => rfl) trivial (by rintro _; kernel_rfl) (by rintro _; kernel_rfl) ((by have h1 := w___extent_Map__clear_2 F a0b e8; exact h1)) ?_
  rintro _
  refine GR.done (Nat.le_of_ble_eq_true (by kernel_rfl)) ?_
  refine GS.seq ?_
  refine GS.region (env' := fun _ => [(0, .pointer (some ⟨a0b, 0, none⟩)), (1, .int .i64 2), (2, .slice a2_o 2 a2_c)]) (mem' := fun _ => [(1, .cells a0b 56 [.bool true, .pointer none, .int .i64 4]), (2, .rd a2_o 1 [[.int .u8 97], [.int .u8 98]])]) (RunsTo.mk [(4, { act := .load 1 0 0 [] }), (12, { act := .store 0 0 [], key := some 1 })] [0, 1, 2] [1, 2] (fun _ => [a0b = a0b, a0b = a0b, ((.int .i64 4) : Value).cells.toList.all Value.oneCell' = true]) (fun _ => by kernel_rfl) (fun _ => ⟨rfl, rfl, rfl, trivial⟩)) ?_
  intro _
  refine GS.seq ?_
  refine GS.region (env' := fun fr11 => [(0, .pointer (some ⟨a0b, 0, none⟩)), (1, .int .i64 2), (8, .pointer (some ⟨(fr11 4).x, 0, none⟩))]) (mem' := fun fr11 => [(1, .cells a0b 56 [.bool true, .pointer none, .int .i64 4]), (3, .osl ((fr11 2).ob) ((fr11 2).cap) 5 1 ([[.int .u8 97], [.int .u8 98]] : List (List Value))), (4, .cells ((fr11 4).x) 59 [.int .i64 2, .slice ((fr11 2).ob) 2 ((fr11 2).cap), .pointer none])]) (RunsTo.mk [(2, { act := .app (some 2), key := some 3, spf := some (fun f => .slice (f.ob) 2 (f.cap)) }), (4, { act := .new .var, key := some 4 })] [0, 1, 8] [1, 3, 4] (fun fr11 => [a2_o = a2_o, 2 = ([[.int .u8 97], [.int .u8 98]] : List (List Value)).length, 0 = 0, 0 = 0, ([[.int .u8 97], [.int .u8 98]] : List (List Value)).length * (1 + 1) ≤ 70368744177664, ((.slice ((fr11 2).ob) (0 + ([[.int .u8 97], [.int .u8 98]] : List (List Value)).length) ((fr11 2).cap)) : Value) = .slice ((fr11 2).ob) 2 ((fr11 2).cap)]) (fun fr11 => by kernel_rfl) (fun fr11 => ⟨rfl, rfl, rfl, rfl, (show 2 * (1 + 1) ≤ 70368744177664 by decide), rfl, trivial⟩)) ?_
  intro fr11
  refine GS.conv (mem' := [(1, .cells a0b 56 [.bool true, .pointer none, .int .i64 4]), (3, .osl ((fr11 2).ob) ((fr11 2).cap) 5 1 [[.int .u8 97], [.int .u8 98]]), (4, .cells ((fr11 4).x) 59 [.int .i64 2, .slice ((fr11 2).ob) 2 ((fr11 2).cap), .pointer none])]) rfl (congrArg (fun rr : List (List Value) => ([(1, .cells a0b 56 [.bool true, .pointer none, .int .i64 4]), (3, .osl ((fr11 2).ob) ((fr11 2).cap) 5 1 rr), (4, .cells ((fr11 4).x) 59 [.int .i64 2, .slice ((fr11 2).ob) 2 ((fr11 2).cap), .pointer none])] : List (Nat × Ent))) (show ([[.int .u8 97], [.int .u8 98]] : List (List Value)) = ([[.int .u8 97], [.int .u8 98]] : List (List Value)) from rfl)) ?_
  refine GS.seq ?_
  refine GS.region (env' := fun _ => [(1, .int .i64 2), (8, .pointer (some ⟨(fr11 4).x, 0, none⟩)), (9, .pointer (some ⟨a0b, 1, none⟩))]) (mem' := fun _ => [(1, .cells a0b 56 [.bool true, .pointer none, .int .i64 4]), (3, .osl ((fr11 2).ob) ((fr11 2).cap) 5 1 [[.int .u8 97], [.int .u8 98]]), (4, .cells ((fr11 4).x) 59 [.int .i64 2, .slice ((fr11 2).ob) 2 ((fr11 2).cap), .pointer none])]) (RunsTo.mk [] [1, 8, 9] [1, 3, 4] (fun _ => []) (fun _ => by kernel_rfl) (fun _ => trivial)) ?_
  intro _
  refine GS.seq ?_
  refine GS.region (env' := fun _ => [(1, .int .i64 2), (8, .pointer (some ⟨(fr11 4).x, 0, none⟩)), (9, .pointer (some ⟨a0b, 1, none⟩)), (10, .pointer none)]) (mem' := fun _ => [(1, .cells a0b 56 [.bool true, .pointer none, .int .i64 4]), (3, .osl ((fr11 2).ob) ((fr11 2).cap) 5 1 [[.int .u8 97], [.int .u8 98]]), (4, .cells ((fr11 4).x) 59 [.int .i64 2, .slice ((fr11 2).ob) 2 ((fr11 2).cap), .pointer none])]) (RunsTo.mk [] [1, 8, 9, 10] [1, 3, 4] (fun _ => []) (fun _ => by kernel_rfl) (fun _ => trivial)) ?_
  intro _
  refine GS.seq ?_
  refine GS.block ?_
  refine GS.loop ?_
  refine GS.seq ?_
  refine GS.seq ?_
  refine GS.region (env' := fun _ => [(1, .int .i64 2), (8, .pointer (some ⟨(fr11 4).x, 0, none⟩)), (9, .pointer (some ⟨a0b, 1, none⟩)), (10, .pointer none), (64, .bool false)]) (mem' := fun _ => [(1, .cells a0b 56 [.bool true, .pointer none, .int .i64 4]), (3, .osl ((fr11 2).ob) ((fr11 2).cap) 5 1 [[.int .u8 97], [.int .u8 98]]), (4, .cells ((fr11 4).x) 59 [.int .i64 2, .slice ((fr11 2).ob) 2 ((fr11 2).cap), .pointer none])]) (RunsTo.mk [(2, { act := .load 1 0 0 [] })] [1, 8, 9, 10, 64] [1, 3, 4] (fun _ => [a0b = a0b]) (fun _ => by kernel_rfl) (fun _ => ⟨rfl, trivial⟩)) ?_
  intro _
  refine GS.cond (t := false) rfl rfl (fun hf => by cases hf) (fun _ => ?_)
  refine GS.exit rfl ?_
  refine GS.seq ?_
  refine GS.region (env' := fun _ => [(8, .pointer (some ⟨(fr11 4).x, 0, none⟩)), (9, .pointer (some ⟨a0b, 1, none⟩)), (10, .pointer none)]) (mem' := fun _ => [(1, .cells a0b 56 [.bool true, .pointer none, .int .i64 4]), (3, .osl ((fr11 2).ob) ((fr11 2).cap) 5 1 [[.int .u8 97], [.int .u8 98]]), (4, .cells ((fr11 4).x) 59 [.int .i64 2, .slice ((fr11 2).ob) 2 ((fr11 2).cap), .pointer none])]) (RunsTo.mk [(3, { act := .load 1 0 0 [] }), (6, { act := .store 0 0 [], key := some 4 })] [8, 9, 10] [1, 3, 4] (fun _ => [a0b = a0b, (fr11 4).x = (fr11 4).x, ((.pointer none) : Value).cells.toList.all Value.oneCell' = true]) (fun _ => by kernel_rfl) (fun _ => ⟨rfl, rfl, rfl, trivial⟩)) ?_
  intro _
  refine GS.seq ?_
  refine GS.region (env' := fun _ => [(8, .pointer (some ⟨(fr11 4).x, 0, none⟩)), (10, .pointer none)]) (mem' := fun _ => [(1, .cells a0b 56 [.bool true, .pointer (some ⟨(fr11 4).x, 0, none⟩), .int .i64 4]), (3, .osl ((fr11 2).ob) ((fr11 2).cap) 5 1 [[.int .u8 97], [.int .u8 98]]), (4, .cells ((fr11 4).x) 59 [.int .i64 2, .slice ((fr11 2).ob) 2 ((fr11 2).cap), .pointer none])]) (RunsTo.mk [(3, { act := .store 0 0 [], key := some 1 })] [8, 10] [1, 3, 4] (fun _ => [a0b = a0b, ((.pointer (some ⟨(fr11 4).x, 0, none⟩)) : Value).cells.toList.all Value.oneCell' = true]) (fun _ => by kernel_rfl) (fun _ => ⟨rfl, rfl, trivial⟩)) ?_
  intro _
  refine GS.seq ?_
  refine GS.seq ?_
  refine GS.region (env' := fun _ => [(8, .pointer (some ⟨(fr11 4).x, 0, none⟩)), (10, .pointer none), (96, .bool false)]) (mem' := fun _ => [(1, .cells a0b 56 [.bool true, .pointer (some ⟨(fr11 4).x, 0, none⟩), .int .i64 4]), (3, .osl ((fr11 2).ob) ((fr11 2).cap) 5 1 [[.int .u8 97], [.int .u8 98]]), (4, .cells ((fr11 4).x) 59 [.int .i64 2, .slice ((fr11 2).ob) 2 ((fr11 2).cap), .pointer none])]) (RunsTo.mkd [(3, { act := .load 4 0 0 [] })] [8, 10, 96] [1, 3, 4] (fun _ => [(fr11 4).x = (fr11 4).x]) (by kernel_rfl) (by kernel_rfl) (fun _ => by kernel_rfl) (fun _ => ⟨rfl, trivial⟩)) ?_
  intro _
  refine GS.cond (t := false) rfl rfl (fun hf => by cases hf) (fun _ => ?_)
  refine GS.skip ?_
  refine GS.seq ?_
  refine GS.seq ?_
  refine GS.region (env' := fun _ => [(8, .pointer (some ⟨(fr11 4).x, 0, none⟩)), (10, .pointer none), (132, .bool false)]) (mem' := fun _ => [(1, .cells a0b 56 [.bool true, .pointer (some ⟨(fr11 4).x, 0, none⟩), .int .i64 4]), (3, .osl ((fr11 2).ob) ((fr11 2).cap) 5 1 [[.int .u8 97], [.int .u8 98]]), (4, .cells ((fr11 4).x) 59 [.int .i64 2, .slice ((fr11 2).ob) 2 ((fr11 2).cap), .pointer none])]) (RunsTo.mkd [] [8, 10, 132] [1, 3, 4] (fun _ => []) (by kernel_rfl) (by kernel_rfl) (fun _ => by kernel_rfl) (fun _ => trivial)) ?_
  intro _
  refine GS.cond (t := false) rfl rfl (fun hf => by cases hf) (fun _ => ?_)
  refine GS.skip ?_
  refine GS.seq ?_
  refine GS.region (env' := fun _ => [(6, .int .i64 0)]) (mem' := fun _ => [(1, .cells a0b 56 [.bool true, .pointer (some ⟨(fr11 4).x, 0, none⟩), .int .i64 4]), (3, .osl ((fr11 2).ob) ((fr11 2).cap) 5 1 [[.int .u8 97], [.int .u8 98]]), (4, .cells ((fr11 4).x) 59 [.int .i64 2, .slice ((fr11 2).ob) 2 ((fr11 2).cap), .pointer none])]) (RunsTo.mk [] [6] [1, 3, 4] (fun _ => []) (fun _ => by kernel_rfl) (fun _ => trivial)) ?_
  intro _
  have hy := Option.some.inj hm
  subst hy
  refine GS.ret (fn := Try.f9) [0] [.int .i64 0] [] rfl Try.func9 (by kernel_rfl) trivial (fun w' hs => ?_)
  exact ⟨⟨(fr11 4).x, (fr11 2).ob, (fr11 2).cap⟩, rfl, hs.turnedG (ks := [1, 4, 3]) rfl rfl⟩

theorem w___extent_Map__is_3 (F : Nat) (a0b : Nat) (a0_1b : Nat) (a0_1_1_o : Option Addr) (a0_1_1_c : Nat) {y : Unit} (hm : m___extent_Map__is_3 F = some y) : CallG Try.prog 25 #[.pointer (some ⟨a0b, 0, none⟩)] (X := Unit) (fun (_ : Unit) => .bool true) [] [.rd a0_1_1_o 1 [[.int .u8 97], [.int .u8 98]], .rd (some ⟨a0_1b, 0, none⟩) 3 ([[.int .i64 2, .slice a0_1_1_o 2 a0_1_1_c, .pointer none]] : List (List Value)), .rd (some ⟨a0b, 0, none⟩) 3 ([[.bool true, .pointer (some ⟨a0_1b, 0, none⟩), .int .i64 4]] : List (List Value))] (fun (_ : Unit) => []) := by
  intro w hg
  rw [m___extent_Map__is_3] at hm
  refine GS.start (S := mayT [] [.rd a0_1_1_o 1 [[.int .u8 97], [.int .u8 98]], .rd (some ⟨a0_1b, 0, none⟩) 3 ([[.int .i64 2, .slice a0_1_1_o 2 a0_1_1_c, .pointer none]] : List (List Value)), .rd (some ⟨a0b, 0, none⟩) 3 ([[.bool true, .pointer (some ⟨a0_1b, 0, none⟩), .int .i64 4]] : List (List Value))]) (mem := [(1, .rd a0_1_1_o 1 [[.int .u8 97], [.int .u8 98]]), (2, .rd (some ⟨a0_1b, 0, none⟩) 3 ([[.int .i64 2, .slice a0_1_1_o 2 a0_1_1_c, .pointer none]] : List (List Value))), (3, .rd (some ⟨a0b, 0, none⟩) 3 ([[.bool true, .pointer (some ⟨a0_1b, 0, none⟩), .int .i64 4]] : List (List Value)))]) Try.func25 rfl Try.ntmps25 (Nat.le_of_ble_eq_true rfl) (hg.start rfl) ?_
  refine GS.conv (env' := [(0, .pointer (some ⟨a0b, 0, none⟩))]) rfl rfl ?_
  refine GS.seq ?_
  refine GS.region (env' := fun _ => [(0, .pointer (some ⟨a0b, 0, none⟩))]) (mem' := fun _ => [(1, .rd a0_1_1_o 1 [[.int .u8 97], [.int .u8 98]]), (2, .rd (some ⟨a0_1b, 0, none⟩) 3 ([[.int .i64 2, .slice a0_1_1_o 2 a0_1_1_c, .pointer none]] : List (List Value))), (3, .rd (some ⟨a0b, 0, none⟩) 3 ([[.bool true, .pointer (some ⟨a0_1b, 0, none⟩), .int .i64 4]] : List (List Value)))]) (RunsTo.mk [] [0] [1, 2, 3] (fun _ => []) (fun _ => by kernel_rfl) (fun _ => trivial)) ?_
  intro _
  refine GS.seq ?_
  refine GS.region (env' := fun _ => [(2, .bool true)]) (mem' := fun _ => []) (RunsTo.mk [(6, { act := .load 3 0 0 [.bool true, .pointer (some ⟨a0_1b, 0, none⟩), .int .i64 4] })] [2] [] (fun _ => [a0b = blk (some ⟨a0b, 0, none⟩), 0 = offs (some ⟨a0b, 0, none⟩) + (0 * 3 + 0), ([[.bool true, .pointer (some ⟨a0_1b, 0, none⟩), .int .i64 4]] : List (List Value))[0]? = some [.bool true, .pointer (some ⟨a0_1b, 0, none⟩), .int .i64 4]]) (fun _ => by kernel_rfl) (fun _ => ⟨rfl, rfl, rfl, trivial⟩)) ?_
  intro _
  have hy := Option.some.inj hm
  subst hy
  refine GS.ret (fn := Try.f25) [0] [.bool true] [] rfl Try.func25 (by kernel_rfl) trivial (fun w' hs => ?_)
  exact ⟨(), rfl, hs.turnedG (ks := []) rfl rfl⟩

theorem w___extent_Map__may_3 (F : Nat) (a0b : Nat) (a0_1b : Nat) (a0_1_1_o : Option Addr) (a0_1_1_c : Nat) {y : Unit} (hm : m___extent_Map__may_3 F = some y) : CallG Try.prog 22 #[.pointer (some ⟨a0b, 0, none⟩), .int .i64 4, .int .i64 2] (X := Unit) (fun (_ : Unit) => .int .i64 0) [] [.rd a0_1_1_o 1 [[.int .u8 97], [.int .u8 98]], .rd (some ⟨a0_1b, 0, none⟩) 3 ([[.int .i64 2, .slice a0_1_1_o 2 a0_1_1_c, .pointer none]] : List (List Value)), .rd (some ⟨a0b, 0, none⟩) 3 ([[.bool true, .pointer (some ⟨a0_1b, 0, none⟩), .int .i64 4]] : List (List Value))] (fun (_ : Unit) => []) := by
  intro w hg
  rw [m___extent_Map__may_3] at hm
  refine GS.start (S := mayT [] [.rd a0_1_1_o 1 [[.int .u8 97], [.int .u8 98]], .rd (some ⟨a0_1b, 0, none⟩) 3 ([[.int .i64 2, .slice a0_1_1_o 2 a0_1_1_c, .pointer none]] : List (List Value)), .rd (some ⟨a0b, 0, none⟩) 3 ([[.bool true, .pointer (some ⟨a0_1b, 0, none⟩), .int .i64 4]] : List (List Value))]) (mem := [(1, .rd a0_1_1_o 1 [[.int .u8 97], [.int .u8 98]]), (2, .rd (some ⟨a0_1b, 0, none⟩) 3 ([[.int .i64 2, .slice a0_1_1_o 2 a0_1_1_c, .pointer none]] : List (List Value))), (3, .rd (some ⟨a0b, 0, none⟩) 3 ([[.bool true, .pointer (some ⟨a0_1b, 0, none⟩), .int .i64 4]] : List (List Value)))]) Try.func22 rfl Try.ntmps22 (Nat.le_of_ble_eq_true rfl) (hg.start rfl) ?_
  refine GS.conv (env' := [(0, .pointer (some ⟨a0b, 0, none⟩)), (1, .int .i64 4), (2, .int .i64 2)]) rfl rfl ?_
  refine GS.seq ?_
  refine GS.region (env' := fun _ => [(0, .pointer (some ⟨a0b, 0, none⟩)), (1, .int .i64 4), (2, .int .i64 2)]) (mem' := fun _ => [(1, .rd a0_1_1_o 1 [[.int .u8 97], [.int .u8 98]]), (2, .rd (some ⟨a0_1b, 0, none⟩) 3 ([[.int .i64 2, .slice a0_1_1_o 2 a0_1_1_c, .pointer none]] : List (List Value))), (3, .rd (some ⟨a0b, 0, none⟩) 3 ([[.bool true, .pointer (some ⟨a0_1b, 0, none⟩), .int .i64 4]] : List (List Value)))]) (RunsTo.mk [] [0, 1, 2] [1, 2, 3] (fun _ => []) (fun _ => by kernel_rfl) (fun _ => trivial)) ?_
  intro _
  refine GS.seq ?_
  refine GS.block ?_
  refine GS.seq ?_
  refine bnd_elim hm (fun y3 e4 hm => ?_)
  refine GS.region (env' := fun _ => [(1, .int .i64 4), (2, .int .i64 2), (7, .bool false)]) (mem' := fun _ => []) (RunsTo.mk [(1, { act := .call [1, 2, 3] (.bool true) })] [1, 2, 7] [] (fun _ => [CallOK Try.prog 25 #[.pointer (some ⟨a0b, 0, none⟩)] (.bool true) [some (.rd a0_1_1_o 1 [[.int .u8 97], [.int .u8 98]]), some (.rd (some ⟨a0_1b, 0, none⟩) 3 ([[.int .i64 2, .slice a0_1_1_o 2 a0_1_1_c, .pointer none]] : List (List Value))), some (.rd (some ⟨a0b, 0, none⟩) 3 ([[.bool true, .pointer (some ⟨a0_1b, 0, none⟩), .int .i64 4]] : List (List Value)))]]) (fun _ => by kernel_rfl) (fun _ => ⟨(by have h1 := w___extent_Map__is_3 F a0b a0_1b a0_1_1_o a0_1_1_c e4; exact h1.ok ⟨(.inl ⟨.rd a0_1_1_o 1 [[.int .u8 97], [.int .u8 98]], .head _, Cov.refl _⟩), (.inl ⟨.rd (some ⟨a0_1b, 0, none⟩) 3 ([[.int .i64 2, .slice a0_1_1_o 2 a0_1_1_c, .pointer none]] : List (List Value)), (.tail _ (.head _)), Cov.refl _⟩), (.inl ⟨.rd (some ⟨a0b, 0, none⟩) 3 ([[.bool true, .pointer (some ⟨a0_1b, 0, none⟩), .int .i64 4]] : List (List Value)), (.tail _ (.tail _ (.head _))), Cov.refl _⟩), trivial⟩), trivial⟩)) ?_
  intro _
  refine GS.cond (t := false) rfl rfl (fun hf => by cases hf) (fun _ => ?_)
  refine GS.seq ?_
  refine GS.region (env' := fun _ => [(1, .int .i64 4), (2, .int .i64 2), (11, .bool false)]) (mem' := fun _ => []) (RunsTo.mk [] [1, 2, 11] [] (fun _ => []) (fun _ => by kernel_rfl) (fun _ => trivial)) ?_
  intro _
  refine GS.cond (t := false) rfl rfl (fun hf => by cases hf) (fun _ => ?_)
  refine GS.seq ?_
  refine GS.region (env' := fun _ => [(18, .bool false)]) (mem' := fun _ => []) (RunsTo.mk [] [18] [] (fun _ => []) (fun _ => by kernel_rfl) (fun _ => trivial)) ?_
  intro _
  refine GS.cond (t := false) rfl rfl (fun hf => by cases hf) (fun _ => ?_)
  refine GS.skip ?_
  refine GS.inBlock ?_
  refine GS.seq ?_
  refine GS.region (env' := fun _ => [(6, .int .i64 0)]) (mem' := fun _ => []) (RunsTo.mk [] [6] [] (fun _ => []) (fun _ => by kernel_rfl) (fun _ => trivial)) ?_
  intro _
  have hy := Option.some.inj hm
  subst hy
  refine GS.ret (fn := Try.f22) [0] [.int .i64 0] [] rfl Try.func22 (by kernel_rfl) trivial (fun w' hs => ?_)
  exact ⟨(), rfl, hs.turnedG (ks := []) rfl rfl⟩

theorem w___extent_run__end_2 (F : Nat) (a0b : Nat) (a0_1_o : Option Addr) (a0_1_c : Nat) {y : Unit} (hm : m___extent_run__end_2 F = some y) : CallG Try.prog 24 #[.pointer (some ⟨a0b, 0, none⟩)] (X := Unit) (fun (_ : Unit) => .int .i64 4) [] [.rd a0_1_o 1 [[.int .u8 97], [.int .u8 98]], .rd (some ⟨a0b, 0, none⟩) 3 ([[.int .i64 2, .slice a0_1_o 2 a0_1_c, .pointer none]] : List (List Value))] (fun (_ : Unit) => []) := by
  intro w hg
  rw [m___extent_run__end_2] at hm
  refine GS.start (S := mayT [] [.rd a0_1_o 1 [[.int .u8 97], [.int .u8 98]], .rd (some ⟨a0b, 0, none⟩) 3 ([[.int .i64 2, .slice a0_1_o 2 a0_1_c, .pointer none]] : List (List Value))]) (mem := [(1, .rd a0_1_o 1 [[.int .u8 97], [.int .u8 98]]), (2, .rd (some ⟨a0b, 0, none⟩) 3 ([[.int .i64 2, .slice a0_1_o 2 a0_1_c, .pointer none]] : List (List Value)))]) Try.func24 rfl Try.ntmps24 (Nat.le_of_ble_eq_true rfl) (hg.start rfl) ?_
  refine GS.conv (env' := [(0, .pointer (some ⟨a0b, 0, none⟩))]) rfl rfl ?_
  refine GS.seq ?_
  refine GS.region (env' := fun _ => [(0, .pointer (some ⟨a0b, 0, none⟩))]) (mem' := fun _ => [(1, .rd a0_1_o 1 [[.int .u8 97], [.int .u8 98]]), (2, .rd (some ⟨a0b, 0, none⟩) 3 ([[.int .i64 2, .slice a0_1_o 2 a0_1_c, .pointer none]] : List (List Value)))]) (RunsTo.mk [] [0] [1, 2] (fun _ => []) (fun _ => by kernel_rfl) (fun _ => trivial)) ?_
  intro _
  refine GS.seq ?_
  refine GS.region (env' := fun _ => [(2, .int .i64 4)]) (mem' := fun _ => []) (RunsTo.mkd [(3, { act := .load 2 0 0 [.int .i64 2, .slice a0_1_o 2 a0_1_c, .pointer none] }), (7, { act := .load 2 0 1 [.int .i64 2, .slice a0_1_o 2 a0_1_c, .pointer none] })] [2] [] (fun _ => [a0b = blk (some ⟨a0b, 0, none⟩), 0 = offs (some ⟨a0b, 0, none⟩) + (0 * 3 + 0), ([[.int .i64 2, .slice a0_1_o 2 a0_1_c, .pointer none]] : List (List Value))[0]? = some [.int .i64 2, .slice a0_1_o 2 a0_1_c, .pointer none], a0b = blk (some ⟨a0b, 0, none⟩), 1 = offs (some ⟨a0b, 0, none⟩) + (0 * 3 + 1), ([[.int .i64 2, .slice a0_1_o 2 a0_1_c, .pointer none]] : List (List Value))[0]? = some [.int .i64 2, .slice a0_1_o 2 a0_1_c, .pointer none]]) (by kernel_rfl) (by kernel_rfl) (fun _ => by kernel_rfl) (fun _ => ⟨rfl, rfl, rfl, rfl, rfl, rfl, trivial⟩)) ?_
  intro _
  have hy := Option.some.inj hm
  subst hy
  refine GS.ret (fn := Try.f24) [0] [.int .i64 4] [] rfl Try.func24 (by kernel_rfl) trivial (fun w' hs => ?_)
  exact ⟨(), rfl, hs.turnedG (ks := []) rfl rfl⟩

theorem w___extent_Map__clear_1_3 (F : Nat) (a1_o : Option Addr) (a1_c : Nat) (a2b : Nat) (a2_0b : Nat) {y : Unit} (hm : m___extent_Map__clear_1_3 F = some y) : CallG Try.prog 34 #[.int .i64 2, .slice a1_o 2 a1_c, .pointer (some ⟨a2b, 0, none⟩)] (X := Nat) (fun (x0 : Nat) => .tuple #[]) [.cells a2_0b 56 [.bool true, .pointer none, .int .i64 4], .cells a2b 60 [.pointer (some ⟨a2_0b, 1, none⟩)]] [.rd a1_o 1 [[.int .u8 97], [.int .u8 98]]] (fun (x0 : Nat) => [.cells a2_0b 56 [.bool true, .pointer (some ⟨x0, 0, none⟩), .int .i64 4], .cells a2b 60 [.pointer (some ⟨x0, 2, none⟩)], .cells x0 59 [.int .i64 2, .slice a1_o 2 a1_c, .pointer none]]) := by
  intro w hg
  rw [m___extent_Map__clear_1_3] at hm
  refine GS.start (S := mayT [.cells a2_0b 56 [.bool true, .pointer none, .int .i64 4], .cells a2b 60 [.pointer (some ⟨a2_0b, 1, none⟩)]] [.rd a1_o 1 [[.int .u8 97], [.int .u8 98]]]) (mem := [(1, .cells a2_0b 56 [.bool true, .pointer none, .int .i64 4]), (2, .cells a2b 60 [.pointer (some ⟨a2_0b, 1, none⟩)]), (3, .rd a1_o 1 [[.int .u8 97], [.int .u8 98]])]) Try.func34 rfl Try.ntmps34 (Nat.le_of_ble_eq_true rfl) (hg.start rfl) ?_
  refine GS.conv (env' := [(0, .int .i64 2), (1, .slice a1_o 2 a1_c), (2, .pointer (some ⟨a2b, 0, none⟩))]) rfl rfl ?_
  refine GS.seq ?_
  refine GS.region (env' := fun _ => [(0, .int .i64 2), (1, .slice a1_o 2 a1_c), (2, .pointer (some ⟨a2b, 0, none⟩)), (7, .bool true)]) (mem' := fun _ => [(1, .cells a2_0b 56 [.bool true, .pointer none, .int .i64 4]), (2, .cells a2b 60 [.pointer (some ⟨a2_0b, 1, none⟩)]), (3, .rd a1_o 1 [[.int .u8 97], [.int .u8 98]])]) (RunsTo.mk [] [0, 1, 2, 7] [1, 2, 3] (fun _ => []) (fun _ => by kernel_rfl) (fun _ => trivial)) ?_
  intro _
  refine GS.cond (t := true) rfl rfl (fun _ => ?_) (fun hf => by cases hf)
  refine GS.seq ?_
  refine GS.region (env' := fun fr2 => [(2, .pointer (some ⟨a2b, 0, none⟩))]) (mem' := fun fr2 => [(1, .cells a2_0b 56 [.bool true, .pointer (some ⟨(fr2 4).x, 0, none⟩), .int .i64 4]), (2, .cells a2b 60 [.pointer (some ⟨a2_0b, 1, none⟩)]), (3, .rd a1_o 1 [[.int .u8 97], [.int .u8 98]]), (4, .cells ((fr2 4).x) 59 [.int .i64 2, .slice a1_o 2 a1_c, .pointer none])]) (RunsTo.mk [(0, { act := .load 2 0 0 [] }), (4, { act := .new .var, key := some 4 }), (6, { act := .store 0 0 [], key := some 1 })] [2] [1, 2, 3, 4] (fun fr2 => [a2b = a2b, a2_0b = a2_0b, ((.pointer (some ⟨(fr2 4).x, 0, none⟩)) : Value).cells.toList.all Value.oneCell' = true]) (fun fr2 => by kernel_rfl) (fun fr2 => ⟨rfl, rfl, rfl, trivial⟩)) ?_
  intro fr2
  refine GS.region (env' := fun _ => []) (mem' := fun _ => [(1, .cells a2_0b 56 [.bool true, .pointer (some ⟨(fr2 4).x, 0, none⟩), .int .i64 4]), (2, .cells a2b 60 [.pointer (some ⟨(fr2 4).x, 2, none⟩)]), (3, .rd a1_o 1 [[.int .u8 97], [.int .u8 98]]), (4, .cells ((fr2 4).x) 59 [.int .i64 2, .slice a1_o 2 a1_c, .pointer none])]) (RunsTo.mk [(0, { act := .load 2 0 0 [] }), (2, { act := .load 1 0 0 [] }), (5, { act := .store 0 0 [], key := some 2 })] [] [1, 2, 3, 4] (fun _ => [a2b = a2b, a2_0b = a2_0b, a2b = a2b, ((.pointer (some ⟨(fr2 4).x, 2, none⟩)) : Value).cells.toList.all Value.oneCell' = true]) (fun _ => by kernel_rfl) (fun _ => ⟨rfl, rfl, rfl, rfl, trivial⟩)) ?_
  intro _
  have hy := Option.some.inj hm
  subst hy
  refine GS.end_ (fn := Try.f34) [] [] [] rfl Try.func34 (by kernel_rfl) trivial (fun w' hs => ?_)
  exact ⟨((fr2 4).x), rfl, hs.turnedG (ks := [1, 2, 4]) rfl rfl⟩

theorem w___extent_Map__clear_3 (F : Nat) (a0b : Nat) (a0_1b : Nat) (a0_1_1_o : Option Addr) (a0_1_1_c : Nat) {y : Unit} (hm : m___extent_Map__clear_3 F = some y) : CallG Try.prog 23 #[.pointer (some ⟨a0b, 0, none⟩), .int .i64 4, .int .i64 6] (X := Nat) (fun (x0 : Nat) => .tuple #[]) [.cells a0b 56 [.bool true, .pointer (some ⟨a0_1b, 0, none⟩), .int .i64 4]] [.rd a0_1_1_o 1 [[.int .u8 97], [.int .u8 98]], .rd (some ⟨a0_1b, 0, none⟩) 3 ([[.int .i64 2, .slice a0_1_1_o 2 a0_1_1_c, .pointer none]] : List (List Value))] (fun (x0 : Nat) => [.cells a0b 56 [.bool true, .pointer (some ⟨x0, 0, none⟩), .int .i64 4], .cells x0 59 [.int .i64 2, .slice a0_1_1_o 2 a0_1_1_c, .pointer none]]) := by
  intro w hg
  rw [m___extent_Map__clear_3] at hm
  refine GS.start (S := mayT [.cells a0b 56 [.bool true, .pointer (some ⟨a0_1b, 0, none⟩), .int .i64 4]] [.rd a0_1_1_o 1 [[.int .u8 97], [.int .u8 98]], .rd (some ⟨a0_1b, 0, none⟩) 3 ([[.int .i64 2, .slice a0_1_1_o 2 a0_1_1_c, .pointer none]] : List (List Value))]) (mem := [(1, .cells a0b 56 [.bool true, .pointer (some ⟨a0_1b, 0, none⟩), .int .i64 4]), (2, .rd a0_1_1_o 1 [[.int .u8 97], [.int .u8 98]]), (3, .rd (some ⟨a0_1b, 0, none⟩) 3 ([[.int .i64 2, .slice a0_1_1_o 2 a0_1_1_c, .pointer none]] : List (List Value)))]) Try.func23 rfl Try.ntmps23 (Nat.le_of_ble_eq_true rfl) (hg.start rfl) ?_
  refine GS.conv (env' := [(0, .pointer (some ⟨a0b, 0, none⟩)), (1, .int .i64 4), (2, .int .i64 6)]) rfl rfl ?_
  refine GS.scope ?_
  refine GS.seq ?_
  refine GS.region (env' := fun _ => [(0, .pointer (some ⟨a0b, 0, none⟩)), (1, .int .i64 4), (2, .int .i64 6), (6, .pointer (some ⟨a0_1b, 0, none⟩))]) (mem' := fun _ => [(1, .cells a0b 56 [.bool true, .pointer (some ⟨a0_1b, 0, none⟩), .int .i64 4]), (2, .rd a0_1_1_o 1 [[.int .u8 97], [.int .u8 98]]), (3, .rd (some ⟨a0_1b, 0, none⟩) 3 ([[.int .i64 2, .slice a0_1_1_o 2 a0_1_1_c, .pointer none]] : List (List Value)))]) (RunsTo.mk [(3, { act := .load 1 0 0 [] })] [0, 1, 2, 6] [1, 2, 3] (fun _ => [a0b = a0b]) (fun _ => by kernel_rfl) (fun _ => ⟨rfl, trivial⟩)) ?_
  intro _
  refine GS.seq ?_
  refine GS.region (env' := fun _ => [(0, .pointer (some ⟨a0b, 0, none⟩)), (1, .int .i64 4), (2, .int .i64 6), (6, .pointer (some ⟨a0_1b, 0, none⟩))]) (mem' := fun _ => [(1, .cells a0b 56 [.bool true, .pointer none, .int .i64 4]), (2, .rd a0_1_1_o 1 [[.int .u8 97], [.int .u8 98]]), (3, .rd (some ⟨a0_1b, 0, none⟩) 3 ([[.int .i64 2, .slice a0_1_1_o 2 a0_1_1_c, .pointer none]] : List (List Value)))]) (RunsTo.mk [(3, { act := .store 0 0 [], key := some 1 })] [0, 1, 2, 6] [1, 2, 3] (fun _ => [a0b = a0b, ((.pointer none) : Value).cells.toList.all Value.oneCell' = true]) (fun _ => by kernel_rfl) (fun _ => ⟨rfl, rfl, trivial⟩)) ?_
  intro _
  refine GS.seq ?_
  refine GS.region (env' := fun fr3 => [(1, .int .i64 4), (2, .int .i64 6), (6, .pointer (some ⟨a0_1b, 0, none⟩)), (7, .pointer (some ⟨(fr3 3).x, 0, none⟩))]) (mem' := fun fr3 => [(1, .cells a0b 56 [.bool true, .pointer none, .int .i64 4]), (2, .rd a0_1_1_o 1 [[.int .u8 97], [.int .u8 98]]), (3, .rd (some ⟨a0_1b, 0, none⟩) 3 ([[.int .i64 2, .slice a0_1_1_o 2 a0_1_1_c, .pointer none]] : List (List Value))), (4, .cells ((fr3 3).x) 60 [.pointer (some ⟨a0b, 1, none⟩)])]) (RunsTo.mk [(3, { act := .new .var, key := some 4 }), (4, { act := .store 0 0 [], key := some 4 })] [1, 2, 6, 7] [1, 2, 3, 4] (fun fr3 => [(fr3 3).x = (fr3 3).x, ((.pointer (some ⟨a0b, 1, none⟩)) : Value).cells.toList.all Value.oneCell' = true]) (fun fr3 => by kernel_rfl) (fun fr3 => ⟨rfl, rfl, trivial⟩)) ?_
  intro fr3
  refine GS.seq ?_
  refine GS.region (env' := fun _ => [(1, .int .i64 4), (2, .int .i64 6), (6, .pointer (some ⟨a0_1b, 0, none⟩)), (8, .func (.func 34) #[] #[.pointer (some ⟨(fr3 3).x, 0, none⟩)])]) (mem' := fun _ => [(1, .cells a0b 56 [.bool true, .pointer none, .int .i64 4]), (2, .rd a0_1_1_o 1 [[.int .u8 97], [.int .u8 98]]), (3, .rd (some ⟨a0_1b, 0, none⟩) 3 ([[.int .i64 2, .slice a0_1_1_o 2 a0_1_1_c, .pointer none]] : List (List Value))), (4, .cells ((fr3 3).x) 60 [.pointer (some ⟨a0b, 1, none⟩)])]) (RunsTo.mk [] [1, 2, 6, 8] [1, 2, 3, 4] (fun _ => []) (fun _ => by kernel_rfl) (fun _ => trivial)) ?_
  intro _
  refine GS.seq ?_
  refine GS.label ?_
  refine GS.seq ?_
  refine GS.region (env' := fun _ => [(1, .int .i64 4), (2, .int .i64 6), (8, .func (.func 34) #[] #[.pointer (some ⟨(fr3 3).x, 0, none⟩)]), (9, .pointer (some ⟨a0_1b, 0, none⟩))]) (mem' := fun _ => [(1, .cells a0b 56 [.bool true, .pointer none, .int .i64 4]), (2, .rd a0_1_1_o 1 [[.int .u8 97], [.int .u8 98]]), (3, .rd (some ⟨a0_1b, 0, none⟩) 3 ([[.int .i64 2, .slice a0_1_1_o 2 a0_1_1_c, .pointer none]] : List (List Value))), (4, .cells ((fr3 3).x) 60 [.pointer (some ⟨a0b, 1, none⟩)])]) (RunsTo.mk [] [1, 2, 8, 9] [1, 2, 3, 4] (fun _ => []) (fun _ => by kernel_rfl) (fun _ => trivial)) ?_
  intro _
  refine GS.block ?_
  refine GS.loop ?_
  refine GS.seq ?_
  refine GS.seq ?_
  refine GS.region (env' := fun _ => [(1, .int .i64 4), (2, .int .i64 6), (8, .func (.func 34) #[] #[.pointer (some ⟨(fr3 3).x, 0, none⟩)]), (9, .pointer (some ⟨a0_1b, 0, none⟩)), (23, .bool true)]) (mem' := fun _ => [(1, .cells a0b 56 [.bool true, .pointer none, .int .i64 4]), (2, .rd a0_1_1_o 1 [[.int .u8 97], [.int .u8 98]]), (3, .rd (some ⟨a0_1b, 0, none⟩) 3 ([[.int .i64 2, .slice a0_1_1_o 2 a0_1_1_c, .pointer none]] : List (List Value))), (4, .cells ((fr3 3).x) 60 [.pointer (some ⟨a0b, 1, none⟩)])]) (RunsTo.mk [] [1, 2, 8, 9, 23] [1, 2, 3, 4] (fun _ => []) (fun _ => by kernel_rfl) (fun _ => trivial)) ?_
  intro _
  refine GS.cond (t := true) rfl rfl (fun _ => ?_) (fun hf => by cases hf)
  refine GS.skip ?_
  refine GS.seq ?_
  refine GS.block ?_
  refine GS.seq ?_
  refine GS.seq ?_
  refine bnd_elim hm (fun y8 e9 hm => ?_)
  refine GS.region (env' := fun _ => [(1, .int .i64 4), (2, .int .i64 6), (8, .func (.func 34) #[] #[.pointer (some ⟨(fr3 3).x, 0, none⟩)]), (9, .pointer (some ⟨a0_1b, 0, none⟩)), (39, .bool true)]) (mem' := fun _ => [(1, .cells a0b 56 [.bool true, .pointer none, .int .i64 4]), (2, .rd a0_1_1_o 1 [[.int .u8 97], [.int .u8 98]]), (3, .rd (some ⟨a0_1b, 0, none⟩) 3 ([[.int .i64 2, .slice a0_1_1_o 2 a0_1_1_c, .pointer none]] : List (List Value))), (4, .cells ((fr3 3).x) 60 [.pointer (some ⟨a0b, 1, none⟩)])]) (RunsTo.mk [(1, { act := .call [2, 3] (.int .i64 4) })] [1, 2, 8, 9, 39] [1, 2, 3, 4] (fun _ => [CallOK Try.prog 24 #[.pointer (some ⟨a0_1b, 0, none⟩)] (.int .i64 4) [some (.rd a0_1_1_o 1 [[.int .u8 97], [.int .u8 98]]), some (.rd (some ⟨a0_1b, 0, none⟩) 3 ([[.int .i64 2, .slice a0_1_1_o 2 a0_1_1_c, .pointer none]] : List (List Value)))]]) (fun _ => by kernel_rfl) (fun _ => ⟨(by have h1 := w___extent_run__end_2 F a0_1b a0_1_1_o a0_1_1_c e9; exact h1.ok ⟨(.inl ⟨.rd a0_1_1_o 1 [[.int .u8 97], [.int .u8 98]], .head _, Cov.refl _⟩), (.inl ⟨.rd (some ⟨a0_1b, 0, none⟩) 3 ([[.int .i64 2, .slice a0_1_1_o 2 a0_1_1_c, .pointer none]] : List (List Value)), (.tail _ (.head _)), Cov.refl _⟩), trivial⟩), trivial⟩)) ?_
  intro _
  refine GS.cond (t := true) rfl rfl (fun _ => ?_) (fun hf => by cases hf)
  refine GS.seq ?_
  refine GS.setMem (mem' := [(2, .rd a0_1_1_o 1 [[.int .u8 97], [.int .u8 98]]), (3, .rd (some ⟨a0_1b, 0, none⟩) 3 ([[.int .i64 2, .slice a0_1_1_o 2 a0_1_1_c, .pointer none]] : List (List Value))), (5, bag [.cells a0b 56 [.bool true, .pointer none, .int .i64 4], .cells ((fr3 3).x) 60 [.pointer (some ⟨a0b, 1, none⟩)]])]) (fun w hw => bag_mem (K := 5) (es := [.cells a0b 56 [.bool true, .pointer none, .int .i64 4], .cells ((fr3 3).x) 60 [.pointer (some ⟨a0b, 1, none⟩)]]) (ks := [1, 4]) (keys := [2, 3, 5]) hw rfl rfl rfl (by kernel_rfl)) ?_
  refine bnd_elim hm (fun y11 e12 hm => ?_)
  refine GS.region (env' := fun fr10 => [(1, .int .i64 4), (2, .int .i64 6), (8, .func (.func 34) #[] #[.pointer (some ⟨(fr3 3).x, 0, none⟩)]), (9, .pointer (some ⟨a0_1b, 0, none⟩))]) (mem' := fun fr10 => [(2, .rd a0_1_1_o 1 [[.int .u8 97], [.int .u8 98]]), (3, .rd (some ⟨a0_1b, 0, none⟩) 3 ([[.int .i64 2, .slice a0_1_1_o 2 a0_1_1_c, .pointer none]] : List (List Value))), (5, bag [.cells a0b 56 [.bool true, .pointer (some ⟨((fr10 9).xs.getD 0 (none, 0)).2, 0, none⟩), .int .i64 4], .cells ((fr3 3).x) 60 [.pointer (some ⟨((fr10 9).xs.getD 0 (none, 0)).2, 2, none⟩)], .cells (((fr10 9).xs.getD 0 (none, 0)).2) 59 [.int .i64 2, .slice a0_1_1_o 2 a0_1_1_c, .pointer none]])]) (RunsTo.mkd [(4, { act := .load 3 0 0 [.int .i64 2, .slice a0_1_1_o 2 a0_1_1_c, .pointer none] }), (8, { act := .load 3 0 1 [.int .i64 2, .slice a0_1_1_o 2 a0_1_1_c, .pointer none] }), (9, { act := .callo [2] (fun f => .tuple #[]) (fun f => bag [.cells a0b 56 [.bool true, .pointer (some ⟨(f.xs.getD 0 (none, 0)).2, 0, none⟩), .int .i64 4], .cells ((fr3 3).x) 60 [.pointer (some ⟨(f.xs.getD 0 (none, 0)).2, 2, none⟩)], .cells (f.xs.getD 0 (none, 0)).2 59 [.int .i64 2, .slice a0_1_1_o 2 a0_1_1_c, .pointer none]]), key := some 5 })] [1, 2, 8, 9] [2, 3, 5] (fun fr10 => [a0_1b = blk (some ⟨a0_1b, 0, none⟩), 0 = offs (some ⟨a0_1b, 0, none⟩) + (0 * 3 + 0), ([[.int .i64 2, .slice a0_1_1_o 2 a0_1_1_c, .pointer none]] : List (List Value))[0]? = some [.int .i64 2, .slice a0_1_1_o 2 a0_1_1_c, .pointer none], a0_1b = blk (some ⟨a0_1b, 0, none⟩), 1 = offs (some ⟨a0_1b, 0, none⟩) + (0 * 3 + 1), ([[.int .i64 2, .slice a0_1_1_o 2 a0_1_1_c, .pointer none]] : List (List Value))[0]? = some [.int .i64 2, .slice a0_1_1_o 2 a0_1_1_c, .pointer none], CallO Try.prog 34 #[.int .i64 2, .slice a0_1_1_o 2 a0_1_1_c, .pointer (some ⟨(fr3 3).x, 0, none⟩)] (fun f => .tuple #[]) (fun f => bag [.cells a0b 56 [.bool true, .pointer (some ⟨(f.xs.getD 0 (none, 0)).2, 0, none⟩), .int .i64 4], .cells ((fr3 3).x) 60 [.pointer (some ⟨(f.xs.getD 0 (none, 0)).2, 2, none⟩)], .cells (f.xs.getD 0 (none, 0)).2 59 [.int .i64 2, .slice a0_1_1_o 2 a0_1_1_c, .pointer none]]) (bag [.cells a0b 56 [.bool true, .pointer none, .int .i64 4], .cells ((fr3 3).x) 60 [.pointer (some ⟨a0b, 1, none⟩)]]) [some (.rd a0_1_1_o 1 [[.int .u8 97], [.int .u8 98]])]]) (by kernel_rfl) (by kernel_rfl) (fun fr10 => by kernel_rfl) (fun fr10 => ⟨rfl, rfl, rfl, rfl, rfl, rfl, (by have h1 := w___extent_Map__clear_1_3 F a0_1_1_o a0_1_1_c (fr3 3).x a0b e12; exact CallG.toOB (efs := fun f => [.cells a0b 56 [.bool true, .pointer (some ⟨(f.xs.getD 0 (none, 0)).2, 0, none⟩), .int .i64 4], .cells ((fr3 3).x) 60 [.pointer (some ⟨(f.xs.getD 0 (none, 0)).2, 2, none⟩)], .cells (f.xs.getD 0 (none, 0)).2 59 [.int .i64 2, .slice a0_1_1_o 2 a0_1_1_c, .pointer none]]) h1 ⟨(.inl ⟨.rd a0_1_1_o 1 [[.int .u8 97], [.int .u8 98]], .head _, Cov.refl _⟩), trivial⟩ (fun x => ⟨0, none, 0, [(none, x)], fun _ _ => (none, 0)⟩) (fun _ => rfl) (fun _ => rfl) (fun _ => rfl)), trivial⟩)) ?_
  intro fr10
  refine GS.setMem (mem' := [(1, .cells a0b 56 [.bool true, .pointer (some ⟨((fr10 9).xs.getD 0 (none, 0)).2, 0, none⟩), .int .i64 4]), (2, .rd a0_1_1_o 1 [[.int .u8 97], [.int .u8 98]]), (3, .rd (some ⟨a0_1b, 0, none⟩) 3 ([[.int .i64 2, .slice a0_1_1_o 2 a0_1_1_c, .pointer none]] : List (List Value))), (4, .cells ((fr3 3).x) 60 [.pointer (some ⟨((fr10 9).xs.getD 0 (none, 0)).2, 2, none⟩)]), (6, .cells (((fr10 9).xs.getD 0 (none, 0)).2) 59 [.int .i64 2, .slice a0_1_1_o 2 a0_1_1_c, .pointer none])]) (fun w hw => unbag_mem (k := 5) (nk := [1, 4, 6]) (keys := [1, 2, 3, 4, 6]) hw rfl rfl rfl rfl (by kernel_rfl)) ?_
  refine GS.exit rfl ?_
  refine GS.region (env' := fun _ => [(1, .int .i64 4), (2, .int .i64 6), (8, .func (.func 34) #[] #[.pointer (some ⟨(fr3 3).x, 0, none⟩)]), (9, .pointer none)]) (mem' := fun _ => [(1, .cells a0b 56 [.bool true, .pointer (some ⟨((fr10 9).xs.getD 0 (none, 0)).2, 0, none⟩), .int .i64 4]), (2, .rd a0_1_1_o 1 [[.int .u8 97], [.int .u8 98]]), (4, .cells ((fr3 3).x) 60 [.pointer (some ⟨((fr10 9).xs.getD 0 (none, 0)).2, 2, none⟩)]), (6, .cells (((fr10 9).xs.getD 0 (none, 0)).2) 59 [.int .i64 2, .slice a0_1_1_o 2 a0_1_1_c, .pointer none])]) (RunsTo.mk [(3, { act := .load 3 0 2 [.int .i64 2, .slice a0_1_1_o 2 a0_1_1_c, .pointer none] })] [1, 2, 8, 9] [1, 2, 4, 6] (fun _ => [a0_1b = blk (some ⟨a0_1b, 0, none⟩), 2 = offs (some ⟨a0_1b, 0, none⟩) + (0 * 3 + 2), ([[.int .i64 2, .slice a0_1_1_o 2 a0_1_1_c, .pointer none]] : List (List Value))[0]? = some [.int .i64 2, .slice a0_1_1_o 2 a0_1_1_c, .pointer none]]) (fun _ => by kernel_rfl) (fun _ => ⟨rfl, rfl, rfl, trivial⟩)) ?_
  intro _
  refine GS.inLoop ?_
  refine GS.seq ?_
  refine GS.seq ?_
  refine GS.region (env' := fun _ => [(1, .int .i64 4), (2, .int .i64 6), (8, .func (.func 34) #[] #[.pointer (some ⟨(fr3 3).x, 0, none⟩)]), (9, .pointer none), (23, .bool false)]) (mem' := fun _ => [(1, .cells a0b 56 [.bool true, .pointer (some ⟨((fr10 9).xs.getD 0 (none, 0)).2, 0, none⟩), .int .i64 4]), (2, .rd a0_1_1_o 1 [[.int .u8 97], [.int .u8 98]]), (4, .cells ((fr3 3).x) 60 [.pointer (some ⟨((fr10 9).xs.getD 0 (none, 0)).2, 2, none⟩)]), (6, .cells (((fr10 9).xs.getD 0 (none, 0)).2) 59 [.int .i64 2, .slice a0_1_1_o 2 a0_1_1_c, .pointer none])]) (RunsTo.mk [] [1, 2, 8, 9, 23] [1, 2, 4, 6] (fun _ => []) (fun _ => by kernel_rfl) (fun _ => trivial)) ?_
  intro _
  refine GS.cond (t := false) rfl rfl (fun hf => by cases hf) (fun _ => ?_)
  refine GS.exit rfl ?_
  refine GS.inScope ?_
  have hy := Option.some.inj hm
  subst hy
  refine GS.end_ (fn := Try.f23) [] [] [] rfl Try.func23 (by kernel_rfl) trivial (fun w' hs => ?_)
  exact ⟨(((fr10 9).xs.getD 0 (none, 0)).2), rfl, hs.turnedG (ks := [1, 6]) rfl rfl⟩

theorem w___extent_run__end_3 (F : Nat) (a0b : Nat) (a0_1_o : Option Addr) (a0_1_c : Nat) (a0_2b : Nat) (a0_2_1_o : Option Addr) (a0_2_1_c : Nat) {y : Unit} (hm : m___extent_run__end_3 F = some y) : CallG Try.prog 24 #[.pointer (some ⟨a0b, 0, none⟩)] (X := Unit) (fun (_ : Unit) => .int .i64 4) [] [.rd a0_1_o 1 [[.int .u8 97], [.int .u8 98]], .rd a0_2_1_o 1 [[.int .u8 99], [.int .u8 100]], .rd (some ⟨a0_2b, 0, none⟩) 3 ([[.int .i64 4, .slice a0_2_1_o 2 a0_2_1_c, .pointer none]] : List (List Value)), .rd (some ⟨a0b, 0, none⟩) 3 ([[.int .i64 2, .slice a0_1_o 2 a0_1_c, .pointer (some ⟨a0_2b, 0, none⟩)]] : List (List Value))] (fun (_ : Unit) => []) := by
  intro w hg
  rw [m___extent_run__end_3] at hm
  refine GS.start (S := mayT [] [.rd a0_1_o 1 [[.int .u8 97], [.int .u8 98]], .rd a0_2_1_o 1 [[.int .u8 99], [.int .u8 100]], .rd (some ⟨a0_2b, 0, none⟩) 3 ([[.int .i64 4, .slice a0_2_1_o 2 a0_2_1_c, .pointer none]] : List (List Value)), .rd (some ⟨a0b, 0, none⟩) 3 ([[.int .i64 2, .slice a0_1_o 2 a0_1_c, .pointer (some ⟨a0_2b, 0, none⟩)]] : List (List Value))]) (mem := [(1, .rd a0_1_o 1 [[.int .u8 97], [.int .u8 98]]), (2, .rd a0_2_1_o 1 [[.int .u8 99], [.int .u8 100]]), (3, .rd (some ⟨a0_2b, 0, none⟩) 3 ([[.int .i64 4, .slice a0_2_1_o 2 a0_2_1_c, .pointer none]] : List (List Value))), (4, .rd (some ⟨a0b, 0, none⟩) 3 ([[.int .i64 2, .slice a0_1_o 2 a0_1_c, .pointer (some ⟨a0_2b, 0, none⟩)]] : List (List Value)))]) Try.func24 rfl Try.ntmps24 (Nat.le_of_ble_eq_true rfl) (hg.start rfl) ?_
  refine GS.conv (env' := [(0, .pointer (some ⟨a0b, 0, none⟩))]) rfl rfl ?_
  refine GS.seq ?_
  refine GS.region (env' := fun _ => [(0, .pointer (some ⟨a0b, 0, none⟩))]) (mem' := fun _ => [(1, .rd a0_1_o 1 [[.int .u8 97], [.int .u8 98]]), (2, .rd a0_2_1_o 1 [[.int .u8 99], [.int .u8 100]]), (3, .rd (some ⟨a0_2b, 0, none⟩) 3 ([[.int .i64 4, .slice a0_2_1_o 2 a0_2_1_c, .pointer none]] : List (List Value))), (4, .rd (some ⟨a0b, 0, none⟩) 3 ([[.int .i64 2, .slice a0_1_o 2 a0_1_c, .pointer (some ⟨a0_2b, 0, none⟩)]] : List (List Value)))]) (RunsTo.mk [] [0] [1, 2, 3, 4] (fun _ => []) (fun _ => by kernel_rfl) (fun _ => trivial)) ?_
  intro _
  refine GS.seq ?_
  refine GS.region (env' := fun _ => [(2, .int .i64 4)]) (mem' := fun _ => []) (RunsTo.mkd [(3, { act := .load 4 0 0 [.int .i64 2, .slice a0_1_o 2 a0_1_c, .pointer (some ⟨a0_2b, 0, none⟩)] }), (7, { act := .load 4 0 1 [.int .i64 2, .slice a0_1_o 2 a0_1_c, .pointer (some ⟨a0_2b, 0, none⟩)] })] [2] [] (fun _ => [a0b = blk (some ⟨a0b, 0, none⟩), 0 = offs (some ⟨a0b, 0, none⟩) + (0 * 3 + 0), ([[.int .i64 2, .slice a0_1_o 2 a0_1_c, .pointer (some ⟨a0_2b, 0, none⟩)]] : List (List Value))[0]? = some [.int .i64 2, .slice a0_1_o 2 a0_1_c, .pointer (some ⟨a0_2b, 0, none⟩)], a0b = blk (some ⟨a0b, 0, none⟩), 1 = offs (some ⟨a0b, 0, none⟩) + (0 * 3 + 1), ([[.int .i64 2, .slice a0_1_o 2 a0_1_c, .pointer (some ⟨a0_2b, 0, none⟩)]] : List (List Value))[0]? = some [.int .i64 2, .slice a0_1_o 2 a0_1_c, .pointer (some ⟨a0_2b, 0, none⟩)]]) (by kernel_rfl) (by kernel_rfl) (fun _ => by kernel_rfl) (fun _ => ⟨rfl, rfl, rfl, rfl, rfl, rfl, trivial⟩)) ?_
  intro _
  have hy := Option.some.inj hm
  subst hy
  refine GS.ret (fn := Try.f24) [0] [.int .i64 4] [] rfl Try.func24 (by kernel_rfl) trivial (fun w' hs => ?_)
  exact ⟨(), rfl, hs.turnedG (ks := []) rfl rfl⟩

theorem w___extent_Map__Write_3 (F : Nat) (a0b : Nat) (a0_1b : Nat) (a0_1_1_o : Option Addr) (a0_1_1_c : Nat) (a2_o : Option Addr) (a2_c : Nat) (a0_1_1_ch : 2 ≤ a0_1_1_c) {y : Unit} (hm : m___extent_Map__Write_3 F = some y) : CallG Try.prog 9 #[.pointer (some ⟨a0b, 0, none⟩), .int .i64 4, .slice a2_o 2 a2_c] (X := Nat × Option Addr × Nat) (fun ⟨x0, x1, x2⟩ => .int .i64 0) [.cells a0b 56 [.bool true, .pointer (some ⟨a0_1b, 0, none⟩), .int .i64 4]] [.rd a0_1_1_o 1 [[.int .u8 97], [.int .u8 98]], .rd (some ⟨a0_1b, 0, none⟩) 3 ([[.int .i64 2, .slice a0_1_1_o 2 a0_1_1_c, .pointer none]] : List (List Value)), .rd a2_o 1 [[.int .u8 99], [.int .u8 100]]] (fun ⟨x0, x1, x2⟩ => [.cells a0b 56 [.bool true, .pointer (some ⟨x0, 0, none⟩), .int .i64 6], .cells x0 59 [.int .i64 2, .slice x1 4 x2, .pointer none], .osl x1 x2 5 1 [[.int .u8 97], [.int .u8 98], [.int .u8 99], [.int .u8 100]]]) := by
  intro w hg
  rw [m___extent_Map__Write_3] at hm
  refine GS.start (S := mayT [.cells a0b 56 [.bool true, .pointer (some ⟨a0_1b, 0, none⟩), .int .i64 4]] [.rd a0_1_1_o 1 [[.int .u8 97], [.int .u8 98]], .rd (some ⟨a0_1b, 0, none⟩) 3 ([[.int .i64 2, .slice a0_1_1_o 2 a0_1_1_c, .pointer none]] : List (List Value)), .rd a2_o 1 [[.int .u8 99], [.int .u8 100]]]) (mem := [(1, .cells a0b 56 [.bool true, .pointer (some ⟨a0_1b, 0, none⟩), .int .i64 4]), (2, .rd a0_1_1_o 1 [[.int .u8 97], [.int .u8 98]]), (3, .rd (some ⟨a0_1b, 0, none⟩) 3 ([[.int .i64 2, .slice a0_1_1_o 2 a0_1_1_c, .pointer none]] : List (List Value))), (4, .rd a2_o 1 [[.int .u8 99], [.int .u8 100]])]) Try.func9 rfl Try.ntmps9 (Nat.le_of_ble_eq_true rfl) (hg.start rfl) ?_
  refine GS.conv (env' := [(0, .pointer (some ⟨a0b, 0, none⟩)), (1, .int .i64 4), (2, .slice a2_o 2 a2_c)]) rfl rfl ?_
  refine GS.seq ?_
  refine GS.region (env' := fun _ => [(0, .pointer (some ⟨a0b, 0, none⟩)), (1, .int .i64 4), (2, .slice a2_o 2 a2_c)]) (mem' := fun _ => [(1, .cells a0b 56 [.bool true, .pointer (some ⟨a0_1b, 0, none⟩), .int .i64 4]), (2, .rd a0_1_1_o 1 [[.int .u8 97], [.int .u8 98]]), (3, .rd (some ⟨a0_1b, 0, none⟩) 3 ([[.int .i64 2, .slice a0_1_1_o 2 a0_1_1_c, .pointer none]] : List (List Value))), (4, .rd a2_o 1 [[.int .u8 99], [.int .u8 100]])]) (RunsTo.mk [] [0, 1, 2] [1, 2, 3, 4] (fun _ => []) (fun _ => by kernel_rfl) (fun _ => trivial)) ?_
  intro _
  refine GS.seq ?_
  refine GS.seq ?_
  refine bnd_elim hm (fun y3 e4 hm => ?_)
  refine GS.region (env' := fun _ => [(0, .pointer (some ⟨a0b, 0, none⟩)), (1, .int .i64 4), (2, .slice a2_o 2 a2_c), (7, .int .i64 0)]) (mem' := fun _ => [(1, .cells a0b 56 [.bool true, .pointer (some ⟨a0_1b, 0, none⟩), .int .i64 4]), (2, .rd a0_1_1_o 1 [[.int .u8 97], [.int .u8 98]]), (3, .rd (some ⟨a0_1b, 0, none⟩) 3 ([[.int .i64 2, .slice a0_1_1_o 2 a0_1_1_c, .pointer none]] : List (List Value))), (4, .rd a2_o 1 [[.int .u8 99], [.int .u8 100]])]) (RunsTo.mk [(4, { act := .call [1, 2, 3] (.int .i64 0) })] [0, 1, 2, 7] [1, 2, 3, 4] (fun _ => [CallOK Try.prog 22 #[.pointer (some ⟨a0b, 0, none⟩), .int .i64 4, .int .i64 2] (.int .i64 0) [some (.cells a0b 56 [.bool true, .pointer (some ⟨a0_1b, 0, none⟩), .int .i64 4]), some (.rd a0_1_1_o 1 [[.int .u8 97], [.int .u8 98]]), some (.rd (some ⟨a0_1b, 0, none⟩) 3 ([[.int .i64 2, .slice a0_1_1_o 2 a0_1_1_c, .pointer none]] : List (List Value)))]]) (fun _ => by kernel_rfl) (fun _ => ⟨(by have h1 := w___extent_Map__may_3 F a0b a0_1b a0_1_1_o a0_1_1_c e4; exact h1.ok ⟨(.inl ⟨.rd a0_1_1_o 1 [[.int .u8 97], [.int .u8 98]], (.tail _ (.head _)), Cov.refl _⟩), (.inl ⟨.rd (some ⟨a0_1b, 0, none⟩) 3 ([[.int .i64 2, .slice a0_1_1_o 2 a0_1_1_c, .pointer none]] : List (List Value)), (.tail _ (.tail _ (.head _))), Cov.refl _⟩), (.inl ⟨.cells a0b 56 [.bool true, .pointer (some ⟨a0_1b, 0, none⟩), .int .i64 4], .head _, Cov.cells_rd⟩), trivial⟩), trivial⟩)) ?_
  intro _
  refine GS.seq ?_
  refine GS.region (env' := fun _ => [(0, .pointer (some ⟨a0b, 0, none⟩)), (1, .int .i64 4), (2, .slice a2_o 2 a2_c), (7, .int .i64 0), (22, .bool false)]) (mem' := fun _ => [(1, .cells a0b 56 [.bool true, .pointer (some ⟨a0_1b, 0, none⟩), .int .i64 4]), (2, .rd a0_1_1_o 1 [[.int .u8 97], [.int .u8 98]]), (3, .rd (some ⟨a0_1b, 0, none⟩) 3 ([[.int .i64 2, .slice a0_1_1_o 2 a0_1_1_c, .pointer none]] : List (List Value))), (4, .rd a2_o 1 [[.int .u8 99], [.int .u8 100]])]) (RunsTo.mk [] [0, 1, 2, 7, 22] [1, 2, 3, 4] (fun _ => []) (fun _ => by kernel_rfl) (fun _ => trivial)) ?_
  intro _
  refine GS.cond (t := false) rfl rfl (fun hf => by cases hf) (fun _ => ?_)
  refine GS.skip ?_
  refine GS.seq ?_
  refine bnd_elim hm (fun y7 e8 hm => ?_)
  refine GS.open_ ?_
  refine GR.run (i := 0) 6 (env' := fun _ => [(0, .pointer (some ⟨a0b, 0, none⟩)), (1, .int .i64 4), (2, .slice a2_o 2 a2_c), (24, .pointer (some ⟨a0b, 0, none⟩)), (25, .int .i64 4), (29, .int .i64 6)]) (mem' := fun _ => [(1, .cells a0b 56 [.bool true, .pointer (some ⟨a0_1b, 0, none⟩), .int .i64 4]), (2, .rd a0_1_1_o 1 [[.int .u8 97], [.int .u8 98]]), (3, .rd (some ⟨a0_1b, 0, none⟩) 3 ([[.int .i64 2, .slice a0_1_1_o 2 a0_1_1_c, .pointer none]] : List (List Value))), (4, .rd a2_o 1 [[.int .u8 99], [.int .u8 100]])]) (Nat.le_of_ble_eq_true (by kernel_rfl)) (RunsTo.mk [] [0, 1, 2, 24, 25, 29] [1, 2, 3, 4] (fun _ => []) (fun _ => by kernel_rfl) (fun _ => trivial)) ?_
  intro _
  refine GR.callG (X := Nat) (i := 6) (g := 23) (args := #[.pointer (some ⟨a0b, 0, none⟩), .int .i64 4, .int .i64 6]) (v := fun (x9 : Nat) => .tuple #[]) (own := [.cells a0b 56 [.bool true, .pointer (some ⟨a0_1b, 0, none⟩), .int .i64 4]]) (ro := [.rd a0_1_1_o 1 [[.int .u8 97], [.int .u8 98]], .rd (some ⟨a0_1b, 0, none⟩) 3 ([[.int .i64 2, .slice a0_1_1_o 2 a0_1_1_c, .pointer none]] : List (List Value))]) (es' := fun (x9 : Nat) => [.cells a0b 56 [.bool true, .pointer (some ⟨x9, 0, none⟩), .int .i64 4], .cells x9 59 [.int .i64 2, .slice a0_1_1_o 2 a0_1_1_c, .pointer none]]) (mem' := fun (x9 : Nat) => [(1, .cells a0b 56 [.bool true, .pointer (some ⟨x9, 0, none⟩), .int .i64 4]), (2, .rd a0_1_1_o 1 [[.int .u8 97], [.int .u8 98]]), (3, .rd (some ⟨a0_1b, 0, none⟩) 3 ([[.int .i64 2, .slice a0_1_1_o 2 a0_1_1_c, .pointer none]] : List (List Value))), (4, .rd a2_o 1 [[.int .u8 99], [.int .u8 100]]), (5, .cells x9 59 [.int .i64 2, .slice a0_1_1_o 2 a0_1_1_c, .pointer none])]) (env' := fun (x9 : Nat) => [(0, .pointer (some ⟨a0b, 0, none⟩)), (1, .int .i64 4), (2, .slice a2_o 2 a2_c)]) [1] [1, 5] [0, 1, 2] [1, 2, 3, 4, 5] false (by kernel_rfl) (by kernel_rfl) (by kernel_rfl) (by kernel_rfl) (by kernel_rfl) (fun _ => rfl) (fun _ _ => rfl) ⟨(.inl ⟨2, _, rfl, rfl, Cov.refl _, fun h => by cases h⟩), (.inl ⟨3, _, rfl, rfl, Cov.refl _, fun h => by cases h⟩), trivial⟩ (by rintro x9; kernel_rfl) (by rintro x9; kernel_rfl) ((by have h1 := w___extent_Map__clear_3 F a0b a0_1b a0_1_1_o a0_1_1_c e8; exact h1)) ?_
  rintro x9
  refine GR.done (Nat.le_of_ble_eq_true (by kernel_rfl)) ?_
  refine GS.seq ?_
  refine GS.region (env' := fun _ => [(0, .pointer (some ⟨a0b, 0, none⟩)), (1, .int .i64 4), (2, .slice a2_o 2 a2_c)]) (mem' := fun _ => [(1, .cells a0b 56 [.bool true, .pointer (some ⟨x9, 0, none⟩), .int .i64 6]), (2, .rd a0_1_1_o 1 [[.int .u8 97], [.int .u8 98]]), (4, .rd a2_o 1 [[.int .u8 99], [.int .u8 100]]), (5, .cells x9 59 [.int .i64 2, .slice a0_1_1_o 2 a0_1_1_c, .pointer none])]) (RunsTo.mk [(4, { act := .load 1 0 0 [] }), (12, { act := .store 0 0 [], key := some 1 })] [0, 1, 2] [1, 2, 4, 5] (fun _ => [a0b = a0b, a0b = a0b, ((.int .i64 6) : Value).cells.toList.all Value.oneCell' = true]) (fun _ => by kernel_rfl) (fun _ => ⟨rfl, rfl, rfl, trivial⟩)) ?_
  intro _
  refine GS.seq ?_
  refine GS.region (env' := fun fr12 => [(0, .pointer (some ⟨a0b, 0, none⟩)), (1, .int .i64 4), (8, .pointer (some ⟨(fr12 4).x, 0, none⟩))]) (mem' := fun fr12 => [(1, .cells a0b 56 [.bool true, .pointer (some ⟨x9, 0, none⟩), .int .i64 6]), (2, .rd a0_1_1_o 1 [[.int .u8 97], [.int .u8 98]]), (5, .cells x9 59 [.int .i64 2, .slice a0_1_1_o 2 a0_1_1_c, .pointer none]), (6, .osl ((fr12 2).ob) ((fr12 2).cap) 5 1 ([[.int .u8 99], [.int .u8 100]] : List (List Value))), (7, .cells ((fr12 4).x) 59 [.int .i64 4, .slice ((fr12 2).ob) 2 ((fr12 2).cap), .pointer none])]) (RunsTo.mk [(2, { act := .app (some 4), key := some 6, spf := some (fun f => .slice (f.ob) 2 (f.cap)) }), (4, { act := .new .var, key := some 7 })] [0, 1, 8] [1, 2, 5, 6, 7] (fun fr12 => [a2_o = a2_o, 2 = ([[.int .u8 99], [.int .u8 100]] : List (List Value)).length, 0 = 0, 0 = 0, ([[.int .u8 99], [.int .u8 100]] : List (List Value)).length * (1 + 1) ≤ 70368744177664, ((.slice ((fr12 2).ob) (0 + ([[.int .u8 99], [.int .u8 100]] : List (List Value)).length) ((fr12 2).cap)) : Value) = .slice ((fr12 2).ob) 2 ((fr12 2).cap)]) (fun fr12 => by kernel_rfl) (fun fr12 => ⟨rfl, rfl, rfl, rfl, (show 2 * (1 + 1) ≤ 70368744177664 by decide), rfl, trivial⟩)) ?_
  intro fr12
  refine GS.conv (mem' := [(1, .cells a0b 56 [.bool true, .pointer (some ⟨x9, 0, none⟩), .int .i64 6]), (2, .rd a0_1_1_o 1 [[.int .u8 97], [.int .u8 98]]), (5, .cells x9 59 [.int .i64 2, .slice a0_1_1_o 2 a0_1_1_c, .pointer none]), (6, .osl ((fr12 2).ob) ((fr12 2).cap) 5 1 [[.int .u8 99], [.int .u8 100]]), (7, .cells ((fr12 4).x) 59 [.int .i64 4, .slice ((fr12 2).ob) 2 ((fr12 2).cap), .pointer none])]) rfl (congrArg (fun rr : List (List Value) => ([(1, .cells a0b 56 [.bool true, .pointer (some ⟨x9, 0, none⟩), .int .i64 6]), (2, .rd a0_1_1_o 1 [[.int .u8 97], [.int .u8 98]]), (5, .cells x9 59 [.int .i64 2, .slice a0_1_1_o 2 a0_1_1_c, .pointer none]), (6, .osl ((fr12 2).ob) ((fr12 2).cap) 5 1 rr), (7, .cells ((fr12 4).x) 59 [.int .i64 4, .slice ((fr12 2).ob) 2 ((fr12 2).cap), .pointer none])] : List (Nat × Ent))) (show ([[.int .u8 99], [.int .u8 100]] : List (List Value)) = ([[.int .u8 99], [.int .u8 100]] : List (List Value)) from rfl)) ?_
  refine GS.seq ?_
  refine GS.region (env' := fun _ => [(1, .int .i64 4), (8, .pointer (some ⟨(fr12 4).x, 0, none⟩)), (9, .pointer (some ⟨a0b, 1, none⟩))]) (mem' := fun _ => [(1, .cells a0b 56 [.bool true, .pointer (some ⟨x9, 0, none⟩), .int .i64 6]), (2, .rd a0_1_1_o 1 [[.int .u8 97], [.int .u8 98]]), (5, .cells x9 59 [.int .i64 2, .slice a0_1_1_o 2 a0_1_1_c, .pointer none]), (6, .osl ((fr12 2).ob) ((fr12 2).cap) 5 1 [[.int .u8 99], [.int .u8 100]]), (7, .cells ((fr12 4).x) 59 [.int .i64 4, .slice ((fr12 2).ob) 2 ((fr12 2).cap), .pointer none])]) (RunsTo.mk [] [1, 8, 9] [1, 2, 5, 6, 7] (fun _ => []) (fun _ => by kernel_rfl) (fun _ => trivial)) ?_
  intro _
  refine GS.seq ?_
  refine GS.region (env' := fun _ => [(1, .int .i64 4), (8, .pointer (some ⟨(fr12 4).x, 0, none⟩)), (9, .pointer (some ⟨a0b, 1, none⟩)), (10, .pointer none)]) (mem' := fun _ => [(1, .cells a0b 56 [.bool true, .pointer (some ⟨x9, 0, none⟩), .int .i64 6]), (2, .rd a0_1_1_o 1 [[.int .u8 97], [.int .u8 98]]), (5, .cells x9 59 [.int .i64 2, .slice a0_1_1_o 2 a0_1_1_c, .pointer none]), (6, .osl ((fr12 2).ob) ((fr12 2).cap) 5 1 [[.int .u8 99], [.int .u8 100]]), (7, .cells ((fr12 4).x) 59 [.int .i64 4, .slice ((fr12 2).ob) 2 ((fr12 2).cap), .pointer none])]) (RunsTo.mk [] [1, 8, 9, 10] [1, 2, 5, 6, 7] (fun _ => []) (fun _ => by kernel_rfl) (fun _ => trivial)) ?_
  intro _
  refine GS.seq ?_
  refine GS.block ?_
  refine GS.loop ?_
  refine GS.seq ?_
  refine GS.seq ?_
  refine GS.region (env' := fun _ => [(1, .int .i64 4), (8, .pointer (some ⟨(fr12 4).x, 0, none⟩)), (9, .pointer (some ⟨a0b, 1, none⟩)), (10, .pointer none), (64, .bool true)]) (mem' := fun _ => [(1, .cells a0b 56 [.bool true, .pointer (some ⟨x9, 0, none⟩), .int .i64 6]), (2, .rd a0_1_1_o 1 [[.int .u8 97], [.int .u8 98]]), (5, .cells x9 59 [.int .i64 2, .slice a0_1_1_o 2 a0_1_1_c, .pointer none]), (6, .osl ((fr12 2).ob) ((fr12 2).cap) 5 1 [[.int .u8 99], [.int .u8 100]]), (7, .cells ((fr12 4).x) 59 [.int .i64 4, .slice ((fr12 2).ob) 2 ((fr12 2).cap), .pointer none])]) (RunsTo.mk [(2, { act := .load 1 0 0 [] }), (7, { act := .load 1 0 0 [] }), (10, { act := .load 5 0 0 [] })] [1, 8, 9, 10, 64] [1, 2, 5, 6, 7] (fun _ => [a0b = a0b, a0b = a0b, x9 = x9]) (fun _ => by kernel_rfl) (fun _ => ⟨rfl, rfl, rfl, trivial⟩)) ?_
  intro _
  refine GS.cond (t := true) rfl rfl (fun _ => ?_) (fun hf => by cases hf)
  refine GS.skip ?_
  refine GS.block ?_
  refine GS.seq ?_
  refine GS.region (env' := fun _ => [(1, .int .i64 4), (8, .pointer (some ⟨(fr12 4).x, 0, none⟩)), (10, .pointer (some ⟨x9, 0, none⟩))]) (mem' := fun _ => [(1, .cells a0b 56 [.bool true, .pointer (some ⟨x9, 0, none⟩), .int .i64 6]), (2, .rd a0_1_1_o 1 [[.int .u8 97], [.int .u8 98]]), (5, .cells x9 59 [.int .i64 2, .slice a0_1_1_o 2 a0_1_1_c, .pointer none]), (6, .osl ((fr12 2).ob) ((fr12 2).cap) 5 1 [[.int .u8 99], [.int .u8 100]]), (7, .cells ((fr12 4).x) 59 [.int .i64 4, .slice ((fr12 2).ob) 2 ((fr12 2).cap), .pointer none])]) (RunsTo.mk [(2, { act := .load 1 0 0 [] })] [1, 8, 10] [1, 2, 5, 6, 7] (fun _ => [a0b = a0b]) (fun _ => by kernel_rfl) (fun _ => ⟨rfl, trivial⟩)) ?_
  intro _
  refine GS.region (env' := fun _ => [(1, .int .i64 4), (8, .pointer (some ⟨(fr12 4).x, 0, none⟩)), (9, .pointer (some ⟨x9, 2, none⟩)), (10, .pointer (some ⟨x9, 0, none⟩))]) (mem' := fun _ => [(1, .cells a0b 56 [.bool true, .pointer (some ⟨x9, 0, none⟩), .int .i64 6]), (2, .rd a0_1_1_o 1 [[.int .u8 97], [.int .u8 98]]), (5, .cells x9 59 [.int .i64 2, .slice a0_1_1_o 2 a0_1_1_c, .pointer none]), (6, .osl ((fr12 2).ob) ((fr12 2).cap) 5 1 [[.int .u8 99], [.int .u8 100]]), (7, .cells ((fr12 4).x) 59 [.int .i64 4, .slice ((fr12 2).ob) 2 ((fr12 2).cap), .pointer none])]) (RunsTo.mk [] [1, 8, 9, 10] [1, 2, 5, 6, 7] (fun _ => []) (fun _ => by kernel_rfl) (fun _ => trivial)) ?_
  intro _
  refine GS.inBlock ?_
  refine GS.inLoop ?_
  refine GS.seq ?_
  refine GS.seq ?_
  refine GS.region (env' := fun _ => [(1, .int .i64 4), (8, .pointer (some ⟨(fr12 4).x, 0, none⟩)), (9, .pointer (some ⟨x9, 2, none⟩)), (10, .pointer (some ⟨x9, 0, none⟩)), (64, .bool false)]) (mem' := fun _ => [(1, .cells a0b 56 [.bool true, .pointer (some ⟨x9, 0, none⟩), .int .i64 6]), (2, .rd a0_1_1_o 1 [[.int .u8 97], [.int .u8 98]]), (5, .cells x9 59 [.int .i64 2, .slice a0_1_1_o 2 a0_1_1_c, .pointer none]), (6, .osl ((fr12 2).ob) ((fr12 2).cap) 5 1 [[.int .u8 99], [.int .u8 100]]), (7, .cells ((fr12 4).x) 59 [.int .i64 4, .slice ((fr12 2).ob) 2 ((fr12 2).cap), .pointer none])]) (RunsTo.mk [(2, { act := .load 5 0 0 [] })] [1, 8, 9, 10, 64] [1, 2, 5, 6, 7] (fun _ => [x9 = x9]) (fun _ => by kernel_rfl) (fun _ => ⟨rfl, trivial⟩)) ?_
  intro _
  refine GS.cond (t := false) rfl rfl (fun hf => by cases hf) (fun _ => ?_)
  refine GS.exit rfl ?_
  refine GS.seq ?_
  refine GS.region (env' := fun _ => [(8, .pointer (some ⟨(fr12 4).x, 0, none⟩)), (9, .pointer (some ⟨x9, 2, none⟩)), (10, .pointer (some ⟨x9, 0, none⟩))]) (mem' := fun _ => [(1, .cells a0b 56 [.bool true, .pointer (some ⟨x9, 0, none⟩), .int .i64 6]), (2, .rd a0_1_1_o 1 [[.int .u8 97], [.int .u8 98]]), (5, .cells x9 59 [.int .i64 2, .slice a0_1_1_o 2 a0_1_1_c, .pointer none]), (6, .osl ((fr12 2).ob) ((fr12 2).cap) 5 1 [[.int .u8 99], [.int .u8 100]]), (7, .cells ((fr12 4).x) 59 [.int .i64 4, .slice ((fr12 2).ob) 2 ((fr12 2).cap), .pointer none])]) (RunsTo.mk [(3, { act := .load 5 0 0 [] }), (6, { act := .store 0 0 [], key := some 7 })] [8, 9, 10] [1, 2, 5, 6, 7] (fun _ => [x9 = x9, (fr12 4).x = (fr12 4).x, ((.pointer none) : Value).cells.toList.all Value.oneCell' = true]) (fun _ => by kernel_rfl) (fun _ => ⟨rfl, rfl, rfl, trivial⟩)) ?_
  intro _
  refine GS.seq ?_
  refine GS.region (env' := fun _ => [(8, .pointer (some ⟨(fr12 4).x, 0, none⟩)), (10, .pointer (some ⟨x9, 0, none⟩))]) (mem' := fun _ => [(1, .cells a0b 56 [.bool true, .pointer (some ⟨x9, 0, none⟩), .int .i64 6]), (2, .rd a0_1_1_o 1 [[.int .u8 97], [.int .u8 98]]), (5, .cells x9 59 [.int .i64 2, .slice a0_1_1_o 2 a0_1_1_c, .pointer (some ⟨(fr12 4).x, 0, none⟩)]), (6, .osl ((fr12 2).ob) ((fr12 2).cap) 5 1 [[.int .u8 99], [.int .u8 100]]), (7, .cells ((fr12 4).x) 59 [.int .i64 4, .slice ((fr12 2).ob) 2 ((fr12 2).cap), .pointer none])]) (RunsTo.mk [(3, { act := .store 0 0 [], key := some 5 })] [8, 10] [1, 2, 5, 6, 7] (fun _ => [x9 = x9, ((.pointer (some ⟨(fr12 4).x, 0, none⟩)) : Value).cells.toList.all Value.oneCell' = true]) (fun _ => by kernel_rfl) (fun _ => ⟨rfl, rfl, trivial⟩)) ?_
  intro _
  refine GS.seq ?_
  refine GS.seq ?_
  refine GS.region (env' := fun _ => [(8, .pointer (some ⟨(fr12 4).x, 0, none⟩)), (10, .pointer (some ⟨x9, 0, none⟩)), (96, .bool false)]) (mem' := fun _ => [(1, .cells a0b 56 [.bool true, .pointer (some ⟨x9, 0, none⟩), .int .i64 6]), (2, .rd a0_1_1_o 1 [[.int .u8 97], [.int .u8 98]]), (5, .cells x9 59 [.int .i64 2, .slice a0_1_1_o 2 a0_1_1_c, .pointer (some ⟨(fr12 4).x, 0, none⟩)]), (6, .osl ((fr12 2).ob) ((fr12 2).cap) 5 1 [[.int .u8 99], [.int .u8 100]]), (7, .cells ((fr12 4).x) 59 [.int .i64 4, .slice ((fr12 2).ob) 2 ((fr12 2).cap), .pointer none])]) (RunsTo.mkd [(3, { act := .load 7 0 0 [] })] [8, 10, 96] [1, 2, 5, 6, 7] (fun _ => [(fr12 4).x = (fr12 4).x]) (by kernel_rfl) (by kernel_rfl) (fun _ => by kernel_rfl) (fun _ => ⟨rfl, trivial⟩)) ?_
  intro _
  refine GS.cond (t := false) rfl rfl (fun hf => by cases hf) (fun _ => ?_)
  refine GS.skip ?_
  refine GS.seq ?_
  refine GS.seq ?_
  refine bnd_elim hm (fun y23 e24 hm => ?_)
  refine GS.region (env' := fun _ => [(8, .pointer (some ⟨(fr12 4).x, 0, none⟩)), (10, .pointer (some ⟨x9, 0, none⟩)), (132, .bool true)]) (mem' := fun _ => [(1, .cells a0b 56 [.bool true, .pointer (some ⟨x9, 0, none⟩), .int .i64 6]), (2, .rd a0_1_1_o 1 [[.int .u8 97], [.int .u8 98]]), (5, .cells x9 59 [.int .i64 2, .slice a0_1_1_o 2 a0_1_1_c, .pointer (some ⟨(fr12 4).x, 0, none⟩)]), (6, .osl ((fr12 2).ob) ((fr12 2).cap) 5 1 [[.int .u8 99], [.int .u8 100]]), (7, .cells ((fr12 4).x) 59 [.int .i64 4, .slice ((fr12 2).ob) 2 ((fr12 2).cap), .pointer none])]) (RunsTo.mkd [(4, { act := .call [2, 5, 6, 7] (.int .i64 4) }), (8, { act := .load 7 0 0 [] })] [8, 10, 132] [1, 2, 5, 6, 7] (fun _ => [CallOK Try.prog 24 #[.pointer (some ⟨x9, 0, none⟩)] (.int .i64 4) [some (.rd a0_1_1_o 1 [[.int .u8 97], [.int .u8 98]]), some (.cells x9 59 [.int .i64 2, .slice a0_1_1_o 2 a0_1_1_c, .pointer (some ⟨(fr12 4).x, 0, none⟩)]), some (.osl ((fr12 2).ob) ((fr12 2).cap) 5 1 [[.int .u8 99], [.int .u8 100]]), some (.cells ((fr12 4).x) 59 [.int .i64 4, .slice ((fr12 2).ob) 2 ((fr12 2).cap), .pointer none])], (fr12 4).x = (fr12 4).x]) (by kernel_rfl) (by kernel_rfl) (fun _ => by kernel_rfl) (fun _ => ⟨(by have h1 := w___extent_run__end_3 F x9 a0_1_1_o a0_1_1_c (fr12 4).x ((fr12 2).ob) ((fr12 2).cap) e24; exact h1.ok ⟨(.inl ⟨.rd a0_1_1_o 1 [[.int .u8 97], [.int .u8 98]], .head _, Cov.refl _⟩), (.inl ⟨.osl ((fr12 2).ob) ((fr12 2).cap) 5 1 [[.int .u8 99], [.int .u8 100]], (.tail _ (.tail _ (.head _))), Cov.osl_rd⟩), (.inl ⟨.cells ((fr12 4).x) 59 [.int .i64 4, .slice ((fr12 2).ob) 2 ((fr12 2).cap), .pointer none], (.tail _ (.tail _ (.tail _ (.head _)))), Cov.cells_rd⟩), (.inl ⟨.cells x9 59 [.int .i64 2, .slice a0_1_1_o 2 a0_1_1_c, .pointer (some ⟨(fr12 4).x, 0, none⟩)], (.tail _ (.head _)), Cov.cells_rd⟩), trivial⟩), rfl, trivial⟩)) ?_
  intro _
  refine GS.cond (t := true) rfl rfl (fun _ => ?_) (fun hf => by cases hf)
  refine GS.setMem (mem' := [(1, .cells a0b 56 [.bool true, .pointer (some ⟨x9, 0, none⟩), .int .i64 6]), (2, .rd a0_1_1_o 1 [[.int .u8 97], [.int .u8 98]]), (5, .cells x9 59 [.int .i64 2, .slice a0_1_1_o 2 a0_1_1_c, .pointer (some ⟨(fr12 4).x, 0, none⟩)]), (6, .osl ((fr12 2).ob) ((fr12 2).cap) 5 1 [[.int .u8 99], [.int .u8 100]]), (7, .cells ((fr12 4).x) 59 [.int .i64 4, .slice ((fr12 2).ob) 2 ((fr12 2).cap), .pointer none]), (8, .rd (cutOb a0_1_1_o 0 2 1) 1 (((([[.int .u8 97], [.int .u8 98]] : List (List Value))).drop 0).take (2 - 0)))]) (fun w hw => Sat.addCov (k0 := 2) hw rfl rfl rfl (rd_cut (Nat.le_of_ble_eq_true rfl) (Nat.le_of_ble_eq_true rfl)) rfl) ?_
  refine GS.conv (mem' := [(1, .cells a0b 56 [.bool true, .pointer (some ⟨x9, 0, none⟩), .int .i64 6]), (2, .rd a0_1_1_o 1 [[.int .u8 97], [.int .u8 98]]), (5, .cells x9 59 [.int .i64 2, .slice a0_1_1_o 2 a0_1_1_c, .pointer (some ⟨(fr12 4).x, 0, none⟩)]), (6, .osl ((fr12 2).ob) ((fr12 2).cap) 5 1 [[.int .u8 99], [.int .u8 100]]), (7, .cells ((fr12 4).x) 59 [.int .i64 4, .slice ((fr12 2).ob) 2 ((fr12 2).cap), .pointer none]), (8, .rd (cutOb a0_1_1_o 0 2 1) 1 [[.int .u8 97], [.int .u8 98]])]) rfl rfl ?_
  refine GS.region (env' := fun fr25 => []) (mem' := fun fr25 => [(1, .cells a0b 56 [.bool true, .pointer (some ⟨x9, 0, none⟩), .int .i64 6]), (5, .cells x9 59 [.int .i64 2, .slice ((fr25 21).ob) 4 ((fr25 21).cap), .pointer none]), (10, .osl ((fr25 21).ob) ((fr25 21).cap) 5 1 (([[.int .u8 97], [.int .u8 98]] : List (List Value)) ++ ([[.int .u8 99], [.int .u8 100]] : List (List Value))))]) (RunsTo.mkd [(5, { act := .load 5 0 0 [] }), (9, { act := .load 5 0 0 [] }), (14, { act := .load 5 0 0 [] }), (16, { act := .cut 0 2 2, sp := some (.slice (cutOb a0_1_1_o 0 2 1) 2 2) }), (20, { act := .load 7 0 0 [] }), (21, { act := .appC 8 (some 6), key := some 10, spf := some (fun f => .slice (f.ob) 4 (f.cap)) }), (25, { act := .load 7 0 0 [] }), (28, { act := .store 0 0 [], key := some 5 }), (31, { act := .store 0 0 [], key := some 5 })] [] [1, 5, 10] (fun fr25 => [x9 = x9, x9 = x9, x9 = x9, 0 = 0, 2 = ((2 : Nat) : Int), 2 = ((2 : Nat) : Int), 0 ≤ 2, 2 ≤ 2, 2 ≤ a0_1_1_c, (some (Operand.tmp 143) : Option Operand) = none → (some (Operand.tmp 148) : Option Operand) = none, ((.slice (if 2 = 0 then a0_1_1_o else (a0_1_1_o).map (fun a => a.add (0 * 1))) (2 - 0) (2 - 0)) : Value) = .slice (cutOb a0_1_1_o 0 2 1) 2 2, (fr12 4).x = (fr12 4).x, ((fr12 2).ob) = ((fr12 2).ob), 2 = ([[.int .u8 99], [.int .u8 100]] : List (List Value)).length, (cutOb a0_1_1_o 0 2 1) = (cutOb a0_1_1_o 0 2 1), 2 = ([[.int .u8 97], [.int .u8 98]] : List (List Value)).length, 2 = ([[.int .u8 97], [.int .u8 98]] : List (List Value)).length, 1 ≤ ([[.int .u8 99], [.int .u8 100]] : List (List Value)).length, (([[.int .u8 97], [.int .u8 98]] : List (List Value)).length + ([[.int .u8 99], [.int .u8 100]] : List (List Value)).length) * (1 + 1) ≤ 70368744177664, ((.slice ((fr25 21).ob) (2 + ([[.int .u8 99], [.int .u8 100]] : List (List Value)).length) ((fr25 21).cap)) : Value) = .slice ((fr25 21).ob) 4 ((fr25 21).cap), (fr12 4).x = (fr12 4).x, x9 = x9, ((.slice ((fr25 21).ob) 4 ((fr25 21).cap)) : Value).cells.toList.all Value.oneCell' = true, x9 = x9, ((.pointer none) : Value).cells.toList.all Value.oneCell' = true]) (by kernel_rfl) (by kernel_rfl) (fun fr25 => by kernel_rfl) (fun fr25 => ⟨rfl, rfl, rfl, rfl, rfl, rfl, (Nat.le_of_ble_eq_true rfl), (Nat.le_of_ble_eq_true rfl), a0_1_1_ch, (by intro h; first | rfl | cases h), rfl, rfl, rfl, rfl, rfl, rfl, rfl, (Nat.le_of_ble_eq_true rfl), (show (2 + 2) * (1 + 1) ≤ 70368744177664 by decide), rfl, rfl, rfl, rfl, rfl, rfl, trivial⟩)) ?_
  intro fr25
  refine GS.conv (mem' := [(1, .cells a0b 56 [.bool true, .pointer (some ⟨x9, 0, none⟩), .int .i64 6]), (5, .cells x9 59 [.int .i64 2, .slice ((fr25 21).ob) 4 ((fr25 21).cap), .pointer none]), (10, .osl ((fr25 21).ob) ((fr25 21).cap) 5 1 [[.int .u8 97], [.int .u8 98], [.int .u8 99], [.int .u8 100]])]) rfl (congrArg (fun rr : List (List Value) => ([(1, .cells a0b 56 [.bool true, .pointer (some ⟨x9, 0, none⟩), .int .i64 6]), (5, .cells x9 59 [.int .i64 2, .slice ((fr25 21).ob) 4 ((fr25 21).cap), .pointer none]), (10, .osl ((fr25 21).ob) ((fr25 21).cap) 5 1 rr)] : List (Nat × Ent))) (show ([[.int .u8 97], [.int .u8 98]] : List (List Value)) ++ ([[.int .u8 99], [.int .u8 100]] : List (List Value)) = ([[.int .u8 97], [.int .u8 98], [.int .u8 99], [.int .u8 100]] : List (List Value)) from rfl)) ?_
  refine GS.seq ?_
  refine GS.region (env' := fun _ => [(6, .int .i64 0)]) (mem' := fun _ => [(1, .cells a0b 56 [.bool true, .pointer (some ⟨x9, 0, none⟩), .int .i64 6]), (5, .cells x9 59 [.int .i64 2, .slice ((fr25 21).ob) 4 ((fr25 21).cap), .pointer none]), (10, .osl ((fr25 21).ob) ((fr25 21).cap) 5 1 [[.int .u8 97], [.int .u8 98], [.int .u8 99], [.int .u8 100]])]) (RunsTo.mk [] [6] [1, 5, 10] (fun _ => []) (fun _ => by kernel_rfl) (fun _ => trivial)) ?_
  intro _
  have hy := Option.some.inj hm
  subst hy
  refine GS.ret (fn := Try.f9) [0] [.int .i64 0] [] rfl Try.func9 (by kernel_rfl) trivial (fun w' hs => ?_)
  exact ⟨⟨x9, (fr25 21).ob, (fr25 21).cap⟩, rfl, hs.turnedG (ks := [1, 5, 10]) rfl rfl⟩

theorem w___extent_Map__is_4 (F : Nat) (a0b : Nat) (a0_1b : Nat) (a0_1_1_o : Option Addr) (a0_1_1_c : Nat) {y : Unit} (hm : m___extent_Map__is_4 F = some y) : CallG Try.prog 25 #[.pointer (some ⟨a0b, 0, none⟩)] (X := Unit) (fun (_ : Unit) => .bool true) [] [.rd a0_1_1_o 1 [[.int .u8 97], [.int .u8 98], [.int .u8 99], [.int .u8 100]], .rd (some ⟨a0_1b, 0, none⟩) 3 ([[.int .i64 2, .slice a0_1_1_o 4 a0_1_1_c, .pointer none]] : List (List Value)), .rd (some ⟨a0b, 0, none⟩) 3 ([[.bool true, .pointer (some ⟨a0_1b, 0, none⟩), .int .i64 6]] : List (List Value))] (fun (_ : Unit) => []) := by
  intro w hg
  rw [m___extent_Map__is_4] at hm
  refine GS.start (S := mayT [] [.rd a0_1_1_o 1 [[.int .u8 97], [.int .u8 98], [.int .u8 99], [.int .u8 100]], .rd (some ⟨a0_1b, 0, none⟩) 3 ([[.int .i64 2, .slice a0_1_1_o 4 a0_1_1_c, .pointer none]] : List (List Value)), .rd (some ⟨a0b, 0, none⟩) 3 ([[.bool true, .pointer (some ⟨a0_1b, 0, none⟩), .int .i64 6]] : List (List Value))]) (mem := [(1, .rd a0_1_1_o 1 [[.int .u8 97], [.int .u8 98], [.int .u8 99], [.int .u8 100]]), (2, .rd (some ⟨a0_1b, 0, none⟩) 3 ([[.int .i64 2, .slice a0_1_1_o 4 a0_1_1_c, .pointer none]] : List (List Value))), (3, .rd (some ⟨a0b, 0, none⟩) 3 ([[.bool true, .pointer (some ⟨a0_1b, 0, none⟩), .int .i64 6]] : List (List Value)))]) Try.func25 rfl Try.ntmps25 (Nat.le_of_ble_eq_true rfl) (hg.start rfl) ?_
  refine GS.conv (env' := [(0, .pointer (some ⟨a0b, 0, none⟩))]) rfl rfl ?_
  refine GS.seq ?_
  refine GS.region (env' := fun _ => [(0, .pointer (some ⟨a0b, 0, none⟩))]) (mem' := fun _ => [(1, .rd a0_1_1_o 1 [[.int .u8 97], [.int .u8 98], [.int .u8 99], [.int .u8 100]]), (2, .rd (some ⟨a0_1b, 0, none⟩) 3 ([[.int .i64 2, .slice a0_1_1_o 4 a0_1_1_c, .pointer none]] : List (List Value))), (3, .rd (some ⟨a0b, 0, none⟩) 3 ([[.bool true, .pointer (some ⟨a0_1b, 0, none⟩), .int .i64 6]] : List (List Value)))]) (RunsTo.mk [] [0] [1, 2, 3] (fun _ => []) (fun _ => by kernel_rfl) (fun _ => trivial)) ?_
  intro _
  refine GS.seq ?_
  refine GS.region (env' := fun _ => [(2, .bool true)]) (mem' := fun _ => []) (RunsTo.mk [(6, { act := .load 3 0 0 [.bool true, .pointer (some ⟨a0_1b, 0, none⟩), .int .i64 6] })] [2] [] (fun _ => [a0b = blk (some ⟨a0b, 0, none⟩), 0 = offs (some ⟨a0b, 0, none⟩) + (0 * 3 + 0), ([[.bool true, .pointer (some ⟨a0_1b, 0, none⟩), .int .i64 6]] : List (List Value))[0]? = some [.bool true, .pointer (some ⟨a0_1b, 0, none⟩), .int .i64 6]]) (fun _ => by kernel_rfl) (fun _ => ⟨rfl, rfl, rfl, trivial⟩)) ?_
  intro _
  have hy := Option.some.inj hm
  subst hy
  refine GS.ret (fn := Try.f25) [0] [.bool true] [] rfl Try.func25 (by kernel_rfl) trivial (fun w' hs => ?_)
  exact ⟨(), rfl, hs.turnedG (ks := []) rfl rfl⟩

theorem w___extent_Map__may_4 (F : Nat) (a0b : Nat) (a0_1b : Nat) (a0_1_1_o : Option Addr) (a0_1_1_c : Nat) {y : Unit} (hm : m___extent_Map__may_4 F = some y) : CallG Try.prog 22 #[.pointer (some ⟨a0b, 0, none⟩), .int .i64 3, .int .i64 2] (X := Unit) (fun (_ : Unit) => .int .i64 0) [] [.rd a0_1_1_o 1 [[.int .u8 97], [.int .u8 98], [.int .u8 99], [.int .u8 100]], .rd (some ⟨a0_1b, 0, none⟩) 3 ([[.int .i64 2, .slice a0_1_1_o 4 a0_1_1_c, .pointer none]] : List (List Value)), .rd (some ⟨a0b, 0, none⟩) 3 ([[.bool true, .pointer (some ⟨a0_1b, 0, none⟩), .int .i64 6]] : List (List Value))] (fun (_ : Unit) => []) := by
  intro w hg
  rw [m___extent_Map__may_4] at hm
  refine GS.start (S := mayT [] [.rd a0_1_1_o 1 [[.int .u8 97], [.int .u8 98], [.int .u8 99], [.int .u8 100]], .rd (some ⟨a0_1b, 0, none⟩) 3 ([[.int .i64 2, .slice a0_1_1_o 4 a0_1_1_c, .pointer none]] : List (List Value)), .rd (some ⟨a0b, 0, none⟩) 3 ([[.bool true, .pointer (some ⟨a0_1b, 0, none⟩), .int .i64 6]] : List (List Value))]) (mem := [(1, .rd a0_1_1_o 1 [[.int .u8 97], [.int .u8 98], [.int .u8 99], [.int .u8 100]]), (2, .rd (some ⟨a0_1b, 0, none⟩) 3 ([[.int .i64 2, .slice a0_1_1_o 4 a0_1_1_c, .pointer none]] : List (List Value))), (3, .rd (some ⟨a0b, 0, none⟩) 3 ([[.bool true, .pointer (some ⟨a0_1b, 0, none⟩), .int .i64 6]] : List (List Value)))]) Try.func22 rfl Try.ntmps22 (Nat.le_of_ble_eq_true rfl) (hg.start rfl) ?_
  refine GS.conv (env' := [(0, .pointer (some ⟨a0b, 0, none⟩)), (1, .int .i64 3), (2, .int .i64 2)]) rfl rfl ?_
  refine GS.seq ?_
  refine GS.region (env' := fun _ => [(0, .pointer (some ⟨a0b, 0, none⟩)), (1, .int .i64 3), (2, .int .i64 2)]) (mem' := fun _ => [(1, .rd a0_1_1_o 1 [[.int .u8 97], [.int .u8 98], [.int .u8 99], [.int .u8 100]]), (2, .rd (some ⟨a0_1b, 0, none⟩) 3 ([[.int .i64 2, .slice a0_1_1_o 4 a0_1_1_c, .pointer none]] : List (List Value))), (3, .rd (some ⟨a0b, 0, none⟩) 3 ([[.bool true, .pointer (some ⟨a0_1b, 0, none⟩), .int .i64 6]] : List (List Value)))]) (RunsTo.mk [] [0, 1, 2] [1, 2, 3] (fun _ => []) (fun _ => by kernel_rfl) (fun _ => trivial)) ?_
  intro _
  refine GS.seq ?_
  refine GS.block ?_
  refine GS.seq ?_
  refine bnd_elim hm (fun y3 e4 hm => ?_)
  refine GS.region (env' := fun _ => [(1, .int .i64 3), (2, .int .i64 2), (7, .bool false)]) (mem' := fun _ => []) (RunsTo.mk [(1, { act := .call [1, 2, 3] (.bool true) })] [1, 2, 7] [] (fun _ => [CallOK Try.prog 25 #[.pointer (some ⟨a0b, 0, none⟩)] (.bool true) [some (.rd a0_1_1_o 1 [[.int .u8 97], [.int .u8 98], [.int .u8 99], [.int .u8 100]]), some (.rd (some ⟨a0_1b, 0, none⟩) 3 ([[.int .i64 2, .slice a0_1_1_o 4 a0_1_1_c, .pointer none]] : List (List Value))), some (.rd (some ⟨a0b, 0, none⟩) 3 ([[.bool true, .pointer (some ⟨a0_1b, 0, none⟩), .int .i64 6]] : List (List Value)))]]) (fun _ => by kernel_rfl) (fun _ => ⟨(by have h1 := w___extent_Map__is_4 F a0b a0_1b a0_1_1_o a0_1_1_c e4; exact h1.ok ⟨(.inl ⟨.rd a0_1_1_o 1 [[.int .u8 97], [.int .u8 98], [.int .u8 99], [.int .u8 100]], .head _, Cov.refl _⟩), (.inl ⟨.rd (some ⟨a0_1b, 0, none⟩) 3 ([[.int .i64 2, .slice a0_1_1_o 4 a0_1_1_c, .pointer none]] : List (List Value)), (.tail _ (.head _)), Cov.refl _⟩), (.inl ⟨.rd (some ⟨a0b, 0, none⟩) 3 ([[.bool true, .pointer (some ⟨a0_1b, 0, none⟩), .int .i64 6]] : List (List Value)), (.tail _ (.tail _ (.head _))), Cov.refl _⟩), trivial⟩), trivial⟩)) ?_
  intro _
  refine GS.cond (t := false) rfl rfl (fun hf => by cases hf) (fun _ => ?_)
  refine GS.seq ?_
  refine GS.region (env' := fun _ => [(1, .int .i64 3), (2, .int .i64 2), (11, .bool false)]) (mem' := fun _ => []) (RunsTo.mk [] [1, 2, 11] [] (fun _ => []) (fun _ => by kernel_rfl) (fun _ => trivial)) ?_
  intro _
  refine GS.cond (t := false) rfl rfl (fun hf => by cases hf) (fun _ => ?_)
  refine GS.seq ?_
  refine GS.region (env' := fun _ => [(18, .bool false)]) (mem' := fun _ => []) (RunsTo.mk [] [18] [] (fun _ => []) (fun _ => by kernel_rfl) (fun _ => trivial)) ?_
  intro _
  refine GS.cond (t := false) rfl rfl (fun hf => by cases hf) (fun _ => ?_)
  refine GS.skip ?_
  refine GS.inBlock ?_
  refine GS.seq ?_
  refine GS.region (env' := fun _ => [(6, .int .i64 0)]) (mem' := fun _ => []) (RunsTo.mk [] [6] [] (fun _ => []) (fun _ => by kernel_rfl) (fun _ => trivial)) ?_
  intro _
  have hy := Option.some.inj hm
  subst hy
  refine GS.ret (fn := Try.f22) [0] [.int .i64 0] [] rfl Try.func22 (by kernel_rfl) trivial (fun w' hs => ?_)
  exact ⟨(), rfl, hs.turnedG (ks := []) rfl rfl⟩

theorem w___extent_run__end_4 (F : Nat) (a0b : Nat) (a0_1_o : Option Addr) (a0_1_c : Nat) {y : Unit} (hm : m___extent_run__end_4 F = some y) : CallG Try.prog 24 #[.pointer (some ⟨a0b, 0, none⟩)] (X := Unit) (fun (_ : Unit) => .int .i64 6) [] [.rd a0_1_o 1 [[.int .u8 97], [.int .u8 98], [.int .u8 99], [.int .u8 100]], .rd (some ⟨a0b, 0, none⟩) 3 ([[.int .i64 2, .slice a0_1_o 4 a0_1_c, .pointer none]] : List (List Value))] (fun (_ : Unit) => []) := by
  intro w hg
  rw [m___extent_run__end_4] at hm
  refine GS.start (S := mayT [] [.rd a0_1_o 1 [[.int .u8 97], [.int .u8 98], [.int .u8 99], [.int .u8 100]], .rd (some ⟨a0b, 0, none⟩) 3 ([[.int .i64 2, .slice a0_1_o 4 a0_1_c, .pointer none]] : List (List Value))]) (mem := [(1, .rd a0_1_o 1 [[.int .u8 97], [.int .u8 98], [.int .u8 99], [.int .u8 100]]), (2, .rd (some ⟨a0b, 0, none⟩) 3 ([[.int .i64 2, .slice a0_1_o 4 a0_1_c, .pointer none]] : List (List Value)))]) Try.func24 rfl Try.ntmps24 (Nat.le_of_ble_eq_true rfl) (hg.start rfl) ?_
  refine GS.conv (env' := [(0, .pointer (some ⟨a0b, 0, none⟩))]) rfl rfl ?_
  refine GS.seq ?_
  refine GS.region (env' := fun _ => [(0, .pointer (some ⟨a0b, 0, none⟩))]) (mem' := fun _ => [(1, .rd a0_1_o 1 [[.int .u8 97], [.int .u8 98], [.int .u8 99], [.int .u8 100]]), (2, .rd (some ⟨a0b, 0, none⟩) 3 ([[.int .i64 2, .slice a0_1_o 4 a0_1_c, .pointer none]] : List (List Value)))]) (RunsTo.mk [] [0] [1, 2] (fun _ => []) (fun _ => by kernel_rfl) (fun _ => trivial)) ?_
  intro _
  refine GS.seq ?_
  refine GS.region (env' := fun _ => [(2, .int .i64 6)]) (mem' := fun _ => []) (RunsTo.mkd [(3, { act := .load 2 0 0 [.int .i64 2, .slice a0_1_o 4 a0_1_c, .pointer none] }), (7, { act := .load 2 0 1 [.int .i64 2, .slice a0_1_o 4 a0_1_c, .pointer none] })] [2] [] (fun _ => [a0b = blk (some ⟨a0b, 0, none⟩), 0 = offs (some ⟨a0b, 0, none⟩) + (0 * 3 + 0), ([[.int .i64 2, .slice a0_1_o 4 a0_1_c, .pointer none]] : List (List Value))[0]? = some [.int .i64 2, .slice a0_1_o 4 a0_1_c, .pointer none], a0b = blk (some ⟨a0b, 0, none⟩), 1 = offs (some ⟨a0b, 0, none⟩) + (0 * 3 + 1), ([[.int .i64 2, .slice a0_1_o 4 a0_1_c, .pointer none]] : List (List Value))[0]? = some [.int .i64 2, .slice a0_1_o 4 a0_1_c, .pointer none]]) (by kernel_rfl) (by kernel_rfl) (fun _ => by kernel_rfl) (fun _ => ⟨rfl, rfl, rfl, rfl, rfl, rfl, trivial⟩)) ?_
  intro _
  have hy := Option.some.inj hm
  subst hy
  refine GS.ret (fn := Try.f24) [0] [.int .i64 6] [] rfl Try.func24 (by kernel_rfl) trivial (fun w' hs => ?_)
  exact ⟨(), rfl, hs.turnedG (ks := []) rfl rfl⟩

theorem w___extent_Map__clear_1_4 (F : Nat) (a1_o : Option Addr) (a1_c : Nat) (a2b : Nat) (a2_0b : Nat) {y : Unit} (hm : m___extent_Map__clear_1_4 F = some y) : CallG Try.prog 34 #[.int .i64 2, .slice a1_o 1 a1_c, .pointer (some ⟨a2b, 0, none⟩)] (X := Nat) (fun (x0 : Nat) => .tuple #[]) [.cells a2_0b 56 [.bool true, .pointer none, .int .i64 6], .cells a2b 60 [.pointer (some ⟨a2_0b, 1, none⟩)]] [.rd a1_o 1 [[.int .u8 97]]] (fun (x0 : Nat) => [.cells a2_0b 56 [.bool true, .pointer (some ⟨x0, 0, none⟩), .int .i64 6], .cells a2b 60 [.pointer (some ⟨x0, 2, none⟩)], .cells x0 59 [.int .i64 2, .slice a1_o 1 a1_c, .pointer none]]) := by
  intro w hg
  rw [m___extent_Map__clear_1_4] at hm
  refine GS.start (S := mayT [.cells a2_0b 56 [.bool true, .pointer none, .int .i64 6], .cells a2b 60 [.pointer (some ⟨a2_0b, 1, none⟩)]] [.rd a1_o 1 [[.int .u8 97]]]) (mem := [(1, .cells a2_0b 56 [.bool true, .pointer none, .int .i64 6]), (2, .cells a2b 60 [.pointer (some ⟨a2_0b, 1, none⟩)]), (3, .rd a1_o 1 [[.int .u8 97]])]) Try.func34 rfl Try.ntmps34 (Nat.le_of_ble_eq_true rfl) (hg.start rfl) ?_
  refine GS.conv (env' := [(0, .int .i64 2), (1, .slice a1_o 1 a1_c), (2, .pointer (some ⟨a2b, 0, none⟩))]) rfl rfl ?_
  refine GS.seq ?_
  refine GS.region (env' := fun _ => [(0, .int .i64 2), (1, .slice a1_o 1 a1_c), (2, .pointer (some ⟨a2b, 0, none⟩)), (7, .bool true)]) (mem' := fun _ => [(1, .cells a2_0b 56 [.bool true, .pointer none, .int .i64 6]), (2, .cells a2b 60 [.pointer (some ⟨a2_0b, 1, none⟩)]), (3, .rd a1_o 1 [[.int .u8 97]])]) (RunsTo.mk [] [0, 1, 2, 7] [1, 2, 3] (fun _ => []) (fun _ => by kernel_rfl) (fun _ => trivial)) ?_
  intro _
  refine GS.cond (t := true) rfl rfl (fun _ => ?_) (fun hf => by cases hf)
  refine GS.seq ?_
  refine GS.region (env' := fun fr2 => [(2, .pointer (some ⟨a2b, 0, none⟩))]) (mem' := fun fr2 => [(1, .cells a2_0b 56 [.bool true, .pointer (some ⟨(fr2 4).x, 0, none⟩), .int .i64 6]), (2, .cells a2b 60 [.pointer (some ⟨a2_0b, 1, none⟩)]), (3, .rd a1_o 1 [[.int .u8 97]]), (4, .cells ((fr2 4).x) 59 [.int .i64 2, .slice a1_o 1 a1_c, .pointer none])]) (RunsTo.mk [(0, { act := .load 2 0 0 [] }), (4, { act := .new .var, key := some 4 }), (6, { act := .store 0 0 [], key := some 1 })] [2] [1, 2, 3, 4] (fun fr2 => [a2b = a2b, a2_0b = a2_0b, ((.pointer (some ⟨(fr2 4).x, 0, none⟩)) : Value).cells.toList.all Value.oneCell' = true]) (fun fr2 => by kernel_rfl) (fun fr2 => ⟨rfl, rfl, rfl, trivial⟩)) ?_
  intro fr2
  refine GS.region (env' := fun _ => []) (mem' := fun _ => [(1, .cells a2_0b 56 [.bool true, .pointer (some ⟨(fr2 4).x, 0, none⟩), .int .i64 6]), (2, .cells a2b 60 [.pointer (some ⟨(fr2 4).x, 2, none⟩)]), (3, .rd a1_o 1 [[.int .u8 97]]), (4, .cells ((fr2 4).x) 59 [.int .i64 2, .slice a1_o 1 a1_c, .pointer none])]) (RunsTo.mk [(0, { act := .load 2 0 0 [] }), (2, { act := .load 1 0 0 [] }), (5, { act := .store 0 0 [], key := some 2 })] [] [1, 2, 3, 4] (fun _ => [a2b = a2b, a2_0b = a2_0b, a2b = a2b, ((.pointer (some ⟨(fr2 4).x, 2, none⟩)) : Value).cells.toList.all Value.oneCell' = true]) (fun _ => by kernel_rfl) (fun _ => ⟨rfl, rfl, rfl, rfl, trivial⟩)) ?_
  intro _
  have hy := Option.some.inj hm
  subst hy
  refine GS.end_ (fn := Try.f34) [] [] [] rfl Try.func34 (by kernel_rfl) trivial (fun w' hs => ?_)
  exact ⟨((fr2 4).x), rfl, hs.turnedG (ks := [1, 2, 4]) rfl rfl⟩

theorem w___extent_Map__clear_1_5 (F : Nat) (a1_o : Option Addr) (a1_c : Nat) (a2b : Nat) (a2_0b : Nat) (a2_0_1_o : Option Addr) (a2_0_1_c : Nat) {y : Unit} (hm : m___extent_Map__clear_1_5 F = some y) : CallG Try.prog 34 #[.int .i64 5, .slice a1_o 1 a1_c, .pointer (some ⟨a2b, 0, none⟩)] (X := Nat) (fun (x0 : Nat) => .tuple #[]) [.cells a2_0b 59 [.int .i64 2, .slice a2_0_1_o 1 a2_0_1_c, .pointer none], .cells a2b 60 [.pointer (some ⟨a2_0b, 2, none⟩)]] [.rd a1_o 1 [[.int .u8 100]], .rd a2_0_1_o 1 [[.int .u8 97]]] (fun (x0 : Nat) => [.cells a2_0b 59 [.int .i64 2, .slice a2_0_1_o 1 a2_0_1_c, .pointer (some ⟨x0, 0, none⟩)], .cells a2b 60 [.pointer (some ⟨x0, 2, none⟩)], .cells x0 59 [.int .i64 5, .slice a1_o 1 a1_c, .pointer none]]) := by
  intro w hg
  rw [m___extent_Map__clear_1_5] at hm
  refine GS.start (S := mayT [.cells a2_0b 59 [.int .i64 2, .slice a2_0_1_o 1 a2_0_1_c, .pointer none], .cells a2b 60 [.pointer (some ⟨a2_0b, 2, none⟩)]] [.rd a1_o 1 [[.int .u8 100]], .rd a2_0_1_o 1 [[.int .u8 97]]]) (mem := [(1, .cells a2_0b 59 [.int .i64 2, .slice a2_0_1_o 1 a2_0_1_c, .pointer none]), (2, .cells a2b 60 [.pointer (some ⟨a2_0b, 2, none⟩)]), (3, .rd a1_o 1 [[.int .u8 100]]), (4, .rd a2_0_1_o 1 [[.int .u8 97]])]) Try.func34 rfl Try.ntmps34 (Nat.le_of_ble_eq_true rfl) (hg.start rfl) ?_
  refine GS.conv (env' := [(0, .int .i64 5), (1, .slice a1_o 1 a1_c), (2, .pointer (some ⟨a2b, 0, none⟩))]) rfl rfl ?_
  refine GS.seq ?_
  refine GS.region (env' := fun _ => [(0, .int .i64 5), (1, .slice a1_o 1 a1_c), (2, .pointer (some ⟨a2b, 0, none⟩)), (7, .bool true)]) (mem' := fun _ => [(1, .cells a2_0b 59 [.int .i64 2, .slice a2_0_1_o 1 a2_0_1_c, .pointer none]), (2, .cells a2b 60 [.pointer (some ⟨a2_0b, 2, none⟩)]), (3, .rd a1_o 1 [[.int .u8 100]]), (4, .rd a2_0_1_o 1 [[.int .u8 97]])]) (RunsTo.mk [] [0, 1, 2, 7] [1, 2, 3, 4] (fun _ => []) (fun _ => by kernel_rfl) (fun _ => trivial)) ?_
  intro _
  refine GS.cond (t := true) rfl rfl (fun _ => ?_) (fun hf => by cases hf)
  refine GS.seq ?_
  refine GS.region (env' := fun fr2 => [(2, .pointer (some ⟨a2b, 0, none⟩))]) (mem' := fun fr2 => [(1, .cells a2_0b 59 [.int .i64 2, .slice a2_0_1_o 1 a2_0_1_c, .pointer (some ⟨(fr2 4).x, 0, none⟩)]), (2, .cells a2b 60 [.pointer (some ⟨a2_0b, 2, none⟩)]), (3, .rd a1_o 1 [[.int .u8 100]]), (4, .rd a2_0_1_o 1 [[.int .u8 97]]), (5, .cells ((fr2 4).x) 59 [.int .i64 5, .slice a1_o 1 a1_c, .pointer none])]) (RunsTo.mk [(0, { act := .load 2 0 0 [] }), (4, { act := .new .var, key := some 5 }), (6, { act := .store 0 0 [], key := some 1 })] [2] [1, 2, 3, 4, 5] (fun fr2 => [a2b = a2b, a2_0b = a2_0b, ((.pointer (some ⟨(fr2 4).x, 0, none⟩)) : Value).cells.toList.all Value.oneCell' = true]) (fun fr2 => by kernel_rfl) (fun fr2 => ⟨rfl, rfl, rfl, trivial⟩)) ?_
  intro fr2
  refine GS.region (env' := fun _ => []) (mem' := fun _ => [(1, .cells a2_0b 59 [.int .i64 2, .slice a2_0_1_o 1 a2_0_1_c, .pointer (some ⟨(fr2 4).x, 0, none⟩)]), (2, .cells a2b 60 [.pointer (some ⟨(fr2 4).x, 2, none⟩)]), (3, .rd a1_o 1 [[.int .u8 100]]), (4, .rd a2_0_1_o 1 [[.int .u8 97]]), (5, .cells ((fr2 4).x) 59 [.int .i64 5, .slice a1_o 1 a1_c, .pointer none])]) (RunsTo.mk [(0, { act := .load 2 0 0 [] }), (2, { act := .load 1 0 0 [] }), (5, { act := .store 0 0 [], key := some 2 })] [] [1, 2, 3, 4, 5] (fun _ => [a2b = a2b, a2_0b = a2_0b, a2b = a2b, ((.pointer (some ⟨(fr2 4).x, 2, none⟩)) : Value).cells.toList.all Value.oneCell' = true]) (fun _ => by kernel_rfl) (fun _ => ⟨rfl, rfl, rfl, rfl, trivial⟩)) ?_
  intro _
  have hy := Option.some.inj hm
  subst hy
  refine GS.end_ (fn := Try.f34) [] [] [] rfl Try.func34 (by kernel_rfl) trivial (fun w' hs => ?_)
  exact ⟨((fr2 4).x), rfl, hs.turnedG (ks := [1, 2, 5]) rfl rfl⟩

end Go.Proofs.Ytmdfkklldbfocaa
