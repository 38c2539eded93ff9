/-
  CHAPTER 20r: the functions do what their models say (8).
-/
import Derived.Test.YticlccnajfjdeaaM20r
set_option linter.unusedVariables false
set_option linter.unusedSimpArgs false
set_option maxRecDepth 100000
namespace Go.Proofs.Yticlccnajfjdeaa
open Go Go.RowKit Sx

theorem w_tholeref13_below (F : Nat) (a0 : S_api_Version) {y : Bool} (hm : m_tholeref13_below F a0 = some y) : CallG Try.prog 39 #[.agg #[.int .i64 a0.Epoch, .int .i64 a0.N]] (X := Unit) (fun (_ : Unit) => .bool y) [] [] (fun (_ : Unit) => []) := by
  intro w hg
  rw [m_tholeref13_below] at hm
  refine GS.start (S := mayT [] []) (mem := []) Try.func39 rfl Try.ntmps39 (Nat.le_of_ble_eq_true rfl) (hg.start rfl) ?_
  refine GS.conv (env' := [(0, .agg #[.int .i64 a0.Epoch, .int .i64 a0.N])]) rfl rfl ?_
  refine GS.seq ?_
  refine GS.region (env' := fun fr1 => [(1, .pointer (some ⟨(fr1 0).x, 0, none⟩))]) (mem' := fun fr1 => [(1, .cells ((fr1 0).x) 26 [.int .i64 a0.Epoch, .int .i64 a0.N])]) (RunsTo.mk [(0, { act := .new .var, key := some 1 })] [1] [1] (fun fr1 => []) (fun fr1 => by kernel_rfl) (fun fr1 => trivial)) ?_
  intro fr1
  refine GS.seq ?_
  refine br_elim hm (fun h3 hm => ?_) (fun h3 hm => ?_)
  · skip
    refine GS.region (env' := fun _ => [(2, .bool true)]) (mem' := fun _ => []) (RunsTo.mk [(1, { act := .load 1 0 0 [] }), (3, { sp := some (.bool true) })] [2] [] (fun _ => [(fr1 0).x = (fr1 0).x, ((.bool (decide (a0.Epoch < 0))) : Value) = .bool true]) (fun _ => by kernel_rfl) (fun _ => ⟨rfl, bool_eq h3, trivial⟩)) ?_
    intro _
    have hy := Option.some.inj hm
    subst hy
    refine GS.ret (fn := Try.f39) [0] [.bool true] [] rfl Try.func39 (by kernel_rfl) trivial (fun w' hs => ?_)
    exact ⟨(), rfl, hs.turnedG (ks := []) rfl rfl⟩
  · skip
    refine GS.region (env' := fun _ => [(2, .bool (decide (a0.N < 0)))]) (mem' := fun _ => []) (RunsTo.mk [(1, { act := .load 1 0 0 [] }), (3, { sp := some (.bool false) }), (5, { act := .load 1 0 0 [] })] [2] [] (fun _ => [(fr1 0).x = (fr1 0).x, ((.bool (decide (a0.Epoch < 0))) : Value) = .bool false, (fr1 0).x = (fr1 0).x]) (fun _ => by kernel_rfl) (fun _ => ⟨rfl, bool_eq h3, rfl, trivial⟩)) ?_
    intro _
    have hy := Option.some.inj hm
    subst hy
    refine GS.ret (fn := Try.f39) [0] [.bool (decide (a0.N < 0))] [] rfl Try.func39 (by kernel_rfl) trivial (fun w' hs => ?_)
    exact ⟨(), rfl, hs.turnedG (ks := []) rfl rfl⟩

theorem w_tholeref13_Cmp (F : Nat) (a0 : S_api_Version) (a1 : S_api_Version) {y : Int} (hm : m_tholeref13_Cmp F a0 a1 = some y) : CallG Try.prog 40 #[.agg #[.int .i64 a0.Epoch, .int .i64 a0.N], .agg #[.int .i64 a1.Epoch, .int .i64 a1.N]] (X := Unit) (fun (_ : Unit) => .int .i64 y) [] [] (fun (_ : Unit) => []) := by
  intro w hg
  rw [m_tholeref13_Cmp] at hm
  refine GS.start (S := mayT [] []) (mem := []) Try.func40 rfl Try.ntmps40 (Nat.le_of_ble_eq_true rfl) (hg.start rfl) ?_
  refine GS.conv (env' := [(0, .agg #[.int .i64 a0.Epoch, .int .i64 a0.N]), (1, .agg #[.int .i64 a1.Epoch, .int .i64 a1.N])]) rfl rfl ?_
  refine GS.seq ?_
  refine GS.region (env' := fun fr1 => [(2, .pointer (some ⟨(fr1 0).x, 0, none⟩)), (3, .pointer (some ⟨(fr1 1).x, 0, none⟩))]) (mem' := fun fr1 => [(1, .cells ((fr1 0).x) 26 [.int .i64 a0.Epoch, .int .i64 a0.N]), (2, .cells ((fr1 1).x) 26 [.int .i64 a1.Epoch, .int .i64 a1.N])]) (RunsTo.mk [(0, { act := .new .var, key := some 1 }), (1, { act := .new .var, key := some 2 })] [2, 3] [1, 2] (fun fr1 => []) (fun fr1 => by kernel_rfl) (fun fr1 => trivial)) ?_
  intro fr1
  refine GS.seq ?_
  refine GS.block ?_
  refine GS.seq ?_
  refine GS.seq ?_
  refine GS.region (env' := fun _ => [(2, .pointer (some ⟨(fr1 0).x, 0, none⟩)), (3, .pointer (some ⟨(fr1 1).x, 0, none⟩)), (5, .bool (decide (a0.Epoch < a1.Epoch)))]) (mem' := fun _ => [(1, .cells ((fr1 0).x) 26 [.int .i64 a0.Epoch, .int .i64 a0.N]), (2, .cells ((fr1 1).x) 26 [.int .i64 a1.Epoch, .int .i64 a1.N])]) (RunsTo.mk [(1, { act := .load 1 0 0 [] }), (3, { act := .load 2 0 0 [] })] [2, 3, 5] [1, 2] (fun _ => [(fr1 0).x = (fr1 0).x, (fr1 1).x = (fr1 1).x]) (fun _ => by kernel_rfl) (fun _ => ⟨rfl, rfl, trivial⟩)) ?_
  intro _
  refine jn_elim hm (fun J9 hJ11 hm => ?_)
  refine GS.cut (ι := Bool) (I := fun (v5_2 : Bool) => J9 v5_2 = some y) (E := fun (v5_2 : Bool) => [(2, .pointer (some ⟨(fr1 0).x, 0, none⟩)), (3, .pointer (some ⟨(fr1 1).x, 0, none⟩)), (5, .bool v5_2)]) (M := fun (v5_2 : Bool) => [(1, .cells ((fr1 0).x) 26 [.int .i64 a0.Epoch, .int .i64 a0.N]), (2, .cells ((fr1 1).x) 26 [.int .i64 a1.Epoch, .int .i64 a1.N])]) ?_ ?_
  rotate_left
  · intro H10
    refine GS.cond (t := decide (a0.Epoch < a1.Epoch)) rfl rfl (fun h3 => ?_) (fun h3 => ?_)
    · replace hm := br_t h3 hm
      refine GS.skip ?_
      refine GS.rekey (env' := [(2, .pointer (some ⟨(fr1 0).x, 0, none⟩)), (3, .pointer (some ⟨(fr1 1).x, 0, none⟩)), (5, .bool (decide (a0.Epoch < a1.Epoch)))]) (mem' := [(1, .cells ((fr1 0).x) 26 [.int .i64 a0.Epoch, .int .i64 a0.N]), (2, .cells ((fr1 1).x) 26 [.int .i64 a1.Epoch, .int .i64 a1.N])]) [2, 3, 5] [(1, 1), (2, 2)] (by kernel_rfl) (by kernel_rfl) rfl ?_
      exact H10 (decide (a0.Epoch < a1.Epoch)) hm
    · replace hm := br_f h3 hm
      refine br_elim hm (fun h5 hm => ?_) (fun h5 hm => ?_)
      · skip
        refine GS.region (env' := fun _ => [(2, .pointer (some ⟨(fr1 0).x, 0, none⟩)), (3, .pointer (some ⟨(fr1 1).x, 0, none⟩)), (5, .bool (decide (a0.N < a1.N)))]) (mem' := fun _ => [(1, .cells ((fr1 0).x) 26 [.int .i64 a0.Epoch, .int .i64 a0.N]), (2, .cells ((fr1 1).x) 26 [.int .i64 a1.Epoch, .int .i64 a1.N])]) (RunsTo.mk [(1, { act := .load 1 0 0 [] }), (3, { act := .load 2 0 0 [] }), (5, { sp := some (.bool true) }), (7, { act := .load 1 0 0 [] }), (9, { act := .load 2 0 0 [] })] [2, 3, 5] [1, 2] (fun _ => [(fr1 0).x = (fr1 0).x, (fr1 1).x = (fr1 1).x, ((.bool (a0.Epoch == a1.Epoch)) : Value) = .bool true, (fr1 0).x = (fr1 0).x, (fr1 1).x = (fr1 1).x]) (fun _ => by kernel_rfl) (fun _ => ⟨rfl, rfl, bool_eq h5, rfl, rfl, trivial⟩)) ?_
        intro _
        refine GS.rekey (env' := [(2, .pointer (some ⟨(fr1 0).x, 0, none⟩)), (3, .pointer (some ⟨(fr1 1).x, 0, none⟩)), (5, .bool (decide (a0.N < a1.N)))]) (mem' := [(1, .cells ((fr1 0).x) 26 [.int .i64 a0.Epoch, .int .i64 a0.N]), (2, .cells ((fr1 1).x) 26 [.int .i64 a1.Epoch, .int .i64 a1.N])]) [2, 3, 5] [(1, 1), (2, 2)] (by kernel_rfl) (by kernel_rfl) rfl ?_
        exact H10 (decide (a0.N < a1.N)) hm
      · skip
        refine GS.region (env' := fun _ => [(2, .pointer (some ⟨(fr1 0).x, 0, none⟩)), (3, .pointer (some ⟨(fr1 1).x, 0, none⟩)), (5, .bool false)]) (mem' := fun _ => [(1, .cells ((fr1 0).x) 26 [.int .i64 a0.Epoch, .int .i64 a0.N]), (2, .cells ((fr1 1).x) 26 [.int .i64 a1.Epoch, .int .i64 a1.N])]) (RunsTo.mk [(1, { act := .load 1 0 0 [] }), (3, { act := .load 2 0 0 [] }), (5, { sp := some (.bool false) })] [2, 3, 5] [1, 2] (fun _ => [(fr1 0).x = (fr1 0).x, (fr1 1).x = (fr1 1).x, ((.bool (a0.Epoch == a1.Epoch)) : Value) = .bool false]) (fun _ => by kernel_rfl) (fun _ => ⟨rfl, rfl, bool_eq h5, trivial⟩)) ?_
        intro _
        refine GS.rekey (env' := [(2, .pointer (some ⟨(fr1 0).x, 0, none⟩)), (3, .pointer (some ⟨(fr1 1).x, 0, none⟩)), (5, .bool false)]) (mem' := [(1, .cells ((fr1 0).x) 26 [.int .i64 a0.Epoch, .int .i64 a0.N]), (2, .cells ((fr1 1).x) 26 [.int .i64 a1.Epoch, .int .i64 a1.N])]) [2, 3, 5] [(1, 1), (2, 2)] (by kernel_rfl) (by kernel_rfl) rfl ?_
        exact H10 false hm
  · rintro v5_2 hm
    replace hm := (hJ11 _).symm.trans hm
    try dsimp only at hm
    refine GS.cond (t := v5_2) rfl rfl (fun h12 => ?_) (fun h12 => ?_)
    · replace hm := br_t h12 hm
      refine GS.seq ?_
      refine GS.region (env' := fun _ => [(4, .int .i64 (-1))]) (mem' := fun _ => []) (RunsTo.mk [] [4] [] (fun _ => []) (fun _ => by kernel_rfl) (fun _ => trivial)) ?_
      intro _
      have hy := Option.some.inj hm
      subst hy
      refine GS.ret (fn := Try.f40) [0] [.int .i64 (-1)] [] rfl Try.func40 (by kernel_rfl) trivial (fun w' hs => ?_)
      exact ⟨(), rfl, hs.turnedG (ks := []) rfl rfl⟩
    · replace hm := br_f h12 hm
      refine GS.seq ?_
      refine GS.region (env' := fun _ => [(23, .bool (S_api_Version.beq a0 a1))]) (mem' := fun _ => []) (RunsTo.mk [(0, { act := .load 1 0 0 [] }), (1, { act := .load 2 0 0 [] }), (2, { act := .eq })] [23] [] (fun _ => [(fr1 0).x = (fr1 0).x, (fr1 1).x = (fr1 1).x]) (fun _ => by kernel_rfl) (fun _ => ⟨rfl, rfl, trivial⟩)) ?_
      intro _
      refine GS.cond (t := S_api_Version.beq a0 a1) rfl rfl (fun h15 => ?_) (fun h15 => ?_)
      · replace hm := br_t h15 hm
        refine GS.seq ?_
        refine GS.region (env' := fun _ => [(4, .int .i64 0)]) (mem' := fun _ => []) (RunsTo.mk [] [4] [] (fun _ => []) (fun _ => by kernel_rfl) (fun _ => trivial)) ?_
        intro _
        have hy := Option.some.inj hm
        subst hy
        refine GS.ret (fn := Try.f40) [0] [.int .i64 0] [] rfl Try.func40 (by kernel_rfl) trivial (fun w' hs => ?_)
        exact ⟨(), rfl, hs.turnedG (ks := []) rfl rfl⟩
      · replace hm := br_f h15 hm
        refine GS.skip ?_
        refine GS.inBlock ?_
        refine GS.seq ?_
        refine GS.region (env' := fun _ => [(4, .int .i64 1)]) (mem' := fun _ => []) (RunsTo.mk [] [4] [] (fun _ => []) (fun _ => by kernel_rfl) (fun _ => trivial)) ?_
        intro _
        have hy := Option.some.inj hm
        subst hy
        refine GS.ret (fn := Try.f40) [0] [.int .i64 1] [] rfl Try.func40 (by kernel_rfl) trivial (fun w' hs => ?_)
        exact ⟨(), rfl, hs.turnedG (ks := []) rfl rfl⟩

theorem w_tholeref09_Good (F : Nat) (a0 : ByteArray) {y : Bool} (hm : m_tholeref09_Good F a0 = some y) : CallG Try.prog 41 #[.string a0] (X := Unit) (fun (_ : Unit) => .bool y) [] [] (fun (_ : Unit) => []) := by
  intro w hg
  rw [m_tholeref09_Good] at hm
  refine GS.start (S := mayT [] []) (mem := []) Try.func41 rfl Try.ntmps41 (Nat.le_of_ble_eq_true rfl) (hg.start rfl) ?_
  refine GS.conv (env' := [(0, .string a0)]) rfl rfl ?_
  refine GS.seq ?_
  refine GS.region (env' := fun _ => [(0, .string a0)]) (mem' := fun _ => []) (RunsTo.mk [] [0] [] (fun _ => []) (fun _ => by kernel_rfl) (fun _ => trivial)) ?_
  intro _
  refine GS.seq ?_
  refine GS.seq ?_
  refine GS.region (env' := fun _ => [(0, .string a0), (3, .int .i64 0)]) (mem' := fun _ => []) (RunsTo.mk [] [0, 3] [] (fun _ => []) (fun _ => by kernel_rfl) (fun _ => trivial)) ?_
  intro _
  refine GS.block ?_
  refine GS.loop ?_
  refine grd_elim hm (fun g27 hm => ?_)
  refine GS.rekey (env' := [(0, .string a0), (3, .int .i64 0)]) (mem' := []) [0, 3] [] (by kernel_rfl) (by kernel_rfl) rfl ?_
  refine loopC_elim hm (fun st44 fn45 hst46 hfn47 hm => ?_)
  refine GS.loopInv (ι := Nat × Nat) (I := fun ⟨rs42, v3_1⟩ => ((((a0.size : Nat) : Int)) - ((v3_1 : Nat) : Int) : Int).toNat = rs42 ∧ loopC st44 fn45 rs42 v3_1 () = some y) (μ := fun ⟨rs42, v3_1⟩ => rs42) (E := fun ⟨rs42, v3_1⟩ => [(0, .string a0), (3, .int .i64 ((v3_1 : Nat) : Int))]) (M := fun ⟨rs42, v3_1⟩ => []) ?_ ⟨(Int.toNat (((a0.size : Nat) : Int) - ((0 : Nat) : Int))), 0⟩ ⟨rfl, hm⟩
  rintro ⟨rs42, v3_1⟩ ⟨hd26, hm⟩ ih43
  cases rs42 with
  | zero =>
    replace hm := (hfn47 _ _).symm.trans hm
    try dsimp only at hm
    refine GS.seq ?_
    refine GS.seq ?_
    refine GS.region (env' := fun _ => [(0, .string a0), (3, .int .i64 ((v3_1 : Nat) : Int)), (7, .bool (decide (((v3_1 : Nat) : Int) < ((a0.size : Nat) : Int))))]) (mem' := fun _ => []) (RunsTo.mk [] [0, 3, 7] [] (fun _ => []) (fun _ => by kernel_rfl) (fun _ => trivial)) ?_
    intro _
    refine GS.cond (t := decide (((v3_1 : Nat) : Int) < ((a0.size : Nat) : Int))) rfl rfl (fun h40 => absb h40 (cnt0 hd26)) (fun _ => ?_)
    refine GS.exit rfl ?_
    refine GS.seq ?_
    refine br_elim hm (fun h49 hm => ?_) (fun h49 hm => ?_)
    · skip
      refine GS.region (env' := fun _ => [(2, .bool (decide (((a0.size : Nat) : Int) ≤ 64)))]) (mem' := fun _ => []) (RunsTo.mk [(3, { sp := some (.bool true) })] [2] [] (fun _ => [((.bool (decide (((a0.size : Nat) : Int) ≥ 1))) : Value) = .bool true]) (fun _ => by kernel_rfl) (fun _ => ⟨bool_eq h49, trivial⟩)) ?_
      intro _
      have hy := Option.some.inj hm
      subst hy
      refine GS.ret (fn := Try.f41) [0] [.bool (decide (((a0.size : Nat) : Int) ≤ 64))] [] rfl Try.func41 (by kernel_rfl) trivial (fun w' hs => ?_)
      exact ⟨(), rfl, hs.turnedG (ks := []) rfl rfl⟩
    · skip
      refine GS.region (env' := fun _ => [(2, .bool false)]) (mem' := fun _ => []) (RunsTo.mk [(3, { sp := some (.bool false) })] [2] [] (fun _ => [((.bool (decide (((a0.size : Nat) : Int) ≥ 1))) : Value) = .bool false]) (fun _ => by kernel_rfl) (fun _ => ⟨bool_eq h49, trivial⟩)) ?_
      intro _
      have hy := Option.some.inj hm
      subst hy
      refine GS.ret (fn := Try.f41) [0] [.bool false] [] rfl Try.func41 (by kernel_rfl) trivial (fun w' hs => ?_)
      exact ⟨(), rfl, hs.turnedG (ks := []) rfl rfl⟩
  | succ rs42 =>
    replace hm := (hst46 _ _ _).symm.trans hm
    try dsimp only at hm
    refine GS.seq ?_
    refine GS.seq ?_
    refine GS.region (env' := fun _ => [(0, .string a0), (3, .int .i64 ((v3_1 : Nat) : Int)), (7, .bool (decide (((v3_1 : Nat) : Int) < ((a0.size : Nat) : Int))))]) (mem' := fun _ => []) (RunsTo.mk [] [0, 3, 7] [] (fun _ => []) (fun _ => by kernel_rfl) (fun _ => trivial)) ?_
    intro _
    refine GS.cond (t := decide (((v3_1 : Nat) : Int) < ((a0.size : Nat) : Int))) rfl rfl (fun _ => ?_) (fun h29 => absb (cnt1 hd26) h29)
    refine GS.skip ?_
    refine GS.seq ?_
    refine GS.block ?_
    refine GS.seq ?_
    refine jn_elim hm (fun J33 hJ35 hm => ?_)
    refine GS.cut (ι := Bool) (I := fun (v19_4 : Bool) => J33 v19_4 = some y) (E := fun (v19_4 : Bool) => [(0, .string a0), (3, .int .i64 ((v3_1 : Nat) : Int)), (19, .bool v19_4)]) (M := fun (v19_4 : Bool) => []) ?_ ?_
    rotate_left
    · intro H34
      refine grd_elim hm (fun g31 hm => ?_)
      refine br_elim hm (fun h32 hm => ?_) (fun h32 hm => ?_)
      · skip
        refine GS.region (env' := fun _ => [(0, .string a0), (3, .int .i64 ((v3_1 : Nat) : Int)), (19, .bool true)]) (mem' := fun _ => []) (RunsTo.mk [(2, { act := .elt v3_1 }), (4, { sp := some (.bool true) })] [0, 3, 19] [] (fun _ => [(((v3_1 : Nat) : Int) : Int) = ((v3_1 : Nat) : Int), v3_1 < a0.size, ((.bool (decide ((((a0.data.getD v3_1 0).toNat : Nat) : Int) < 33))) : Value) = .bool true]) (fun _ => by kernel_rfl) (fun _ => ⟨rfl, g31, bool_eq h32, trivial⟩)) ?_
        intro _
        refine GS.rekey (env' := [(0, .string a0), (3, .int .i64 ((v3_1 : Nat) : Int)), (19, .bool true)]) (mem' := []) [0, 3, 19] [] (by kernel_rfl) (by kernel_rfl) rfl ?_
        exact H34 true hm
      · skip
        refine GS.region (env' := fun _ => [(0, .string a0), (3, .int .i64 ((v3_1 : Nat) : Int)), (19, .bool (decide ((((a0.data.getD v3_1 0).toNat : Nat) : Int) > 126)))]) (mem' := fun _ => []) (RunsTo.mk [(2, { act := .elt v3_1 }), (4, { sp := some (.bool false) }), (7, { act := .elt v3_1 })] [0, 3, 19] [] (fun _ => [(((v3_1 : Nat) : Int) : Int) = ((v3_1 : Nat) : Int), v3_1 < a0.size, ((.bool (decide ((((a0.data.getD v3_1 0).toNat : Nat) : Int) < 33))) : Value) = .bool false, (((v3_1 : Nat) : Int) : Int) = ((v3_1 : Nat) : Int), v3_1 < a0.size]) (fun _ => by kernel_rfl) (fun _ => ⟨rfl, g31, bool_eq h32, rfl, g31, trivial⟩)) ?_
        intro _
        refine GS.rekey (env' := [(0, .string a0), (3, .int .i64 ((v3_1 : Nat) : Int)), (19, .bool (decide ((((a0.data.getD v3_1 0).toNat : Nat) : Int) > 126)))]) (mem' := []) [0, 3, 19] [] (by kernel_rfl) (by kernel_rfl) rfl ?_
        exact H34 (decide ((((a0.data.getD v3_1 0).toNat : Nat) : Int) > 126)) hm
    · rintro v19_4 hm
      replace hm := (hJ35 _).symm.trans hm
      try dsimp only at hm
      refine GS.cond (t := v19_4) rfl rfl (fun h36 => ?_) (fun h36 => ?_)
      · replace hm := br_t h36 hm
        refine GS.seq ?_
        refine GS.region (env' := fun _ => [(2, .bool false)]) (mem' := fun _ => []) (RunsTo.mk [] [2] [] (fun _ => []) (fun _ => by kernel_rfl) (fun _ => trivial)) ?_
        intro _
        have hy := Option.some.inj hm
        subst hy
        refine GS.ret (fn := Try.f41) [0] [.bool false] [] rfl Try.func41 (by kernel_rfl) trivial (fun w' hs => ?_)
        exact ⟨(), rfl, hs.turnedG (ks := []) rfl rfl⟩
      · replace hm := br_f h36 hm
        refine GS.skip ?_
        refine GS.inBlock ?_
        refine GS.region (env' := fun _ => [(0, .string a0), (3, .int .i64 ((v3_1 + 1 : Nat) : Int))]) (mem' := fun _ => []) (RunsTo.mk [(1, { sp := some (.int .i64 ((v3_1 + 1 : Nat) : Int)) })] [0, 3] [] (fun _ => [((.int .i64 (IntKind.i64.wrap (((v3_1 : Nat) : Int) + 1))) : Value) = .int .i64 ((v3_1 + 1 : Nat) : Int)]) (fun _ => by kernel_rfl) (fun _ => ⟨natwB (cnt1 hd26) g27, trivial⟩)) ?_
        intro _
        refine GS.inLoop ?_
        refine GS.rekey (env' := [(0, .string a0), (3, .int .i64 ((v3_1 + 1 : Nat) : Int))]) (mem' := []) [0, 3] [] (by kernel_rfl) (by kernel_rfl) rfl ?_
        exact ih43 ⟨rs42, v3_1 + 1⟩ ⟨cntN hd26, hm⟩ (Nat.lt_succ_self _)

theorem w_tholeref13_Check (F : Nat) (a0_Les : Int) (a0_Tail : S_api_Version) (a0_Log_o : Option Addr) (a0_Log_c : Nat) (a0_Log : List S_api_Entry) (a0_Lasts_o : Option Addr) (a0_Lasts_c : Nat) (a0_Lasts : List S_api_Last) (a0_Items_o : Option Addr) (a0_Items_c : Nat) (a0_Items : List S_api_Item) {y : Int} (hm : m_tholeref13_Check F a0_Les a0_Tail a0_Log a0_Lasts a0_Items = some y) : CallG Try.prog 22 #[.agg #[.int .i64 a0_Les, .int .i64 a0_Tail.Epoch, .int .i64 a0_Tail.N, .slice a0_Log_o a0_Log.length a0_Log_c, .slice a0_Lasts_o a0_Lasts.length a0_Lasts_c, .slice a0_Items_o a0_Items.length a0_Items_c]] (X := Unit) (fun (_ : Unit) => .int .i64 y) [] [r58 a0_Log_o a0_Log, r78 a0_Lasts_o a0_Lasts, r48 a0_Items_o a0_Items] (fun (_ : Unit) => []) := by
  intro w hg
  rw [m_tholeref13_Check] at hm
  refine GS.start (S := mayT [] [r58 a0_Log_o a0_Log, r78 a0_Lasts_o a0_Lasts, r48 a0_Items_o a0_Items]) (mem := [(1, r58 a0_Log_o a0_Log), (2, r78 a0_Lasts_o a0_Lasts), (3, r48 a0_Items_o a0_Items)]) Try.func22 rfl Try.ntmps22 (Nat.le_of_ble_eq_true rfl) (hg.start rfl) ?_
  refine GS.conv (env' := [(0, .agg #[.int .i64 a0_Les, .int .i64 a0_Tail.Epoch, .int .i64 a0_Tail.N, .slice a0_Log_o a0_Log.length a0_Log_c, .slice a0_Lasts_o a0_Lasts.length a0_Lasts_c, .slice a0_Items_o a0_Items.length a0_Items_c])]) rfl rfl ?_
  refine GS.seq ?_
  refine GS.region (env' := fun fr1 => [(1, .pointer (some ⟨(fr1 0).x, 0, none⟩))]) (mem' := fun fr1 => [(1, r58 a0_Log_o a0_Log), (2, r78 a0_Lasts_o a0_Lasts), (3, r48 a0_Items_o a0_Items), (4, .cells ((fr1 0).x) 31 [.int .i64 a0_Les, .int .i64 a0_Tail.Epoch, .int .i64 a0_Tail.N, .slice a0_Log_o a0_Log.length a0_Log_c, .slice a0_Lasts_o a0_Lasts.length a0_Lasts_c, .slice a0_Items_o a0_Items.length a0_Items_c])]) (RunsTo.mk [(0, { act := .new .var, key := some 4 })] [1] [1, 2, 3, 4] (fun fr1 => []) (fun fr1 => by kernel_rfl) (fun fr1 => trivial)) ?_
  intro fr1
  refine GS.seq ?_
  refine GS.seq ?_
  refine jn_elim hm (fun J7 hJ9 hm => ?_)
  refine GS.cut (ι := Bool) (I := fun (v23_1 : Bool) => J7 v23_1 = some y) (E := fun (v23_1 : Bool) => [(1, .pointer (some ⟨(fr1 0).x, 0, none⟩)), (23, .bool v23_1)]) (M := fun (v23_1 : Bool) => [(1, r58 a0_Log_o a0_Log), (2, r78 a0_Lasts_o a0_Lasts), (3, r48 a0_Items_o a0_Items), (4, .cells ((fr1 0).x) 31 [.int .i64 a0_Les, .int .i64 a0_Tail.Epoch, .int .i64 a0_Tail.N, .slice a0_Log_o a0_Log.length a0_Log_c, .slice a0_Lasts_o a0_Lasts.length a0_Lasts_c, .slice a0_Items_o a0_Items.length a0_Items_c])]) ?_ ?_
  rotate_left
  · intro H8
    refine br_elim hm (fun h3 hm => ?_) (fun h3 hm => ?_)
    · skip
      refine GS.region (env' := fun _ => [(1, .pointer (some ⟨(fr1 0).x, 0, none⟩)), (23, .bool true)]) (mem' := fun _ => [(1, r58 a0_Log_o a0_Log), (2, r78 a0_Lasts_o a0_Lasts), (3, r48 a0_Items_o a0_Items), (4, .cells ((fr1 0).x) 31 [.int .i64 a0_Les, .int .i64 a0_Tail.Epoch, .int .i64 a0_Tail.N, .slice a0_Log_o a0_Log.length a0_Log_c, .slice a0_Lasts_o a0_Lasts.length a0_Lasts_c, .slice a0_Items_o a0_Items.length a0_Items_c])]) (RunsTo.mk [(1, { act := .load 4 0 0 [] }), (3, { sp := some (.bool true) })] [1, 23] [1, 2, 3, 4] (fun _ => [(fr1 0).x = (fr1 0).x, ((.bool (decide (a0_Les < 0))) : Value) = .bool true]) (fun _ => by kernel_rfl) (fun _ => ⟨rfl, bool_eq h3, trivial⟩)) ?_
      intro _
      refine GS.rekey (env' := [(1, .pointer (some ⟨(fr1 0).x, 0, none⟩)), (23, .bool true)]) (mem' := [(1, r58 a0_Log_o a0_Log), (2, r78 a0_Lasts_o a0_Lasts), (3, r48 a0_Items_o a0_Items), (4, .cells ((fr1 0).x) 31 [.int .i64 a0_Les, .int .i64 a0_Tail.Epoch, .int .i64 a0_Tail.N, .slice a0_Log_o a0_Log.length a0_Log_c, .slice a0_Lasts_o a0_Lasts.length a0_Lasts_c, .slice a0_Items_o a0_Items.length a0_Items_c])]) [1, 23] [(1, 1), (2, 2), (3, 3), (4, 4)] (by kernel_rfl) (by kernel_rfl) rfl ?_
      exact H8 true hm
    · skip
      refine bnd_elim hm (fun y4 e5 hm => ?_)
      refine br_elim hm (fun h6 hm => ?_) (fun h6 hm => ?_)
      · skip
        refine GS.region (env' := fun _ => [(1, .pointer (some ⟨(fr1 0).x, 0, none⟩)), (23, .bool true)]) (mem' := fun _ => [(1, r58 a0_Log_o a0_Log), (2, r78 a0_Lasts_o a0_Lasts), (3, r48 a0_Items_o a0_Items), (4, .cells ((fr1 0).x) 31 [.int .i64 a0_Les, .int .i64 a0_Tail.Epoch, .int .i64 a0_Tail.N, .slice a0_Log_o a0_Log.length a0_Log_c, .slice a0_Lasts_o a0_Lasts.length a0_Lasts_c, .slice a0_Items_o a0_Items.length a0_Items_c])]) (RunsTo.mk [(1, { act := .load 4 0 0 [] }), (3, { sp := some (.bool false) }), (5, { act := .load 4 0 0 [] }), (6, { act := .call [] (.bool y4) }), (8, { sp := some (.bool true) })] [1, 23] [1, 2, 3, 4] (fun _ => [(fr1 0).x = (fr1 0).x, ((.bool (decide (a0_Les < 0))) : Value) = .bool false, (fr1 0).x = (fr1 0).x, CallOK Try.prog 39 #[.agg #[.int .i64 a0_Tail.Epoch, .int .i64 a0_Tail.N]] (.bool y4) [], ((.bool y4) : Value) = .bool true]) (fun _ => by kernel_rfl) (fun _ => ⟨rfl, bool_eq h3, rfl, (w_tholeref13_below F a0_Tail e5).ok trivial, bool_eq h6, trivial⟩)) ?_
        intro _
        refine GS.rekey (env' := [(1, .pointer (some ⟨(fr1 0).x, 0, none⟩)), (23, .bool true)]) (mem' := [(1, r58 a0_Log_o a0_Log), (2, r78 a0_Lasts_o a0_Lasts), (3, r48 a0_Items_o a0_Items), (4, .cells ((fr1 0).x) 31 [.int .i64 a0_Les, .int .i64 a0_Tail.Epoch, .int .i64 a0_Tail.N, .slice a0_Log_o a0_Log.length a0_Log_c, .slice a0_Lasts_o a0_Lasts.length a0_Lasts_c, .slice a0_Items_o a0_Items.length a0_Items_c])]) [1, 23] [(1, 1), (2, 2), (3, 3), (4, 4)] (by kernel_rfl) (by kernel_rfl) rfl ?_
        exact H8 true hm
      · skip
        refine GS.region (env' := fun _ => [(1, .pointer (some ⟨(fr1 0).x, 0, none⟩)), (23, .bool (decide (((a0_Items.length : Nat) : Int) > 32)))]) (mem' := fun _ => [(1, r58 a0_Log_o a0_Log), (2, r78 a0_Lasts_o a0_Lasts), (3, r48 a0_Items_o a0_Items), (4, .cells ((fr1 0).x) 31 [.int .i64 a0_Les, .int .i64 a0_Tail.Epoch, .int .i64 a0_Tail.N, .slice a0_Log_o a0_Log.length a0_Log_c, .slice a0_Lasts_o a0_Lasts.length a0_Lasts_c, .slice a0_Items_o a0_Items.length a0_Items_c])]) (RunsTo.mk [(1, { act := .load 4 0 0 [] }), (3, { sp := some (.bool false) }), (5, { act := .load 4 0 0 [] }), (6, { act := .call [] (.bool y4) }), (8, { sp := some (.bool false) }), (10, { act := .load 4 0 0 [] })] [1, 23] [1, 2, 3, 4] (fun _ => [(fr1 0).x = (fr1 0).x, ((.bool (decide (a0_Les < 0))) : Value) = .bool false, (fr1 0).x = (fr1 0).x, CallOK Try.prog 39 #[.agg #[.int .i64 a0_Tail.Epoch, .int .i64 a0_Tail.N]] (.bool y4) [], ((.bool y4) : Value) = .bool false, (fr1 0).x = (fr1 0).x]) (fun _ => by kernel_rfl) (fun _ => ⟨rfl, bool_eq h3, rfl, (w_tholeref13_below F a0_Tail e5).ok trivial, bool_eq h6, rfl, trivial⟩)) ?_
        intro _
        refine GS.rekey (env' := [(1, .pointer (some ⟨(fr1 0).x, 0, none⟩)), (23, .bool (decide (((a0_Items.length : Nat) : Int) > 32)))]) (mem' := [(1, r58 a0_Log_o a0_Log), (2, r78 a0_Lasts_o a0_Lasts), (3, r48 a0_Items_o a0_Items), (4, .cells ((fr1 0).x) 31 [.int .i64 a0_Les, .int .i64 a0_Tail.Epoch, .int .i64 a0_Tail.N, .slice a0_Log_o a0_Log.length a0_Log_c, .slice a0_Lasts_o a0_Lasts.length a0_Lasts_c, .slice a0_Items_o a0_Items.length a0_Items_c])]) [1, 23] [(1, 1), (2, 2), (3, 3), (4, 4)] (by kernel_rfl) (by kernel_rfl) rfl ?_
        exact H8 (decide (((a0_Items.length : Nat) : Int) > 32)) hm
  · rintro v23_1 hm
    replace hm := (hJ9 _).symm.trans hm
    try dsimp only at hm
    refine GS.cond (t := v23_1) rfl rfl (fun h10 => ?_) (fun h10 => ?_)
    · replace hm := br_t h10 hm
      refine GS.seq ?_
      refine GS.region (env' := fun _ => [(2, .int .i64 22)]) (mem' := fun _ => []) (RunsTo.mk [] [2] [] (fun _ => []) (fun _ => by kernel_rfl) (fun _ => trivial)) ?_
      intro _
      have hy := Option.some.inj hm
      subst hy
      refine GS.ret (fn := Try.f22) [0] [.int .i64 22] [] rfl Try.func22 (by kernel_rfl) trivial (fun w' hs => ?_)
      exact ⟨(), rfl, hs.turnedG (ks := []) rfl rfl⟩
    · replace hm := br_f h10 hm
      refine GS.skip ?_
      refine GS.seq ?_
      refine GS.region (env' := fun fr12 => [(1, .pointer (some ⟨(fr1 0).x, 0, none⟩)), (3, .pointer (some ⟨(fr12 2).x, 0, none⟩))]) (mem' := fun fr12 => [(1, r58 a0_Log_o a0_Log), (2, r78 a0_Lasts_o a0_Lasts), (3, r48 a0_Items_o a0_Items), (4, .cells ((fr1 0).x) 31 [.int .i64 a0_Les, .int .i64 a0_Tail.Epoch, .int .i64 a0_Tail.N, .slice a0_Log_o a0_Log.length a0_Log_c, .slice a0_Lasts_o a0_Lasts.length a0_Lasts_c, .slice a0_Items_o a0_Items.length a0_Items_c]), (5, .cells ((fr12 2).x) 26 [.int .i64 a0_Tail.Epoch, .int .i64 a0_Tail.N])]) (RunsTo.mk [(1, { act := .load 4 0 0 [] }), (2, { act := .new .var, key := some 5 }), (3, { act := .store 0 0 [], key := some 5 })] [1, 3] [1, 2, 3, 4, 5] (fun fr12 => [(fr1 0).x = (fr1 0).x, (fr12 2).x = (fr12 2).x, ((.agg #[.int .i64 a0_Tail.Epoch, .int .i64 a0_Tail.N]) : Value).cells.toList.all Value.oneCell' = true]) (fun fr12 => by kernel_rfl) (fun fr12 => ⟨rfl, rfl, rfl, trivial⟩)) ?_
      intro fr12
      refine GS.seq ?_
      refine GS.seq ?_
      refine GS.region (env' := fun _ => [(1, .pointer (some ⟨(fr1 0).x, 0, none⟩)), (3, .pointer (some ⟨(fr12 2).x, 0, none⟩)), (27, .slice a0_Log_o a0_Log.length a0_Log_c), (28, .int .i64 ((a0_Log.length : Nat) : Int)), (29, .int .i64 0)]) (mem' := fun _ => [(1, r58 a0_Log_o a0_Log), (2, r78 a0_Lasts_o a0_Lasts), (3, r48 a0_Items_o a0_Items), (4, .cells ((fr1 0).x) 31 [.int .i64 a0_Les, .int .i64 a0_Tail.Epoch, .int .i64 a0_Tail.N, .slice a0_Log_o a0_Log.length a0_Log_c, .slice a0_Lasts_o a0_Lasts.length a0_Lasts_c, .slice a0_Items_o a0_Items.length a0_Items_c]), (5, .cells ((fr12 2).x) 26 [.int .i64 a0_Tail.Epoch, .int .i64 a0_Tail.N])]) (RunsTo.mk [(1, { act := .load 4 0 0 [] })] [1, 3, 27, 28, 29] [1, 2, 3, 4, 5] (fun _ => [(fr1 0).x = (fr1 0).x]) (fun _ => by kernel_rfl) (fun _ => ⟨rfl, trivial⟩)) ?_
      intro _
      refine GS.block ?_
      refine GS.loop ?_
      refine grd_elim hm (fun g50 hm => ?_)
      refine GS.rekey (env' := [(1, .pointer (some ⟨(fr1 0).x, 0, none⟩)), (3, .pointer (some ⟨(fr12 2).x, 0, none⟩)), (27, .slice a0_Log_o a0_Log.length a0_Log_c), (28, .int .i64 ((a0_Log.length : Nat) : Int)), (29, .int .i64 0)]) (mem' := [(1, r58 a0_Log_o a0_Log), (2, r78 a0_Lasts_o a0_Lasts), (3, r48 a0_Items_o a0_Items), (4, .cells ((fr1 0).x) 31 [.int .i64 a0_Les, .int .i64 a0_Tail.Epoch, .int .i64 a0_Tail.N, .slice a0_Log_o a0_Log.length a0_Log_c, .slice a0_Lasts_o a0_Lasts.length a0_Lasts_c, .slice a0_Items_o a0_Items.length a0_Items_c]), (5, .cells ((fr12 2).x) 26 [.int .i64 a0_Tail.Epoch, .int .i64 a0_Tail.N])]) [1, 3, 27, 28, 29] [(1, 1), (2, 2), (3, 3), (4, 4), (5, 5)] (by kernel_rfl) (by kernel_rfl) rfl ?_
      refine loopL_elim hm (fun st73 fn74 hst75 hfn76 hm => ?_)
      refine GS.loopInv (ι := List S_api_Entry × Nat × Int × Int) (I := fun ⟨rs71, v29_2, c5_0_2, c5_1_2⟩ => a0_Log.drop v29_2 = rs71 ∧ loopL st73 fn74 rs71 v29_2 (c5_0_2, c5_1_2) = some y) (μ := fun ⟨rs71, v29_2, c5_0_2, c5_1_2⟩ => rs71.length) (E := fun ⟨rs71, v29_2, c5_0_2, c5_1_2⟩ => [(1, .pointer (some ⟨(fr1 0).x, 0, none⟩)), (3, .pointer (some ⟨(fr12 2).x, 0, none⟩)), (27, .slice a0_Log_o a0_Log.length a0_Log_c), (28, .int .i64 ((a0_Log.length : Nat) : Int)), (29, .int .i64 ((v29_2 : Nat) : Int))]) (M := fun ⟨rs71, v29_2, c5_0_2, c5_1_2⟩ => [(1, r58 a0_Log_o a0_Log), (2, r78 a0_Lasts_o a0_Lasts), (3, r48 a0_Items_o a0_Items), (4, .cells ((fr1 0).x) 31 [.int .i64 a0_Les, .int .i64 a0_Tail.Epoch, .int .i64 a0_Tail.N, .slice a0_Log_o a0_Log.length a0_Log_c, .slice a0_Lasts_o a0_Lasts.length a0_Lasts_c, .slice a0_Items_o a0_Items.length a0_Items_c]), (5, .cells ((fr12 2).x) 26 [.int .i64 c5_0_2, .int .i64 c5_1_2])]) ?_ ⟨a0_Log, 0, a0_Tail.Epoch, a0_Tail.N⟩ ⟨List.drop_zero .., hm⟩
      rintro ⟨rs71, v29_2, c5_0_2, c5_1_2⟩ ⟨hd49, hm⟩ ih72
      cases rs71 with
      | nil =>
        replace hm := (hfn76 _ _).symm.trans hm
        try dsimp only at hm
        refine GS.seq ?_
        refine GS.region (env' := fun _ => [(1, .pointer (some ⟨(fr1 0).x, 0, none⟩)), (3, .pointer (some ⟨(fr12 2).x, 0, none⟩)), (27, .slice a0_Log_o a0_Log.length a0_Log_c), (28, .int .i64 ((a0_Log.length : Nat) : Int)), (29, .int .i64 ((v29_2 : Nat) : Int)), (30, .bool (decide (((v29_2 : Nat) : Int) < ((a0_Log.length : Nat) : Int))))]) (mem' := fun _ => [(1, r58 a0_Log_o a0_Log), (2, r78 a0_Lasts_o a0_Lasts), (3, r48 a0_Items_o a0_Items), (4, .cells ((fr1 0).x) 31 [.int .i64 a0_Les, .int .i64 a0_Tail.Epoch, .int .i64 a0_Tail.N, .slice a0_Log_o a0_Log.length a0_Log_c, .slice a0_Lasts_o a0_Lasts.length a0_Lasts_c, .slice a0_Items_o a0_Items.length a0_Items_c]), (5, .cells ((fr12 2).x) 26 [.int .i64 c5_0_2, .int .i64 c5_1_2])]) (RunsTo.mk [] [1, 3, 27, 28, 29, 30] [1, 2, 3, 4, 5] (fun _ => []) (fun _ => by kernel_rfl) (fun _ => trivial)) ?_
        intro _
        refine GS.seq ?_
        refine GS.cond (t := decide (((v29_2 : Nat) : Int) < ((a0_Log.length : Nat) : Int))) rfl rfl (fun h69 => absb h69 (drop_dec0 hd49)) (fun _ => ?_)
        refine GS.exit rfl ?_
        refine GS.seq ?_
        refine GS.seq ?_
        refine GS.region (env' := fun _ => [(1, .pointer (some ⟨(fr1 0).x, 0, none⟩)), (3, .pointer (some ⟨(fr12 2).x, 0, none⟩)), (47, .slice a0_Items_o a0_Items.length a0_Items_c), (48, .int .i64 ((a0_Items.length : Nat) : Int)), (49, .int .i64 0)]) (mem' := fun _ => [(1, r58 a0_Log_o a0_Log), (2, r78 a0_Lasts_o a0_Lasts), (3, r48 a0_Items_o a0_Items), (4, .cells ((fr1 0).x) 31 [.int .i64 a0_Les, .int .i64 a0_Tail.Epoch, .int .i64 a0_Tail.N, .slice a0_Log_o a0_Log.length a0_Log_c, .slice a0_Lasts_o a0_Lasts.length a0_Lasts_c, .slice a0_Items_o a0_Items.length a0_Items_c]), (5, .cells ((fr12 2).x) 26 [.int .i64 c5_0_2, .int .i64 c5_1_2])]) (RunsTo.mk [(1, { act := .load 4 0 0 [] })] [1, 3, 47, 48, 49] [1, 2, 3, 4, 5] (fun _ => [(fr1 0).x = (fr1 0).x]) (fun _ => by kernel_rfl) (fun _ => ⟨rfl, trivial⟩)) ?_
        intro _
        refine GS.block ?_
        refine GS.loop ?_
        refine grd_elim hm (fun g123 hm => ?_)
        refine GS.rekey (env' := [(1, .pointer (some ⟨(fr1 0).x, 0, none⟩)), (3, .pointer (some ⟨(fr12 2).x, 0, none⟩)), (47, .slice a0_Items_o a0_Items.length a0_Items_c), (48, .int .i64 ((a0_Items.length : Nat) : Int)), (49, .int .i64 0)]) (mem' := [(1, r58 a0_Log_o a0_Log), (2, r78 a0_Lasts_o a0_Lasts), (3, r48 a0_Items_o a0_Items), (4, .cells ((fr1 0).x) 31 [.int .i64 a0_Les, .int .i64 a0_Tail.Epoch, .int .i64 a0_Tail.N, .slice a0_Log_o a0_Log.length a0_Log_c, .slice a0_Lasts_o a0_Lasts.length a0_Lasts_c, .slice a0_Items_o a0_Items.length a0_Items_c]), (5, .cells ((fr12 2).x) 26 [.int .i64 c5_0_2, .int .i64 c5_1_2])]) [1, 3, 47, 48, 49] [(1, 1), (2, 2), (3, 3), (4, 4), (5, 5)] (by kernel_rfl) (by kernel_rfl) rfl ?_
        refine loopL_elim hm (fun st151 fn152 hst153 hfn154 hm => ?_)
        refine GS.loopInv (ι := List S_api_Item × Nat) (I := fun ⟨rs149, v49_6⟩ => a0_Items.drop v49_6 = rs149 ∧ loopL st151 fn152 rs149 v49_6 () = some y) (μ := fun ⟨rs149, v49_6⟩ => rs149.length) (E := fun ⟨rs149, v49_6⟩ => [(1, .pointer (some ⟨(fr1 0).x, 0, none⟩)), (3, .pointer (some ⟨(fr12 2).x, 0, none⟩)), (47, .slice a0_Items_o a0_Items.length a0_Items_c), (48, .int .i64 ((a0_Items.length : Nat) : Int)), (49, .int .i64 ((v49_6 : Nat) : Int))]) (M := fun ⟨rs149, v49_6⟩ => [(1, r58 a0_Log_o a0_Log), (2, r78 a0_Lasts_o a0_Lasts), (3, r48 a0_Items_o a0_Items), (4, .cells ((fr1 0).x) 31 [.int .i64 a0_Les, .int .i64 a0_Tail.Epoch, .int .i64 a0_Tail.N, .slice a0_Log_o a0_Log.length a0_Log_c, .slice a0_Lasts_o a0_Lasts.length a0_Lasts_c, .slice a0_Items_o a0_Items.length a0_Items_c]), (5, .cells ((fr12 2).x) 26 [.int .i64 c5_0_2, .int .i64 c5_1_2])]) ?_ ⟨a0_Items, 0⟩ ⟨List.drop_zero .., hm⟩
        rintro ⟨rs149, v49_6⟩ ⟨hd122, hm⟩ ih150
        cases rs149 with
        | nil =>
          replace hm := (hfn154 _ _).symm.trans hm
          try dsimp only at hm
          refine GS.seq ?_
          refine GS.region (env' := fun _ => [(1, .pointer (some ⟨(fr1 0).x, 0, none⟩)), (3, .pointer (some ⟨(fr12 2).x, 0, none⟩)), (47, .slice a0_Items_o a0_Items.length a0_Items_c), (48, .int .i64 ((a0_Items.length : Nat) : Int)), (49, .int .i64 ((v49_6 : Nat) : Int)), (50, .bool (decide (((v49_6 : Nat) : Int) < ((a0_Items.length : Nat) : Int))))]) (mem' := fun _ => [(1, r58 a0_Log_o a0_Log), (2, r78 a0_Lasts_o a0_Lasts), (3, r48 a0_Items_o a0_Items), (4, .cells ((fr1 0).x) 31 [.int .i64 a0_Les, .int .i64 a0_Tail.Epoch, .int .i64 a0_Tail.N, .slice a0_Log_o a0_Log.length a0_Log_c, .slice a0_Lasts_o a0_Lasts.length a0_Lasts_c, .slice a0_Items_o a0_Items.length a0_Items_c]), (5, .cells ((fr12 2).x) 26 [.int .i64 c5_0_2, .int .i64 c5_1_2])]) (RunsTo.mk [] [1, 3, 47, 48, 49, 50] [1, 2, 3, 4, 5] (fun _ => []) (fun _ => by kernel_rfl) (fun _ => trivial)) ?_
          intro _
          refine GS.seq ?_
          refine GS.cond (t := decide (((v49_6 : Nat) : Int) < ((a0_Items.length : Nat) : Int))) rfl rfl (fun h147 => absb h147 (drop_dec0 hd122)) (fun _ => ?_)
          refine GS.exit rfl ?_
          refine GS.seq ?_
          refine GS.seq ?_
          refine GS.region (env' := fun _ => [(1, .pointer (some ⟨(fr1 0).x, 0, none⟩)), (3, .pointer (some ⟨(fr12 2).x, 0, none⟩)), (94, .slice a0_Lasts_o a0_Lasts.length a0_Lasts_c), (95, .int .i64 ((a0_Lasts.length : Nat) : Int)), (96, .int .i64 0)]) (mem' := fun _ => [(1, r58 a0_Log_o a0_Log), (2, r78 a0_Lasts_o a0_Lasts), (3, r48 a0_Items_o a0_Items), (4, .cells ((fr1 0).x) 31 [.int .i64 a0_Les, .int .i64 a0_Tail.Epoch, .int .i64 a0_Tail.N, .slice a0_Log_o a0_Log.length a0_Log_c, .slice a0_Lasts_o a0_Lasts.length a0_Lasts_c, .slice a0_Items_o a0_Items.length a0_Items_c]), (5, .cells ((fr12 2).x) 26 [.int .i64 c5_0_2, .int .i64 c5_1_2])]) (RunsTo.mk [(1, { act := .load 4 0 0 [] })] [1, 3, 94, 95, 96] [1, 2, 3, 4, 5] (fun _ => [(fr1 0).x = (fr1 0).x]) (fun _ => by kernel_rfl) (fun _ => ⟨rfl, trivial⟩)) ?_
          intro _
          refine GS.block ?_
          refine GS.loop ?_
          refine grd_elim hm (fun g193 hm => ?_)
          refine GS.rekey (env' := [(1, .pointer (some ⟨(fr1 0).x, 0, none⟩)), (3, .pointer (some ⟨(fr12 2).x, 0, none⟩)), (94, .slice a0_Lasts_o a0_Lasts.length a0_Lasts_c), (95, .int .i64 ((a0_Lasts.length : Nat) : Int)), (96, .int .i64 0)]) (mem' := [(1, r58 a0_Log_o a0_Log), (2, r78 a0_Lasts_o a0_Lasts), (3, r48 a0_Items_o a0_Items), (4, .cells ((fr1 0).x) 31 [.int .i64 a0_Les, .int .i64 a0_Tail.Epoch, .int .i64 a0_Tail.N, .slice a0_Log_o a0_Log.length a0_Log_c, .slice a0_Lasts_o a0_Lasts.length a0_Lasts_c, .slice a0_Items_o a0_Items.length a0_Items_c]), (5, .cells ((fr12 2).x) 26 [.int .i64 c5_0_2, .int .i64 c5_1_2])]) [1, 3, 94, 95, 96] [(1, 1), (2, 2), (3, 3), (4, 4), (5, 5)] (by kernel_rfl) (by kernel_rfl) rfl ?_
          refine loopL_elim hm (fun st217 fn218 hst219 hfn220 hm => ?_)
          refine GS.loopInv (ι := List S_api_Last × Nat) (I := fun ⟨rs215, v96_10⟩ => a0_Lasts.drop v96_10 = rs215 ∧ loopL st217 fn218 rs215 v96_10 () = some y) (μ := fun ⟨rs215, v96_10⟩ => rs215.length) (E := fun ⟨rs215, v96_10⟩ => [(1, .pointer (some ⟨(fr1 0).x, 0, none⟩)), (3, .pointer (some ⟨(fr12 2).x, 0, none⟩)), (94, .slice a0_Lasts_o a0_Lasts.length a0_Lasts_c), (95, .int .i64 ((a0_Lasts.length : Nat) : Int)), (96, .int .i64 ((v96_10 : Nat) : Int))]) (M := fun ⟨rs215, v96_10⟩ => [(1, r58 a0_Log_o a0_Log), (2, r78 a0_Lasts_o a0_Lasts), (3, r48 a0_Items_o a0_Items), (4, .cells ((fr1 0).x) 31 [.int .i64 a0_Les, .int .i64 a0_Tail.Epoch, .int .i64 a0_Tail.N, .slice a0_Log_o a0_Log.length a0_Log_c, .slice a0_Lasts_o a0_Lasts.length a0_Lasts_c, .slice a0_Items_o a0_Items.length a0_Items_c]), (5, .cells ((fr12 2).x) 26 [.int .i64 c5_0_2, .int .i64 c5_1_2])]) ?_ ⟨a0_Lasts, 0⟩ ⟨List.drop_zero .., hm⟩
          rintro ⟨rs215, v96_10⟩ ⟨hd192, hm⟩ ih216
          cases rs215 with
          | nil =>
            replace hm := (hfn220 _ _).symm.trans hm
            try dsimp only at hm
            refine GS.seq ?_
            refine GS.region (env' := fun _ => [(1, .pointer (some ⟨(fr1 0).x, 0, none⟩)), (3, .pointer (some ⟨(fr12 2).x, 0, none⟩)), (94, .slice a0_Lasts_o a0_Lasts.length a0_Lasts_c), (95, .int .i64 ((a0_Lasts.length : Nat) : Int)), (96, .int .i64 ((v96_10 : Nat) : Int)), (97, .bool (decide (((v96_10 : Nat) : Int) < ((a0_Lasts.length : Nat) : Int))))]) (mem' := fun _ => [(1, r58 a0_Log_o a0_Log), (2, r78 a0_Lasts_o a0_Lasts), (3, r48 a0_Items_o a0_Items), (4, .cells ((fr1 0).x) 31 [.int .i64 a0_Les, .int .i64 a0_Tail.Epoch, .int .i64 a0_Tail.N, .slice a0_Log_o a0_Log.length a0_Log_c, .slice a0_Lasts_o a0_Lasts.length a0_Lasts_c, .slice a0_Items_o a0_Items.length a0_Items_c]), (5, .cells ((fr12 2).x) 26 [.int .i64 c5_0_2, .int .i64 c5_1_2])]) (RunsTo.mk [] [1, 3, 94, 95, 96, 97] [1, 2, 3, 4, 5] (fun _ => []) (fun _ => by kernel_rfl) (fun _ => trivial)) ?_
            intro _
            refine GS.seq ?_
            refine GS.cond (t := decide (((v96_10 : Nat) : Int) < ((a0_Lasts.length : Nat) : Int))) rfl rfl (fun h213 => absb h213 (drop_dec0 hd192)) (fun _ => ?_)
            refine GS.exit rfl ?_
            refine GS.seq ?_
            refine GS.region (env' := fun _ => [(2, .int .i64 0)]) (mem' := fun _ => []) (RunsTo.mk [] [2] [] (fun _ => []) (fun _ => by kernel_rfl) (fun _ => trivial)) ?_
            intro _
            have hy := Option.some.inj hm
            subst hy
            refine GS.ret (fn := Try.f22) [0] [.int .i64 0] [] rfl Try.func22 (by kernel_rfl) trivial (fun w' hs => ?_)
            exact ⟨(), rfl, hs.turnedG (ks := []) rfl rfl⟩
          | cons x194 rs215 =>
            replace hm := (hst219 _ _ _ _).symm.trans hm
            try dsimp only at hm
            refine GS.seq ?_
            refine GS.region (env' := fun _ => [(1, .pointer (some ⟨(fr1 0).x, 0, none⟩)), (3, .pointer (some ⟨(fr12 2).x, 0, none⟩)), (94, .slice a0_Lasts_o a0_Lasts.length a0_Lasts_c), (95, .int .i64 ((a0_Lasts.length : Nat) : Int)), (96, .int .i64 ((v96_10 : Nat) : Int)), (97, .bool (decide (((v96_10 : Nat) : Int) < ((a0_Lasts.length : Nat) : Int))))]) (mem' := fun _ => [(1, r58 a0_Log_o a0_Log), (2, r78 a0_Lasts_o a0_Lasts), (3, r48 a0_Items_o a0_Items), (4, .cells ((fr1 0).x) 31 [.int .i64 a0_Les, .int .i64 a0_Tail.Epoch, .int .i64 a0_Tail.N, .slice a0_Log_o a0_Log.length a0_Log_c, .slice a0_Lasts_o a0_Lasts.length a0_Lasts_c, .slice a0_Items_o a0_Items.length a0_Items_c]), (5, .cells ((fr12 2).x) 26 [.int .i64 c5_0_2, .int .i64 c5_1_2])]) (RunsTo.mk [] [1, 3, 94, 95, 96, 97] [1, 2, 3, 4, 5] (fun _ => []) (fun _ => by kernel_rfl) (fun _ => trivial)) ?_
            intro _
            refine GS.seq ?_
            refine GS.cond (t := decide (((v96_10 : Nat) : Int) < ((a0_Lasts.length : Nat) : Int))) rfl rfl (fun _ => ?_) (fun h196 => absb (drop_dec hd192) h196)
            refine GS.skip ?_
            refine GS.seq ?_
            refine GS.block ?_
            refine GS.seq ?_
            refine GS.region (env' := fun fr197 => [(1, .pointer (some ⟨(fr1 0).x, 0, none⟩)), (3, .pointer (some ⟨(fr12 2).x, 0, none⟩)), (8, .int .i64 ((v96_10 : Nat) : Int)), (9, .pointer (some ⟨(fr197 3).x, 0, none⟩)), (94, .slice a0_Lasts_o a0_Lasts.length a0_Lasts_c), (95, .int .i64 ((a0_Lasts.length : Nat) : Int)), (96, .int .i64 ((v96_10 : Nat) : Int))]) (mem' := fun fr197 => [(1, r58 a0_Log_o a0_Log), (2, r78 a0_Lasts_o a0_Lasts), (3, r48 a0_Items_o a0_Items), (4, .cells ((fr1 0).x) 31 [.int .i64 a0_Les, .int .i64 a0_Tail.Epoch, .int .i64 a0_Tail.N, .slice a0_Log_o a0_Log.length a0_Log_c, .slice a0_Lasts_o a0_Lasts.length a0_Lasts_c, .slice a0_Items_o a0_Items.length a0_Items_c]), (5, .cells ((fr12 2).x) 26 [.int .i64 c5_0_2, .int .i64 c5_1_2]), (6, .cells ((fr197 3).x) 78 [.int .i64 x194.Client, .int .i64 x194.Number, .int .i64 x194.Errno, .int .i64 x194.Version.Epoch, .int .i64 x194.Version.N])]) (RunsTo.mk [(1, { act := .idx 2 v96_10 }), (2, { act := .load 2 v96_10 0 [.int .i64 x194.Client, .int .i64 x194.Number, .int .i64 x194.Errno, .int .i64 x194.Version.Epoch, .int .i64 x194.Version.N] }), (3, { act := .new .var, key := some 6 }), (5, { act := .store 0 0 [], key := some 6 })] [1, 3, 8, 9, 94, 95, 96] [1, 2, 3, 4, 5, 6] (fun fr197 => [a0_Lasts_o = a0_Lasts_o, a0_Lasts.length = (List.map S_api_Last.row a0_Lasts).length, (((v96_10 : Nat) : Int) : Int) = ((v96_10 : Nat) : Int), v96_10 < a0_Lasts.length, blk a0_Lasts_o = blk a0_Lasts_o, offs a0_Lasts_o + v96_10 * 5 = offs a0_Lasts_o + (v96_10 * 5 + 0), (List.map S_api_Last.row a0_Lasts)[v96_10]? = some [.int .i64 x194.Client, .int .i64 x194.Number, .int .i64 x194.Errno, .int .i64 x194.Version.Epoch, .int .i64 x194.Version.N], (fr197 3).x = (fr197 3).x, ((.agg #[.int .i64 x194.Client, .int .i64 x194.Number, .int .i64 x194.Errno, .int .i64 x194.Version.Epoch, .int .i64 x194.Version.N]) : Value).cells.toList.all Value.oneCell' = true]) (fun fr197 => by kernel_rfl) (fun fr197 => ⟨rfl, mlen S_api_Last.row a0_Lasts, rfl, (drop_lt hd192), rfl, rfl, map_drop S_api_Last.row hd192, rfl, rfl, trivial⟩)) ?_
            intro fr197
            refine GS.seq ?_
            refine jn_elim hm (fun J206 hJ208 hm => ?_)
            refine GS.cut (ι := Bool) (I := fun (v126_13 : Bool) => J206 v126_13 = some y) (E := fun (v126_13 : Bool) => [(1, .pointer (some ⟨(fr1 0).x, 0, none⟩)), (3, .pointer (some ⟨(fr12 2).x, 0, none⟩)), (94, .slice a0_Lasts_o a0_Lasts.length a0_Lasts_c), (95, .int .i64 ((a0_Lasts.length : Nat) : Int)), (96, .int .i64 ((v96_10 : Nat) : Int)), (126, .bool v126_13)]) (M := fun (v126_13 : Bool) => [(1, r58 a0_Log_o a0_Log), (2, r78 a0_Lasts_o a0_Lasts), (3, r48 a0_Items_o a0_Items), (4, .cells ((fr1 0).x) 31 [.int .i64 a0_Les, .int .i64 a0_Tail.Epoch, .int .i64 a0_Tail.N, .slice a0_Log_o a0_Log.length a0_Log_c, .slice a0_Lasts_o a0_Lasts.length a0_Lasts_c, .slice a0_Items_o a0_Items.length a0_Items_c]), (5, .cells ((fr12 2).x) 26 [.int .i64 c5_0_2, .int .i64 c5_1_2])]) ?_ ?_
            rotate_left
            · intro H207
              refine bnd_elim hm (fun y199 e200 hm => ?_)
              refine br_elim hm (fun h201 hm => ?_) (fun h201 hm => ?_)
              · skip
                refine GS.region (env' := fun _ => [(1, .pointer (some ⟨(fr1 0).x, 0, none⟩)), (3, .pointer (some ⟨(fr12 2).x, 0, none⟩)), (94, .slice a0_Lasts_o a0_Lasts.length a0_Lasts_c), (95, .int .i64 ((a0_Lasts.length : Nat) : Int)), (96, .int .i64 ((v96_10 : Nat) : Int)), (126, .bool true)]) (mem' := fun _ => [(1, r58 a0_Log_o a0_Log), (2, r78 a0_Lasts_o a0_Lasts), (3, r48 a0_Items_o a0_Items), (4, .cells ((fr1 0).x) 31 [.int .i64 a0_Les, .int .i64 a0_Tail.Epoch, .int .i64 a0_Tail.N, .slice a0_Log_o a0_Log.length a0_Log_c, .slice a0_Lasts_o a0_Lasts.length a0_Lasts_c, .slice a0_Items_o a0_Items.length a0_Items_c]), (5, .cells ((fr12 2).x) 26 [.int .i64 c5_0_2, .int .i64 c5_1_2])]) (RunsTo.mkd [(1, { act := .load 6 0 0 [] }), (2, { act := .call [] (.bool y199) }), (3, { sp := some (.bool true) })] [1, 3, 94, 95, 96, 126] [1, 2, 3, 4, 5] (fun _ => [(fr197 3).x = (fr197 3).x, CallOK Try.prog 39 #[.agg #[.int .i64 x194.Version.Epoch, .int .i64 x194.Version.N]] (.bool y199) [], ((.bool y199) : Value) = .bool true]) (by kernel_rfl) (by kernel_rfl) (fun _ => by kernel_rfl) (fun _ => ⟨rfl, (w_tholeref13_below F x194.Version e200).ok trivial, bool_eq h201, trivial⟩)) ?_
                intro _
                refine GS.rekey (env' := [(1, .pointer (some ⟨(fr1 0).x, 0, none⟩)), (3, .pointer (some ⟨(fr12 2).x, 0, none⟩)), (94, .slice a0_Lasts_o a0_Lasts.length a0_Lasts_c), (95, .int .i64 ((a0_Lasts.length : Nat) : Int)), (96, .int .i64 ((v96_10 : Nat) : Int)), (126, .bool true)]) (mem' := [(1, r58 a0_Log_o a0_Log), (2, r78 a0_Lasts_o a0_Lasts), (3, r48 a0_Items_o a0_Items), (4, .cells ((fr1 0).x) 31 [.int .i64 a0_Les, .int .i64 a0_Tail.Epoch, .int .i64 a0_Tail.N, .slice a0_Log_o a0_Log.length a0_Log_c, .slice a0_Lasts_o a0_Lasts.length a0_Lasts_c, .slice a0_Items_o a0_Items.length a0_Items_c]), (5, .cells ((fr12 2).x) 26 [.int .i64 c5_0_2, .int .i64 c5_1_2])]) [1, 3, 94, 95, 96, 126] [(1, 1), (2, 2), (3, 3), (4, 4), (5, 5)] (by kernel_rfl) (by kernel_rfl) rfl ?_
                exact H207 true hm
              · skip
                refine bnd_elim hm (fun y202 e203 hm => ?_)
                refine br_elim hm (fun h204 hm => ?_) (fun h204 hm => ?_)
                · skip
                  refine GS.region (env' := fun _ => [(1, .pointer (some ⟨(fr1 0).x, 0, none⟩)), (3, .pointer (some ⟨(fr12 2).x, 0, none⟩)), (94, .slice a0_Lasts_o a0_Lasts.length a0_Lasts_c), (95, .int .i64 ((a0_Lasts.length : Nat) : Int)), (96, .int .i64 ((v96_10 : Nat) : Int)), (126, .bool true)]) (mem' := fun _ => [(1, r58 a0_Log_o a0_Log), (2, r78 a0_Lasts_o a0_Lasts), (3, r48 a0_Items_o a0_Items), (4, .cells ((fr1 0).x) 31 [.int .i64 a0_Les, .int .i64 a0_Tail.Epoch, .int .i64 a0_Tail.N, .slice a0_Log_o a0_Log.length a0_Log_c, .slice a0_Lasts_o a0_Lasts.length a0_Lasts_c, .slice a0_Items_o a0_Items.length a0_Items_c]), (5, .cells ((fr12 2).x) 26 [.int .i64 c5_0_2, .int .i64 c5_1_2])]) (RunsTo.mkd [(1, { act := .load 6 0 0 [] }), (2, { act := .call [] (.bool y199) }), (3, { sp := some (.bool false) }), (5, { act := .load 6 0 0 [] }), (6, { act := .load 5 0 0 [] }), (7, { act := .call [] (.int .i64 y202) }), (10, { sp := some (.bool true) })] [1, 3, 94, 95, 96, 126] [1, 2, 3, 4, 5] (fun _ => [(fr197 3).x = (fr197 3).x, CallOK Try.prog 39 #[.agg #[.int .i64 x194.Version.Epoch, .int .i64 x194.Version.N]] (.bool y199) [], ((.bool y199) : Value) = .bool false, (fr197 3).x = (fr197 3).x, (fr12 2).x = (fr12 2).x, CallOK Try.prog 40 #[.agg #[.int .i64 x194.Version.Epoch, .int .i64 x194.Version.N], .agg #[.int .i64 c5_0_2, .int .i64 c5_1_2]] (.int .i64 y202) [], ((.bool (decide (y202 > 0))) : Value) = .bool true]) (by kernel_rfl) (by kernel_rfl) (fun _ => by kernel_rfl) (fun _ => ⟨rfl, (w_tholeref13_below F x194.Version e200).ok trivial, bool_eq h201, rfl, rfl, (w_tholeref13_Cmp F x194.Version (S_api_Version.mk c5_0_2 c5_1_2) e203).ok trivial, bool_eq h204, trivial⟩)) ?_
                  intro _
                  refine GS.rekey (env' := [(1, .pointer (some ⟨(fr1 0).x, 0, none⟩)), (3, .pointer (some ⟨(fr12 2).x, 0, none⟩)), (94, .slice a0_Lasts_o a0_Lasts.length a0_Lasts_c), (95, .int .i64 ((a0_Lasts.length : Nat) : Int)), (96, .int .i64 ((v96_10 : Nat) : Int)), (126, .bool true)]) (mem' := [(1, r58 a0_Log_o a0_Log), (2, r78 a0_Lasts_o a0_Lasts), (3, r48 a0_Items_o a0_Items), (4, .cells ((fr1 0).x) 31 [.int .i64 a0_Les, .int .i64 a0_Tail.Epoch, .int .i64 a0_Tail.N, .slice a0_Log_o a0_Log.length a0_Log_c, .slice a0_Lasts_o a0_Lasts.length a0_Lasts_c, .slice a0_Items_o a0_Items.length a0_Items_c]), (5, .cells ((fr12 2).x) 26 [.int .i64 c5_0_2, .int .i64 c5_1_2])]) [1, 3, 94, 95, 96, 126] [(1, 1), (2, 2), (3, 3), (4, 4), (5, 5)] (by kernel_rfl) (by kernel_rfl) rfl ?_
                  exact H207 true hm
                · skip
                  refine br_elim hm (fun h205 hm => ?_) (fun h205 hm => ?_)
                  · skip
                    refine grd_elim hm (fun g206 hm => ?_)
                    refine grd_elim hm (fun g207 hm => ?_)
                    refine GS.region (env' := fun _ => [(1, .pointer (some ⟨(fr1 0).x, 0, none⟩)), (3, .pointer (some ⟨(fr12 2).x, 0, none⟩)), (94, .slice a0_Lasts_o a0_Lasts.length a0_Lasts_c), (95, .int .i64 ((a0_Lasts.length : Nat) : Int)), (96, .int .i64 ((v96_10 : Nat) : Int)), (126, .bool (decide (((a0_Lasts.getD (Int.toNat (((v96_10 : Nat) : Int) - 1)) dS_api_Last).Client) ≥ x194.Client)))]) (mem' := fun _ => [(1, r58 a0_Log_o a0_Log), (2, r78 a0_Lasts_o a0_Lasts), (3, r48 a0_Items_o a0_Items), (4, .cells ((fr1 0).x) 31 [.int .i64 a0_Les, .int .i64 a0_Tail.Epoch, .int .i64 a0_Tail.N, .slice a0_Log_o a0_Log.length a0_Log_c, .slice a0_Lasts_o a0_Lasts.length a0_Lasts_c, .slice a0_Items_o a0_Items.length a0_Items_c]), (5, .cells ((fr12 2).x) 26 [.int .i64 c5_0_2, .int .i64 c5_1_2])]) (RunsTo.mkd [(1, { act := .load 6 0 0 [] }), (2, { act := .call [] (.bool y199) }), (3, { sp := some (.bool false) }), (5, { act := .load 6 0 0 [] }), (6, { act := .load 5 0 0 [] }), (7, { act := .call [] (.int .i64 y202) }), (10, { sp := some (.bool false) }), (13, { sp := some (.bool true) }), (15, { act := .load 4 0 0 [] }), (17, { sp := some (.int .i64 (((v96_10 : Nat) : Int) - 1)) }), (18, { act := .idx 2 (Int.toNat (((v96_10 : Nat) : Int) - 1)) }), (20, { act := .load 2 (Int.toNat (((v96_10 : Nat) : Int) - 1)) 0 [.int .i64 ((a0_Lasts.getD (Int.toNat (((v96_10 : Nat) : Int) - 1)) dS_api_Last).Client), .int .i64 ((a0_Lasts.getD (Int.toNat (((v96_10 : Nat) : Int) - 1)) dS_api_Last).Number), .int .i64 ((a0_Lasts.getD (Int.toNat (((v96_10 : Nat) : Int) - 1)) dS_api_Last).Errno), .int .i64 (((a0_Lasts.getD (Int.toNat (((v96_10 : Nat) : Int) - 1)) dS_api_Last).Version).Epoch), .int .i64 (((a0_Lasts.getD (Int.toNat (((v96_10 : Nat) : Int) - 1)) dS_api_Last).Version).N)] }), (22, { act := .load 6 0 0 [] })] [1, 3, 94, 95, 96, 126] [1, 2, 3, 4, 5] (fun _ => [(fr197 3).x = (fr197 3).x, CallOK Try.prog 39 #[.agg #[.int .i64 x194.Version.Epoch, .int .i64 x194.Version.N]] (.bool y199) [], ((.bool y199) : Value) = .bool false, (fr197 3).x = (fr197 3).x, (fr12 2).x = (fr12 2).x, CallOK Try.prog 40 #[.agg #[.int .i64 x194.Version.Epoch, .int .i64 x194.Version.N], .agg #[.int .i64 c5_0_2, .int .i64 c5_1_2]] (.int .i64 y202) [], ((.bool (decide (y202 > 0))) : Value) = .bool false, ((.bool (decide (((v96_10 : Nat) : Int) > 0))) : Value) = .bool true, (fr1 0).x = (fr1 0).x, ((.int .i64 (IntKind.i64.wrap (((v96_10 : Nat) : Int) - 1))) : Value) = .int .i64 (((v96_10 : Nat) : Int) - 1), a0_Lasts_o = a0_Lasts_o, a0_Lasts.length = (List.map S_api_Last.row a0_Lasts).length, ((((v96_10 : Nat) : Int) - 1) : Int) = (((Int.toNat (((v96_10 : Nat) : Int) - 1)) : Nat) : Int), (Int.toNat (((v96_10 : Nat) : Int) - 1)) < a0_Lasts.length, blk a0_Lasts_o = blk a0_Lasts_o, offs a0_Lasts_o + (Int.toNat (((v96_10 : Nat) : Int) - 1)) * 5 = offs a0_Lasts_o + ((Int.toNat (((v96_10 : Nat) : Int) - 1)) * 5 + 0), (List.map S_api_Last.row a0_Lasts)[(Int.toNat (((v96_10 : Nat) : Int) - 1))]? = some [.int .i64 ((a0_Lasts.getD (Int.toNat (((v96_10 : Nat) : Int) - 1)) dS_api_Last).Client), .int .i64 ((a0_Lasts.getD (Int.toNat (((v96_10 : Nat) : Int) - 1)) dS_api_Last).Number), .int .i64 ((a0_Lasts.getD (Int.toNat (((v96_10 : Nat) : Int) - 1)) dS_api_Last).Errno), .int .i64 (((a0_Lasts.getD (Int.toNat (((v96_10 : Nat) : Int) - 1)) dS_api_Last).Version).Epoch), .int .i64 (((a0_Lasts.getD (Int.toNat (((v96_10 : Nat) : Int) - 1)) dS_api_Last).Version).N)], (fr197 3).x = (fr197 3).x]) (by kernel_rfl) (by kernel_rfl) (fun _ => by kernel_rfl) (fun _ => ⟨rfl, (w_tholeref13_below F x194.Version e200).ok trivial, bool_eq h201, rfl, rfl, (w_tholeref13_Cmp F x194.Version (S_api_Version.mk c5_0_2 c5_1_2) e203).ok trivial, bool_eq h204, bool_eq h205, rfl, I64.w g206, rfl, mlen S_api_Last.row a0_Lasts, g207.eq, g207.2, rfl, rfl, map_at S_api_Last.row dS_api_Last g207.2, rfl, trivial⟩)) ?_
                    intro _
                    refine GS.rekey (env' := [(1, .pointer (some ⟨(fr1 0).x, 0, none⟩)), (3, .pointer (some ⟨(fr12 2).x, 0, none⟩)), (94, .slice a0_Lasts_o a0_Lasts.length a0_Lasts_c), (95, .int .i64 ((a0_Lasts.length : Nat) : Int)), (96, .int .i64 ((v96_10 : Nat) : Int)), (126, .bool (decide (((a0_Lasts.getD (Int.toNat (((v96_10 : Nat) : Int) - 1)) dS_api_Last).Client) ≥ x194.Client)))]) (mem' := [(1, r58 a0_Log_o a0_Log), (2, r78 a0_Lasts_o a0_Lasts), (3, r48 a0_Items_o a0_Items), (4, .cells ((fr1 0).x) 31 [.int .i64 a0_Les, .int .i64 a0_Tail.Epoch, .int .i64 a0_Tail.N, .slice a0_Log_o a0_Log.length a0_Log_c, .slice a0_Lasts_o a0_Lasts.length a0_Lasts_c, .slice a0_Items_o a0_Items.length a0_Items_c]), (5, .cells ((fr12 2).x) 26 [.int .i64 c5_0_2, .int .i64 c5_1_2])]) [1, 3, 94, 95, 96, 126] [(1, 1), (2, 2), (3, 3), (4, 4), (5, 5)] (by kernel_rfl) (by kernel_rfl) rfl ?_
                    exact H207 (decide (((a0_Lasts.getD (Int.toNat (((v96_10 : Nat) : Int) - 1)) dS_api_Last).Client) ≥ x194.Client)) hm
                  · skip
                    refine GS.region (env' := fun _ => [(1, .pointer (some ⟨(fr1 0).x, 0, none⟩)), (3, .pointer (some ⟨(fr12 2).x, 0, none⟩)), (94, .slice a0_Lasts_o a0_Lasts.length a0_Lasts_c), (95, .int .i64 ((a0_Lasts.length : Nat) : Int)), (96, .int .i64 ((v96_10 : Nat) : Int)), (126, .bool false)]) (mem' := fun _ => [(1, r58 a0_Log_o a0_Log), (2, r78 a0_Lasts_o a0_Lasts), (3, r48 a0_Items_o a0_Items), (4, .cells ((fr1 0).x) 31 [.int .i64 a0_Les, .int .i64 a0_Tail.Epoch, .int .i64 a0_Tail.N, .slice a0_Log_o a0_Log.length a0_Log_c, .slice a0_Lasts_o a0_Lasts.length a0_Lasts_c, .slice a0_Items_o a0_Items.length a0_Items_c]), (5, .cells ((fr12 2).x) 26 [.int .i64 c5_0_2, .int .i64 c5_1_2])]) (RunsTo.mkd [(1, { act := .load 6 0 0 [] }), (2, { act := .call [] (.bool y199) }), (3, { sp := some (.bool false) }), (5, { act := .load 6 0 0 [] }), (6, { act := .load 5 0 0 [] }), (7, { act := .call [] (.int .i64 y202) }), (10, { sp := some (.bool false) }), (13, { sp := some (.bool false) })] [1, 3, 94, 95, 96, 126] [1, 2, 3, 4, 5] (fun _ => [(fr197 3).x = (fr197 3).x, CallOK Try.prog 39 #[.agg #[.int .i64 x194.Version.Epoch, .int .i64 x194.Version.N]] (.bool y199) [], ((.bool y199) : Value) = .bool false, (fr197 3).x = (fr197 3).x, (fr12 2).x = (fr12 2).x, CallOK Try.prog 40 #[.agg #[.int .i64 x194.Version.Epoch, .int .i64 x194.Version.N], .agg #[.int .i64 c5_0_2, .int .i64 c5_1_2]] (.int .i64 y202) [], ((.bool (decide (y202 > 0))) : Value) = .bool false, ((.bool (decide (((v96_10 : Nat) : Int) > 0))) : Value) = .bool false]) (by kernel_rfl) (by kernel_rfl) (fun _ => by kernel_rfl) (fun _ => ⟨rfl, (w_tholeref13_below F x194.Version e200).ok trivial, bool_eq h201, rfl, rfl, (w_tholeref13_Cmp F x194.Version (S_api_Version.mk c5_0_2 c5_1_2) e203).ok trivial, bool_eq h204, bool_eq h205, trivial⟩)) ?_
                    intro _
                    refine GS.rekey (env' := [(1, .pointer (some ⟨(fr1 0).x, 0, none⟩)), (3, .pointer (some ⟨(fr12 2).x, 0, none⟩)), (94, .slice a0_Lasts_o a0_Lasts.length a0_Lasts_c), (95, .int .i64 ((a0_Lasts.length : Nat) : Int)), (96, .int .i64 ((v96_10 : Nat) : Int)), (126, .bool false)]) (mem' := [(1, r58 a0_Log_o a0_Log), (2, r78 a0_Lasts_o a0_Lasts), (3, r48 a0_Items_o a0_Items), (4, .cells ((fr1 0).x) 31 [.int .i64 a0_Les, .int .i64 a0_Tail.Epoch, .int .i64 a0_Tail.N, .slice a0_Log_o a0_Log.length a0_Log_c, .slice a0_Lasts_o a0_Lasts.length a0_Lasts_c, .slice a0_Items_o a0_Items.length a0_Items_c]), (5, .cells ((fr12 2).x) 26 [.int .i64 c5_0_2, .int .i64 c5_1_2])]) [1, 3, 94, 95, 96, 126] [(1, 1), (2, 2), (3, 3), (4, 4), (5, 5)] (by kernel_rfl) (by kernel_rfl) rfl ?_
                    exact H207 false hm
            · rintro v126_13 hm
              replace hm := (hJ208 _).symm.trans hm
              try dsimp only at hm
              refine GS.cond (t := v126_13) rfl rfl (fun h209 => ?_) (fun h209 => ?_)
              · replace hm := br_t h209 hm
                refine GS.seq ?_
                refine GS.region (env' := fun _ => [(2, .int .i64 22)]) (mem' := fun _ => []) (RunsTo.mk [] [2] [] (fun _ => []) (fun _ => by kernel_rfl) (fun _ => trivial)) ?_
                intro _
                have hy := Option.some.inj hm
                subst hy
                refine GS.ret (fn := Try.f22) [0] [.int .i64 22] [] rfl Try.func22 (by kernel_rfl) trivial (fun w' hs => ?_)
                exact ⟨(), rfl, hs.turnedG (ks := []) rfl rfl⟩
              · replace hm := br_f h209 hm
                refine GS.skip ?_
                refine GS.inBlock ?_
                refine GS.region (env' := fun _ => [(1, .pointer (some ⟨(fr1 0).x, 0, none⟩)), (3, .pointer (some ⟨(fr12 2).x, 0, none⟩)), (94, .slice a0_Lasts_o a0_Lasts.length a0_Lasts_c), (95, .int .i64 ((a0_Lasts.length : Nat) : Int)), (96, .int .i64 ((v96_10 + 1 : Nat) : Int))]) (mem' := fun _ => [(1, r58 a0_Log_o a0_Log), (2, r78 a0_Lasts_o a0_Lasts), (3, r48 a0_Items_o a0_Items), (4, .cells ((fr1 0).x) 31 [.int .i64 a0_Les, .int .i64 a0_Tail.Epoch, .int .i64 a0_Tail.N, .slice a0_Log_o a0_Log.length a0_Log_c, .slice a0_Lasts_o a0_Lasts.length a0_Lasts_c, .slice a0_Items_o a0_Items.length a0_Items_c]), (5, .cells ((fr12 2).x) 26 [.int .i64 c5_0_2, .int .i64 c5_1_2])]) (RunsTo.mk [(0, { sp := some (.int .i64 ((v96_10 + 1 : Nat) : Int)) })] [1, 3, 94, 95, 96] [1, 2, 3, 4, 5] (fun _ => [((.int .i64 (IntKind.i64.wrap (((v96_10 : Nat) : Int) + 1))) : Value) = .int .i64 ((v96_10 + 1 : Nat) : Int)]) (fun _ => by kernel_rfl) (fun _ => ⟨natw (drop_lt hd192) g193, trivial⟩)) ?_
                intro _
                refine GS.inLoop ?_
                refine GS.rekey (env' := [(1, .pointer (some ⟨(fr1 0).x, 0, none⟩)), (3, .pointer (some ⟨(fr12 2).x, 0, none⟩)), (94, .slice a0_Lasts_o a0_Lasts.length a0_Lasts_c), (95, .int .i64 ((a0_Lasts.length : Nat) : Int)), (96, .int .i64 ((v96_10 + 1 : Nat) : Int))]) (mem' := [(1, r58 a0_Log_o a0_Log), (2, r78 a0_Lasts_o a0_Lasts), (3, r48 a0_Items_o a0_Items), (4, .cells ((fr1 0).x) 31 [.int .i64 a0_Les, .int .i64 a0_Tail.Epoch, .int .i64 a0_Tail.N, .slice a0_Log_o a0_Log.length a0_Log_c, .slice a0_Lasts_o a0_Lasts.length a0_Lasts_c, .slice a0_Items_o a0_Items.length a0_Items_c]), (5, .cells ((fr12 2).x) 26 [.int .i64 c5_0_2, .int .i64 c5_1_2])]) [1, 3, 94, 95, 96] [(1, 1), (2, 2), (3, 3), (4, 4), (5, 5)] (by kernel_rfl) (by kernel_rfl) rfl ?_
                exact ih216 ⟨rs215, v96_10 + 1⟩ ⟨drop_next hd192, hm⟩ (Nat.lt_succ_self _)
        | cons x124 rs149 =>
          replace hm := (hst153 _ _ _ _).symm.trans hm
          try dsimp only at hm
          refine GS.seq ?_
          refine GS.region (env' := fun _ => [(1, .pointer (some ⟨(fr1 0).x, 0, none⟩)), (3, .pointer (some ⟨(fr12 2).x, 0, none⟩)), (47, .slice a0_Items_o a0_Items.length a0_Items_c), (48, .int .i64 ((a0_Items.length : Nat) : Int)), (49, .int .i64 ((v49_6 : Nat) : Int)), (50, .bool (decide (((v49_6 : Nat) : Int) < ((a0_Items.length : Nat) : Int))))]) (mem' := fun _ => [(1, r58 a0_Log_o a0_Log), (2, r78 a0_Lasts_o a0_Lasts), (3, r48 a0_Items_o a0_Items), (4, .cells ((fr1 0).x) 31 [.int .i64 a0_Les, .int .i64 a0_Tail.Epoch, .int .i64 a0_Tail.N, .slice a0_Log_o a0_Log.length a0_Log_c, .slice a0_Lasts_o a0_Lasts.length a0_Lasts_c, .slice a0_Items_o a0_Items.length a0_Items_c]), (5, .cells ((fr12 2).x) 26 [.int .i64 c5_0_2, .int .i64 c5_1_2])]) (RunsTo.mk [] [1, 3, 47, 48, 49, 50] [1, 2, 3, 4, 5] (fun _ => []) (fun _ => by kernel_rfl) (fun _ => trivial)) ?_
          intro _
          refine GS.seq ?_
          refine GS.cond (t := decide (((v49_6 : Nat) : Int) < ((a0_Items.length : Nat) : Int))) rfl rfl (fun _ => ?_) (fun h126 => absb (drop_dec hd122) h126)
          refine GS.skip ?_
          refine GS.seq ?_
          refine GS.block ?_
          refine GS.seq ?_
          refine GS.region (env' := fun fr127 => [(1, .pointer (some ⟨(fr1 0).x, 0, none⟩)), (3, .pointer (some ⟨(fr12 2).x, 0, none⟩)), (6, .int .i64 ((v49_6 : Nat) : Int)), (7, .pointer (some ⟨(fr127 3).x, 0, none⟩)), (47, .slice a0_Items_o a0_Items.length a0_Items_c), (48, .int .i64 ((a0_Items.length : Nat) : Int)), (49, .int .i64 ((v49_6 : Nat) : Int))]) (mem' := fun fr127 => [(1, r58 a0_Log_o a0_Log), (2, r78 a0_Lasts_o a0_Lasts), (3, r48 a0_Items_o a0_Items), (4, .cells ((fr1 0).x) 31 [.int .i64 a0_Les, .int .i64 a0_Tail.Epoch, .int .i64 a0_Tail.N, .slice a0_Log_o a0_Log.length a0_Log_c, .slice a0_Lasts_o a0_Lasts.length a0_Lasts_c, .slice a0_Items_o a0_Items.length a0_Items_c]), (5, .cells ((fr12 2).x) 26 [.int .i64 c5_0_2, .int .i64 c5_1_2]), (6, .cells ((fr127 3).x) 48 [.string x124.Name, .int .i64 x124.Version.Epoch, .int .i64 x124.Version.N, .int .u32 x124.Crc])]) (RunsTo.mk [(1, { act := .idx 3 v49_6 }), (2, { act := .load 3 v49_6 0 [.string x124.Name, .int .i64 x124.Version.Epoch, .int .i64 x124.Version.N, .int .u32 x124.Crc] }), (3, { act := .new .var, key := some 6 }), (5, { act := .store 0 0 [], key := some 6 })] [1, 3, 6, 7, 47, 48, 49] [1, 2, 3, 4, 5, 6] (fun fr127 => [a0_Items_o = a0_Items_o, a0_Items.length = (List.map S_api_Item.row a0_Items).length, (((v49_6 : Nat) : Int) : Int) = ((v49_6 : Nat) : Int), v49_6 < a0_Items.length, blk a0_Items_o = blk a0_Items_o, offs a0_Items_o + v49_6 * 4 = offs a0_Items_o + (v49_6 * 4 + 0), (List.map S_api_Item.row a0_Items)[v49_6]? = some [.string x124.Name, .int .i64 x124.Version.Epoch, .int .i64 x124.Version.N, .int .u32 x124.Crc], (fr127 3).x = (fr127 3).x, ((.agg #[.string x124.Name, .int .i64 x124.Version.Epoch, .int .i64 x124.Version.N, .int .u32 x124.Crc]) : Value).cells.toList.all Value.oneCell' = true]) (fun fr127 => by kernel_rfl) (fun fr127 => ⟨rfl, mlen S_api_Item.row a0_Items, rfl, (drop_lt hd122), rfl, rfl, map_drop S_api_Item.row hd122, rfl, rfl, trivial⟩)) ?_
          intro fr127
          refine GS.seq ?_
          refine jn_elim hm (fun J140 hJ142 hm => ?_)
          refine GS.cut (ι := Bool) (I := fun (v91_9 : Bool) => J140 v91_9 = some y) (E := fun (v91_9 : Bool) => [(1, .pointer (some ⟨(fr1 0).x, 0, none⟩)), (3, .pointer (some ⟨(fr12 2).x, 0, none⟩)), (47, .slice a0_Items_o a0_Items.length a0_Items_c), (48, .int .i64 ((a0_Items.length : Nat) : Int)), (49, .int .i64 ((v49_6 : Nat) : Int)), (91, .bool v91_9)]) (M := fun (v91_9 : Bool) => [(1, r58 a0_Log_o a0_Log), (2, r78 a0_Lasts_o a0_Lasts), (3, r48 a0_Items_o a0_Items), (4, .cells ((fr1 0).x) 31 [.int .i64 a0_Les, .int .i64 a0_Tail.Epoch, .int .i64 a0_Tail.N, .slice a0_Log_o a0_Log.length a0_Log_c, .slice a0_Lasts_o a0_Lasts.length a0_Lasts_c, .slice a0_Items_o a0_Items.length a0_Items_c]), (5, .cells ((fr12 2).x) 26 [.int .i64 c5_0_2, .int .i64 c5_1_2])]) ?_ ?_
          rotate_left
          · intro H141
            refine bnd_elim hm (fun y129 e130 hm => ?_)
            refine br_elim hm (fun h131 hm => ?_) (fun h131 hm => ?_)
            · skip
              refine GS.region (env' := fun _ => [(1, .pointer (some ⟨(fr1 0).x, 0, none⟩)), (3, .pointer (some ⟨(fr12 2).x, 0, none⟩)), (47, .slice a0_Items_o a0_Items.length a0_Items_c), (48, .int .i64 ((a0_Items.length : Nat) : Int)), (49, .int .i64 ((v49_6 : Nat) : Int)), (91, .bool true)]) (mem' := fun _ => [(1, r58 a0_Log_o a0_Log), (2, r78 a0_Lasts_o a0_Lasts), (3, r48 a0_Items_o a0_Items), (4, .cells ((fr1 0).x) 31 [.int .i64 a0_Les, .int .i64 a0_Tail.Epoch, .int .i64 a0_Tail.N, .slice a0_Log_o a0_Log.length a0_Log_c, .slice a0_Lasts_o a0_Lasts.length a0_Lasts_c, .slice a0_Items_o a0_Items.length a0_Items_c]), (5, .cells ((fr12 2).x) 26 [.int .i64 c5_0_2, .int .i64 c5_1_2])]) (RunsTo.mkd [(1, { act := .load 6 0 0 [] }), (2, { act := .call [] (.bool y129) }), (4, { sp := some (.bool true) })] [1, 3, 47, 48, 49, 91] [1, 2, 3, 4, 5] (fun _ => [(fr127 3).x = (fr127 3).x, CallOK Try.prog 41 #[.string x124.Name] (.bool y129) [], ((.bool (!y129)) : Value) = .bool true]) (by kernel_rfl) (by kernel_rfl) (fun _ => by kernel_rfl) (fun _ => ⟨rfl, (w_tholeref09_Good F x124.Name e130).ok trivial, bool_eq h131, trivial⟩)) ?_
              intro _
              refine GS.rekey (env' := [(1, .pointer (some ⟨(fr1 0).x, 0, none⟩)), (3, .pointer (some ⟨(fr12 2).x, 0, none⟩)), (47, .slice a0_Items_o a0_Items.length a0_Items_c), (48, .int .i64 ((a0_Items.length : Nat) : Int)), (49, .int .i64 ((v49_6 : Nat) : Int)), (91, .bool true)]) (mem' := [(1, r58 a0_Log_o a0_Log), (2, r78 a0_Lasts_o a0_Lasts), (3, r48 a0_Items_o a0_Items), (4, .cells ((fr1 0).x) 31 [.int .i64 a0_Les, .int .i64 a0_Tail.Epoch, .int .i64 a0_Tail.N, .slice a0_Log_o a0_Log.length a0_Log_c, .slice a0_Lasts_o a0_Lasts.length a0_Lasts_c, .slice a0_Items_o a0_Items.length a0_Items_c]), (5, .cells ((fr12 2).x) 26 [.int .i64 c5_0_2, .int .i64 c5_1_2])]) [1, 3, 47, 48, 49, 91] [(1, 1), (2, 2), (3, 3), (4, 4), (5, 5)] (by kernel_rfl) (by kernel_rfl) rfl ?_
              exact H141 true hm
            · skip
              refine bnd_elim hm (fun y132 e133 hm => ?_)
              refine br_elim hm (fun h134 hm => ?_) (fun h134 hm => ?_)
              · skip
                refine GS.region (env' := fun _ => [(1, .pointer (some ⟨(fr1 0).x, 0, none⟩)), (3, .pointer (some ⟨(fr12 2).x, 0, none⟩)), (47, .slice a0_Items_o a0_Items.length a0_Items_c), (48, .int .i64 ((a0_Items.length : Nat) : Int)), (49, .int .i64 ((v49_6 : Nat) : Int)), (91, .bool true)]) (mem' := fun _ => [(1, r58 a0_Log_o a0_Log), (2, r78 a0_Lasts_o a0_Lasts), (3, r48 a0_Items_o a0_Items), (4, .cells ((fr1 0).x) 31 [.int .i64 a0_Les, .int .i64 a0_Tail.Epoch, .int .i64 a0_Tail.N, .slice a0_Log_o a0_Log.length a0_Log_c, .slice a0_Lasts_o a0_Lasts.length a0_Lasts_c, .slice a0_Items_o a0_Items.length a0_Items_c]), (5, .cells ((fr12 2).x) 26 [.int .i64 c5_0_2, .int .i64 c5_1_2])]) (RunsTo.mkd [(1, { act := .load 6 0 0 [] }), (2, { act := .call [] (.bool y129) }), (4, { sp := some (.bool false) }), (6, { act := .load 6 0 0 [] }), (7, { act := .call [] (.bool y132) }), (9, { sp := some (.bool true) })] [1, 3, 47, 48, 49, 91] [1, 2, 3, 4, 5] (fun _ => [(fr127 3).x = (fr127 3).x, CallOK Try.prog 41 #[.string x124.Name] (.bool y129) [], ((.bool (!y129)) : Value) = .bool false, (fr127 3).x = (fr127 3).x, CallOK Try.prog 39 #[.agg #[.int .i64 x124.Version.Epoch, .int .i64 x124.Version.N]] (.bool y132) [], ((.bool y132) : Value) = .bool true]) (by kernel_rfl) (by kernel_rfl) (fun _ => by kernel_rfl) (fun _ => ⟨rfl, (w_tholeref09_Good F x124.Name e130).ok trivial, bool_eq h131, rfl, (w_tholeref13_below F x124.Version e133).ok trivial, bool_eq h134, trivial⟩)) ?_
                intro _
                refine GS.rekey (env' := [(1, .pointer (some ⟨(fr1 0).x, 0, none⟩)), (3, .pointer (some ⟨(fr12 2).x, 0, none⟩)), (47, .slice a0_Items_o a0_Items.length a0_Items_c), (48, .int .i64 ((a0_Items.length : Nat) : Int)), (49, .int .i64 ((v49_6 : Nat) : Int)), (91, .bool true)]) (mem' := [(1, r58 a0_Log_o a0_Log), (2, r78 a0_Lasts_o a0_Lasts), (3, r48 a0_Items_o a0_Items), (4, .cells ((fr1 0).x) 31 [.int .i64 a0_Les, .int .i64 a0_Tail.Epoch, .int .i64 a0_Tail.N, .slice a0_Log_o a0_Log.length a0_Log_c, .slice a0_Lasts_o a0_Lasts.length a0_Lasts_c, .slice a0_Items_o a0_Items.length a0_Items_c]), (5, .cells ((fr12 2).x) 26 [.int .i64 c5_0_2, .int .i64 c5_1_2])]) [1, 3, 47, 48, 49, 91] [(1, 1), (2, 2), (3, 3), (4, 4), (5, 5)] (by kernel_rfl) (by kernel_rfl) rfl ?_
                exact H141 true hm
              · skip
                refine br_elim hm (fun h135 hm => ?_) (fun h135 hm => ?_)
                · skip
                  refine GS.region (env' := fun _ => [(1, .pointer (some ⟨(fr1 0).x, 0, none⟩)), (3, .pointer (some ⟨(fr12 2).x, 0, none⟩)), (47, .slice a0_Items_o a0_Items.length a0_Items_c), (48, .int .i64 ((a0_Items.length : Nat) : Int)), (49, .int .i64 ((v49_6 : Nat) : Int)), (91, .bool true)]) (mem' := fun _ => [(1, r58 a0_Log_o a0_Log), (2, r78 a0_Lasts_o a0_Lasts), (3, r48 a0_Items_o a0_Items), (4, .cells ((fr1 0).x) 31 [.int .i64 a0_Les, .int .i64 a0_Tail.Epoch, .int .i64 a0_Tail.N, .slice a0_Log_o a0_Log.length a0_Log_c, .slice a0_Lasts_o a0_Lasts.length a0_Lasts_c, .slice a0_Items_o a0_Items.length a0_Items_c]), (5, .cells ((fr12 2).x) 26 [.int .i64 c5_0_2, .int .i64 c5_1_2])]) (RunsTo.mkd [(1, { act := .load 6 0 0 [] }), (2, { act := .call [] (.bool y129) }), (4, { sp := some (.bool false) }), (6, { act := .load 6 0 0 [] }), (7, { act := .call [] (.bool y132) }), (9, { sp := some (.bool false) }), (11, { act := .load 6 0 0 [] }), (13, { act := .eq }), (15, { sp := some (.bool true) })] [1, 3, 47, 48, 49, 91] [1, 2, 3, 4, 5] (fun _ => [(fr127 3).x = (fr127 3).x, CallOK Try.prog 41 #[.string x124.Name] (.bool y129) [], ((.bool (!y129)) : Value) = .bool false, (fr127 3).x = (fr127 3).x, CallOK Try.prog 39 #[.agg #[.int .i64 x124.Version.Epoch, .int .i64 x124.Version.N]] (.bool y132) [], ((.bool y132) : Value) = .bool false, (fr127 3).x = (fr127 3).x, ((.bool (S_api_Version.beq x124.Version (S_api_Version.mk 0 0))) : Value) = .bool true]) (by kernel_rfl) (by kernel_rfl) (fun _ => by kernel_rfl) (fun _ => ⟨rfl, (w_tholeref09_Good F x124.Name e130).ok trivial, bool_eq h131, rfl, (w_tholeref13_below F x124.Version e133).ok trivial, bool_eq h134, rfl, bool_eq h135, trivial⟩)) ?_
                  intro _
                  refine GS.rekey (env' := [(1, .pointer (some ⟨(fr1 0).x, 0, none⟩)), (3, .pointer (some ⟨(fr12 2).x, 0, none⟩)), (47, .slice a0_Items_o a0_Items.length a0_Items_c), (48, .int .i64 ((a0_Items.length : Nat) : Int)), (49, .int .i64 ((v49_6 : Nat) : Int)), (91, .bool true)]) (mem' := [(1, r58 a0_Log_o a0_Log), (2, r78 a0_Lasts_o a0_Lasts), (3, r48 a0_Items_o a0_Items), (4, .cells ((fr1 0).x) 31 [.int .i64 a0_Les, .int .i64 a0_Tail.Epoch, .int .i64 a0_Tail.N, .slice a0_Log_o a0_Log.length a0_Log_c, .slice a0_Lasts_o a0_Lasts.length a0_Lasts_c, .slice a0_Items_o a0_Items.length a0_Items_c]), (5, .cells ((fr12 2).x) 26 [.int .i64 c5_0_2, .int .i64 c5_1_2])]) [1, 3, 47, 48, 49, 91] [(1, 1), (2, 2), (3, 3), (4, 4), (5, 5)] (by kernel_rfl) (by kernel_rfl) rfl ?_
                  exact H141 true hm
                · skip
                  refine bnd_elim hm (fun y136 e137 hm => ?_)
                  refine br_elim hm (fun h138 hm => ?_) (fun h138 hm => ?_)
                  · skip
                    refine GS.region (env' := fun _ => [(1, .pointer (some ⟨(fr1 0).x, 0, none⟩)), (3, .pointer (some ⟨(fr12 2).x, 0, none⟩)), (47, .slice a0_Items_o a0_Items.length a0_Items_c), (48, .int .i64 ((a0_Items.length : Nat) : Int)), (49, .int .i64 ((v49_6 : Nat) : Int)), (91, .bool true)]) (mem' := fun _ => [(1, r58 a0_Log_o a0_Log), (2, r78 a0_Lasts_o a0_Lasts), (3, r48 a0_Items_o a0_Items), (4, .cells ((fr1 0).x) 31 [.int .i64 a0_Les, .int .i64 a0_Tail.Epoch, .int .i64 a0_Tail.N, .slice a0_Log_o a0_Log.length a0_Log_c, .slice a0_Lasts_o a0_Lasts.length a0_Lasts_c, .slice a0_Items_o a0_Items.length a0_Items_c]), (5, .cells ((fr12 2).x) 26 [.int .i64 c5_0_2, .int .i64 c5_1_2])]) (RunsTo.mkd [(1, { act := .load 6 0 0 [] }), (2, { act := .call [] (.bool y129) }), (4, { sp := some (.bool false) }), (6, { act := .load 6 0 0 [] }), (7, { act := .call [] (.bool y132) }), (9, { sp := some (.bool false) }), (11, { act := .load 6 0 0 [] }), (13, { act := .eq }), (15, { sp := some (.bool false) }), (17, { act := .load 6 0 0 [] }), (18, { act := .load 5 0 0 [] }), (19, { act := .call [] (.int .i64 y136) }), (22, { sp := some (.bool true) })] [1, 3, 47, 48, 49, 91] [1, 2, 3, 4, 5] (fun _ => [(fr127 3).x = (fr127 3).x, CallOK Try.prog 41 #[.string x124.Name] (.bool y129) [], ((.bool (!y129)) : Value) = .bool false, (fr127 3).x = (fr127 3).x, CallOK Try.prog 39 #[.agg #[.int .i64 x124.Version.Epoch, .int .i64 x124.Version.N]] (.bool y132) [], ((.bool y132) : Value) = .bool false, (fr127 3).x = (fr127 3).x, ((.bool (S_api_Version.beq x124.Version (S_api_Version.mk 0 0))) : Value) = .bool false, (fr127 3).x = (fr127 3).x, (fr12 2).x = (fr12 2).x, CallOK Try.prog 40 #[.agg #[.int .i64 x124.Version.Epoch, .int .i64 x124.Version.N], .agg #[.int .i64 c5_0_2, .int .i64 c5_1_2]] (.int .i64 y136) [], ((.bool (decide (y136 > 0))) : Value) = .bool true]) (by kernel_rfl) (by kernel_rfl) (fun _ => by kernel_rfl) (fun _ => ⟨rfl, (w_tholeref09_Good F x124.Name e130).ok trivial, bool_eq h131, rfl, (w_tholeref13_below F x124.Version e133).ok trivial, bool_eq h134, rfl, bool_eq h135, rfl, rfl, (w_tholeref13_Cmp F x124.Version (S_api_Version.mk c5_0_2 c5_1_2) e137).ok trivial, bool_eq h138, trivial⟩)) ?_
                    intro _
                    refine GS.rekey (env' := [(1, .pointer (some ⟨(fr1 0).x, 0, none⟩)), (3, .pointer (some ⟨(fr12 2).x, 0, none⟩)), (47, .slice a0_Items_o a0_Items.length a0_Items_c), (48, .int .i64 ((a0_Items.length : Nat) : Int)), (49, .int .i64 ((v49_6 : Nat) : Int)), (91, .bool true)]) (mem' := [(1, r58 a0_Log_o a0_Log), (2, r78 a0_Lasts_o a0_Lasts), (3, r48 a0_Items_o a0_Items), (4, .cells ((fr1 0).x) 31 [.int .i64 a0_Les, .int .i64 a0_Tail.Epoch, .int .i64 a0_Tail.N, .slice a0_Log_o a0_Log.length a0_Log_c, .slice a0_Lasts_o a0_Lasts.length a0_Lasts_c, .slice a0_Items_o a0_Items.length a0_Items_c]), (5, .cells ((fr12 2).x) 26 [.int .i64 c5_0_2, .int .i64 c5_1_2])]) [1, 3, 47, 48, 49, 91] [(1, 1), (2, 2), (3, 3), (4, 4), (5, 5)] (by kernel_rfl) (by kernel_rfl) rfl ?_
                    exact H141 true hm
                  · skip
                    refine br_elim hm (fun h139 hm => ?_) (fun h139 hm => ?_)
                    · skip
                      refine grd_elim hm (fun g140 hm => ?_)
                      refine grd_elim hm (fun g141 hm => ?_)
                      refine GS.region (env' := fun _ => [(1, .pointer (some ⟨(fr1 0).x, 0, none⟩)), (3, .pointer (some ⟨(fr12 2).x, 0, none⟩)), (47, .slice a0_Items_o a0_Items.length a0_Items_c), (48, .int .i64 ((a0_Items.length : Nat) : Int)), (49, .int .i64 ((v49_6 : Nat) : Int)), (91, .bool (!(Op.bytesLess ((a0_Items.getD (Int.toNat (((v49_6 : Nat) : Int) - 1)) dS_api_Item).Name).toList x124.Name.toList)))]) (mem' := fun _ => [(1, r58 a0_Log_o a0_Log), (2, r78 a0_Lasts_o a0_Lasts), (3, r48 a0_Items_o a0_Items), (4, .cells ((fr1 0).x) 31 [.int .i64 a0_Les, .int .i64 a0_Tail.Epoch, .int .i64 a0_Tail.N, .slice a0_Log_o a0_Log.length a0_Log_c, .slice a0_Lasts_o a0_Lasts.length a0_Lasts_c, .slice a0_Items_o a0_Items.length a0_Items_c]), (5, .cells ((fr12 2).x) 26 [.int .i64 c5_0_2, .int .i64 c5_1_2])]) (RunsTo.mkd [(1, { act := .load 6 0 0 [] }), (2, { act := .call [] (.bool y129) }), (4, { sp := some (.bool false) }), (6, { act := .load 6 0 0 [] }), (7, { act := .call [] (.bool y132) }), (9, { sp := some (.bool false) }), (11, { act := .load 6 0 0 [] }), (13, { act := .eq }), (15, { sp := some (.bool false) }), (17, { act := .load 6 0 0 [] }), (18, { act := .load 5 0 0 [] }), (19, { act := .call [] (.int .i64 y136) }), (22, { sp := some (.bool false) }), (25, { sp := some (.bool true) }), (27, { act := .load 4 0 0 [] }), (29, { sp := some (.int .i64 (((v49_6 : Nat) : Int) - 1)) }), (30, { act := .idx 3 (Int.toNat (((v49_6 : Nat) : Int) - 1)) }), (32, { act := .load 3 (Int.toNat (((v49_6 : Nat) : Int) - 1)) 0 [.string ((a0_Items.getD (Int.toNat (((v49_6 : Nat) : Int) - 1)) dS_api_Item).Name), .int .i64 (((a0_Items.getD (Int.toNat (((v49_6 : Nat) : Int) - 1)) dS_api_Item).Version).Epoch), .int .i64 (((a0_Items.getD (Int.toNat (((v49_6 : Nat) : Int) - 1)) dS_api_Item).Version).N), .int .u32 ((a0_Items.getD (Int.toNat (((v49_6 : Nat) : Int) - 1)) dS_api_Item).Crc)] }), (34, { act := .load 6 0 0 [] })] [1, 3, 47, 48, 49, 91] [1, 2, 3, 4, 5] (fun _ => [(fr127 3).x = (fr127 3).x, CallOK Try.prog 41 #[.string x124.Name] (.bool y129) [], ((.bool (!y129)) : Value) = .bool false, (fr127 3).x = (fr127 3).x, CallOK Try.prog 39 #[.agg #[.int .i64 x124.Version.Epoch, .int .i64 x124.Version.N]] (.bool y132) [], ((.bool y132) : Value) = .bool false, (fr127 3).x = (fr127 3).x, ((.bool (S_api_Version.beq x124.Version (S_api_Version.mk 0 0))) : Value) = .bool false, (fr127 3).x = (fr127 3).x, (fr12 2).x = (fr12 2).x, CallOK Try.prog 40 #[.agg #[.int .i64 x124.Version.Epoch, .int .i64 x124.Version.N], .agg #[.int .i64 c5_0_2, .int .i64 c5_1_2]] (.int .i64 y136) [], ((.bool (decide (y136 > 0))) : Value) = .bool false, ((.bool (decide (((v49_6 : Nat) : Int) > 0))) : Value) = .bool true, (fr1 0).x = (fr1 0).x, ((.int .i64 (IntKind.i64.wrap (((v49_6 : Nat) : Int) - 1))) : Value) = .int .i64 (((v49_6 : Nat) : Int) - 1), a0_Items_o = a0_Items_o, a0_Items.length = (List.map S_api_Item.row a0_Items).length, ((((v49_6 : Nat) : Int) - 1) : Int) = (((Int.toNat (((v49_6 : Nat) : Int) - 1)) : Nat) : Int), (Int.toNat (((v49_6 : Nat) : Int) - 1)) < a0_Items.length, blk a0_Items_o = blk a0_Items_o, offs a0_Items_o + (Int.toNat (((v49_6 : Nat) : Int) - 1)) * 4 = offs a0_Items_o + ((Int.toNat (((v49_6 : Nat) : Int) - 1)) * 4 + 0), (List.map S_api_Item.row a0_Items)[(Int.toNat (((v49_6 : Nat) : Int) - 1))]? = some [.string ((a0_Items.getD (Int.toNat (((v49_6 : Nat) : Int) - 1)) dS_api_Item).Name), .int .i64 (((a0_Items.getD (Int.toNat (((v49_6 : Nat) : Int) - 1)) dS_api_Item).Version).Epoch), .int .i64 (((a0_Items.getD (Int.toNat (((v49_6 : Nat) : Int) - 1)) dS_api_Item).Version).N), .int .u32 ((a0_Items.getD (Int.toNat (((v49_6 : Nat) : Int) - 1)) dS_api_Item).Crc)], (fr127 3).x = (fr127 3).x]) (by kernel_rfl) (by kernel_rfl) (fun _ => by kernel_rfl) (fun _ => ⟨rfl, (w_tholeref09_Good F x124.Name e130).ok trivial, bool_eq h131, rfl, (w_tholeref13_below F x124.Version e133).ok trivial, bool_eq h134, rfl, bool_eq h135, rfl, rfl, (w_tholeref13_Cmp F x124.Version (S_api_Version.mk c5_0_2 c5_1_2) e137).ok trivial, bool_eq h138, bool_eq h139, rfl, I64.w g140, rfl, mlen S_api_Item.row a0_Items, g141.eq, g141.2, rfl, rfl, map_at S_api_Item.row dS_api_Item g141.2, rfl, trivial⟩)) ?_
                      intro _
                      refine GS.rekey (env' := [(1, .pointer (some ⟨(fr1 0).x, 0, none⟩)), (3, .pointer (some ⟨(fr12 2).x, 0, none⟩)), (47, .slice a0_Items_o a0_Items.length a0_Items_c), (48, .int .i64 ((a0_Items.length : Nat) : Int)), (49, .int .i64 ((v49_6 : Nat) : Int)), (91, .bool (!(Op.bytesLess ((a0_Items.getD (Int.toNat (((v49_6 : Nat) : Int) - 1)) dS_api_Item).Name).toList x124.Name.toList)))]) (mem' := [(1, r58 a0_Log_o a0_Log), (2, r78 a0_Lasts_o a0_Lasts), (3, r48 a0_Items_o a0_Items), (4, .cells ((fr1 0).x) 31 [.int .i64 a0_Les, .int .i64 a0_Tail.Epoch, .int .i64 a0_Tail.N, .slice a0_Log_o a0_Log.length a0_Log_c, .slice a0_Lasts_o a0_Lasts.length a0_Lasts_c, .slice a0_Items_o a0_Items.length a0_Items_c]), (5, .cells ((fr12 2).x) 26 [.int .i64 c5_0_2, .int .i64 c5_1_2])]) [1, 3, 47, 48, 49, 91] [(1, 1), (2, 2), (3, 3), (4, 4), (5, 5)] (by kernel_rfl) (by kernel_rfl) rfl ?_
                      exact H141 (!(Op.bytesLess ((a0_Items.getD (Int.toNat (((v49_6 : Nat) : Int) - 1)) dS_api_Item).Name).toList x124.Name.toList)) hm
                    · skip
                      refine GS.region (env' := fun _ => [(1, .pointer (some ⟨(fr1 0).x, 0, none⟩)), (3, .pointer (some ⟨(fr12 2).x, 0, none⟩)), (47, .slice a0_Items_o a0_Items.length a0_Items_c), (48, .int .i64 ((a0_Items.length : Nat) : Int)), (49, .int .i64 ((v49_6 : Nat) : Int)), (91, .bool false)]) (mem' := fun _ => [(1, r58 a0_Log_o a0_Log), (2, r78 a0_Lasts_o a0_Lasts), (3, r48 a0_Items_o a0_Items), (4, .cells ((fr1 0).x) 31 [.int .i64 a0_Les, .int .i64 a0_Tail.Epoch, .int .i64 a0_Tail.N, .slice a0_Log_o a0_Log.length a0_Log_c, .slice a0_Lasts_o a0_Lasts.length a0_Lasts_c, .slice a0_Items_o a0_Items.length a0_Items_c]), (5, .cells ((fr12 2).x) 26 [.int .i64 c5_0_2, .int .i64 c5_1_2])]) (RunsTo.mkd [(1, { act := .load 6 0 0 [] }), (2, { act := .call [] (.bool y129) }), (4, { sp := some (.bool false) }), (6, { act := .load 6 0 0 [] }), (7, { act := .call [] (.bool y132) }), (9, { sp := some (.bool false) }), (11, { act := .load 6 0 0 [] }), (13, { act := .eq }), (15, { sp := some (.bool false) }), (17, { act := .load 6 0 0 [] }), (18, { act := .load 5 0 0 [] }), (19, { act := .call [] (.int .i64 y136) }), (22, { sp := some (.bool false) }), (25, { sp := some (.bool false) })] [1, 3, 47, 48, 49, 91] [1, 2, 3, 4, 5] (fun _ => [(fr127 3).x = (fr127 3).x, CallOK Try.prog 41 #[.string x124.Name] (.bool y129) [], ((.bool (!y129)) : Value) = .bool false, (fr127 3).x = (fr127 3).x, CallOK Try.prog 39 #[.agg #[.int .i64 x124.Version.Epoch, .int .i64 x124.Version.N]] (.bool y132) [], ((.bool y132) : Value) = .bool false, (fr127 3).x = (fr127 3).x, ((.bool (S_api_Version.beq x124.Version (S_api_Version.mk 0 0))) : Value) = .bool false, (fr127 3).x = (fr127 3).x, (fr12 2).x = (fr12 2).x, CallOK Try.prog 40 #[.agg #[.int .i64 x124.Version.Epoch, .int .i64 x124.Version.N], .agg #[.int .i64 c5_0_2, .int .i64 c5_1_2]] (.int .i64 y136) [], ((.bool (decide (y136 > 0))) : Value) = .bool false, ((.bool (decide (((v49_6 : Nat) : Int) > 0))) : Value) = .bool false]) (by kernel_rfl) (by kernel_rfl) (fun _ => by kernel_rfl) (fun _ => ⟨rfl, (w_tholeref09_Good F x124.Name e130).ok trivial, bool_eq h131, rfl, (w_tholeref13_below F x124.Version e133).ok trivial, bool_eq h134, rfl, bool_eq h135, rfl, rfl, (w_tholeref13_Cmp F x124.Version (S_api_Version.mk c5_0_2 c5_1_2) e137).ok trivial, bool_eq h138, bool_eq h139, trivial⟩)) ?_
                      intro _
                      refine GS.rekey (env' := [(1, .pointer (some ⟨(fr1 0).x, 0, none⟩)), (3, .pointer (some ⟨(fr12 2).x, 0, none⟩)), (47, .slice a0_Items_o a0_Items.length a0_Items_c), (48, .int .i64 ((a0_Items.length : Nat) : Int)), (49, .int .i64 ((v49_6 : Nat) : Int)), (91, .bool false)]) (mem' := [(1, r58 a0_Log_o a0_Log), (2, r78 a0_Lasts_o a0_Lasts), (3, r48 a0_Items_o a0_Items), (4, .cells ((fr1 0).x) 31 [.int .i64 a0_Les, .int .i64 a0_Tail.Epoch, .int .i64 a0_Tail.N, .slice a0_Log_o a0_Log.length a0_Log_c, .slice a0_Lasts_o a0_Lasts.length a0_Lasts_c, .slice a0_Items_o a0_Items.length a0_Items_c]), (5, .cells ((fr12 2).x) 26 [.int .i64 c5_0_2, .int .i64 c5_1_2])]) [1, 3, 47, 48, 49, 91] [(1, 1), (2, 2), (3, 3), (4, 4), (5, 5)] (by kernel_rfl) (by kernel_rfl) rfl ?_
                      exact H141 false hm
          · rintro v91_9 hm
            replace hm := (hJ142 _).symm.trans hm
            try dsimp only at hm
            refine GS.cond (t := v91_9) rfl rfl (fun h143 => ?_) (fun h143 => ?_)
            · replace hm := br_t h143 hm
              refine GS.seq ?_
              refine GS.region (env' := fun _ => [(2, .int .i64 22)]) (mem' := fun _ => []) (RunsTo.mk [] [2] [] (fun _ => []) (fun _ => by kernel_rfl) (fun _ => trivial)) ?_
              intro _
              have hy := Option.some.inj hm
              subst hy
              refine GS.ret (fn := Try.f22) [0] [.int .i64 22] [] rfl Try.func22 (by kernel_rfl) trivial (fun w' hs => ?_)
              exact ⟨(), rfl, hs.turnedG (ks := []) rfl rfl⟩
            · replace hm := br_f h143 hm
              refine GS.skip ?_
              refine GS.inBlock ?_
              refine GS.region (env' := fun _ => [(1, .pointer (some ⟨(fr1 0).x, 0, none⟩)), (3, .pointer (some ⟨(fr12 2).x, 0, none⟩)), (47, .slice a0_Items_o a0_Items.length a0_Items_c), (48, .int .i64 ((a0_Items.length : Nat) : Int)), (49, .int .i64 ((v49_6 + 1 : Nat) : Int))]) (mem' := fun _ => [(1, r58 a0_Log_o a0_Log), (2, r78 a0_Lasts_o a0_Lasts), (3, r48 a0_Items_o a0_Items), (4, .cells ((fr1 0).x) 31 [.int .i64 a0_Les, .int .i64 a0_Tail.Epoch, .int .i64 a0_Tail.N, .slice a0_Log_o a0_Log.length a0_Log_c, .slice a0_Lasts_o a0_Lasts.length a0_Lasts_c, .slice a0_Items_o a0_Items.length a0_Items_c]), (5, .cells ((fr12 2).x) 26 [.int .i64 c5_0_2, .int .i64 c5_1_2])]) (RunsTo.mk [(0, { sp := some (.int .i64 ((v49_6 + 1 : Nat) : Int)) })] [1, 3, 47, 48, 49] [1, 2, 3, 4, 5] (fun _ => [((.int .i64 (IntKind.i64.wrap (((v49_6 : Nat) : Int) + 1))) : Value) = .int .i64 ((v49_6 + 1 : Nat) : Int)]) (fun _ => by kernel_rfl) (fun _ => ⟨natw (drop_lt hd122) g123, trivial⟩)) ?_
              intro _
              refine GS.inLoop ?_
              refine GS.rekey (env' := [(1, .pointer (some ⟨(fr1 0).x, 0, none⟩)), (3, .pointer (some ⟨(fr12 2).x, 0, none⟩)), (47, .slice a0_Items_o a0_Items.length a0_Items_c), (48, .int .i64 ((a0_Items.length : Nat) : Int)), (49, .int .i64 ((v49_6 + 1 : Nat) : Int))]) (mem' := [(1, r58 a0_Log_o a0_Log), (2, r78 a0_Lasts_o a0_Lasts), (3, r48 a0_Items_o a0_Items), (4, .cells ((fr1 0).x) 31 [.int .i64 a0_Les, .int .i64 a0_Tail.Epoch, .int .i64 a0_Tail.N, .slice a0_Log_o a0_Log.length a0_Log_c, .slice a0_Lasts_o a0_Lasts.length a0_Lasts_c, .slice a0_Items_o a0_Items.length a0_Items_c]), (5, .cells ((fr12 2).x) 26 [.int .i64 c5_0_2, .int .i64 c5_1_2])]) [1, 3, 47, 48, 49] [(1, 1), (2, 2), (3, 3), (4, 4), (5, 5)] (by kernel_rfl) (by kernel_rfl) rfl ?_
              exact ih150 ⟨rs149, v49_6 + 1⟩ ⟨drop_next hd122, hm⟩ (Nat.lt_succ_self _)
      | cons x51 rs71 =>
        replace hm := (hst75 _ _ _ _).symm.trans hm
        try dsimp only at hm
        refine GS.seq ?_
        refine GS.region (env' := fun _ => [(1, .pointer (some ⟨(fr1 0).x, 0, none⟩)), (3, .pointer (some ⟨(fr12 2).x, 0, none⟩)), (27, .slice a0_Log_o a0_Log.length a0_Log_c), (28, .int .i64 ((a0_Log.length : Nat) : Int)), (29, .int .i64 ((v29_2 : Nat) : Int)), (30, .bool (decide (((v29_2 : Nat) : Int) < ((a0_Log.length : Nat) : Int))))]) (mem' := fun _ => [(1, r58 a0_Log_o a0_Log), (2, r78 a0_Lasts_o a0_Lasts), (3, r48 a0_Items_o a0_Items), (4, .cells ((fr1 0).x) 31 [.int .i64 a0_Les, .int .i64 a0_Tail.Epoch, .int .i64 a0_Tail.N, .slice a0_Log_o a0_Log.length a0_Log_c, .slice a0_Lasts_o a0_Lasts.length a0_Lasts_c, .slice a0_Items_o a0_Items.length a0_Items_c]), (5, .cells ((fr12 2).x) 26 [.int .i64 c5_0_2, .int .i64 c5_1_2])]) (RunsTo.mk [] [1, 3, 27, 28, 29, 30] [1, 2, 3, 4, 5] (fun _ => []) (fun _ => by kernel_rfl) (fun _ => trivial)) ?_
        intro _
        refine GS.seq ?_
        refine GS.cond (t := decide (((v29_2 : Nat) : Int) < ((a0_Log.length : Nat) : Int))) rfl rfl (fun _ => ?_) (fun h53 => absb (drop_dec hd49) h53)
        refine GS.skip ?_
        refine GS.seq ?_
        refine GS.block ?_
        refine GS.seq ?_
        refine GS.region (env' := fun fr54 => [(1, .pointer (some ⟨(fr1 0).x, 0, none⟩)), (3, .pointer (some ⟨(fr12 2).x, 0, none⟩)), (5, .pointer (some ⟨(fr54 2).x, 0, none⟩)), (27, .slice a0_Log_o a0_Log.length a0_Log_c), (28, .int .i64 ((a0_Log.length : Nat) : Int)), (29, .int .i64 ((v29_2 : Nat) : Int))]) (mem' := fun fr54 => [(1, r58 a0_Log_o a0_Log), (2, r78 a0_Lasts_o a0_Lasts), (3, r48 a0_Items_o a0_Items), (4, .cells ((fr1 0).x) 31 [.int .i64 a0_Les, .int .i64 a0_Tail.Epoch, .int .i64 a0_Tail.N, .slice a0_Log_o a0_Log.length a0_Log_c, .slice a0_Lasts_o a0_Lasts.length a0_Lasts_c, .slice a0_Items_o a0_Items.length a0_Items_c]), (5, .cells ((fr12 2).x) 26 [.int .i64 c5_0_2, .int .i64 c5_1_2]), (6, .cells ((fr54 2).x) 58 [.int .i64 x51.Version.Epoch, .int .i64 x51.Version.N, .bool x51.Remove, .int .i64 x51.Errno, .string x51.Name, .int .i64 x51.Client, .int .i64 x51.Number])]) (RunsTo.mk [(0, { act := .idx 1 v29_2 }), (1, { act := .load 1 v29_2 0 [.int .i64 x51.Version.Epoch, .int .i64 x51.Version.N, .bool x51.Remove, .int .i64 x51.Errno, .string x51.Name, .int .i64 x51.Client, .int .i64 x51.Number] }), (2, { act := .new .var, key := some 6 }), (3, { act := .store 0 0 [], key := some 6 })] [1, 3, 5, 27, 28, 29] [1, 2, 3, 4, 5, 6] (fun fr54 => [a0_Log_o = a0_Log_o, a0_Log.length = (List.map S_api_Entry.row a0_Log).length, (((v29_2 : Nat) : Int) : Int) = ((v29_2 : Nat) : Int), v29_2 < a0_Log.length, blk a0_Log_o = blk a0_Log_o, offs a0_Log_o + v29_2 * 7 = offs a0_Log_o + (v29_2 * 7 + 0), (List.map S_api_Entry.row a0_Log)[v29_2]? = some [.int .i64 x51.Version.Epoch, .int .i64 x51.Version.N, .bool x51.Remove, .int .i64 x51.Errno, .string x51.Name, .int .i64 x51.Client, .int .i64 x51.Number], (fr54 2).x = (fr54 2).x, ((.agg #[.int .i64 x51.Version.Epoch, .int .i64 x51.Version.N, .bool x51.Remove, .int .i64 x51.Errno, .string x51.Name, .int .i64 x51.Client, .int .i64 x51.Number]) : Value).cells.toList.all Value.oneCell' = true]) (fun fr54 => by kernel_rfl) (fun fr54 => ⟨rfl, mlen S_api_Entry.row a0_Log, rfl, (drop_lt hd49), rfl, rfl, map_drop S_api_Entry.row hd49, rfl, rfl, trivial⟩)) ?_
        intro fr54
        refine GS.seq ?_
        refine GS.seq ?_
        refine jn_elim hm (fun J61 hJ63 hm => ?_)
        refine GS.cut (ι := Bool) (I := fun (v42_5 : Bool) => J61 v42_5 = some y) (E := fun (v42_5 : Bool) => [(1, .pointer (some ⟨(fr1 0).x, 0, none⟩)), (3, .pointer (some ⟨(fr12 2).x, 0, none⟩)), (5, .pointer (some ⟨(fr54 2).x, 0, none⟩)), (27, .slice a0_Log_o a0_Log.length a0_Log_c), (28, .int .i64 ((a0_Log.length : Nat) : Int)), (29, .int .i64 ((v29_2 : Nat) : Int)), (42, .bool v42_5)]) (M := fun (v42_5 : Bool) => [(1, r58 a0_Log_o a0_Log), (2, r78 a0_Lasts_o a0_Lasts), (3, r48 a0_Items_o a0_Items), (4, .cells ((fr1 0).x) 31 [.int .i64 a0_Les, .int .i64 a0_Tail.Epoch, .int .i64 a0_Tail.N, .slice a0_Log_o a0_Log.length a0_Log_c, .slice a0_Lasts_o a0_Lasts.length a0_Lasts_c, .slice a0_Items_o a0_Items.length a0_Items_c]), (5, .cells ((fr12 2).x) 26 [.int .i64 c5_0_2, .int .i64 c5_1_2]), (6, .cells ((fr54 2).x) 58 [.int .i64 x51.Version.Epoch, .int .i64 x51.Version.N, .bool x51.Remove, .int .i64 x51.Errno, .string x51.Name, .int .i64 x51.Client, .int .i64 x51.Number])]) ?_ ?_
        rotate_left
        · intro H62
          refine bnd_elim hm (fun y56 e57 hm => ?_)
          refine br_elim hm (fun h58 hm => ?_) (fun h58 hm => ?_)
          · skip
            refine GS.region (env' := fun _ => [(1, .pointer (some ⟨(fr1 0).x, 0, none⟩)), (3, .pointer (some ⟨(fr12 2).x, 0, none⟩)), (5, .pointer (some ⟨(fr54 2).x, 0, none⟩)), (27, .slice a0_Log_o a0_Log.length a0_Log_c), (28, .int .i64 ((a0_Log.length : Nat) : Int)), (29, .int .i64 ((v29_2 : Nat) : Int)), (42, .bool true)]) (mem' := fun _ => [(1, r58 a0_Log_o a0_Log), (2, r78 a0_Lasts_o a0_Lasts), (3, r48 a0_Items_o a0_Items), (4, .cells ((fr1 0).x) 31 [.int .i64 a0_Les, .int .i64 a0_Tail.Epoch, .int .i64 a0_Tail.N, .slice a0_Log_o a0_Log.length a0_Log_c, .slice a0_Lasts_o a0_Lasts.length a0_Lasts_c, .slice a0_Items_o a0_Items.length a0_Items_c]), (5, .cells ((fr12 2).x) 26 [.int .i64 c5_0_2, .int .i64 c5_1_2]), (6, .cells ((fr54 2).x) 58 [.int .i64 x51.Version.Epoch, .int .i64 x51.Version.N, .bool x51.Remove, .int .i64 x51.Errno, .string x51.Name, .int .i64 x51.Client, .int .i64 x51.Number])]) (RunsTo.mk [(1, { act := .load 6 0 0 [] }), (2, { act := .call [] (.bool y56) }), (3, { sp := some (.bool true) })] [1, 3, 5, 27, 28, 29, 42] [1, 2, 3, 4, 5, 6] (fun _ => [(fr54 2).x = (fr54 2).x, CallOK Try.prog 39 #[.agg #[.int .i64 x51.Version.Epoch, .int .i64 x51.Version.N]] (.bool y56) [], ((.bool y56) : Value) = .bool true]) (fun _ => by kernel_rfl) (fun _ => ⟨rfl, (w_tholeref13_below F x51.Version e57).ok trivial, bool_eq h58, trivial⟩)) ?_
            intro _
            refine GS.rekey (env' := [(1, .pointer (some ⟨(fr1 0).x, 0, none⟩)), (3, .pointer (some ⟨(fr12 2).x, 0, none⟩)), (5, .pointer (some ⟨(fr54 2).x, 0, none⟩)), (27, .slice a0_Log_o a0_Log.length a0_Log_c), (28, .int .i64 ((a0_Log.length : Nat) : Int)), (29, .int .i64 ((v29_2 : Nat) : Int)), (42, .bool true)]) (mem' := [(1, r58 a0_Log_o a0_Log), (2, r78 a0_Lasts_o a0_Lasts), (3, r48 a0_Items_o a0_Items), (4, .cells ((fr1 0).x) 31 [.int .i64 a0_Les, .int .i64 a0_Tail.Epoch, .int .i64 a0_Tail.N, .slice a0_Log_o a0_Log.length a0_Log_c, .slice a0_Lasts_o a0_Lasts.length a0_Lasts_c, .slice a0_Items_o a0_Items.length a0_Items_c]), (5, .cells ((fr12 2).x) 26 [.int .i64 c5_0_2, .int .i64 c5_1_2]), (6, .cells ((fr54 2).x) 58 [.int .i64 x51.Version.Epoch, .int .i64 x51.Version.N, .bool x51.Remove, .int .i64 x51.Errno, .string x51.Name, .int .i64 x51.Client, .int .i64 x51.Number])]) [1, 3, 5, 27, 28, 29, 42] [(1, 1), (2, 2), (3, 3), (4, 4), (5, 5), (6, 6)] (by kernel_rfl) (by kernel_rfl) rfl ?_
            exact H62 true hm
          · skip
            refine bnd_elim hm (fun y59 e60 hm => ?_)
            refine GS.region (env' := fun _ => [(1, .pointer (some ⟨(fr1 0).x, 0, none⟩)), (3, .pointer (some ⟨(fr12 2).x, 0, none⟩)), (5, .pointer (some ⟨(fr54 2).x, 0, none⟩)), (27, .slice a0_Log_o a0_Log.length a0_Log_c), (28, .int .i64 ((a0_Log.length : Nat) : Int)), (29, .int .i64 ((v29_2 : Nat) : Int)), (42, .bool (decide (y59 ≤ 0)))]) (mem' := fun _ => [(1, r58 a0_Log_o a0_Log), (2, r78 a0_Lasts_o a0_Lasts), (3, r48 a0_Items_o a0_Items), (4, .cells ((fr1 0).x) 31 [.int .i64 a0_Les, .int .i64 a0_Tail.Epoch, .int .i64 a0_Tail.N, .slice a0_Log_o a0_Log.length a0_Log_c, .slice a0_Lasts_o a0_Lasts.length a0_Lasts_c, .slice a0_Items_o a0_Items.length a0_Items_c]), (5, .cells ((fr12 2).x) 26 [.int .i64 c5_0_2, .int .i64 c5_1_2]), (6, .cells ((fr54 2).x) 58 [.int .i64 x51.Version.Epoch, .int .i64 x51.Version.N, .bool x51.Remove, .int .i64 x51.Errno, .string x51.Name, .int .i64 x51.Client, .int .i64 x51.Number])]) (RunsTo.mk [(1, { act := .load 6 0 0 [] }), (2, { act := .call [] (.bool y56) }), (3, { sp := some (.bool false) }), (5, { act := .load 6 0 0 [] }), (6, { act := .load 5 0 0 [] }), (7, { act := .call [] (.int .i64 y59) })] [1, 3, 5, 27, 28, 29, 42] [1, 2, 3, 4, 5, 6] (fun _ => [(fr54 2).x = (fr54 2).x, CallOK Try.prog 39 #[.agg #[.int .i64 x51.Version.Epoch, .int .i64 x51.Version.N]] (.bool y56) [], ((.bool y56) : Value) = .bool false, (fr54 2).x = (fr54 2).x, (fr12 2).x = (fr12 2).x, CallOK Try.prog 40 #[.agg #[.int .i64 x51.Version.Epoch, .int .i64 x51.Version.N], .agg #[.int .i64 c5_0_2, .int .i64 c5_1_2]] (.int .i64 y59) []]) (fun _ => by kernel_rfl) (fun _ => ⟨rfl, (w_tholeref13_below F x51.Version e57).ok trivial, bool_eq h58, rfl, rfl, (w_tholeref13_Cmp F x51.Version (S_api_Version.mk c5_0_2 c5_1_2) e60).ok trivial, trivial⟩)) ?_
            intro _
            refine GS.rekey (env' := [(1, .pointer (some ⟨(fr1 0).x, 0, none⟩)), (3, .pointer (some ⟨(fr12 2).x, 0, none⟩)), (5, .pointer (some ⟨(fr54 2).x, 0, none⟩)), (27, .slice a0_Log_o a0_Log.length a0_Log_c), (28, .int .i64 ((a0_Log.length : Nat) : Int)), (29, .int .i64 ((v29_2 : Nat) : Int)), (42, .bool (decide (y59 ≤ 0)))]) (mem' := [(1, r58 a0_Log_o a0_Log), (2, r78 a0_Lasts_o a0_Lasts), (3, r48 a0_Items_o a0_Items), (4, .cells ((fr1 0).x) 31 [.int .i64 a0_Les, .int .i64 a0_Tail.Epoch, .int .i64 a0_Tail.N, .slice a0_Log_o a0_Log.length a0_Log_c, .slice a0_Lasts_o a0_Lasts.length a0_Lasts_c, .slice a0_Items_o a0_Items.length a0_Items_c]), (5, .cells ((fr12 2).x) 26 [.int .i64 c5_0_2, .int .i64 c5_1_2]), (6, .cells ((fr54 2).x) 58 [.int .i64 x51.Version.Epoch, .int .i64 x51.Version.N, .bool x51.Remove, .int .i64 x51.Errno, .string x51.Name, .int .i64 x51.Client, .int .i64 x51.Number])]) [1, 3, 5, 27, 28, 29, 42] [(1, 1), (2, 2), (3, 3), (4, 4), (5, 5), (6, 6)] (by kernel_rfl) (by kernel_rfl) rfl ?_
            exact H62 (decide (y59 ≤ 0)) hm
        · rintro v42_5 hm
          replace hm := (hJ63 _).symm.trans hm
          try dsimp only at hm
          refine GS.cond (t := v42_5) rfl rfl (fun h64 => ?_) (fun h64 => ?_)
          · replace hm := br_t h64 hm
            refine GS.seq ?_
            refine GS.region (env' := fun _ => [(2, .int .i64 22)]) (mem' := fun _ => []) (RunsTo.mk [] [2] [] (fun _ => []) (fun _ => by kernel_rfl) (fun _ => trivial)) ?_
            intro _
            have hy := Option.some.inj hm
            subst hy
            refine GS.ret (fn := Try.f22) [0] [.int .i64 22] [] rfl Try.func22 (by kernel_rfl) trivial (fun w' hs => ?_)
            exact ⟨(), rfl, hs.turnedG (ks := []) rfl rfl⟩
          · replace hm := br_f h64 hm
            refine GS.skip ?_
            refine GS.region (env' := fun _ => [(1, .pointer (some ⟨(fr1 0).x, 0, none⟩)), (3, .pointer (some ⟨(fr12 2).x, 0, none⟩)), (27, .slice a0_Log_o a0_Log.length a0_Log_c), (28, .int .i64 ((a0_Log.length : Nat) : Int)), (29, .int .i64 ((v29_2 : Nat) : Int))]) (mem' := fun _ => [(1, r58 a0_Log_o a0_Log), (2, r78 a0_Lasts_o a0_Lasts), (3, r48 a0_Items_o a0_Items), (4, .cells ((fr1 0).x) 31 [.int .i64 a0_Les, .int .i64 a0_Tail.Epoch, .int .i64 a0_Tail.N, .slice a0_Log_o a0_Log.length a0_Log_c, .slice a0_Lasts_o a0_Lasts.length a0_Lasts_c, .slice a0_Items_o a0_Items.length a0_Items_c]), (5, .cells ((fr12 2).x) 26 [.int .i64 x51.Version.Epoch, .int .i64 x51.Version.N])]) (RunsTo.mk [(1, { act := .load 6 0 0 [] }), (2, { act := .store 0 0 [], key := some 5 })] [1, 3, 27, 28, 29] [1, 2, 3, 4, 5] (fun _ => [(fr54 2).x = (fr54 2).x, (fr12 2).x = (fr12 2).x, ((.agg #[.int .i64 x51.Version.Epoch, .int .i64 x51.Version.N]) : Value).cells.toList.all Value.oneCell' = true]) (fun _ => by kernel_rfl) (fun _ => ⟨rfl, rfl, rfl, trivial⟩)) ?_
            intro _
            refine GS.inBlock ?_
            refine GS.region (env' := fun _ => [(1, .pointer (some ⟨(fr1 0).x, 0, none⟩)), (3, .pointer (some ⟨(fr12 2).x, 0, none⟩)), (27, .slice a0_Log_o a0_Log.length a0_Log_c), (28, .int .i64 ((a0_Log.length : Nat) : Int)), (29, .int .i64 ((v29_2 + 1 : Nat) : Int))]) (mem' := fun _ => [(1, r58 a0_Log_o a0_Log), (2, r78 a0_Lasts_o a0_Lasts), (3, r48 a0_Items_o a0_Items), (4, .cells ((fr1 0).x) 31 [.int .i64 a0_Les, .int .i64 a0_Tail.Epoch, .int .i64 a0_Tail.N, .slice a0_Log_o a0_Log.length a0_Log_c, .slice a0_Lasts_o a0_Lasts.length a0_Lasts_c, .slice a0_Items_o a0_Items.length a0_Items_c]), (5, .cells ((fr12 2).x) 26 [.int .i64 x51.Version.Epoch, .int .i64 x51.Version.N])]) (RunsTo.mk [(0, { sp := some (.int .i64 ((v29_2 + 1 : Nat) : Int)) })] [1, 3, 27, 28, 29] [1, 2, 3, 4, 5] (fun _ => [((.int .i64 (IntKind.i64.wrap (((v29_2 : Nat) : Int) + 1))) : Value) = .int .i64 ((v29_2 + 1 : Nat) : Int)]) (fun _ => by kernel_rfl) (fun _ => ⟨natw (drop_lt hd49) g50, trivial⟩)) ?_
            intro _
            refine GS.inLoop ?_
            refine GS.rekey (env' := [(1, .pointer (some ⟨(fr1 0).x, 0, none⟩)), (3, .pointer (some ⟨(fr12 2).x, 0, none⟩)), (27, .slice a0_Log_o a0_Log.length a0_Log_c), (28, .int .i64 ((a0_Log.length : Nat) : Int)), (29, .int .i64 ((v29_2 + 1 : Nat) : Int))]) (mem' := [(1, r58 a0_Log_o a0_Log), (2, r78 a0_Lasts_o a0_Lasts), (3, r48 a0_Items_o a0_Items), (4, .cells ((fr1 0).x) 31 [.int .i64 a0_Les, .int .i64 a0_Tail.Epoch, .int .i64 a0_Tail.N, .slice a0_Log_o a0_Log.length a0_Log_c, .slice a0_Lasts_o a0_Lasts.length a0_Lasts_c, .slice a0_Items_o a0_Items.length a0_Items_c]), (5, .cells ((fr12 2).x) 26 [.int .i64 x51.Version.Epoch, .int .i64 x51.Version.N])]) [1, 3, 27, 28, 29] [(1, 1), (2, 2), (3, 3), (4, 4), (5, 5)] (by kernel_rfl) (by kernel_rfl) rfl ?_
            exact ih72 ⟨rs71, v29_2 + 1, x51.Version.Epoch, x51.Version.N⟩ ⟨drop_next hd49, hm⟩ (Nat.lt_succ_self _)

theorem w_slices_Index___string_string_ (F : Nat) (a0_o : Option Addr) (a0_c : Nat) (a0 : List ByteArray) (a1 : ByteArray) {y : Int} (hm : m_slices_Index___string_string_ F a0 a1 = some y) : CallG Try.prog 48 #[.slice a0_o a0.length a0_c, .string a1] (X := Unit) (fun (_ : Unit) => .int .i64 y) [] [r9 a0_o a0] (fun (_ : Unit) => []) := by
  intro w hg
  rw [m_slices_Index___string_string_] at hm
  refine GS.start (S := mayT [] [r9 a0_o a0]) (mem := [(1, r9 a0_o a0)]) Try.func48 rfl Try.ntmps48 (Nat.le_of_ble_eq_true rfl) (hg.start rfl) ?_
  refine GS.conv (env' := [(0, .slice a0_o a0.length a0_c), (1, .string a1)]) rfl rfl ?_
  refine GS.seq ?_
  refine GS.region (env' := fun _ => [(0, .slice a0_o a0.length a0_c), (1, .string a1)]) (mem' := fun _ => [(1, r9 a0_o a0)]) (RunsTo.mk [] [0, 1] [1] (fun _ => []) (fun _ => by kernel_rfl) (fun _ => trivial)) ?_
  intro _
  refine GS.seq ?_
  refine GS.seq ?_
  refine GS.region (env' := fun _ => [(0, .slice a0_o a0.length a0_c), (1, .string a1), (7, .int .i64 ((a0.length : Nat) : Int)), (8, .int .i64 0)]) (mem' := fun _ => [(1, r9 a0_o a0)]) (RunsTo.mk [] [0, 1, 7, 8] [1] (fun _ => []) (fun _ => by kernel_rfl) (fun _ => trivial)) ?_
  intro _
  refine GS.block ?_
  refine GS.loop ?_
  refine grd_elim hm (fun g21 hm => ?_)
  refine GS.rekey (env' := [(0, .slice a0_o a0.length a0_c), (1, .string a1), (7, .int .i64 ((a0.length : Nat) : Int)), (8, .int .i64 0)]) (mem' := [(1, r9 a0_o a0)]) [0, 1, 7, 8] [(1, 1)] (by kernel_rfl) (by kernel_rfl) rfl ?_
  refine loopL_elim hm (fun st35 fn36 hst37 hfn38 hm => ?_)
  refine GS.loopInv (ι := List ByteArray × Nat) (I := fun ⟨rs33, v8_1⟩ => a0.drop v8_1 = rs33 ∧ loopL st35 fn36 rs33 v8_1 () = some y) (μ := fun ⟨rs33, v8_1⟩ => rs33.length) (E := fun ⟨rs33, v8_1⟩ => [(0, .slice a0_o a0.length a0_c), (1, .string a1), (7, .int .i64 ((a0.length : Nat) : Int)), (8, .int .i64 ((v8_1 : Nat) : Int))]) (M := fun ⟨rs33, v8_1⟩ => [(1, r9 a0_o a0)]) ?_ ⟨a0, 0⟩ ⟨List.drop_zero .., hm⟩
  rintro ⟨rs33, v8_1⟩ ⟨hd20, hm⟩ ih34
  cases rs33 with
  | nil =>
    replace hm := (hfn38 _ _).symm.trans hm
    try dsimp only at hm
    refine GS.seq ?_
    refine GS.region (env' := fun _ => [(0, .slice a0_o a0.length a0_c), (1, .string a1), (7, .int .i64 ((a0.length : Nat) : Int)), (8, .int .i64 ((v8_1 : Nat) : Int)), (9, .bool (decide (((v8_1 : Nat) : Int) < ((a0.length : Nat) : Int))))]) (mem' := fun _ => [(1, r9 a0_o a0)]) (RunsTo.mk [] [0, 1, 7, 8, 9] [1] (fun _ => []) (fun _ => by kernel_rfl) (fun _ => trivial)) ?_
    intro _
    refine GS.seq ?_
    refine GS.cond (t := decide (((v8_1 : Nat) : Int) < ((a0.length : Nat) : Int))) rfl rfl (fun h31 => absb h31 (drop_dec0 hd20)) (fun _ => ?_)
    refine GS.exit rfl ?_
    refine GS.seq ?_
    refine GS.region (env' := fun _ => [(4, .int .i64 (-1))]) (mem' := fun _ => []) (RunsTo.mk [] [4] [] (fun _ => []) (fun _ => by kernel_rfl) (fun _ => trivial)) ?_
    intro _
    have hy := Option.some.inj hm
    subst hy
    refine GS.ret (fn := Try.f48) [0] [.int .i64 (-1)] [] rfl Try.func48 (by kernel_rfl) trivial (fun w' hs => ?_)
    exact ⟨(), rfl, hs.turnedG (ks := []) rfl rfl⟩
  | cons x22 rs33 =>
    replace hm := (hst37 _ _ _ _).symm.trans hm
    try dsimp only at hm
    refine GS.seq ?_
    refine GS.region (env' := fun _ => [(0, .slice a0_o a0.length a0_c), (1, .string a1), (7, .int .i64 ((a0.length : Nat) : Int)), (8, .int .i64 ((v8_1 : Nat) : Int)), (9, .bool (decide (((v8_1 : Nat) : Int) < ((a0.length : Nat) : Int))))]) (mem' := fun _ => [(1, r9 a0_o a0)]) (RunsTo.mk [] [0, 1, 7, 8, 9] [1] (fun _ => []) (fun _ => by kernel_rfl) (fun _ => trivial)) ?_
    intro _
    refine GS.seq ?_
    refine GS.cond (t := decide (((v8_1 : Nat) : Int) < ((a0.length : Nat) : Int))) rfl rfl (fun _ => ?_) (fun h24 => absb (drop_dec hd20) h24)
    refine GS.skip ?_
    refine GS.seq ?_
    refine GS.block ?_
    refine GS.seq ?_
    refine GS.region (env' := fun _ => [(0, .slice a0_o a0.length a0_c), (1, .string a1), (5, .int .i64 ((v8_1 : Nat) : Int)), (7, .int .i64 ((a0.length : Nat) : Int)), (8, .int .i64 ((v8_1 : Nat) : Int))]) (mem' := fun _ => [(1, r9 a0_o a0)]) (RunsTo.mk [] [0, 1, 5, 7, 8] [1] (fun _ => []) (fun _ => by kernel_rfl) (fun _ => trivial)) ?_
    intro _
    refine GS.seq ?_
    refine GS.region (env' := fun _ => [(0, .slice a0_o a0.length a0_c), (1, .string a1), (5, .int .i64 ((v8_1 : Nat) : Int)), (7, .int .i64 ((a0.length : Nat) : Int)), (8, .int .i64 ((v8_1 : Nat) : Int)), (16, .bool (a1.toList == x22.toList))]) (mem' := fun _ => [(1, r9 a0_o a0)]) (RunsTo.mk [(3, { act := .idx 1 v8_1 }), (4, { act := .load 1 v8_1 0 [.string x22] })] [0, 1, 5, 7, 8, 16] [1] (fun _ => [a0_o = a0_o, a0.length = (List.map rS a0).length, (((v8_1 : Nat) : Int) : Int) = ((v8_1 : Nat) : Int), v8_1 < a0.length, blk a0_o = blk a0_o, offs a0_o + v8_1 * 1 = offs a0_o + (v8_1 * 1 + 0), (List.map rS a0)[v8_1]? = some [.string x22]]) (fun _ => by kernel_rfl) (fun _ => ⟨rfl, mlen rS a0, rfl, (drop_lt hd20), rfl, rfl, map_drop rS hd20, trivial⟩)) ?_
    intro _
    refine GS.cond (t := a1.toList == x22.toList) rfl rfl (fun h27 => ?_) (fun h27 => ?_)
    · replace hm := br_t h27 hm
      refine GS.seq ?_
      refine GS.region (env' := fun _ => [(4, .int .i64 ((v8_1 : Nat) : Int))]) (mem' := fun _ => []) (RunsTo.mk [] [4] [] (fun _ => []) (fun _ => by kernel_rfl) (fun _ => trivial)) ?_
      intro _
      have hy := Option.some.inj hm
      subst hy
      refine GS.ret (fn := Try.f48) [0] [.int .i64 ((v8_1 : Nat) : Int)] [] rfl Try.func48 (by kernel_rfl) trivial (fun w' hs => ?_)
      exact ⟨(), rfl, hs.turnedG (ks := []) rfl rfl⟩
    · replace hm := br_f h27 hm
      refine GS.skip ?_
      refine GS.inBlock ?_
      refine GS.region (env' := fun _ => [(0, .slice a0_o a0.length a0_c), (1, .string a1), (7, .int .i64 ((a0.length : Nat) : Int)), (8, .int .i64 ((v8_1 + 1 : Nat) : Int))]) (mem' := fun _ => [(1, r9 a0_o a0)]) (RunsTo.mk [(0, { sp := some (.int .i64 ((v8_1 + 1 : Nat) : Int)) })] [0, 1, 7, 8] [1] (fun _ => [((.int .i64 (IntKind.i64.wrap (((v8_1 : Nat) : Int) + 1))) : Value) = .int .i64 ((v8_1 + 1 : Nat) : Int)]) (fun _ => by kernel_rfl) (fun _ => ⟨natw (drop_lt hd20) g21, trivial⟩)) ?_
      intro _
      refine GS.inLoop ?_
      refine GS.rekey (env' := [(0, .slice a0_o a0.length a0_c), (1, .string a1), (7, .int .i64 ((a0.length : Nat) : Int)), (8, .int .i64 ((v8_1 + 1 : Nat) : Int))]) (mem' := [(1, r9 a0_o a0)]) [0, 1, 7, 8] [(1, 1)] (by kernel_rfl) (by kernel_rfl) rfl ?_
      exact ih34 ⟨rs33, v8_1 + 1⟩ ⟨drop_next hd20, hm⟩ (Nat.lt_succ_self _)

theorem w_slices_Contains___string_string_ (F : Nat) (a0_o : Option Addr) (a0_c : Nat) (a0 : List ByteArray) (a1 : ByteArray) {y : Bool} (hm : m_slices_Contains___string_string_ F a0 a1 = some y) : CallG Try.prog 38 #[.slice a0_o a0.length a0_c, .string a1] (X := Unit) (fun (_ : Unit) => .bool y) [] [r9 a0_o a0] (fun (_ : Unit) => []) := by
  intro w hg
  rw [m_slices_Contains___string_string_] at hm
  refine GS.start (S := mayT [] [r9 a0_o a0]) (mem := [(1, r9 a0_o a0)]) Try.func38 rfl Try.ntmps38 (Nat.le_of_ble_eq_true rfl) (hg.start rfl) ?_
  refine GS.conv (env' := [(0, .slice a0_o a0.length a0_c), (1, .string a1)]) rfl rfl ?_
  refine GS.seq ?_
  refine GS.region (env' := fun _ => [(0, .slice a0_o a0.length a0_c), (1, .string a1)]) (mem' := fun _ => [(1, r9 a0_o a0)]) (RunsTo.mk [] [0, 1] [1] (fun _ => []) (fun _ => by kernel_rfl) (fun _ => trivial)) ?_
  intro _
  refine GS.seq ?_
  refine bnd_elim hm (fun y3 e4 hm => ?_)
  refine GS.region (env' := fun _ => [(4, .bool (decide (y3 ≥ 0)))]) (mem' := fun _ => []) (RunsTo.mk [(2, { act := .call [1] (.int .i64 y3) })] [4] [] (fun _ => [CallOK Try.prog 48 #[.slice a0_o a0.length a0_c, .string a1] (.int .i64 y3) [some (r9 a0_o a0)]]) (fun _ => by kernel_rfl) (fun _ => ⟨(w_slices_Index___string_string_ F a0_o a0_c a0 a1 e4).ok ⟨(.inl ⟨r9 a0_o a0, .head _, Cov.refl _⟩), trivial⟩, trivial⟩)) ?_
  intro _
  have hy := Option.some.inj hm
  subst hy
  refine GS.ret (fn := Try.f38) [0] [.bool (decide (y3 ≥ 0))] [] rfl Try.func38 (by kernel_rfl) trivial (fun w' hs => ?_)
  exact ⟨(), rfl, hs.turnedG (ks := []) rfl rfl⟩

end Go.Proofs.Yticlccnajfjdeaa
