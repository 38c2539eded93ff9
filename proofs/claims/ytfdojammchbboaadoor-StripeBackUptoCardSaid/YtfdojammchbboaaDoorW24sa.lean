/-
  CHAPTER 24s: the functions do what their models say (1).
-/
import Derived.Test.YtfdojammchbboaaDoorM24s
set_option linter.unusedVariables false
set_option linter.unusedSimpArgs false
set_option maxRecDepth 100000
namespace Go.Proofs.YtfdojammchbboaaDoor
open Go Go.RowKit Sx

theorem w_stripe_Good (F : Nat) (a0 : S_stripe_Layout) {y : Bool} (hm : m_stripe_Good F a0 = some y) : CallG Tryd.prog 12 #[.agg #[.int .i64 a0.Unit, .int .i64 a0.Count, .int .i64 a0.Size]] (X := Unit) (fun (_ : Unit) => .bool y) [] [] (fun (_ : Unit) => []) := by
  intro w hg
  rw [m_stripe_Good] at hm
  refine GS.start (S := mayT [] []) (mem := []) Tryd.func12 rfl Tryd.ntmps12 (Nat.le_of_ble_eq_true rfl) (hg.start rfl) ?_
  refine GS.conv (env' := [(0, .agg #[.int .i64 a0.Unit, .int .i64 a0.Count, .int .i64 a0.Size])]) rfl rfl ?_
  refine GS.seq ?_
  refine GS.region (env' := fun fr1 => [(1, .pointer (some ⟨(fr1 0).x, 0, none⟩))]) (mem' := fun fr1 => [(1, .cells ((fr1 0).x) 23 [.int .i64 a0.Unit, .int .i64 a0.Count, .int .i64 a0.Size])]) (RunsTo.mk [(0, { act := .new .var, key := some 1 })] [1] [1] (fun fr1 => []) (fun fr1 => by kernel_rfl) (fun fr1 => trivial)) ?_
  intro fr1
  refine GS.seq ?_
  refine br_elim hm (fun h3 hm => ?_) (fun h3 hm => ?_)
  · skip
    refine br_elim hm (fun h4 hm => ?_) (fun h4 hm => ?_)
    · skip
      refine br_elim hm (fun h5 hm => ?_) (fun h5 hm => ?_)
      · skip
        refine br_elim hm (fun h6 hm => ?_) (fun h6 hm => ?_)
        · skip
          refine br_elim hm (fun h7 hm => ?_) (fun h7 hm => ?_)
          · skip
            refine br_elim hm (fun h8 hm => ?_) (fun h8 hm => ?_)
            · skip
              refine grd_elim hm (fun g9 hm => ?_)
              refine GS.region (env' := fun _ => [(2, .bool ((Int.tmod a0.Size a0.Unit) == 0))]) (mem' := fun _ => []) (RunsTo.mk [(1, { act := .load 1 0 0 [] }), (3, { sp := some (.bool true) }), (5, { act := .load 1 0 0 [] }), (8, { sp := some (.bool true) }), (10, { act := .load 1 0 0 [] }), (13, { sp := some (.bool true) }), (15, { act := .load 1 0 0 [] }), (18, { sp := some (.bool true) }), (20, { act := .load 1 0 0 [] }), (22, { act := .load 1 0 0 [] }), (25, { sp := some (.bool true) }), (27, { act := .load 1 0 0 [] }), (30, { sp := some (.bool true) }), (32, { act := .load 1 0 0 [] }), (34, { act := .load 1 0 0 [] }), (35, { act := .div })] [2] [] (fun _ => [(fr1 0).x = (fr1 0).x, ((.bool (decide (a0.Unit ≥ 1))) : Value) = .bool true, (fr1 0).x = (fr1 0).x, ((.bool (decide (a0.Unit ≤ 4096))) : Value) = .bool true, (fr1 0).x = (fr1 0).x, ((.bool (decide (a0.Count ≥ 1))) : Value) = .bool true, (fr1 0).x = (fr1 0).x, ((.bool (decide (a0.Count ≤ 16))) : Value) = .bool true, (fr1 0).x = (fr1 0).x, (fr1 0).x = (fr1 0).x, ((.bool (decide (a0.Size ≥ a0.Unit))) : Value) = .bool true, (fr1 0).x = (fr1 0).x, ((.bool (decide (a0.Size ≤ 4096))) : Value) = .bool true, (fr1 0).x = (fr1 0).x, (fr1 0).x = (fr1 0).x, a0.Unit ≠ 0]) (fun _ => by kernel_rfl) (fun _ => ⟨rfl, bool_eq h3, rfl, bool_eq h4, rfl, bool_eq h5, rfl, bool_eq h6, rfl, rfl, bool_eq h7, rfl, bool_eq h8, rfl, rfl, g9, trivial⟩)) ?_
              intro _
              have hy := Option.some.inj hm
              subst hy
              refine GS.ret (fn := Tryd.f12) [0] [.bool ((Int.tmod a0.Size a0.Unit) == 0)] [] rfl Tryd.func12 (by kernel_rfl) trivial (fun w' hs => ?_)
              exact ⟨(), rfl, hs.turnedG (ks := []) rfl rfl⟩
            · skip
              refine GS.region (env' := fun _ => [(2, .bool false)]) (mem' := fun _ => []) (RunsTo.mk [(1, { act := .load 1 0 0 [] }), (3, { sp := some (.bool true) }), (5, { act := .load 1 0 0 [] }), (8, { sp := some (.bool true) }), (10, { act := .load 1 0 0 [] }), (13, { sp := some (.bool true) }), (15, { act := .load 1 0 0 [] }), (18, { sp := some (.bool true) }), (20, { act := .load 1 0 0 [] }), (22, { act := .load 1 0 0 [] }), (25, { sp := some (.bool true) }), (27, { act := .load 1 0 0 [] }), (30, { sp := some (.bool false) })] [2] [] (fun _ => [(fr1 0).x = (fr1 0).x, ((.bool (decide (a0.Unit ≥ 1))) : Value) = .bool true, (fr1 0).x = (fr1 0).x, ((.bool (decide (a0.Unit ≤ 4096))) : Value) = .bool true, (fr1 0).x = (fr1 0).x, ((.bool (decide (a0.Count ≥ 1))) : Value) = .bool true, (fr1 0).x = (fr1 0).x, ((.bool (decide (a0.Count ≤ 16))) : Value) = .bool true, (fr1 0).x = (fr1 0).x, (fr1 0).x = (fr1 0).x, ((.bool (decide (a0.Size ≥ a0.Unit))) : Value) = .bool true, (fr1 0).x = (fr1 0).x, ((.bool (decide (a0.Size ≤ 4096))) : Value) = .bool false]) (fun _ => by kernel_rfl) (fun _ => ⟨rfl, bool_eq h3, rfl, bool_eq h4, rfl, bool_eq h5, rfl, bool_eq h6, rfl, rfl, bool_eq h7, rfl, bool_eq h8, trivial⟩)) ?_
              intro _
              have hy := Option.some.inj hm
              subst hy
              refine GS.ret (fn := Tryd.f12) [0] [.bool false] [] rfl Tryd.func12 (by kernel_rfl) trivial (fun w' hs => ?_)
              exact ⟨(), rfl, hs.turnedG (ks := []) rfl rfl⟩
          · skip
            refine GS.region (env' := fun _ => [(2, .bool false)]) (mem' := fun _ => []) (RunsTo.mk [(1, { act := .load 1 0 0 [] }), (3, { sp := some (.bool true) }), (5, { act := .load 1 0 0 [] }), (8, { sp := some (.bool true) }), (10, { act := .load 1 0 0 [] }), (13, { sp := some (.bool true) }), (15, { act := .load 1 0 0 [] }), (18, { sp := some (.bool true) }), (20, { act := .load 1 0 0 [] }), (22, { act := .load 1 0 0 [] }), (25, { sp := some (.bool false) })] [2] [] (fun _ => [(fr1 0).x = (fr1 0).x, ((.bool (decide (a0.Unit ≥ 1))) : Value) = .bool true, (fr1 0).x = (fr1 0).x, ((.bool (decide (a0.Unit ≤ 4096))) : Value) = .bool true, (fr1 0).x = (fr1 0).x, ((.bool (decide (a0.Count ≥ 1))) : Value) = .bool true, (fr1 0).x = (fr1 0).x, ((.bool (decide (a0.Count ≤ 16))) : Value) = .bool true, (fr1 0).x = (fr1 0).x, (fr1 0).x = (fr1 0).x, ((.bool (decide (a0.Size ≥ a0.Unit))) : Value) = .bool false]) (fun _ => by kernel_rfl) (fun _ => ⟨rfl, bool_eq h3, rfl, bool_eq h4, rfl, bool_eq h5, rfl, bool_eq h6, rfl, rfl, bool_eq h7, trivial⟩)) ?_
            intro _
            have hy := Option.some.inj hm
            subst hy
            refine GS.ret (fn := Tryd.f12) [0] [.bool false] [] rfl Tryd.func12 (by kernel_rfl) trivial (fun w' hs => ?_)
            exact ⟨(), rfl, hs.turnedG (ks := []) rfl rfl⟩
        · skip
          refine GS.region (env' := fun _ => [(2, .bool false)]) (mem' := fun _ => []) (RunsTo.mk [(1, { act := .load 1 0 0 [] }), (3, { sp := some (.bool true) }), (5, { act := .load 1 0 0 [] }), (8, { sp := some (.bool true) }), (10, { act := .load 1 0 0 [] }), (13, { sp := some (.bool true) }), (15, { act := .load 1 0 0 [] }), (18, { sp := some (.bool false) })] [2] [] (fun _ => [(fr1 0).x = (fr1 0).x, ((.bool (decide (a0.Unit ≥ 1))) : Value) = .bool true, (fr1 0).x = (fr1 0).x, ((.bool (decide (a0.Unit ≤ 4096))) : Value) = .bool true, (fr1 0).x = (fr1 0).x, ((.bool (decide (a0.Count ≥ 1))) : Value) = .bool true, (fr1 0).x = (fr1 0).x, ((.bool (decide (a0.Count ≤ 16))) : Value) = .bool false]) (fun _ => by kernel_rfl) (fun _ => ⟨rfl, bool_eq h3, rfl, bool_eq h4, rfl, bool_eq h5, rfl, bool_eq h6, trivial⟩)) ?_
          intro _
          have hy := Option.some.inj hm
          subst hy
          refine GS.ret (fn := Tryd.f12) [0] [.bool false] [] rfl Tryd.func12 (by kernel_rfl) trivial (fun w' hs => ?_)
          exact ⟨(), rfl, hs.turnedG (ks := []) rfl rfl⟩
      · skip
        refine GS.region (env' := fun _ => [(2, .bool false)]) (mem' := fun _ => []) (RunsTo.mk [(1, { act := .load 1 0 0 [] }), (3, { sp := some (.bool true) }), (5, { act := .load 1 0 0 [] }), (8, { sp := some (.bool true) }), (10, { act := .load 1 0 0 [] }), (13, { sp := some (.bool false) })] [2] [] (fun _ => [(fr1 0).x = (fr1 0).x, ((.bool (decide (a0.Unit ≥ 1))) : Value) = .bool true, (fr1 0).x = (fr1 0).x, ((.bool (decide (a0.Unit ≤ 4096))) : Value) = .bool true, (fr1 0).x = (fr1 0).x, ((.bool (decide (a0.Count ≥ 1))) : Value) = .bool false]) (fun _ => by kernel_rfl) (fun _ => ⟨rfl, bool_eq h3, rfl, bool_eq h4, rfl, bool_eq h5, trivial⟩)) ?_
        intro _
        have hy := Option.some.inj hm
        subst hy
        refine GS.ret (fn := Tryd.f12) [0] [.bool false] [] rfl Tryd.func12 (by kernel_rfl) trivial (fun w' hs => ?_)
        exact ⟨(), rfl, hs.turnedG (ks := []) rfl rfl⟩
    · skip
      refine GS.region (env' := fun _ => [(2, .bool false)]) (mem' := fun _ => []) (RunsTo.mk [(1, { act := .load 1 0 0 [] }), (3, { sp := some (.bool true) }), (5, { act := .load 1 0 0 [] }), (8, { sp := some (.bool false) })] [2] [] (fun _ => [(fr1 0).x = (fr1 0).x, ((.bool (decide (a0.Unit ≥ 1))) : Value) = .bool true, (fr1 0).x = (fr1 0).x, ((.bool (decide (a0.Unit ≤ 4096))) : Value) = .bool false]) (fun _ => by kernel_rfl) (fun _ => ⟨rfl, bool_eq h3, rfl, bool_eq h4, trivial⟩)) ?_
      intro _
      have hy := Option.some.inj hm
      subst hy
      refine GS.ret (fn := Tryd.f12) [0] [.bool false] [] rfl Tryd.func12 (by kernel_rfl) trivial (fun w' hs => ?_)
      exact ⟨(), rfl, hs.turnedG (ks := []) rfl rfl⟩
  · skip
    refine GS.region (env' := fun _ => [(2, .bool false)]) (mem' := fun _ => []) (RunsTo.mk [(1, { act := .load 1 0 0 [] }), (3, { sp := some (.bool false) })] [2] [] (fun _ => [(fr1 0).x = (fr1 0).x, ((.bool (decide (a0.Unit ≥ 1))) : Value) = .bool false]) (fun _ => by kernel_rfl) (fun _ => ⟨rfl, bool_eq h3, trivial⟩)) ?_
    intro _
    have hy := Option.some.inj hm
    subst hy
    refine GS.ret (fn := Tryd.f12) [0] [.bool false] [] rfl Tryd.func12 (by kernel_rfl) trivial (fun w' hs => ?_)
    exact ⟨(), rfl, hs.turnedG (ks := []) rfl rfl⟩

theorem w__stripe_Layout__set (F : Nat) (a0 : S_stripe_Layout) {y : Int} (hm : m__stripe_Layout__set F a0 = some y) : CallG Tryd.prog 36 #[.agg #[.int .i64 a0.Unit, .int .i64 a0.Count, .int .i64 a0.Size]] (X := Unit) (fun (_ : Unit) => .int .i64 y) [] [] (fun (_ : Unit) => []) := by
  intro w hg
  rw [m__stripe_Layout__set] at hm
  refine GS.start (S := mayT [] []) (mem := []) Tryd.func36 rfl Tryd.ntmps36 (Nat.le_of_ble_eq_true rfl) (hg.start rfl) ?_
  refine GS.conv (env' := [(0, .agg #[.int .i64 a0.Unit, .int .i64 a0.Count, .int .i64 a0.Size])]) rfl rfl ?_
  refine GS.seq ?_
  refine GS.region (env' := fun fr1 => [(1, .pointer (some ⟨(fr1 0).x, 0, none⟩))]) (mem' := fun fr1 => [(1, .cells ((fr1 0).x) 23 [.int .i64 a0.Unit, .int .i64 a0.Count, .int .i64 a0.Size])]) (RunsTo.mk [(0, { act := .new .var, key := some 1 })] [1] [1] (fun fr1 => []) (fun fr1 => by kernel_rfl) (fun fr1 => trivial)) ?_
  intro fr1
  refine GS.seq ?_
  refine grd_elim hm (fun g3 hm => ?_)
  refine grd_elim hm (fun g4 hm => ?_)
  refine grd_elim hm (fun g5 hm => ?_)
  refine GS.region (env' := fun _ => [(2, .int .i64 (a0.Count * (Int.tdiv a0.Size a0.Unit)))]) (mem' := fun _ => []) (RunsTo.mkd [(1, { act := .load 1 0 0 [] }), (3, { act := .load 1 0 0 [] }), (5, { act := .load 1 0 0 [] }), (6, { act := .div, sp := some (.int .i64 (Int.tdiv a0.Size a0.Unit)) }), (7, { sp := some (.int .i64 (a0.Count * (Int.tdiv a0.Size a0.Unit))) })] [2] [] (fun _ => [(fr1 0).x = (fr1 0).x, (fr1 0).x = (fr1 0).x, (fr1 0).x = (fr1 0).x, a0.Unit ≠ 0, ((.int .i64 (IntKind.i64.wrap (Int.tdiv a0.Size a0.Unit))) : Value) = .int .i64 (Int.tdiv a0.Size a0.Unit), ((.int .i64 (IntKind.i64.wrap (a0.Count * (Int.tdiv a0.Size a0.Unit)))) : Value) = .int .i64 (a0.Count * (Int.tdiv a0.Size a0.Unit))]) (by kernel_rfl) (by kernel_rfl) (fun _ => by kernel_rfl) (fun _ => ⟨rfl, rfl, rfl, g3, I64.w g4, I64.w g5, trivial⟩)) ?_
  intro _
  have hy := Option.some.inj hm
  subst hy
  refine GS.ret (fn := Tryd.f36) [0] [.int .i64 (a0.Count * (Int.tdiv a0.Size a0.Unit))] [] rfl Tryd.func36 (by kernel_rfl) trivial (fun w' hs => ?_)
  exact ⟨(), rfl, hs.turnedG (ks := []) rfl rfl⟩

theorem w_stripe_Place (F : Nat) (a0 : S_stripe_Layout) (a1 : Int) {y : Int × Int} (hm : m_stripe_Place F a0 a1 = some y) : CallG Tryd.prog 10 #[.agg #[.int .i64 a0.Unit, .int .i64 a0.Count, .int .i64 a0.Size], .int .i64 a1] (X := Unit) (fun (_ : Unit) => .tuple #[.int .i64 y.1, .int .i64 y.2]) [] [] (fun (_ : Unit) => []) := by
  intro w hg
  rw [m_stripe_Place] at hm
  refine GS.start (S := mayT [] []) (mem := []) Tryd.func10 rfl Tryd.ntmps10 (Nat.le_of_ble_eq_true rfl) (hg.start rfl) ?_
  refine GS.conv (env' := [(0, .agg #[.int .i64 a0.Unit, .int .i64 a0.Count, .int .i64 a0.Size]), (1, .int .i64 a1)]) rfl rfl ?_
  refine GS.seq ?_
  refine GS.region (env' := fun fr1 => [(1, .int .i64 a1), (2, .pointer (some ⟨(fr1 0).x, 0, none⟩))]) (mem' := fun fr1 => [(1, .cells ((fr1 0).x) 23 [.int .i64 a0.Unit, .int .i64 a0.Count, .int .i64 a0.Size])]) (RunsTo.mk [(0, { act := .new .var, key := some 1 })] [1, 2] [1] (fun fr1 => []) (fun fr1 => by kernel_rfl) (fun fr1 => trivial)) ?_
  intro fr1
  refine GS.seq ?_
  refine GS.seq ?_
  refine jn_elim hm (fun J7 hJ9 hm => ?_)
  refine GS.cut (ι := Bool) (I := fun (v18_1 : Bool) => J7 v18_1 = some y) (E := fun (v18_1 : Bool) => [(1, .int .i64 a1), (2, .pointer (some ⟨(fr1 0).x, 0, none⟩)), (18, .bool v18_1)]) (M := fun (v18_1 : Bool) => [(1, .cells ((fr1 0).x) 23 [.int .i64 a0.Unit, .int .i64 a0.Count, .int .i64 a0.Size])]) ?_ ?_
  rotate_left
  · intro H8
    refine bnd_elim hm (fun y3 e4 hm => ?_)
    refine br_elim hm (fun h5 hm => ?_) (fun h5 hm => ?_)
    · skip
      refine GS.region (env' := fun _ => [(1, .int .i64 a1), (2, .pointer (some ⟨(fr1 0).x, 0, none⟩)), (18, .bool true)]) (mem' := fun _ => [(1, .cells ((fr1 0).x) 23 [.int .i64 a0.Unit, .int .i64 a0.Count, .int .i64 a0.Size])]) (RunsTo.mk [(0, { act := .load 1 0 0 [] }), (1, { act := .call [] (.bool y3) }), (3, { sp := some (.bool true) })] [1, 2, 18] [1] (fun _ => [(fr1 0).x = (fr1 0).x, CallOK Tryd.prog 12 #[.agg #[.int .i64 a0.Unit, .int .i64 a0.Count, .int .i64 a0.Size]] (.bool y3) [], ((.bool (!y3)) : Value) = .bool true]) (fun _ => by kernel_rfl) (fun _ => ⟨rfl, (w_stripe_Good F a0 e4).ok trivial, bool_eq h5, trivial⟩)) ?_
      intro _
      refine GS.rekey (env' := [(1, .int .i64 a1), (2, .pointer (some ⟨(fr1 0).x, 0, none⟩)), (18, .bool true)]) (mem' := [(1, .cells ((fr1 0).x) 23 [.int .i64 a0.Unit, .int .i64 a0.Count, .int .i64 a0.Size])]) [1, 2, 18] [(1, 1)] (by kernel_rfl) (by kernel_rfl) rfl ?_
      exact H8 true hm
    · skip
      refine br_elim hm (fun h6 hm => ?_) (fun h6 hm => ?_)
      · skip
        refine GS.region (env' := fun _ => [(1, .int .i64 a1), (2, .pointer (some ⟨(fr1 0).x, 0, none⟩)), (18, .bool true)]) (mem' := fun _ => [(1, .cells ((fr1 0).x) 23 [.int .i64 a0.Unit, .int .i64 a0.Count, .int .i64 a0.Size])]) (RunsTo.mk [(0, { act := .load 1 0 0 [] }), (1, { act := .call [] (.bool y3) }), (3, { sp := some (.bool false) }), (7, { sp := some (.bool true) })] [1, 2, 18] [1] (fun _ => [(fr1 0).x = (fr1 0).x, CallOK Tryd.prog 12 #[.agg #[.int .i64 a0.Unit, .int .i64 a0.Count, .int .i64 a0.Size]] (.bool y3) [], ((.bool (!y3)) : Value) = .bool false, ((.bool (decide (a1 < 0))) : Value) = .bool true]) (fun _ => by kernel_rfl) (fun _ => ⟨rfl, (w_stripe_Good F a0 e4).ok trivial, bool_eq h5, bool_eq h6, trivial⟩)) ?_
        intro _
        refine GS.rekey (env' := [(1, .int .i64 a1), (2, .pointer (some ⟨(fr1 0).x, 0, none⟩)), (18, .bool true)]) (mem' := [(1, .cells ((fr1 0).x) 23 [.int .i64 a0.Unit, .int .i64 a0.Count, .int .i64 a0.Size])]) [1, 2, 18] [(1, 1)] (by kernel_rfl) (by kernel_rfl) rfl ?_
        exact H8 true hm
      · skip
        refine GS.region (env' := fun _ => [(1, .int .i64 a1), (2, .pointer (some ⟨(fr1 0).x, 0, none⟩)), (18, .bool (decide (a1 ≥ 65536)))]) (mem' := fun _ => [(1, .cells ((fr1 0).x) 23 [.int .i64 a0.Unit, .int .i64 a0.Count, .int .i64 a0.Size])]) (RunsTo.mk [(0, { act := .load 1 0 0 [] }), (1, { act := .call [] (.bool y3) }), (3, { sp := some (.bool false) }), (7, { sp := some (.bool false) })] [1, 2, 18] [1] (fun _ => [(fr1 0).x = (fr1 0).x, CallOK Tryd.prog 12 #[.agg #[.int .i64 a0.Unit, .int .i64 a0.Count, .int .i64 a0.Size]] (.bool y3) [], ((.bool (!y3)) : Value) = .bool false, ((.bool (decide (a1 < 0))) : Value) = .bool false]) (fun _ => by kernel_rfl) (fun _ => ⟨rfl, (w_stripe_Good F a0 e4).ok trivial, bool_eq h5, bool_eq h6, trivial⟩)) ?_
        intro _
        refine GS.rekey (env' := [(1, .int .i64 a1), (2, .pointer (some ⟨(fr1 0).x, 0, none⟩)), (18, .bool (decide (a1 ≥ 65536)))]) (mem' := [(1, .cells ((fr1 0).x) 23 [.int .i64 a0.Unit, .int .i64 a0.Count, .int .i64 a0.Size])]) [1, 2, 18] [(1, 1)] (by kernel_rfl) (by kernel_rfl) rfl ?_
        exact H8 (decide (a1 ≥ 65536)) hm
  · rintro v18_1 hm
    replace hm := (hJ9 _).symm.trans hm
    try dsimp only at hm
    refine GS.cond (t := v18_1) rfl rfl (fun h10 => ?_) (fun h10 => ?_)
    · replace hm := br_t h10 hm
      refine GS.seq ?_
      refine GS.region (env' := fun _ => [(4, .int .i64 0), (5, .int .i64 0)]) (mem' := fun _ => []) (RunsTo.mk [] [4, 5] [] (fun _ => []) (fun _ => by kernel_rfl) (fun _ => trivial)) ?_
      intro _
      have hy := Option.some.inj hm
      subst hy
      refine GS.ret (fn := Tryd.f10) [0, 0] [.int .i64 0, .int .i64 0] [] rfl Tryd.func10 (by kernel_rfl) trivial (fun w' hs => ?_)
      exact ⟨(), rfl, hs.turnedG (ks := []) rfl rfl⟩
    · replace hm := br_f h10 hm
      refine GS.skip ?_
      refine GS.seq ?_
      refine grd_elim hm (fun g13 hm => ?_)
      refine grd_elim hm (fun g14 hm => ?_)
      refine GS.region (env' := fun _ => [(1, .int .i64 a1), (2, .pointer (some ⟨(fr1 0).x, 0, none⟩)), (6, .int .i64 (Int.tdiv a1 a0.Unit))]) (mem' := fun _ => [(1, .cells ((fr1 0).x) 23 [.int .i64 a0.Unit, .int .i64 a0.Count, .int .i64 a0.Size])]) (RunsTo.mk [(2, { act := .load 1 0 0 [] }), (3, { act := .div, sp := some (.int .i64 (Int.tdiv a1 a0.Unit)) })] [1, 2, 6] [1] (fun _ => [(fr1 0).x = (fr1 0).x, a0.Unit ≠ 0, ((.int .i64 (IntKind.i64.wrap (Int.tdiv a1 a0.Unit))) : Value) = .int .i64 (Int.tdiv a1 a0.Unit)]) (fun _ => by kernel_rfl) (fun _ => ⟨rfl, g13, I64.w g14, trivial⟩)) ?_
      intro _
      refine GS.seq ?_
      refine bnd_elim hm (fun y16 e17 hm => ?_)
      refine grd_elim hm (fun g18 hm => ?_)
      refine GS.region (env' := fun _ => [(1, .int .i64 a1), (2, .pointer (some ⟨(fr1 0).x, 0, none⟩)), (6, .int .i64 (Int.tdiv a1 a0.Unit)), (7, .int .i64 (Int.tmod (Int.tdiv a1 a0.Unit) y16))]) (mem' := fun _ => [(1, .cells ((fr1 0).x) 23 [.int .i64 a0.Unit, .int .i64 a0.Count, .int .i64 a0.Size])]) (RunsTo.mk [(1, { act := .load 1 0 0 [] }), (2, { act := .call [] (.int .i64 y16) }), (3, { act := .div })] [1, 2, 6, 7] [1] (fun _ => [(fr1 0).x = (fr1 0).x, CallOK Tryd.prog 36 #[.agg #[.int .i64 a0.Unit, .int .i64 a0.Count, .int .i64 a0.Size]] (.int .i64 y16) [], y16 ≠ 0]) (fun _ => by kernel_rfl) (fun _ => ⟨rfl, (w__stripe_Layout__set F a0 e17).ok trivial, g18, trivial⟩)) ?_
      intro _
      refine GS.seq ?_
      refine bnd_elim hm (fun y20 e21 hm => ?_)
      refine grd_elim hm (fun g22 hm => ?_)
      refine grd_elim hm (fun g23 hm => ?_)
      refine grd_elim hm (fun g24 hm => ?_)
      refine grd_elim hm (fun g25 hm => ?_)
      refine grd_elim hm (fun g26 hm => ?_)
      refine grd_elim hm (fun g27 hm => ?_)
      refine grd_elim hm (fun g28 hm => ?_)
      refine grd_elim hm (fun g29 hm => ?_)
      refine GS.region (env' := fun _ => [(4, .int .i64 (((Int.tdiv (Int.tdiv a1 a0.Unit) y20) * a0.Count) + (Int.tmod (Int.tmod (Int.tdiv a1 a0.Unit) y16) a0.Count))), (5, .int .i64 (((Int.tdiv (Int.tmod (Int.tdiv a1 a0.Unit) y16) a0.Count) * a0.Unit) + (Int.tmod a1 a0.Unit)))]) (mem' := fun _ => []) (RunsTo.mkd [(1, { act := .load 1 0 0 [] }), (2, { act := .call [] (.int .i64 y20) }), (3, { act := .div, sp := some (.int .i64 (Int.tdiv (Int.tdiv a1 a0.Unit) y20)) }), (5, { act := .load 1 0 0 [] }), (6, { sp := some (.int .i64 ((Int.tdiv (Int.tdiv a1 a0.Unit) y20) * a0.Count)) }), (9, { act := .load 1 0 0 [] }), (10, { act := .div }), (11, { sp := some (.int .i64 (((Int.tdiv (Int.tdiv a1 a0.Unit) y20) * a0.Count) + (Int.tmod (Int.tmod (Int.tdiv a1 a0.Unit) y16) a0.Count))) }), (14, { act := .load 1 0 0 [] }), (15, { act := .div, sp := some (.int .i64 (Int.tdiv (Int.tmod (Int.tdiv a1 a0.Unit) y16) a0.Count)) }), (17, { act := .load 1 0 0 [] }), (18, { sp := some (.int .i64 ((Int.tdiv (Int.tmod (Int.tdiv a1 a0.Unit) y16) a0.Count) * a0.Unit)) }), (21, { act := .load 1 0 0 [] }), (22, { act := .div }), (23, { sp := some (.int .i64 (((Int.tdiv (Int.tmod (Int.tdiv a1 a0.Unit) y16) a0.Count) * a0.Unit) + (Int.tmod a1 a0.Unit))) })] [4, 5] [] (fun _ => [(fr1 0).x = (fr1 0).x, CallOK Tryd.prog 36 #[.agg #[.int .i64 a0.Unit, .int .i64 a0.Count, .int .i64 a0.Size]] (.int .i64 y20) [], y20 ≠ 0, ((.int .i64 (IntKind.i64.wrap (Int.tdiv (Int.tdiv a1 a0.Unit) y20))) : Value) = .int .i64 (Int.tdiv (Int.tdiv a1 a0.Unit) y20), (fr1 0).x = (fr1 0).x, ((.int .i64 (IntKind.i64.wrap ((Int.tdiv (Int.tdiv a1 a0.Unit) y20) * a0.Count))) : Value) = .int .i64 ((Int.tdiv (Int.tdiv a1 a0.Unit) y20) * a0.Count), (fr1 0).x = (fr1 0).x, a0.Count ≠ 0, ((.int .i64 (IntKind.i64.wrap (((Int.tdiv (Int.tdiv a1 a0.Unit) y20) * a0.Count) + (Int.tmod (Int.tmod (Int.tdiv a1 a0.Unit) y16) a0.Count)))) : Value) = .int .i64 (((Int.tdiv (Int.tdiv a1 a0.Unit) y20) * a0.Count) + (Int.tmod (Int.tmod (Int.tdiv a1 a0.Unit) y16) a0.Count)), (fr1 0).x = (fr1 0).x, a0.Count ≠ 0, ((.int .i64 (IntKind.i64.wrap (Int.tdiv (Int.tmod (Int.tdiv a1 a0.Unit) y16) a0.Count))) : Value) = .int .i64 (Int.tdiv (Int.tmod (Int.tdiv a1 a0.Unit) y16) a0.Count), (fr1 0).x = (fr1 0).x, ((.int .i64 (IntKind.i64.wrap ((Int.tdiv (Int.tmod (Int.tdiv a1 a0.Unit) y16) a0.Count) * a0.Unit))) : Value) = .int .i64 ((Int.tdiv (Int.tmod (Int.tdiv a1 a0.Unit) y16) a0.Count) * a0.Unit), (fr1 0).x = (fr1 0).x, a0.Unit ≠ 0, ((.int .i64 (IntKind.i64.wrap (((Int.tdiv (Int.tmod (Int.tdiv a1 a0.Unit) y16) a0.Count) * a0.Unit) + (Int.tmod a1 a0.Unit)))) : Value) = .int .i64 (((Int.tdiv (Int.tmod (Int.tdiv a1 a0.Unit) y16) a0.Count) * a0.Unit) + (Int.tmod a1 a0.Unit))]) (by kernel_rfl) (by kernel_rfl) (fun _ => by kernel_rfl) (fun _ => ⟨rfl, (w__stripe_Layout__set F a0 e21).ok trivial, g22, I64.w g23, rfl, I64.w g24, rfl, g25, I64.w g26, rfl, g25, I64.w g27, rfl, I64.w g28, rfl, g13, I64.w g29, trivial⟩)) ?_
      intro _
      have hy := Option.some.inj hm
      subst hy
      refine GS.ret (fn := Tryd.f10) [0, 0] [.int .i64 (((Int.tdiv (Int.tdiv a1 a0.Unit) y20) * a0.Count) + (Int.tmod (Int.tmod (Int.tdiv a1 a0.Unit) y16) a0.Count)), .int .i64 (((Int.tdiv (Int.tmod (Int.tdiv a1 a0.Unit) y16) a0.Count) * a0.Unit) + (Int.tmod a1 a0.Unit))] [] rfl Tryd.func10 (by kernel_rfl) trivial (fun w' hs => ?_)
      exact ⟨(), rfl, hs.turnedG (ks := []) rfl rfl⟩

theorem w_internal_bytealg_LastIndexByteString (F : Nat) (a0 : ByteArray) (a1 : Int) {y : Int} (hm : m_internal_bytealg_LastIndexByteString F a0 a1 = some y) : CallG Tryd.prog 41 #[.string a0, .int .u8 a1] (X := Unit) (fun (_ : Unit) => .int .i64 y) [] [] (fun (_ : Unit) => []) := by
  intro w hg
  rw [m_internal_bytealg_LastIndexByteString] at hm
  refine GS.start (S := mayT [] []) (mem := []) Tryd.func41 rfl Tryd.ntmps41 (Nat.le_of_ble_eq_true rfl) (hg.start rfl) ?_
  refine GS.conv (env' := [(0, .string a0), (1, .int .u8 a1)]) rfl rfl ?_
  refine GS.seq ?_
  refine GS.region (env' := fun _ => [(0, .string a0), (1, .int .u8 a1)]) (mem' := fun _ => []) (RunsTo.mk [] [0, 1] [] (fun _ => []) (fun _ => by kernel_rfl) (fun _ => trivial)) ?_
  intro _
  refine GS.seq ?_
  refine GS.seq ?_
  refine grd_elim hm (fun g3 hm => ?_)
  refine GS.region (env' := fun _ => [(0, .string a0), (1, .int .u8 a1), (5, .int .i64 (((a0.size : Nat) : Int) - 1))]) (mem' := fun _ => []) (RunsTo.mk [(2, { sp := some (.int .i64 (((a0.size : Nat) : Int) - 1)) })] [0, 1, 5] [] (fun _ => [((.int .i64 (IntKind.i64.wrap (((a0.size : Nat) : Int) - 1))) : Value) = .int .i64 (((a0.size : Nat) : Int) - 1)]) (fun _ => by kernel_rfl) (fun _ => ⟨I64.w g3, trivial⟩)) ?_
  intro _
  refine GS.block ?_
  refine GS.loop ?_
  refine GS.rekey (env' := [(0, .string a0), (1, .int .u8 a1), (5, .int .i64 (((a0.size : Nat) : Int) - 1))]) (mem' := []) [0, 1, 5] [] (by kernel_rfl) (by kernel_rfl) rfl ?_
  refine loopW_elim hm (fun st32 hst34 hm => ?_)
  refine GS.loopInv (ι := Nat × Int) (I := fun ⟨rs30, v5_1⟩ => loopW st32 rs30 v5_1 = some y) (μ := fun ⟨rs30, v5_1⟩ => rs30) (E := fun ⟨rs30, v5_1⟩ => [(0, .string a0), (1, .int .u8 a1), (5, .int .i64 v5_1)]) (M := fun ⟨rs30, v5_1⟩ => []) ?_ ⟨F, (((a0.size : Nat) : Int) - 1)⟩ hm
  rintro ⟨rs30, v5_1⟩ hm ih31
  cases rs30 with
  | zero => cases hm
  | succ rs30 =>
    replace hm := (hst34 _ _).symm.trans hm
    try dsimp only at hm
    refine GS.seq ?_
    refine GS.seq ?_
    refine GS.region (env' := fun _ => [(0, .string a0), (1, .int .u8 a1), (5, .int .i64 v5_1), (10, .bool (decide (v5_1 ≥ 0)))]) (mem' := fun _ => []) (RunsTo.mk [] [0, 1, 5, 10] [] (fun _ => []) (fun _ => by kernel_rfl) (fun _ => trivial)) ?_
    intro _
    refine GS.cond (t := decide (v5_1 ≥ 0)) rfl rfl (fun h22 => ?_) (fun h22 => ?_)
    · replace hm := br_t h22 hm
      refine GS.skip ?_
      refine GS.seq ?_
      refine GS.block ?_
      refine GS.seq ?_
      refine grd_elim hm (fun g24 hm => ?_)
      refine GS.region (env' := fun _ => [(0, .string a0), (1, .int .u8 a1), (5, .int .i64 v5_1), (17, .bool ((((a0.data.getD (Int.toNat v5_1) 0).toNat : Nat) : Int) == a1))]) (mem' := fun _ => []) (RunsTo.mk [(2, { act := .elt (Int.toNat v5_1) })] [0, 1, 5, 17] [] (fun _ => [(v5_1 : Int) = (((Int.toNat v5_1) : Nat) : Int), (Int.toNat v5_1) < a0.size]) (fun _ => by kernel_rfl) (fun _ => ⟨g24.eq, g24.2, trivial⟩)) ?_
      intro _
      refine GS.cond (t := (((a0.data.getD (Int.toNat v5_1) 0).toNat : Nat) : Int) == a1) rfl rfl (fun h25 => ?_) (fun h25 => ?_)
      · replace hm := br_t h25 hm
        refine GS.seq ?_
        refine GS.region (env' := fun _ => [(4, .int .i64 v5_1)]) (mem' := fun _ => []) (RunsTo.mk [] [4] [] (fun _ => []) (fun _ => by kernel_rfl) (fun _ => trivial)) ?_
        intro _
        have hy := Option.some.inj hm
        subst hy
        refine GS.ret (fn := Tryd.f41) [0] [.int .i64 v5_1] [] rfl Tryd.func41 (by kernel_rfl) trivial (fun w' hs => ?_)
        exact ⟨(), rfl, hs.turnedG (ks := []) rfl rfl⟩
      · replace hm := br_f h25 hm
        refine GS.skip ?_
        refine GS.inBlock ?_
        refine grd_elim hm (fun g28 hm => ?_)
        refine GS.region (env' := fun _ => [(0, .string a0), (1, .int .u8 a1), (5, .int .i64 (v5_1 - 1))]) (mem' := fun _ => []) (RunsTo.mk [(1, { sp := some (.int .i64 (v5_1 - 1)) })] [0, 1, 5] [] (fun _ => [((.int .i64 (IntKind.i64.wrap (v5_1 - 1))) : Value) = .int .i64 (v5_1 - 1)]) (fun _ => by kernel_rfl) (fun _ => ⟨I64.w g28, trivial⟩)) ?_
        intro _
        refine GS.inLoop ?_
        refine GS.rekey (env' := [(0, .string a0), (1, .int .u8 a1), (5, .int .i64 (v5_1 - 1))]) (mem' := []) [0, 1, 5] [] (by kernel_rfl) (by kernel_rfl) rfl ?_
        exact ih31 ⟨rs30, (v5_1 - 1)⟩ hm (Nat.lt_succ_self _)
    · replace hm := br_f h22 hm
      refine GS.exit rfl ?_
      refine GS.seq ?_
      refine GS.region (env' := fun _ => [(4, .int .i64 (-1))]) (mem' := fun _ => []) (RunsTo.mk [] [4] [] (fun _ => []) (fun _ => by kernel_rfl) (fun _ => trivial)) ?_
      intro _
      have hy := Option.some.inj hm
      subst hy
      refine GS.ret (fn := Tryd.f41) [0] [.int .i64 (-1)] [] rfl Tryd.func41 (by kernel_rfl) trivial (fun w' hs => ?_)
      exact ⟨(), rfl, hs.turnedG (ks := []) rfl rfl⟩

theorem w_strings_LastIndexByte (F : Nat) (a0 : ByteArray) (a1 : Int) {y : Int} (hm : m_strings_LastIndexByte F a0 a1 = some y) : CallG Tryd.prog 37 #[.string a0, .int .u8 a1] (X := Unit) (fun (_ : Unit) => .int .i64 y) [] [] (fun (_ : Unit) => []) := by
  intro w hg
  rw [m_strings_LastIndexByte] at hm
  refine GS.start (S := mayT [] []) (mem := []) Tryd.func37 rfl Tryd.ntmps37 (Nat.le_of_ble_eq_true rfl) (hg.start rfl) ?_
  refine GS.conv (env' := [(0, .string a0), (1, .int .u8 a1)]) rfl rfl ?_
  refine GS.seq ?_
  refine GS.region (env' := fun _ => [(0, .string a0), (1, .int .u8 a1)]) (mem' := fun _ => []) (RunsTo.mk [] [0, 1] [] (fun _ => []) (fun _ => by kernel_rfl) (fun _ => trivial)) ?_
  intro _
  refine GS.seq ?_
  refine bnd_elim hm (fun y3 e4 hm => ?_)
  refine GS.region (env' := fun _ => [(4, .int .i64 y3)]) (mem' := fun _ => []) (RunsTo.mk [(2, { act := .call [] (.int .i64 y3) })] [4] [] (fun _ => [CallOK Tryd.prog 41 #[.string a0, .int .u8 a1] (.int .i64 y3) []]) (fun _ => by kernel_rfl) (fun _ => ⟨(w_internal_bytealg_LastIndexByteString F a0 a1 e4).ok trivial, trivial⟩)) ?_
  intro _
  have hy := Option.some.inj hm
  subst hy
  refine GS.ret (fn := Tryd.f37) [0] [.int .i64 y3] [] rfl Tryd.func37 (by kernel_rfl) trivial (fun w' hs => ?_)
  exact ⟨(), rfl, hs.turnedG (ks := []) rfl rfl⟩

theorem w_internal_strconv_Atoi (F : Nat) (a0 : ByteArray) {y : Int} (hm : m_internal_strconv_Atoi F a0 = some y) : CallG Tryd.prog 42 #[.string a0] (X := Unit) (fun (_ : Unit) => .tuple #[.int .i64 y, .nilIface]) [] [] (fun (_ : Unit) => []) := by
  intro w hg
  rw [m_internal_strconv_Atoi] at hm
  refine GS.start (S := mayT [] []) (mem := []) Tryd.func42 rfl Tryd.ntmps42 (Nat.le_of_ble_eq_true rfl) (hg.start rfl) ?_
  refine GS.conv (env' := [(0, .string a0)]) rfl rfl ?_
  refine GS.seq ?_
  refine GS.region (env' := fun _ => [(0, .string a0)]) (mem' := fun _ => []) (RunsTo.mk [] [0] [] (fun _ => []) (fun _ => by kernel_rfl) (fun _ => trivial)) ?_
  intro _
  refine GS.seq ?_
  refine GS.region (env' := fun _ => [(0, .string a0), (4, .int .i64 ((a0.size : Nat) : Int))]) (mem' := fun _ => []) (RunsTo.mk [] [0, 4] [] (fun _ => []) (fun _ => by kernel_rfl) (fun _ => trivial)) ?_
  intro _
  refine GS.seq ?_
  refine GS.seq ?_
  refine jn_elim hm (fun J5 hJ7 hm => ?_)
  refine GS.cut (ι := Bool) (I := fun (v30_1 : Bool) => J5 v30_1 = some y) (E := fun (v30_1 : Bool) => [(0, .string a0), (30, .bool v30_1)]) (M := fun (v30_1 : Bool) => []) ?_ ?_
  rotate_left
  · intro H6
    refine br_elim hm (fun h4 hm => ?_) (fun h4 hm => ?_)
    · skip
      refine GS.region (env' := fun _ => [(0, .string a0), (30, .bool (decide (((a0.size : Nat) : Int) < 19)))]) (mem' := fun _ => []) (RunsTo.mk [(12, { sp := some (.bool true) })] [0, 30] [] (fun _ => [((.bool (decide (0 < ((a0.size : Nat) : Int)))) : Value) = .bool true]) (fun _ => by kernel_rfl) (fun _ => ⟨bool_eq h4, trivial⟩)) ?_
      intro _
      refine GS.rekey (env' := [(0, .string a0), (30, .bool (decide (((a0.size : Nat) : Int) < 19)))]) (mem' := []) [0, 30] [] (by kernel_rfl) (by kernel_rfl) rfl ?_
      exact H6 (decide (((a0.size : Nat) : Int) < 19)) hm
    · skip
      refine GS.region (env' := fun _ => [(0, .string a0), (30, .bool false)]) (mem' := fun _ => []) (RunsTo.mk [(12, { sp := some (.bool false) })] [0, 30] [] (fun _ => [((.bool (decide (0 < ((a0.size : Nat) : Int)))) : Value) = .bool false]) (fun _ => by kernel_rfl) (fun _ => ⟨bool_eq h4, trivial⟩)) ?_
      intro _
      refine GS.rekey (env' := [(0, .string a0), (30, .bool false)]) (mem' := []) [0, 30] [] (by kernel_rfl) (by kernel_rfl) rfl ?_
      exact H6 false hm
  · rintro v30_1 hm
    replace hm := (hJ7 _).symm.trans hm
    try dsimp only at hm
    refine GS.cond (t := v30_1) rfl rfl (fun h8 => ?_) (fun h8 => ?_)
    · replace hm := br_t h8 hm
      refine GS.seq ?_
      refine GS.region (env' := fun _ => [(0, .string a0), (5, .string a0)]) (mem' := fun _ => []) (RunsTo.mk [] [0, 5] [] (fun _ => []) (fun _ => by kernel_rfl) (fun _ => trivial)) ?_
      intro _
      refine GS.seq ?_
      refine GS.seq ?_
      refine jn_elim hm (fun J13 hJ15 hm => ?_)
      refine GS.cut (ι := Bool) (I := fun (v39_2 : Bool) => J13 v39_2 = some y) (E := fun (v39_2 : Bool) => [(0, .string a0), (5, .string a0), (39, .bool v39_2)]) (M := fun (v39_2 : Bool) => []) ?_ ?_
      rotate_left
      · intro H14
        refine grd_elim hm (fun g11 hm => ?_)
        refine br_elim hm (fun h12 hm => ?_) (fun h12 hm => ?_)
        · skip
          refine GS.region (env' := fun _ => [(0, .string a0), (5, .string a0), (39, .bool true)]) (mem' := fun _ => []) (RunsTo.mk [(1, { act := .elt 0 }), (3, { sp := some (.bool true) })] [0, 5, 39] [] (fun _ => [(0 : Int) = ((0 : Nat) : Int), 0 < a0.size, ((.bool ((((a0.data.getD 0 0).toNat : Nat) : Int) == 45)) : Value) = .bool true]) (fun _ => by kernel_rfl) (fun _ => ⟨rfl, g11, bool_eq h12, trivial⟩)) ?_
          intro _
          refine GS.rekey (env' := [(0, .string a0), (5, .string a0), (39, .bool true)]) (mem' := []) [0, 5, 39] [] (by kernel_rfl) (by kernel_rfl) rfl ?_
          exact H14 true hm
        · skip
          refine GS.region (env' := fun _ => [(0, .string a0), (5, .string a0), (39, .bool ((((a0.data.getD 0 0).toNat : Nat) : Int) == 43))]) (mem' := fun _ => []) (RunsTo.mk [(1, { act := .elt 0 }), (3, { sp := some (.bool false) }), (5, { act := .elt 0 })] [0, 5, 39] [] (fun _ => [(0 : Int) = ((0 : Nat) : Int), 0 < a0.size, ((.bool ((((a0.data.getD 0 0).toNat : Nat) : Int) == 45)) : Value) = .bool false, (0 : Int) = ((0 : Nat) : Int), 0 < a0.size]) (fun _ => by kernel_rfl) (fun _ => ⟨rfl, g11, bool_eq h12, rfl, g11, trivial⟩)) ?_
          intro _
          refine GS.rekey (env' := [(0, .string a0), (5, .string a0), (39, .bool ((((a0.data.getD 0 0).toNat : Nat) : Int) == 43))]) (mem' := []) [0, 5, 39] [] (by kernel_rfl) (by kernel_rfl) rfl ?_
          exact H14 ((((a0.data.getD 0 0).toNat : Nat) : Int) == 43) hm
      · rintro v39_2 hm
        replace hm := (hJ15 _).symm.trans hm
        try dsimp only at hm
        refine jn_elim hm (fun J22 hJ24 hm => ?_)
        refine GS.cut (ι := ByteArray) (I := fun (v0_3 : ByteArray) => J22 v0_3 = some y) (E := fun (v0_3 : ByteArray) => [(0, .string v0_3), (5, .string a0)]) (M := fun (v0_3 : ByteArray) => []) ?_ ?_
        rotate_left
        · intro H23
          refine GS.cond (t := v39_2) rfl rfl (fun h16 => ?_) (fun h16 => ?_)
          · replace hm := br_t h16 hm
            refine GS.seq ?_
            refine grd_elim hm (fun g18 hm => ?_)
            refine GS.region (env' := fun _ => [(0, .string (a0.extract 1 a0.size)), (5, .string a0)]) (mem' := fun _ => []) (RunsTo.mk [(1, { act := .cut 1 a0.size 0 })] [0, 5] [] (fun _ => [1 = ((1 : Nat) : Int), a0.size = a0.size, 1 ≤ a0.size, a0.size ≤ a0.size]) (fun _ => by kernel_rfl) (fun _ => ⟨rfl, rfl, g18, (Nat.le_refl _), trivial⟩)) ?_
            intro _
            refine GS.seq ?_
            refine GS.region (env' := fun _ => [(0, .string (a0.extract 1 a0.size)), (5, .string a0), (44, .bool (decide ((((a0.extract 1 a0.size).size : Nat) : Int) < 1)))]) (mem' := fun _ => []) (RunsTo.mk [] [0, 5, 44] [] (fun _ => []) (fun _ => by kernel_rfl) (fun _ => trivial)) ?_
            intro _
            refine GS.cond (t := decide ((((a0.extract 1 a0.size).size : Nat) : Int) < 1)) rfl rfl (fun h20 => ?_) (fun h20 => ?_)
            · replace hm := br_t h20 hm
              cases hm
            · replace hm := br_f h20 hm
              refine GS.skip ?_
              refine GS.rekey (env' := [(0, .string (a0.extract 1 a0.size)), (5, .string a0)]) (mem' := []) [0, 5] [] (by kernel_rfl) (by kernel_rfl) rfl ?_
              exact H23 (a0.extract 1 a0.size) hm
          · replace hm := br_f h16 hm
            refine GS.skip ?_
            refine GS.rekey (env' := [(0, .string a0), (5, .string a0)]) (mem' := []) [0, 5] [] (by kernel_rfl) (by kernel_rfl) rfl ?_
            exact H23 a0 hm
        · rintro v0_3 hm
          replace hm := (hJ24 _).symm.trans hm
          try dsimp only at hm
          refine GS.seq ?_
          refine GS.region (env' := fun _ => [(0, .string v0_3), (5, .string a0), (6, .int .i64 0)]) (mem' := fun _ => []) (RunsTo.mk [] [0, 5, 6] [] (fun _ => []) (fun _ => by kernel_rfl) (fun _ => trivial)) ?_
          intro _
          refine GS.seq ?_
          refine GS.seq ?_
          refine GS.region (env' := fun fr26 => [(5, .string a0), (6, .int .i64 0), (47, .slice (some (Addr.mk (fr26 1).x 0 none)) v0_3.data.toList.length ((fr26 1).cap)), (48, .int .i64 ((v0_3.data.toList.length : Nat) : Int)), (49, .int .i64 0)]) (mem' := fun fr26 => [(1, .osl (some (Addr.mk (fr26 1).x 0 none)) ((fr26 1).cap) 5 1 (encB v0_3.data.toList))]) (RunsTo.mk [(1, { act := .bytes, key := some 1, spf := some (fun f => .slice (some (Addr.mk f.x 0 none)) v0_3.data.toList.length (f.cap)) })] [5, 6, 47, 48, 49] [1] (fun fr26 => [((.slice (some (Addr.mk (fr26 1).x 0 none)) v0_3.size ((fr26 1).cap)) : Value) = .slice (some (Addr.mk (fr26 1).x 0 none)) v0_3.data.toList.length ((fr26 1).cap)]) (fun fr26 => by kernel_rfl) (fun fr26 => ⟨rfl, trivial⟩)) ?_
          intro fr26
          refine GS.conv (mem' := [(1, o5 (some (Addr.mk (fr26 1).x 0 none)) ((fr26 1).cap) v0_3.data.toList)]) rfl (congrArg (fun rr : List (List Value) => ([(1, .osl (some (Addr.mk (fr26 1).x 0 none)) ((fr26 1).cap) 5 1 rr)] : List (Nat × Ent))) (show encB v0_3.data.toList = List.map rB v0_3.data.toList from rfl)) ?_
          refine GS.block ?_
          refine GS.loop ?_
          refine GS.know (p := v0_3.data.toList.length ≤ (fr26 1).cap) (fun w hw => by first | (have h := (hw.ok 1 _ rfl).1.1; rw [List.length_map] at h; exact h) | (have h := (hw.ok 1 _ rfl).1.1; rw [nrows_len] at h; exact h) | simpa using (hw.ok 1 _ rfl).1.1) (fun k27 => ?_)
          refine grd_elim hm (fun g53 hm => ?_)
          refine GS.rekey (env' := [(5, .string a0), (6, .int .i64 0), (47, .slice (some (Addr.mk (fr26 1).x 0 none)) v0_3.data.toList.length ((fr26 1).cap)), (48, .int .i64 ((v0_3.data.toList.length : Nat) : Int)), (49, .int .i64 0)]) (mem' := [(1, o5 (some (Addr.mk (fr26 1).x 0 none)) ((fr26 1).cap) v0_3.data.toList)]) [5, 6, 47, 48, 49] [(1, 1)] (by kernel_rfl) (by kernel_rfl) rfl ?_
          refine loopL_elim hm (fun st71 fn72 hst73 hfn74 hm => ?_)
          refine GS.loopInv (ι := List UInt8 × Int × Nat) (I := fun ⟨rs69, v6_4, v49_4⟩ => v0_3.data.toList.drop v49_4 = rs69 ∧ loopL st71 fn72 rs69 v49_4 v6_4 = some y) (μ := fun ⟨rs69, v6_4, v49_4⟩ => rs69.length) (E := fun ⟨rs69, v6_4, v49_4⟩ => [(5, .string a0), (6, .int .i64 v6_4), (47, .slice (some (Addr.mk (fr26 1).x 0 none)) v0_3.data.toList.length ((fr26 1).cap)), (48, .int .i64 ((v0_3.data.toList.length : Nat) : Int)), (49, .int .i64 ((v49_4 : Nat) : Int))]) (M := fun ⟨rs69, v6_4, v49_4⟩ => [(1, o5 (some (Addr.mk (fr26 1).x 0 none)) ((fr26 1).cap) v0_3.data.toList)]) ?_ ⟨v0_3.data.toList, 0, 0⟩ ⟨List.drop_zero .., hm⟩
          rintro ⟨rs69, v6_4, v49_4⟩ ⟨hd52, hm⟩ ih70
          cases rs69 with
          | nil =>
            replace hm := (hfn74 _ _).symm.trans hm
            try dsimp only at hm
            refine GS.seq ?_
            refine GS.region (env' := fun _ => [(5, .string a0), (6, .int .i64 v6_4), (47, .slice (some (Addr.mk (fr26 1).x 0 none)) v0_3.data.toList.length ((fr26 1).cap)), (48, .int .i64 ((v0_3.data.toList.length : Nat) : Int)), (49, .int .i64 ((v49_4 : Nat) : Int)), (50, .bool (decide (((v49_4 : Nat) : Int) < ((v0_3.data.toList.length : Nat) : Int))))]) (mem' := fun _ => [(1, o5 (some (Addr.mk (fr26 1).x 0 none)) ((fr26 1).cap) v0_3.data.toList)]) (RunsTo.mk [] [5, 6, 47, 48, 49, 50] [1] (fun _ => []) (fun _ => by kernel_rfl) (fun _ => trivial)) ?_
            intro _
            refine GS.seq ?_
            refine GS.cond (t := decide (((v49_4 : Nat) : Int) < ((v0_3.data.toList.length : Nat) : Int))) rfl rfl (fun h67 => absb h67 (drop_dec0 hd52)) (fun _ => ?_)
            refine GS.exit rfl ?_
            refine GS.seq ?_
            refine GS.seq ?_
            refine grd_elim hm (fun g76 hm => ?_)
            refine GS.region (env' := fun _ => [(6, .int .i64 v6_4), (66, .bool ((((a0.data.getD 0 0).toNat : Nat) : Int) == 45))]) (mem' := fun _ => []) (RunsTo.mk [(1, { act := .elt 0 })] [6, 66] [] (fun _ => [(0 : Int) = ((0 : Nat) : Int), 0 < a0.size]) (fun _ => by kernel_rfl) (fun _ => ⟨rfl, g76, trivial⟩)) ?_
            intro _
            refine GS.cond (t := (((a0.data.getD 0 0).toNat : Nat) : Int) == 45) rfl rfl (fun h77 => ?_) (fun h77 => ?_)
            · replace hm := br_t h77 hm
              refine grd_elim hm (fun g79 hm => ?_)
              refine GS.region (env' := fun _ => [(6, .int .i64 (0 - v6_4))]) (mem' := fun _ => []) (RunsTo.mk [(1, { sp := some (.int .i64 (0 - v6_4)) })] [6] [] (fun _ => [((.int .i64 (IntKind.i64.wrap (0 - v6_4))) : Value) = .int .i64 (0 - v6_4)]) (fun _ => by kernel_rfl) (fun _ => ⟨I64.w g79, trivial⟩)) ?_
              intro _
              refine GS.seq ?_
              refine GS.region (env' := fun _ => [(2, .int .i64 (0 - v6_4)), (3, .nilIface)]) (mem' := fun _ => []) (RunsTo.mk [] [2, 3] [] (fun _ => []) (fun _ => by kernel_rfl) (fun _ => trivial)) ?_
              intro _
              have hy := Option.some.inj hm
              subst hy
              refine GS.ret (fn := Tryd.f42) [0, 0] [.int .i64 (0 - v6_4), .nilIface] [] rfl Tryd.func42 (by kernel_rfl) trivial (fun w' hs => ?_)
              exact ⟨(), rfl, hs.turnedG (ks := []) rfl rfl⟩
            · replace hm := br_f h77 hm
              refine GS.skip ?_
              refine GS.seq ?_
              refine GS.region (env' := fun _ => [(2, .int .i64 v6_4), (3, .nilIface)]) (mem' := fun _ => []) (RunsTo.mk [] [2, 3] [] (fun _ => []) (fun _ => by kernel_rfl) (fun _ => trivial)) ?_
              intro _
              have hy := Option.some.inj hm
              subst hy
              refine GS.ret (fn := Tryd.f42) [0, 0] [.int .i64 v6_4, .nilIface] [] rfl Tryd.func42 (by kernel_rfl) trivial (fun w' hs => ?_)
              exact ⟨(), rfl, hs.turnedG (ks := []) rfl rfl⟩
          | cons x54 rs69 =>
            replace hm := (hst73 _ _ _ _).symm.trans hm
            try dsimp only at hm
            refine GS.seq ?_
            refine GS.region (env' := fun _ => [(5, .string a0), (6, .int .i64 v6_4), (47, .slice (some (Addr.mk (fr26 1).x 0 none)) v0_3.data.toList.length ((fr26 1).cap)), (48, .int .i64 ((v0_3.data.toList.length : Nat) : Int)), (49, .int .i64 ((v49_4 : Nat) : Int)), (50, .bool (decide (((v49_4 : Nat) : Int) < ((v0_3.data.toList.length : Nat) : Int))))]) (mem' := fun _ => [(1, o5 (some (Addr.mk (fr26 1).x 0 none)) ((fr26 1).cap) v0_3.data.toList)]) (RunsTo.mk [] [5, 6, 47, 48, 49, 50] [1] (fun _ => []) (fun _ => by kernel_rfl) (fun _ => trivial)) ?_
            intro _
            refine GS.seq ?_
            refine GS.cond (t := decide (((v49_4 : Nat) : Int) < ((v0_3.data.toList.length : Nat) : Int))) rfl rfl (fun _ => ?_) (fun h56 => absb (drop_dec hd52) h56)
            refine GS.skip ?_
            refine GS.seq ?_
            refine GS.block ?_
            refine GS.seq ?_
            refine GS.region (env' := fun _ => [(5, .string a0), (6, .int .i64 v6_4), (8, .int .u8 ((x54.toNat : Nat) : Int)), (47, .slice (some (Addr.mk (fr26 1).x 0 none)) v0_3.data.toList.length ((fr26 1).cap)), (48, .int .i64 ((v0_3.data.toList.length : Nat) : Int)), (49, .int .i64 ((v49_4 : Nat) : Int))]) (mem' := fun _ => [(1, o5 (some (Addr.mk (fr26 1).x 0 none)) ((fr26 1).cap) v0_3.data.toList)]) (RunsTo.mk [(0, { act := .idx 1 v49_4 }), (1, { act := .load 1 v49_4 0 [.int .u8 ((x54.toNat : Nat) : Int)] })] [5, 6, 8, 47, 48, 49] [1] (fun _ => [some (Addr.mk (fr26 1).x 0 none) = some (Addr.mk (fr26 1).x 0 none), v0_3.data.toList.length = (List.map rB v0_3.data.toList).length, (((v49_4 : Nat) : Int) : Int) = ((v49_4 : Nat) : Int), v49_4 < v0_3.data.toList.length, blk (some (Addr.mk (fr26 1).x 0 none)) = blk (some (Addr.mk (fr26 1).x 0 none)), offs (some (Addr.mk (fr26 1).x 0 none)) + v49_4 * 1 = offs (some (Addr.mk (fr26 1).x 0 none)) + (v49_4 * 1 + 0), (List.map rB v0_3.data.toList)[v49_4]? = some [.int .u8 ((x54.toNat : Nat) : Int)]]) (fun _ => by kernel_rfl) (fun _ => ⟨rfl, mlen rB v0_3.data.toList, rfl, (drop_lt hd52), rfl, rfl, map_drop rB hd52, trivial⟩)) ?_
            intro _
            refine GS.seq ?_
            refine GS.region (env' := fun _ => [(5, .string a0), (6, .int .i64 v6_4), (8, .int .u8 (IntKind.u8.wrap (((x54.toNat : Nat) : Int) - 48))), (47, .slice (some (Addr.mk (fr26 1).x 0 none)) v0_3.data.toList.length ((fr26 1).cap)), (48, .int .i64 ((v0_3.data.toList.length : Nat) : Int)), (49, .int .i64 ((v49_4 : Nat) : Int))]) (mem' := fun _ => [(1, o5 (some (Addr.mk (fr26 1).x 0 none)) ((fr26 1).cap) v0_3.data.toList)]) (RunsTo.mk [] [5, 6, 8, 47, 48, 49] [1] (fun _ => []) (fun _ => by kernel_rfl) (fun _ => trivial)) ?_
            intro _
            refine GS.seq ?_
            refine GS.seq ?_
            refine GS.region (env' := fun _ => [(5, .string a0), (6, .int .i64 v6_4), (8, .int .u8 (IntKind.u8.wrap (((x54.toNat : Nat) : Int) - 48))), (47, .slice (some (Addr.mk (fr26 1).x 0 none)) v0_3.data.toList.length ((fr26 1).cap)), (48, .int .i64 ((v0_3.data.toList.length : Nat) : Int)), (49, .int .i64 ((v49_4 : Nat) : Int)), (56, .bool (decide ((IntKind.u8.wrap (((x54.toNat : Nat) : Int) - 48)) > 9)))]) (mem' := fun _ => [(1, o5 (some (Addr.mk (fr26 1).x 0 none)) ((fr26 1).cap) v0_3.data.toList)]) (RunsTo.mk [] [5, 6, 8, 47, 48, 49, 56] [1] (fun _ => []) (fun _ => by kernel_rfl) (fun _ => trivial)) ?_
            intro _
            refine GS.cond (t := decide ((IntKind.u8.wrap (((x54.toNat : Nat) : Int) - 48)) > 9)) rfl rfl (fun h60 => ?_) (fun h60 => ?_)
            · replace hm := br_t h60 hm
              cases hm
            · replace hm := br_f h60 hm
              refine GS.skip ?_
              refine grd_elim hm (fun g63 hm => ?_)
              refine grd_elim hm (fun g64 hm => ?_)
              refine GS.region (env' := fun _ => [(5, .string a0), (6, .int .i64 ((v6_4 * 10) + (IntKind.i64.wrap (IntKind.u8.wrap (((x54.toNat : Nat) : Int) - 48))))), (47, .slice (some (Addr.mk (fr26 1).x 0 none)) v0_3.data.toList.length ((fr26 1).cap)), (48, .int .i64 ((v0_3.data.toList.length : Nat) : Int)), (49, .int .i64 ((v49_4 : Nat) : Int))]) (mem' := fun _ => [(1, o5 (some (Addr.mk (fr26 1).x 0 none)) ((fr26 1).cap) v0_3.data.toList)]) (RunsTo.mk [(1, { sp := some (.int .i64 (v6_4 * 10)) }), (4, { sp := some (.int .i64 ((v6_4 * 10) + (IntKind.i64.wrap (IntKind.u8.wrap (((x54.toNat : Nat) : Int) - 48))))) })] [5, 6, 47, 48, 49] [1] (fun _ => [((.int .i64 (IntKind.i64.wrap (v6_4 * 10))) : Value) = .int .i64 (v6_4 * 10), ((.int .i64 (IntKind.i64.wrap ((v6_4 * 10) + (IntKind.i64.wrap (IntKind.u8.wrap (((x54.toNat : Nat) : Int) - 48)))))) : Value) = .int .i64 ((v6_4 * 10) + (IntKind.i64.wrap (IntKind.u8.wrap (((x54.toNat : Nat) : Int) - 48))))]) (fun _ => by kernel_rfl) (fun _ => ⟨I64.w g63, I64.w g64, trivial⟩)) ?_
              intro _
              refine GS.inBlock ?_
              refine GS.region (env' := fun _ => [(5, .string a0), (6, .int .i64 ((v6_4 * 10) + (IntKind.i64.wrap (IntKind.u8.wrap (((x54.toNat : Nat) : Int) - 48))))), (47, .slice (some (Addr.mk (fr26 1).x 0 none)) v0_3.data.toList.length ((fr26 1).cap)), (48, .int .i64 ((v0_3.data.toList.length : Nat) : Int)), (49, .int .i64 ((v49_4 + 1 : Nat) : Int))]) (mem' := fun _ => [(1, o5 (some (Addr.mk (fr26 1).x 0 none)) ((fr26 1).cap) v0_3.data.toList)]) (RunsTo.mk [(0, { sp := some (.int .i64 ((v49_4 + 1 : Nat) : Int)) })] [5, 6, 47, 48, 49] [1] (fun _ => [((.int .i64 (IntKind.i64.wrap (((v49_4 : Nat) : Int) + 1))) : Value) = .int .i64 ((v49_4 + 1 : Nat) : Int)]) (fun _ => by kernel_rfl) (fun _ => ⟨natw (drop_lt hd52) g53, trivial⟩)) ?_
              intro _
              refine GS.inLoop ?_
              refine GS.rekey (env' := [(5, .string a0), (6, .int .i64 ((v6_4 * 10) + (IntKind.i64.wrap (IntKind.u8.wrap (((x54.toNat : Nat) : Int) - 48))))), (47, .slice (some (Addr.mk (fr26 1).x 0 none)) v0_3.data.toList.length ((fr26 1).cap)), (48, .int .i64 ((v0_3.data.toList.length : Nat) : Int)), (49, .int .i64 ((v49_4 + 1 : Nat) : Int))]) (mem' := [(1, o5 (some (Addr.mk (fr26 1).x 0 none)) ((fr26 1).cap) v0_3.data.toList)]) [5, 6, 47, 48, 49] [(1, 1)] (by kernel_rfl) (by kernel_rfl) rfl ?_
              exact ih70 ⟨rs69, ((v6_4 * 10) + (IntKind.i64.wrap (IntKind.u8.wrap (((x54.toNat : Nat) : Int) - 48)))), v49_4 + 1⟩ ⟨drop_next hd52, hm⟩ (Nat.lt_succ_self _)
    · replace hm := br_f h8 hm
      refine GS.skip ?_
      cases hm

theorem w_strconv_Atoi (F : Nat) (a0 : ByteArray) {y : Int} (hm : m_strconv_Atoi F a0 = some y) : CallG Tryd.prog 38 #[.string a0] (X := Unit) (fun (_ : Unit) => .tuple #[.int .i64 y, .nilIface]) [] [] (fun (_ : Unit) => []) := by
  intro w hg
  rw [m_strconv_Atoi] at hm
  refine GS.start (S := mayT [] []) (mem := []) Tryd.func38 rfl Tryd.ntmps38 (Nat.le_of_ble_eq_true rfl) (hg.start rfl) ?_
  refine GS.conv (env' := [(0, .string a0)]) rfl rfl ?_
  refine GS.seq ?_
  refine GS.region (env' := fun _ => [(0, .string a0)]) (mem' := fun _ => []) (RunsTo.mk [] [0] [] (fun _ => []) (fun _ => by kernel_rfl) (fun _ => trivial)) ?_
  intro _
  refine GS.seq ?_
  refine bnd_elim hm (fun y3 e4 hm => ?_)
  refine GS.region (env' := fun _ => [(0, .string a0), (4, .int .i64 y3), (5, .nilIface)]) (mem' := fun _ => []) (RunsTo.mk [(1, { act := .call [] (.tuple #[.int .i64 y3, .nilIface]) })] [0, 4, 5] [] (fun _ => [CallOK Tryd.prog 42 #[.string a0] (.tuple #[.int .i64 y3, .nilIface]) []]) (fun _ => by kernel_rfl) (fun _ => ⟨(w_internal_strconv_Atoi F a0 e4).ok trivial, trivial⟩)) ?_
  intro _
  refine GS.seq ?_
  refine GS.seq ?_
  refine GS.region (env' := fun _ => [(0, .string a0), (4, .int .i64 y3), (5, .nilIface), (12, .bool false)]) (mem' := fun _ => []) (RunsTo.mk [] [0, 4, 5, 12] [] (fun _ => []) (fun _ => by kernel_rfl) (fun _ => trivial)) ?_
  intro _
  refine GS.cond (t := false) rfl rfl (fun hf => by cases hf) (fun _ => ?_)
  refine GS.skip ?_
  refine GS.seq ?_
  refine GS.region (env' := fun _ => [(2, .int .i64 y3), (3, .nilIface)]) (mem' := fun _ => []) (RunsTo.mk [] [2, 3] [] (fun _ => []) (fun _ => by kernel_rfl) (fun _ => trivial)) ?_
  intro _
  have hy := Option.some.inj hm
  subst hy
  refine GS.ret (fn := Tryd.f38) [0, 0] [.int .i64 y3, .nilIface] [] rfl Tryd.func38 (by kernel_rfl) trivial (fun w' hs => ?_)
  exact ⟨(), rfl, hs.turnedG (ks := []) rfl rfl⟩

theorem w_internal_strconv_small (F : Nat) (a0 : Int) {y : ByteArray} (hm : m_internal_strconv_small F a0 = some y) : CallG Tryd.prog 56 #[.int .i64 a0] (X := Unit) (fun (_ : Unit) => .string y) [] [] (fun (_ : Unit) => []) := by
  intro w hg
  rw [m_internal_strconv_small] at hm
  refine GS.start (S := mayT [] []) (mem := []) Tryd.func56 rfl Tryd.ntmps56 (Nat.le_of_ble_eq_true rfl) (hg.start rfl) ?_
  refine GS.conv (env' := [(0, .int .i64 a0)]) rfl rfl ?_
  refine GS.seq ?_
  refine GS.region (env' := fun _ => [(0, .int .i64 a0)]) (mem' := fun _ => []) (RunsTo.mk [] [0] [] (fun _ => []) (fun _ => by kernel_rfl) (fun _ => trivial)) ?_
  intro _
  refine GS.seq ?_
  refine GS.seq ?_
  refine GS.region (env' := fun _ => [(0, .int .i64 a0), (4, .bool (decide (a0 < 10)))]) (mem' := fun _ => []) (RunsTo.mk [] [0, 4] [] (fun _ => []) (fun _ => by kernel_rfl) (fun _ => trivial)) ?_
  intro _
  refine GS.cond (t := decide (a0 < 10)) rfl rfl (fun h3 => ?_) (fun h3 => ?_)
  · replace hm := br_t h3 hm
    refine GS.seq ?_
    refine grd_elim hm (fun g5 hm => ?_)
    refine grd_elim hm (fun g6 hm => ?_)
    refine grd_elim hm (fun g7 hm => ?_)
    refine GS.region (env' := fun _ => [(2, .string ((ByteArray.mk #[48, 49, 50, 51, 52, 53, 54, 55, 56, 57, 97, 98, 99, 100, 101, 102, 103, 104, 105, 106, 107, 108, 109, 110, 111, 112, 113, 114, 115, 116, 117, 118, 119, 120, 121, 122]).extract (Int.toNat a0) (Int.toNat (a0 + 1))))]) (mem' := fun _ => []) (RunsTo.mk [(2, { sp := some (.int .i64 (a0 + 1)) }), (3, { act := .cut (Int.toNat a0) (Int.toNat (a0 + 1)) 0 })] [2] [] (fun _ => [((.int .i64 (IntKind.i64.wrap (a0 + 1))) : Value) = .int .i64 (a0 + 1), a0 = (((Int.toNat a0) : Nat) : Int), (a0 + 1) = (((Int.toNat (a0 + 1)) : Nat) : Int), (Int.toNat a0) ≤ (Int.toNat (a0 + 1)), (Int.toNat (a0 + 1)) ≤ (ByteArray.mk #[48, 49, 50, 51, 52, 53, 54, 55, 56, 57, 97, 98, 99, 100, 101, 102, 103, 104, 105, 106, 107, 108, 109, 110, 111, 112, 113, 114, 115, 116, 117, 118, 119, 120, 121, 122]).size]) (fun _ => by kernel_rfl) (fun _ => ⟨I64.w g5, g7.eq, g6.eq, g7.2, g6.2, trivial⟩)) ?_
    intro _
    have hy := Option.some.inj hm
    subst hy
    refine GS.ret (fn := Tryd.f56) [0] [.string ((ByteArray.mk #[48, 49, 50, 51, 52, 53, 54, 55, 56, 57, 97, 98, 99, 100, 101, 102, 103, 104, 105, 106, 107, 108, 109, 110, 111, 112, 113, 114, 115, 116, 117, 118, 119, 120, 121, 122]).extract (Int.toNat a0) (Int.toNat (a0 + 1)))] [] rfl Tryd.func56 (by kernel_rfl) trivial (fun w' hs => ?_)
    exact ⟨(), rfl, hs.turnedG (ks := []) rfl rfl⟩
  · replace hm := br_f h3 hm
    refine GS.skip ?_
    refine GS.seq ?_
    refine grd_elim hm (fun g9 hm => ?_)
    refine grd_elim hm (fun g10 hm => ?_)
    refine grd_elim hm (fun g11 hm => ?_)
    refine grd_elim hm (fun g12 hm => ?_)
    refine GS.region (env' := fun _ => [(2, .string ((ByteArray.mk #[48, 48, 48, 49, 48, 50, 48, 51, 48, 52, 48, 53, 48, 54, 48, 55, 48, 56, 48, 57, 49, 48, 49, 49, 49, 50, 49, 51, 49, 52, 49, 53, 49, 54, 49, 55, 49, 56, 49, 57, 50, 48, 50, 49, 50, 50, 50, 51, 50, 52, 50, 53, 50, 54, 50, 55, 50, 56, 50, 57, 51, 48, 51, 49, 51, 50, 51, 51, 51, 52, 51, 53, 51, 54, 51, 55, 51, 56, 51, 57, 52, 48, 52, 49, 52, 50, 52, 51, 52, 52, 52, 53, 52, 54, 52, 55, 52, 56, 52, 57, 53, 48, 53, 49, 53, 50, 53, 51, 53, 52, 53, 53, 53, 54, 53, 55, 53, 56, 53, 57, 54, 48, 54, 49, 54, 50, 54, 51, 54, 52, 54, 53, 54, 54, 54, 55, 54, 56, 54, 57, 55, 48, 55, 49, 55, 50, 55, 51, 55, 52, 55, 53, 55, 54, 55, 55, 55, 56, 55, 57, 56, 48, 56, 49, 56, 50, 56, 51, 56, 52, 56, 53, 56, 54, 56, 55, 56, 56, 56, 57, 57, 48, 57, 49, 57, 50, 57, 51, 57, 52, 57, 53, 57, 54, 57, 55, 57, 56, 57, 57]).extract (Int.toNat (a0 * 2)) (Int.toNat ((a0 * 2) + 2))))]) (mem' := fun _ => []) (RunsTo.mk [(1, { sp := some (.int .i64 (a0 * 2)) }), (3, { sp := some (.int .i64 (a0 * 2)) }), (4, { sp := some (.int .i64 ((a0 * 2) + 2)) }), (5, { act := .cut (Int.toNat (a0 * 2)) (Int.toNat ((a0 * 2) + 2)) 0 })] [2] [] (fun _ => [((.int .i64 (IntKind.i64.wrap (a0 * 2))) : Value) = .int .i64 (a0 * 2), ((.int .i64 (IntKind.i64.wrap (a0 * 2))) : Value) = .int .i64 (a0 * 2), ((.int .i64 (IntKind.i64.wrap ((a0 * 2) + 2))) : Value) = .int .i64 ((a0 * 2) + 2), (a0 * 2) = (((Int.toNat (a0 * 2)) : Nat) : Int), ((a0 * 2) + 2) = (((Int.toNat ((a0 * 2) + 2)) : Nat) : Int), (Int.toNat (a0 * 2)) ≤ (Int.toNat ((a0 * 2) + 2)), (Int.toNat ((a0 * 2) + 2)) ≤ (ByteArray.mk #[48, 48, 48, 49, 48, 50, 48, 51, 48, 52, 48, 53, 48, 54, 48, 55, 48, 56, 48, 57, 49, 48, 49, 49, 49, 50, 49, 51, 49, 52, 49, 53, 49, 54, 49, 55, 49, 56, 49, 57, 50, 48, 50, 49, 50, 50, 50, 51, 50, 52, 50, 53, 50, 54, 50, 55, 50, 56, 50, 57, 51, 48, 51, 49, 51, 50, 51, 51, 51, 52, 51, 53, 51, 54, 51, 55, 51, 56, 51, 57, 52, 48, 52, 49, 52, 50, 52, 51, 52, 52, 52, 53, 52, 54, 52, 55, 52, 56, 52, 57, 53, 48, 53, 49, 53, 50, 53, 51, 53, 52, 53, 53, 53, 54, 53, 55, 53, 56, 53, 57, 54, 48, 54, 49, 54, 50, 54, 51, 54, 52, 54, 53, 54, 54, 54, 55, 54, 56, 54, 57, 55, 48, 55, 49, 55, 50, 55, 51, 55, 52, 55, 53, 55, 54, 55, 55, 55, 56, 55, 57, 56, 48, 56, 49, 56, 50, 56, 51, 56, 52, 56, 53, 56, 54, 56, 55, 56, 56, 56, 57, 57, 48, 57, 49, 57, 50, 57, 51, 57, 52, 57, 53, 57, 54, 57, 55, 57, 56, 57, 57]).size]) (fun _ => by kernel_rfl) (fun _ => ⟨I64.w g9, I64.w g9, I64.w g10, g12.eq, g11.eq, g12.2, g11.2, trivial⟩)) ?_
    intro _
    have hy := Option.some.inj hm
    subst hy
    refine GS.ret (fn := Tryd.f56) [0] [.string ((ByteArray.mk #[48, 48, 48, 49, 48, 50, 48, 51, 48, 52, 48, 53, 48, 54, 48, 55, 48, 56, 48, 57, 49, 48, 49, 49, 49, 50, 49, 51, 49, 52, 49, 53, 49, 54, 49, 55, 49, 56, 49, 57, 50, 48, 50, 49, 50, 50, 50, 51, 50, 52, 50, 53, 50, 54, 50, 55, 50, 56, 50, 57, 51, 48, 51, 49, 51, 50, 51, 51, 51, 52, 51, 53, 51, 54, 51, 55, 51, 56, 51, 57, 52, 48, 52, 49, 52, 50, 52, 51, 52, 52, 52, 53, 52, 54, 52, 55, 52, 56, 52, 57, 53, 48, 53, 49, 53, 50, 53, 51, 53, 52, 53, 53, 53, 54, 53, 55, 53, 56, 53, 57, 54, 48, 54, 49, 54, 50, 54, 51, 54, 52, 54, 53, 54, 54, 54, 55, 54, 56, 54, 57, 55, 48, 55, 49, 55, 50, 55, 51, 55, 52, 55, 53, 55, 54, 55, 55, 55, 56, 55, 57, 56, 48, 56, 49, 56, 50, 56, 51, 56, 52, 56, 53, 56, 54, 56, 55, 56, 56, 56, 57, 57, 48, 57, 49, 57, 50, 57, 51, 57, 52, 57, 53, 57, 54, 57, 55, 57, 56, 57, 57]).extract (Int.toNat (a0 * 2)) (Int.toNat ((a0 * 2) + 2)))] [] rfl Tryd.func56 (by kernel_rfl) trivial (fun w' hs => ?_)
    exact ⟨(), rfl, hs.turnedG (ks := []) rfl rfl⟩

theorem w_internal_strconv_FormatInt (F : Nat) (a0 : Int) (a1 : Int) {y : ByteArray} (hm : m_internal_strconv_FormatInt F a0 a1 = some y) : CallG Tryd.prog 51 #[.int .i64 a0, .int .i64 a1] (X := Unit) (fun (_ : Unit) => .string y) [] [] (fun (_ : Unit) => []) := by
  intro w hg
  rw [m_internal_strconv_FormatInt] at hm
  refine GS.start (S := mayT [] []) (mem := []) Tryd.func51 rfl Tryd.ntmps51 (Nat.le_of_ble_eq_true rfl) (hg.start rfl) ?_
  refine GS.conv (env' := [(0, .int .i64 a0), (1, .int .i64 a1)]) rfl rfl ?_
  refine GS.seq ?_
  refine GS.region (env' := fun _ => [(0, .int .i64 a0), (1, .int .i64 a1)]) (mem' := fun _ => []) (RunsTo.mk [] [0, 1] [] (fun _ => []) (fun _ => by kernel_rfl) (fun _ => trivial)) ?_
  intro _
  refine GS.seq ?_
  refine GS.seq ?_
  refine GS.region (env' := fun _ => [(0, .int .i64 a0), (1, .int .i64 a1), (11, .bool (a1 == 10))]) (mem' := fun _ => []) (RunsTo.mk [] [0, 1, 11] [] (fun _ => []) (fun _ => by kernel_rfl) (fun _ => trivial)) ?_
  intro _
  refine GS.cond (t := a1 == 10) rfl rfl (fun h3 => ?_) (fun h3 => ?_)
  · replace hm := br_t h3 hm
    refine GS.seq ?_
    refine GS.seq ?_
    refine jn_elim hm (fun J6 hJ8 hm => ?_)
    refine GS.cut (ι := Bool) (I := fun (v17_1 : Bool) => J6 v17_1 = some y) (E := fun (v17_1 : Bool) => [(0, .int .i64 a0), (17, .bool v17_1)]) (M := fun (v17_1 : Bool) => []) ?_ ?_
    rotate_left
    · intro H7
      refine br_elim hm (fun h5 hm => ?_) (fun h5 hm => ?_)
      · skip
        refine GS.region (env' := fun _ => [(0, .int .i64 a0), (17, .bool (decide (a0 < 100)))]) (mem' := fun _ => []) (RunsTo.mk [(2, { sp := some (.bool true) })] [0, 17] [] (fun _ => [((.bool (decide (0 ≤ a0))) : Value) = .bool true]) (fun _ => by kernel_rfl) (fun _ => ⟨bool_eq h5, trivial⟩)) ?_
        intro _
        refine GS.rekey (env' := [(0, .int .i64 a0), (17, .bool (decide (a0 < 100)))]) (mem' := []) [0, 17] [] (by kernel_rfl) (by kernel_rfl) rfl ?_
        exact H7 (decide (a0 < 100)) hm
      · skip
        refine GS.region (env' := fun _ => [(0, .int .i64 a0), (17, .bool false)]) (mem' := fun _ => []) (RunsTo.mk [(2, { sp := some (.bool false) })] [0, 17] [] (fun _ => [((.bool (decide (0 ≤ a0))) : Value) = .bool false]) (fun _ => by kernel_rfl) (fun _ => ⟨bool_eq h5, trivial⟩)) ?_
        intro _
        refine GS.rekey (env' := [(0, .int .i64 a0), (17, .bool false)]) (mem' := []) [0, 17] [] (by kernel_rfl) (by kernel_rfl) rfl ?_
        exact H7 false hm
    · rintro v17_1 hm
      replace hm := (hJ8 _).symm.trans hm
      try dsimp only at hm
      refine GS.cond (t := v17_1) rfl rfl (fun h9 => ?_) (fun h9 => ?_)
      · replace hm := br_t h9 hm
        refine GS.seq ?_
        refine bnd_elim hm (fun y11 e12 hm => ?_)
        refine GS.region (env' := fun _ => [(4, .string y11)]) (mem' := fun _ => []) (RunsTo.mk [(1, { act := .call [] (.string y11) })] [4] [] (fun _ => [CallOK Tryd.prog 56 #[.int .i64 a0] (.string y11) []]) (fun _ => by kernel_rfl) (fun _ => ⟨(w_internal_strconv_small F a0 e12).ok trivial, trivial⟩)) ?_
        intro _
        have hy := Option.some.inj hm
        subst hy
        refine GS.ret (fn := Tryd.f51) [0] [.string y11] [] rfl Tryd.func51 (by kernel_rfl) trivial (fun w' hs => ?_)
        exact ⟨(), rfl, hs.turnedG (ks := []) rfl rfl⟩
      · replace hm := br_f h9 hm
        refine GS.skip ?_
        refine GS.seq ?_
        refine GS.region (env' := fun fr13 => [(0, .int .i64 a0), (5, .pointer (some ⟨(fr13 0).x, 0, none⟩))]) (mem' := fun fr13 => [(1, .cells ((fr13 0).x) 92 (aU8 (List.replicate 24 0)))]) (RunsTo.mk [(0, { act := .new .var, key := some 1 })] [0, 5] [1] (fun fr13 => []) (fun fr13 => by kernel_rfl) (fun fr13 => trivial)) ?_
        intro fr13
        refine GS.seq ?_
        refine GS.region (env' := fun _ => [(0, .int .i64 a0), (5, .pointer (some ⟨(fr13 0).x, 0, none⟩)), (6, .int .u64 (IntKind.u64.wrap a0))]) (mem' := fun _ => [(1, .cells ((fr13 0).x) 92 (aU8 (List.replicate 24 0)))]) (RunsTo.mk [] [0, 5, 6] [1] (fun _ => []) (fun _ => by kernel_rfl) (fun _ => trivial)) ?_
        intro _
        refine GS.seq ?_
        refine GS.seq ?_
        refine GS.region (env' := fun _ => [(0, .int .i64 a0), (5, .pointer (some ⟨(fr13 0).x, 0, none⟩)), (6, .int .u64 (IntKind.u64.wrap a0)), (23, .bool (decide (a0 < 0)))]) (mem' := fun _ => [(1, .cells ((fr13 0).x) 92 (aU8 (List.replicate 24 0)))]) (RunsTo.mk [] [0, 5, 6, 23] [1] (fun _ => []) (fun _ => by kernel_rfl) (fun _ => trivial)) ?_
        intro _
        refine jn_elim hm (fun J18 hJ20 hm => ?_)
        refine GS.cut (ι := Int) (I := fun (v6_2 : Int) => J18 v6_2 = some y) (E := fun (v6_2 : Int) => [(0, .int .i64 a0), (5, .pointer (some ⟨(fr13 0).x, 0, none⟩)), (6, .int .u64 v6_2)]) (M := fun (v6_2 : Int) => [(1, .cells ((fr13 0).x) 92 (aU8 (List.replicate 24 0)))]) ?_ ?_
        rotate_left
        · intro H19
          refine GS.cond (t := decide (a0 < 0)) rfl rfl (fun h16 => ?_) (fun h16 => ?_)
          · replace hm := br_t h16 hm
            refine GS.region (env' := fun _ => [(0, .int .i64 a0), (5, .pointer (some ⟨(fr13 0).x, 0, none⟩)), (6, .int .u64 (IntKind.u64.wrap (0 - (IntKind.u64.wrap a0))))]) (mem' := fun _ => [(1, .cells ((fr13 0).x) 92 (aU8 (List.replicate 24 0)))]) (RunsTo.mk [] [0, 5, 6] [1] (fun _ => []) (fun _ => by kernel_rfl) (fun _ => trivial)) ?_
            intro _
            refine GS.rekey (env' := [(0, .int .i64 a0), (5, .pointer (some ⟨(fr13 0).x, 0, none⟩)), (6, .int .u64 (IntKind.u64.wrap (0 - (IntKind.u64.wrap a0))))]) (mem' := [(1, .cells ((fr13 0).x) 92 (aU8 (List.replicate 24 0)))]) [0, 5, 6] [(1, 1)] (by kernel_rfl) (by kernel_rfl) rfl ?_
            exact H19 (IntKind.u64.wrap (0 - (IntKind.u64.wrap a0))) hm
          · replace hm := br_f h16 hm
            refine GS.skip ?_
            refine GS.rekey (env' := [(0, .int .i64 a0), (5, .pointer (some ⟨(fr13 0).x, 0, none⟩)), (6, .int .u64 (IntKind.u64.wrap a0))]) (mem' := [(1, .cells ((fr13 0).x) 92 (aU8 (List.replicate 24 0)))]) [0, 5, 6] [(1, 1)] (by kernel_rfl) (by kernel_rfl) rfl ?_
            exact H19 (IntKind.u64.wrap a0) hm
        · rintro v6_2 hm
          replace hm := (hJ20 _).symm.trans hm
          try dsimp only at hm
          cases hm
  · replace hm := br_f h3 hm
    refine GS.skip ?_
    cases hm

theorem w_internal_strconv_Itoa (F : Nat) (a0 : Int) {y : ByteArray} (hm : m_internal_strconv_Itoa F a0 = some y) : CallG Tryd.prog 44 #[.int .i64 a0] (X := Unit) (fun (_ : Unit) => .string y) [] [] (fun (_ : Unit) => []) := by
  intro w hg
  rw [m_internal_strconv_Itoa] at hm
  refine GS.start (S := mayT [] []) (mem := []) Tryd.func44 rfl Tryd.ntmps44 (Nat.le_of_ble_eq_true rfl) (hg.start rfl) ?_
  refine GS.conv (env' := [(0, .int .i64 a0)]) rfl rfl ?_
  refine GS.seq ?_
  refine GS.region (env' := fun _ => [(0, .int .i64 a0)]) (mem' := fun _ => []) (RunsTo.mk [] [0] [] (fun _ => []) (fun _ => by kernel_rfl) (fun _ => trivial)) ?_
  intro _
  refine GS.seq ?_
  refine bnd_elim hm (fun y3 e4 hm => ?_)
  refine GS.region (env' := fun _ => [(2, .string y3)]) (mem' := fun _ => []) (RunsTo.mk [(1, { act := .call [] (.string y3) })] [2] [] (fun _ => [CallOK Tryd.prog 51 #[.int .i64 a0, .int .i64 10] (.string y3) []]) (fun _ => by kernel_rfl) (fun _ => ⟨(w_internal_strconv_FormatInt F a0 10 e4).ok trivial, trivial⟩)) ?_
  intro _
  have hy := Option.some.inj hm
  subst hy
  refine GS.ret (fn := Tryd.f44) [0] [.string y3] [] rfl Tryd.func44 (by kernel_rfl) trivial (fun w' hs => ?_)
  exact ⟨(), rfl, hs.turnedG (ks := []) rfl rfl⟩

theorem w_strconv_Itoa (F : Nat) (a0 : Int) {y : ByteArray} (hm : m_strconv_Itoa F a0 = some y) : CallG Tryd.prog 39 #[.int .i64 a0] (X := Unit) (fun (_ : Unit) => .string y) [] [] (fun (_ : Unit) => []) := by
  intro w hg
  rw [m_strconv_Itoa] at hm
  refine GS.start (S := mayT [] []) (mem := []) Tryd.func39 rfl Tryd.ntmps39 (Nat.le_of_ble_eq_true rfl) (hg.start rfl) ?_
  refine GS.conv (env' := [(0, .int .i64 a0)]) rfl rfl ?_
  refine GS.seq ?_
  refine GS.region (env' := fun _ => [(0, .int .i64 a0)]) (mem' := fun _ => []) (RunsTo.mk [] [0] [] (fun _ => []) (fun _ => by kernel_rfl) (fun _ => trivial)) ?_
  intro _
  refine GS.seq ?_
  refine bnd_elim hm (fun y3 e4 hm => ?_)
  refine GS.region (env' := fun _ => [(2, .string y3)]) (mem' := fun _ => []) (RunsTo.mk [(1, { act := .call [] (.string y3) })] [2] [] (fun _ => [CallOK Tryd.prog 44 #[.int .i64 a0] (.string y3) []]) (fun _ => by kernel_rfl) (fun _ => ⟨(w_internal_strconv_Itoa F a0 e4).ok trivial, trivial⟩)) ?_
  intro _
  have hy := Option.some.inj hm
  subst hy
  refine GS.ret (fn := Tryd.f39) [0] [.string y3] [] rfl Tryd.func39 (by kernel_rfl) trivial (fun w' hs => ?_)
  exact ⟨(), rfl, hs.turnedG (ks := []) rfl rfl⟩

theorem w_stripe_Parse (F : Nat) (a0 : ByteArray) {y : ByteArray × Int × Bool} (hm : m_stripe_Parse F a0 = some y) : CallG Tryd.prog 17 #[.string a0] (X := Unit) (fun (_ : Unit) => .tuple #[.string y.1, .int .i64 y.2.1, .bool y.2.2]) [] [] (fun (_ : Unit) => []) := by
  intro w hg
  rw [m_stripe_Parse] at hm
  refine GS.start (S := mayT [] []) (mem := []) Tryd.func17 rfl Tryd.ntmps17 (Nat.le_of_ble_eq_true rfl) (hg.start rfl) ?_
  refine GS.conv (env' := [(0, .string a0)]) rfl rfl ?_
  refine GS.seq ?_
  refine GS.region (env' := fun _ => [(0, .string a0)]) (mem' := fun _ => []) (RunsTo.mk [] [0] [] (fun _ => []) (fun _ => by kernel_rfl) (fun _ => trivial)) ?_
  intro _
  refine GS.seq ?_
  refine bnd_elim hm (fun y3 e4 hm => ?_)
  refine GS.region (env' := fun _ => [(0, .string a0), (5, .int .i64 y3)]) (mem' := fun _ => []) (RunsTo.mk [(1, { act := .call [] (.int .i64 y3) })] [0, 5] [] (fun _ => [CallOK Tryd.prog 37 #[.string a0, .int .u8 46] (.int .i64 y3) []]) (fun _ => by kernel_rfl) (fun _ => ⟨(w_strings_LastIndexByte F a0 46 e4).ok trivial, trivial⟩)) ?_
  intro _
  refine GS.seq ?_
  refine GS.seq ?_
  refine GS.region (env' := fun _ => [(0, .string a0), (5, .int .i64 y3), (11, .bool (decide (y3 < 0)))]) (mem' := fun _ => []) (RunsTo.mk [] [0, 5, 11] [] (fun _ => []) (fun _ => by kernel_rfl) (fun _ => trivial)) ?_
  intro _
  refine GS.cond (t := decide (y3 < 0)) rfl rfl (fun h6 => ?_) (fun h6 => ?_)
  · replace hm := br_t h6 hm
    refine GS.seq ?_
    refine GS.region (env' := fun _ => [(2, .string (ByteArray.mk #[])), (3, .int .i64 0), (4, .bool false)]) (mem' := fun _ => []) (RunsTo.mk [] [2, 3, 4] [] (fun _ => []) (fun _ => by kernel_rfl) (fun _ => trivial)) ?_
    intro _
    have hy := Option.some.inj hm
    subst hy
    refine GS.ret (fn := Tryd.f17) [0, 0, 0] [.string (ByteArray.mk #[]), .int .i64 0, .bool false] [] rfl Tryd.func17 (by kernel_rfl) trivial (fun w' hs => ?_)
    exact ⟨(), rfl, hs.turnedG (ks := []) rfl rfl⟩
  · replace hm := br_f h6 hm
    refine GS.skip ?_
    refine GS.seq ?_
    refine grd_elim hm (fun g9 hm => ?_)
    refine grd_elim hm (fun g10 hm => ?_)
    refine bnd_elim hm (fun y11 e12 hm => ?_)
    refine GS.region (env' := fun _ => [(0, .string a0), (5, .int .i64 y3), (6, .int .i64 y11), (7, .nilIface)]) (mem' := fun _ => []) (RunsTo.mk [(2, { sp := some (.int .i64 (y3 + 1)) }), (3, { act := .cut (Int.toNat (y3 + 1)) a0.size 0 }), (4, { act := .call [] (.tuple #[.int .i64 y11, .nilIface]) })] [0, 5, 6, 7] [] (fun _ => [((.int .i64 (IntKind.i64.wrap (y3 + 1))) : Value) = .int .i64 (y3 + 1), (y3 + 1) = (((Int.toNat (y3 + 1)) : Nat) : Int), a0.size = a0.size, (Int.toNat (y3 + 1)) ≤ a0.size, a0.size ≤ a0.size, CallOK Tryd.prog 38 #[.string (a0.extract (Int.toNat (y3 + 1)) a0.size)] (.tuple #[.int .i64 y11, .nilIface]) []]) (fun _ => by kernel_rfl) (fun _ => ⟨I64.w g9, g10.eq, rfl, g10.2, (Nat.le_refl _), (w_strconv_Atoi F (a0.extract (Int.toNat (y3 + 1)) a0.size) e12).ok trivial, trivial⟩)) ?_
    intro _
    refine GS.seq ?_
    refine GS.seq ?_
    refine jn_elim hm (fun J18 hJ20 hm => ?_)
    refine GS.cut (ι := Bool) (I := fun (v38_1 : Bool) => J18 v38_1 = some y) (E := fun (v38_1 : Bool) => [(0, .string a0), (5, .int .i64 y3), (6, .int .i64 y11), (38, .bool v38_1)]) (M := fun (v38_1 : Bool) => []) ?_ ?_
    rotate_left
    · intro H19
      refine br_elim hm (fun h14 hm => ?_) (fun h14 hm => ?_)
      · skip
        refine GS.region (env' := fun _ => [(0, .string a0), (5, .int .i64 y3), (6, .int .i64 y11), (38, .bool true)]) (mem' := fun _ => []) (RunsTo.mkd [(6, { sp := some (.bool true) })] [0, 5, 6, 38] [] (fun _ => [((.bool (decide (y11 < 0))) : Value) = .bool true]) (by kernel_rfl) (by kernel_rfl) (fun _ => by kernel_rfl) (fun _ => ⟨bool_eq h14, trivial⟩)) ?_
        intro _
        refine GS.rekey (env' := [(0, .string a0), (5, .int .i64 y3), (6, .int .i64 y11), (38, .bool true)]) (mem' := []) [0, 5, 6, 38] [] (by kernel_rfl) (by kernel_rfl) rfl ?_
        exact H19 true hm
      · skip
        refine br_elim hm (fun h15 hm => ?_) (fun h15 hm => ?_)
        · skip
          refine GS.region (env' := fun _ => [(0, .string a0), (5, .int .i64 y3), (6, .int .i64 y11), (38, .bool true)]) (mem' := fun _ => []) (RunsTo.mkd [(6, { sp := some (.bool false) }), (10, { sp := some (.bool true) })] [0, 5, 6, 38] [] (fun _ => [((.bool (decide (y11 < 0))) : Value) = .bool false, ((.bool (decide (y11 > 65535))) : Value) = .bool true]) (by kernel_rfl) (by kernel_rfl) (fun _ => by kernel_rfl) (fun _ => ⟨bool_eq h14, bool_eq h15, trivial⟩)) ?_
          intro _
          refine GS.rekey (env' := [(0, .string a0), (5, .int .i64 y3), (6, .int .i64 y11), (38, .bool true)]) (mem' := []) [0, 5, 6, 38] [] (by kernel_rfl) (by kernel_rfl) rfl ?_
          exact H19 true hm
        · skip
          refine bnd_elim hm (fun y16 e17 hm => ?_)
          refine GS.region (env' := fun _ => [(0, .string a0), (5, .int .i64 y3), (6, .int .i64 y11), (38, .bool (!(y16.toList == (a0.extract (Int.toNat (y3 + 1)) a0.size).toList)))]) (mem' := fun _ => []) (RunsTo.mkd [(6, { sp := some (.bool false) }), (10, { sp := some (.bool false) }), (12, { act := .call [] (.string y16) }), (15, { sp := some (.int .i64 (y3 + 1)) }), (16, { act := .cut (Int.toNat (y3 + 1)) a0.size 0 })] [0, 5, 6, 38] [] (fun _ => [((.bool (decide (y11 < 0))) : Value) = .bool false, ((.bool (decide (y11 > 65535))) : Value) = .bool false, CallOK Tryd.prog 39 #[.int .i64 y11] (.string y16) [], ((.int .i64 (IntKind.i64.wrap (y3 + 1))) : Value) = .int .i64 (y3 + 1), (y3 + 1) = (((Int.toNat (y3 + 1)) : Nat) : Int), a0.size = a0.size, (Int.toNat (y3 + 1)) ≤ a0.size, a0.size ≤ a0.size]) (by kernel_rfl) (by kernel_rfl) (fun _ => by kernel_rfl) (fun _ => ⟨bool_eq h14, bool_eq h15, (w_strconv_Itoa F y11 e17).ok trivial, I64.w g9, g10.eq, rfl, g10.2, (Nat.le_refl _), trivial⟩)) ?_
          intro _
          refine GS.rekey (env' := [(0, .string a0), (5, .int .i64 y3), (6, .int .i64 y11), (38, .bool (!(y16.toList == (a0.extract (Int.toNat (y3 + 1)) a0.size).toList)))]) (mem' := []) [0, 5, 6, 38] [] (by kernel_rfl) (by kernel_rfl) rfl ?_
          exact H19 (!(y16.toList == (a0.extract (Int.toNat (y3 + 1)) a0.size).toList)) hm
    · rintro v38_1 hm
      replace hm := (hJ20 _).symm.trans hm
      try dsimp only at hm
      refine GS.cond (t := v38_1) rfl rfl (fun h21 => ?_) (fun h21 => ?_)
      · replace hm := br_t h21 hm
        refine GS.seq ?_
        refine GS.region (env' := fun _ => [(2, .string (ByteArray.mk #[])), (3, .int .i64 0), (4, .bool false)]) (mem' := fun _ => []) (RunsTo.mk [] [2, 3, 4] [] (fun _ => []) (fun _ => by kernel_rfl) (fun _ => trivial)) ?_
        intro _
        have hy := Option.some.inj hm
        subst hy
        refine GS.ret (fn := Tryd.f17) [0, 0, 0] [.string (ByteArray.mk #[]), .int .i64 0, .bool false] [] rfl Tryd.func17 (by kernel_rfl) trivial (fun w' hs => ?_)
        exact ⟨(), rfl, hs.turnedG (ks := []) rfl rfl⟩
      · replace hm := br_f h21 hm
        refine GS.skip ?_
        refine GS.seq ?_
        refine grd_elim hm (fun g24 hm => ?_)
        refine GS.region (env' := fun _ => [(2, .string (a0.extract 0 (Int.toNat y3))), (3, .int .i64 y11), (4, .bool true)]) (mem' := fun _ => []) (RunsTo.mk [(2, { act := .cut 0 (Int.toNat y3) 0 })] [2, 3, 4] [] (fun _ => [0 = 0, y3 = (((Int.toNat y3) : Nat) : Int), 0 ≤ (Int.toNat y3), (Int.toNat y3) ≤ a0.size]) (fun _ => by kernel_rfl) (fun _ => ⟨rfl, g24.eq, (Nat.zero_le _), g24.2, trivial⟩)) ?_
        intro _
        have hy := Option.some.inj hm
        subst hy
        refine GS.ret (fn := Tryd.f17) [0, 0, 0] [.string (a0.extract 0 (Int.toNat y3)), .int .i64 y11, .bool true] [] rfl Tryd.func17 (by kernel_rfl) trivial (fun w' hs => ?_)
        exact ⟨(), rfl, hs.turnedG (ks := []) rfl rfl⟩

end Go.Proofs.YtfdojammchbboaaDoor
