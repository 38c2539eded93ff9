/-
  CHAPTER 24: the functions do what their models say (1).
-/
import Derived.Test.YtfdojammchbboaaDoorM24
set_option linter.unusedVariables false
set_option linter.unusedSimpArgs false
set_option maxRecDepth 100000
namespace Go.Proofs.YtfdojammchbboaaDoor
open Go Go.RowKit Sx

theorem w_tholelaw24_plain (F : Nat) (a0 : S_stripe_Layout) {y : S_tholeref24_Layout} (hm : m_tholelaw24_plain F a0 = some y) : CallG Tryd.prog 9 #[.agg #[.int .i64 a0.Unit, .int .i64 a0.Count, .int .i64 a0.Size]] (X := Unit) (fun (_ : Unit) => .agg #[.int .i64 y.Unit, .int .i64 y.Count, .int .i64 y.Size]) [] [] (fun (_ : Unit) => []) := by
  intro w hg
  rw [m_tholelaw24_plain] at hm
  refine GS.start (S := mayT [] []) (mem := []) Tryd.func9 rfl Tryd.ntmps9 (Nat.le_of_ble_eq_true rfl) (hg.start rfl) ?_
  refine GS.conv (env' := [(0, .agg #[.int .i64 a0.Unit, .int .i64 a0.Count, .int .i64 a0.Size])]) rfl rfl ?_
  refine GS.seq ?_
  refine GS.region (env' := fun fr1 => [(1, .pointer (some ⟨(fr1 0).x, 0, none⟩)), (2, .pointer (some ⟨(fr1 1).x, 0, none⟩))]) (mem' := fun fr1 => [(1, .cells ((fr1 0).x) 23 [.int .i64 a0.Unit, .int .i64 a0.Count, .int .i64 a0.Size]), (2, .cells ((fr1 1).x) 24 [.int .i64 0, .int .i64 0, .int .i64 0])]) (RunsTo.mk [(0, { act := .new .var, key := some 1 }), (1, { act := .new .var, key := some 2 })] [1, 2] [1, 2] (fun fr1 => []) (fun fr1 => by kernel_rfl) (fun fr1 => trivial)) ?_
  intro fr1
  refine GS.seq ?_
  refine GS.region (env' := fun _ => [(2, .pointer (some ⟨(fr1 1).x, 0, none⟩))]) (mem' := fun _ => [(2, .cells ((fr1 1).x) 24 [.int .i64 a0.Unit, .int .i64 a0.Count, .int .i64 a0.Size])]) (RunsTo.mk [(1, { act := .load 1 0 0 [] }), (3, { act := .load 1 0 0 [] }), (5, { act := .load 1 0 0 [] }), (7, { act := .store 0 0 [], key := some 2 })] [2] [2] (fun _ => [(fr1 0).x = (fr1 0).x, (fr1 0).x = (fr1 0).x, (fr1 0).x = (fr1 0).x, (fr1 1).x = (fr1 1).x, ((.agg #[.int .i64 a0.Unit, .int .i64 a0.Count, .int .i64 a0.Size]) : Value).cells.toList.all Value.oneCell' = true]) (fun _ => by kernel_rfl) (fun _ => ⟨rfl, rfl, rfl, rfl, rfl, trivial⟩)) ?_
  intro _
  have hy := Option.some.inj hm
  subst hy
  refine GS.ret (fn := Tryd.f9) [2] [.agg #[.int .i64 a0.Unit, .int .i64 a0.Count, .int .i64 a0.Size]] [(fr1 1).x = (fr1 1).x] rfl Tryd.func9 (by kernel_rfl) ⟨rfl, trivial⟩ (fun w' hs => ?_)
  exact ⟨(), rfl, hs.turnedG (ks := []) rfl rfl⟩

theorem w_stripe_Good (F : Nat) (a0 : S_stripe_Layout) {y : Bool} (hm : m_stripe_Good F a0 = some y) : CallG Tryd.prog 12 #[.agg #[.int .i64 a0.Unit, .int .i64 a0.Count, .int .i64 a0.Size]] (X := Unit) (fun (_ : Unit) => .bool y) [] [] (fun (_ : Unit) => []) := by
  intro w hg
  rw [m_stripe_Good] at hm
  refine GS.start (S := mayT [] []) (mem := []) Tryd.func12 rfl Tryd.ntmps12 (Nat.le_of_ble_eq_true rfl) (hg.start rfl) ?_
  refine GS.conv (env' := [(0, .agg #[.int .i64 a0.Unit, .int .i64 a0.Count, .int .i64 a0.Size])]) rfl rfl ?_
  refine GS.seq ?_
  refine GS.region (env' := fun fr1 => [(1, .pointer (some ⟨(fr1 0).x, 0, none⟩))]) (mem' := fun fr1 => [(1, .cells ((fr1 0).x) 23 [.int .i64 a0.Unit, .int .i64 a0.Count, .int .i64 a0.Size])]) (RunsTo.mk [(0, { act := .new .var, key := some 1 })] [1] [1] (fun fr1 => []) (fun fr1 => by kernel_rfl) (fun fr1 => trivial)) ?_
  intro fr1
  refine GS.seq ?_
  refine br_elim hm (fun h3 hm => ?_) (fun h3 hm => ?_)
  · skip
    refine br_elim hm (fun h4 hm => ?_) (fun h4 hm => ?_)
    · skip
      refine br_elim hm (fun h5 hm => ?_) (fun h5 hm => ?_)
      · skip
        refine br_elim hm (fun h6 hm => ?_) (fun h6 hm => ?_)
        · skip
          refine br_elim hm (fun h7 hm => ?_) (fun h7 hm => ?_)
          · skip
            refine br_elim hm (fun h8 hm => ?_) (fun h8 hm => ?_)
            · skip
              refine grd_elim hm (fun g9 hm => ?_)
              refine GS.region (env' := fun _ => [(2, .bool ((Int.tmod a0.Size a0.Unit) == 0))]) (mem' := fun _ => []) (RunsTo.mk [(1, { act := .load 1 0 0 [] }), (3, { sp := some (.bool true) }), (5, { act := .load 1 0 0 [] }), (8, { sp := some (.bool true) }), (10, { act := .load 1 0 0 [] }), (13, { sp := some (.bool true) }), (15, { act := .load 1 0 0 [] }), (18, { sp := some (.bool true) }), (20, { act := .load 1 0 0 [] }), (22, { act := .load 1 0 0 [] }), (25, { sp := some (.bool true) }), (27, { act := .load 1 0 0 [] }), (30, { sp := some (.bool true) }), (32, { act := .load 1 0 0 [] }), (34, { act := .load 1 0 0 [] }), (35, { act := .div })] [2] [] (fun _ => [(fr1 0).x = (fr1 0).x, ((.bool (decide (a0.Unit ≥ 1))) : Value) = .bool true, (fr1 0).x = (fr1 0).x, ((.bool (decide (a0.Unit ≤ 4096))) : Value) = .bool true, (fr1 0).x = (fr1 0).x, ((.bool (decide (a0.Count ≥ 1))) : Value) = .bool true, (fr1 0).x = (fr1 0).x, ((.bool (decide (a0.Count ≤ 16))) : Value) = .bool true, (fr1 0).x = (fr1 0).x, (fr1 0).x = (fr1 0).x, ((.bool (decide (a0.Size ≥ a0.Unit))) : Value) = .bool true, (fr1 0).x = (fr1 0).x, ((.bool (decide (a0.Size ≤ 4096))) : Value) = .bool true, (fr1 0).x = (fr1 0).x, (fr1 0).x = (fr1 0).x, a0.Unit ≠ 0]) (fun _ => by kernel_rfl) (fun _ => ⟨rfl, bool_eq h3, rfl, bool_eq h4, rfl, bool_eq h5, rfl, bool_eq h6, rfl, rfl, bool_eq h7, rfl, bool_eq h8, rfl, rfl, g9, trivial⟩)) ?_
              intro _
              have hy := Option.some.inj hm
              subst hy
              refine GS.ret (fn := Tryd.f12) [0] [.bool ((Int.tmod a0.Size a0.Unit) == 0)] [] rfl Tryd.func12 (by kernel_rfl) trivial (fun w' hs => ?_)
              exact ⟨(), rfl, hs.turnedG (ks := []) rfl rfl⟩
            · skip
              refine GS.region (env' := fun _ => [(2, .bool false)]) (mem' := fun _ => []) (RunsTo.mk [(1, { act := .load 1 0 0 [] }), (3, { sp := some (.bool true) }), (5, { act := .load 1 0 0 [] }), (8, { sp := some (.bool true) }), (10, { act := .load 1 0 0 [] }), (13, { sp := some (.bool true) }), (15, { act := .load 1 0 0 [] }), (18, { sp := some (.bool true) }), (20, { act := .load 1 0 0 [] }), (22, { act := .load 1 0 0 [] }), (25, { sp := some (.bool true) }), (27, { act := .load 1 0 0 [] }), (30, { sp := some (.bool false) })] [2] [] (fun _ => [(fr1 0).x = (fr1 0).x, ((.bool (decide (a0.Unit ≥ 1))) : Value) = .bool true, (fr1 0).x = (fr1 0).x, ((.bool (decide (a0.Unit ≤ 4096))) : Value) = .bool true, (fr1 0).x = (fr1 0).x, ((.bool (decide (a0.Count ≥ 1))) : Value) = .bool true, (fr1 0).x = (fr1 0).x, ((.bool (decide (a0.Count ≤ 16))) : Value) = .bool true, (fr1 0).x = (fr1 0).x, (fr1 0).x = (fr1 0).x, ((.bool (decide (a0.Size ≥ a0.Unit))) : Value) = .bool true, (fr1 0).x = (fr1 0).x, ((.bool (decide (a0.Size ≤ 4096))) : Value) = .bool false]) (fun _ => by kernel_rfl) (fun _ => ⟨rfl, bool_eq h3, rfl, bool_eq h4, rfl, bool_eq h5, rfl, bool_eq h6, rfl, rfl, bool_eq h7, rfl, bool_eq h8, trivial⟩)) ?_
              intro _
              have hy := Option.some.inj hm
              subst hy
              refine GS.ret (fn := Tryd.f12) [0] [.bool false] [] rfl Tryd.func12 (by kernel_rfl) trivial (fun w' hs => ?_)
              exact ⟨(), rfl, hs.turnedG (ks := []) rfl rfl⟩
          · skip
            refine GS.region (env' := fun _ => [(2, .bool false)]) (mem' := fun _ => []) (RunsTo.mk [(1, { act := .load 1 0 0 [] }), (3, { sp := some (.bool true) }), (5, { act := .load 1 0 0 [] }), (8, { sp := some (.bool true) }), (10, { act := .load 1 0 0 [] }), (13, { sp := some (.bool true) }), (15, { act := .load 1 0 0 [] }), (18, { sp := some (.bool true) }), (20, { act := .load 1 0 0 [] }), (22, { act := .load 1 0 0 [] }), (25, { sp := some (.bool false) })] [2] [] (fun _ => [(fr1 0).x = (fr1 0).x, ((.bool (decide (a0.Unit ≥ 1))) : Value) = .bool true, (fr1 0).x = (fr1 0).x, ((.bool (decide (a0.Unit ≤ 4096))) : Value) = .bool true, (fr1 0).x = (fr1 0).x, ((.bool (decide (a0.Count ≥ 1))) : Value) = .bool true, (fr1 0).x = (fr1 0).x, ((.bool (decide (a0.Count ≤ 16))) : Value) = .bool true, (fr1 0).x = (fr1 0).x, (fr1 0).x = (fr1 0).x, ((.bool (decide (a0.Size ≥ a0.Unit))) : Value) = .bool false]) (fun _ => by kernel_rfl) (fun _ => ⟨rfl, bool_eq h3, rfl, bool_eq h4, rfl, bool_eq h5, rfl, bool_eq h6, rfl, rfl, bool_eq h7, trivial⟩)) ?_
            intro _
            have hy := Option.some.inj hm
            subst hy
            refine GS.ret (fn := Tryd.f12) [0] [.bool false] [] rfl Tryd.func12 (by kernel_rfl) trivial (fun w' hs => ?_)
            exact ⟨(), rfl, hs.turnedG (ks := []) rfl rfl⟩
        · skip
          refine GS.region (env' := fun _ => [(2, .bool false)]) (mem' := fun _ => []) (RunsTo.mk [(1, { act := .load 1 0 0 [] }), (3, { sp := some (.bool true) }), (5, { act := .load 1 0 0 [] }), (8, { sp := some (.bool true) }), (10, { act := .load 1 0 0 [] }), (13, { sp := some (.bool true) }), (15, { act := .load 1 0 0 [] }), (18, { sp := some (.bool false) })] [2] [] (fun _ => [(fr1 0).x = (fr1 0).x, ((.bool (decide (a0.Unit ≥ 1))) : Value) = .bool true, (fr1 0).x = (fr1 0).x, ((.bool (decide (a0.Unit ≤ 4096))) : Value) = .bool true, (fr1 0).x = (fr1 0).x, ((.bool (decide (a0.Count ≥ 1))) : Value) = .bool true, (fr1 0).x = (fr1 0).x, ((.bool (decide (a0.Count ≤ 16))) : Value) = .bool false]) (fun _ => by kernel_rfl) (fun _ => ⟨rfl, bool_eq h3, rfl, bool_eq h4, rfl, bool_eq h5, rfl, bool_eq h6, trivial⟩)) ?_
          intro _
          have hy := Option.some.inj hm
          subst hy
          refine GS.ret (fn := Tryd.f12) [0] [.bool false] [] rfl Tryd.func12 (by kernel_rfl) trivial (fun w' hs => ?_)
          exact ⟨(), rfl, hs.turnedG (ks := []) rfl rfl⟩
      · skip
        refine GS.region (env' := fun _ => [(2, .bool false)]) (mem' := fun _ => []) (RunsTo.mk [(1, { act := .load 1 0 0 [] }), (3, { sp := some (.bool true) }), (5, { act := .load 1 0 0 [] }), (8, { sp := some (.bool true) }), (10, { act := .load 1 0 0 [] }), (13, { sp := some (.bool false) })] [2] [] (fun _ => [(fr1 0).x = (fr1 0).x, ((.bool (decide (a0.Unit ≥ 1))) : Value) = .bool true, (fr1 0).x = (fr1 0).x, ((.bool (decide (a0.Unit ≤ 4096))) : Value) = .bool true, (fr1 0).x = (fr1 0).x, ((.bool (decide (a0.Count ≥ 1))) : Value) = .bool false]) (fun _ => by kernel_rfl) (fun _ => ⟨rfl, bool_eq h3, rfl, bool_eq h4, rfl, bool_eq h5, trivial⟩)) ?_
        intro _
        have hy := Option.some.inj hm
        subst hy
        refine GS.ret (fn := Tryd.f12) [0] [.bool false] [] rfl Tryd.func12 (by kernel_rfl) trivial (fun w' hs => ?_)
        exact ⟨(), rfl, hs.turnedG (ks := []) rfl rfl⟩
    · skip
      refine GS.region (env' := fun _ => [(2, .bool false)]) (mem' := fun _ => []) (RunsTo.mk [(1, { act := .load 1 0 0 [] }), (3, { sp := some (.bool true) }), (5, { act := .load 1 0 0 [] }), (8, { sp := some (.bool false) })] [2] [] (fun _ => [(fr1 0).x = (fr1 0).x, ((.bool (decide (a0.Unit ≥ 1))) : Value) = .bool true, (fr1 0).x = (fr1 0).x, ((.bool (decide (a0.Unit ≤ 4096))) : Value) = .bool false]) (fun _ => by kernel_rfl) (fun _ => ⟨rfl, bool_eq h3, rfl, bool_eq h4, trivial⟩)) ?_
      intro _
      have hy := Option.some.inj hm
      subst hy
      refine GS.ret (fn := Tryd.f12) [0] [.bool false] [] rfl Tryd.func12 (by kernel_rfl) trivial (fun w' hs => ?_)
      exact ⟨(), rfl, hs.turnedG (ks := []) rfl rfl⟩
  · skip
    refine GS.region (env' := fun _ => [(2, .bool false)]) (mem' := fun _ => []) (RunsTo.mk [(1, { act := .load 1 0 0 [] }), (3, { sp := some (.bool false) })] [2] [] (fun _ => [(fr1 0).x = (fr1 0).x, ((.bool (decide (a0.Unit ≥ 1))) : Value) = .bool false]) (fun _ => by kernel_rfl) (fun _ => ⟨rfl, bool_eq h3, trivial⟩)) ?_
    intro _
    have hy := Option.some.inj hm
    subst hy
    refine GS.ret (fn := Tryd.f12) [0] [.bool false] [] rfl Tryd.func12 (by kernel_rfl) trivial (fun w' hs => ?_)
    exact ⟨(), rfl, hs.turnedG (ks := []) rfl rfl⟩

theorem w__stripe_Layout__set (F : Nat) (a0 : S_stripe_Layout) {y : Int} (hm : m__stripe_Layout__set F a0 = some y) : CallG Tryd.prog 36 #[.agg #[.int .i64 a0.Unit, .int .i64 a0.Count, .int .i64 a0.Size]] (X := Unit) (fun (_ : Unit) => .int .i64 y) [] [] (fun (_ : Unit) => []) := by
  intro w hg
  rw [m__stripe_Layout__set] at hm
  refine GS.start (S := mayT [] []) (mem := []) Tryd.func36 rfl Tryd.ntmps36 (Nat.le_of_ble_eq_true rfl) (hg.start rfl) ?_
  refine GS.conv (env' := [(0, .agg #[.int .i64 a0.Unit, .int .i64 a0.Count, .int .i64 a0.Size])]) rfl rfl ?_
  refine GS.seq ?_
  refine GS.region (env' := fun fr1 => [(1, .pointer (some ⟨(fr1 0).x, 0, none⟩))]) (mem' := fun fr1 => [(1, .cells ((fr1 0).x) 23 [.int .i64 a0.Unit, .int .i64 a0.Count, .int .i64 a0.Size])]) (RunsTo.mk [(0, { act := .new .var, key := some 1 })] [1] [1] (fun fr1 => []) (fun fr1 => by kernel_rfl) (fun fr1 => trivial)) ?_
  intro fr1
  refine GS.seq ?_
  refine grd_elim hm (fun g3 hm => ?_)
  refine grd_elim hm (fun g4 hm => ?_)
  refine grd_elim hm (fun g5 hm => ?_)
  refine GS.region (env' := fun _ => [(2, .int .i64 (a0.Count * (Int.tdiv a0.Size a0.Unit)))]) (mem' := fun _ => []) (RunsTo.mkd [(1, { act := .load 1 0 0 [] }), (3, { act := .load 1 0 0 [] }), (5, { act := .load 1 0 0 [] }), (6, { act := .div, sp := some (.int .i64 (Int.tdiv a0.Size a0.Unit)) }), (7, { sp := some (.int .i64 (a0.Count * (Int.tdiv a0.Size a0.Unit))) })] [2] [] (fun _ => [(fr1 0).x = (fr1 0).x, (fr1 0).x = (fr1 0).x, (fr1 0).x = (fr1 0).x, a0.Unit ≠ 0, ((.int .i64 (IntKind.i64.wrap (Int.tdiv a0.Size a0.Unit))) : Value) = .int .i64 (Int.tdiv a0.Size a0.Unit), ((.int .i64 (IntKind.i64.wrap (a0.Count * (Int.tdiv a0.Size a0.Unit)))) : Value) = .int .i64 (a0.Count * (Int.tdiv a0.Size a0.Unit))]) (by kernel_rfl) (by kernel_rfl) (fun _ => by kernel_rfl) (fun _ => ⟨rfl, rfl, rfl, g3, I64.w g4, I64.w g5, trivial⟩)) ?_
  intro _
  have hy := Option.some.inj hm
  subst hy
  refine GS.ret (fn := Tryd.f36) [0] [.int .i64 (a0.Count * (Int.tdiv a0.Size a0.Unit))] [] rfl Tryd.func36 (by kernel_rfl) trivial (fun w' hs => ?_)
  exact ⟨(), rfl, hs.turnedG (ks := []) rfl rfl⟩

theorem w_stripe_Place (F : Nat) (a0 : S_stripe_Layout) (a1 : Int) {y : Int × Int} (hm : m_stripe_Place F a0 a1 = some y) : CallG Tryd.prog 10 #[.agg #[.int .i64 a0.Unit, .int .i64 a0.Count, .int .i64 a0.Size], .int .i64 a1] (X := Unit) (fun (_ : Unit) => .tuple #[.int .i64 y.1, .int .i64 y.2]) [] [] (fun (_ : Unit) => []) := by
  intro w hg
  rw [m_stripe_Place] at hm
  refine GS.start (S := mayT [] []) (mem := []) Tryd.func10 rfl Tryd.ntmps10 (Nat.le_of_ble_eq_true rfl) (hg.start rfl) ?_
  refine GS.conv (env' := [(0, .agg #[.int .i64 a0.Unit, .int .i64 a0.Count, .int .i64 a0.Size]), (1, .int .i64 a1)]) rfl rfl ?_
  refine GS.seq ?_
  refine GS.region (env' := fun fr1 => [(1, .int .i64 a1), (2, .pointer (some ⟨(fr1 0).x, 0, none⟩))]) (mem' := fun fr1 => [(1, .cells ((fr1 0).x) 23 [.int .i64 a0.Unit, .int .i64 a0.Count, .int .i64 a0.Size])]) (RunsTo.mk [(0, { act := .new .var, key := some 1 })] [1, 2] [1] (fun fr1 => []) (fun fr1 => by kernel_rfl) (fun fr1 => trivial)) ?_
  intro fr1
  refine GS.seq ?_
  refine GS.seq ?_
  refine jn_elim hm (fun J7 hJ9 hm => ?_)
  refine GS.cut (ι := Bool) (I := fun (v18_0 : Bool) => J7 v18_0 = some y) (E := fun (v18_0 : Bool) => [(1, .int .i64 a1), (2, .pointer (some ⟨(fr1 0).x, 0, none⟩)), (18, .bool v18_0)]) (M := fun (v18_0 : Bool) => [(1, .cells ((fr1 0).x) 23 [.int .i64 a0.Unit, .int .i64 a0.Count, .int .i64 a0.Size])]) ?_ ?_
  rotate_left
  · intro H8
    refine bnd_elim hm (fun y3 e4 hm => ?_)
    refine br_elim hm (fun h5 hm => ?_) (fun h5 hm => ?_)
    · skip
      refine GS.region (env' := fun _ => [(1, .int .i64 a1), (2, .pointer (some ⟨(fr1 0).x, 0, none⟩)), (18, .bool true)]) (mem' := fun _ => [(1, .cells ((fr1 0).x) 23 [.int .i64 a0.Unit, .int .i64 a0.Count, .int .i64 a0.Size])]) (RunsTo.mk [(0, { act := .load 1 0 0 [] }), (1, { act := .call [] (.bool y3) }), (3, { sp := some (.bool true) })] [1, 2, 18] [1] (fun _ => [(fr1 0).x = (fr1 0).x, CallOK Tryd.prog 12 #[.agg #[.int .i64 a0.Unit, .int .i64 a0.Count, .int .i64 a0.Size]] (.bool y3) [], ((.bool (!y3)) : Value) = .bool true]) (fun _ => by kernel_rfl) (fun _ => ⟨rfl, (w_stripe_Good F a0 e4).ok trivial, bool_eq h5, trivial⟩)) ?_
      intro _
      refine GS.rekey (env' := [(1, .int .i64 a1), (2, .pointer (some ⟨(fr1 0).x, 0, none⟩)), (18, .bool true)]) (mem' := [(1, .cells ((fr1 0).x) 23 [.int .i64 a0.Unit, .int .i64 a0.Count, .int .i64 a0.Size])]) [1, 2, 18] [(1, 1)] (by kernel_rfl) (by kernel_rfl) rfl ?_
      exact H8 true hm
    · skip
      refine br_elim hm (fun h6 hm => ?_) (fun h6 hm => ?_)
      · skip
        refine GS.region (env' := fun _ => [(1, .int .i64 a1), (2, .pointer (some ⟨(fr1 0).x, 0, none⟩)), (18, .bool true)]) (mem' := fun _ => [(1, .cells ((fr1 0).x) 23 [.int .i64 a0.Unit, .int .i64 a0.Count, .int .i64 a0.Size])]) (RunsTo.mk [(0, { act := .load 1 0 0 [] }), (1, { act := .call [] (.bool y3) }), (3, { sp := some (.bool false) }), (7, { sp := some (.bool true) })] [1, 2, 18] [1] (fun _ => [(fr1 0).x = (fr1 0).x, CallOK Tryd.prog 12 #[.agg #[.int .i64 a0.Unit, .int .i64 a0.Count, .int .i64 a0.Size]] (.bool y3) [], ((.bool (!y3)) : Value) = .bool false, ((.bool (decide (a1 < 0))) : Value) = .bool true]) (fun _ => by kernel_rfl) (fun _ => ⟨rfl, (w_stripe_Good F a0 e4).ok trivial, bool_eq h5, bool_eq h6, trivial⟩)) ?_
        intro _
        refine GS.rekey (env' := [(1, .int .i64 a1), (2, .pointer (some ⟨(fr1 0).x, 0, none⟩)), (18, .bool true)]) (mem' := [(1, .cells ((fr1 0).x) 23 [.int .i64 a0.Unit, .int .i64 a0.Count, .int .i64 a0.Size])]) [1, 2, 18] [(1, 1)] (by kernel_rfl) (by kernel_rfl) rfl ?_
        exact H8 true hm
      · skip
        refine GS.region (env' := fun _ => [(1, .int .i64 a1), (2, .pointer (some ⟨(fr1 0).x, 0, none⟩)), (18, .bool (decide (a1 ≥ 65536)))]) (mem' := fun _ => [(1, .cells ((fr1 0).x) 23 [.int .i64 a0.Unit, .int .i64 a0.Count, .int .i64 a0.Size])]) (RunsTo.mk [(0, { act := .load 1 0 0 [] }), (1, { act := .call [] (.bool y3) }), (3, { sp := some (.bool false) }), (7, { sp := some (.bool false) })] [1, 2, 18] [1] (fun _ => [(fr1 0).x = (fr1 0).x, CallOK Tryd.prog 12 #[.agg #[.int .i64 a0.Unit, .int .i64 a0.Count, .int .i64 a0.Size]] (.bool y3) [], ((.bool (!y3)) : Value) = .bool false, ((.bool (decide (a1 < 0))) : Value) = .bool false]) (fun _ => by kernel_rfl) (fun _ => ⟨rfl, (w_stripe_Good F a0 e4).ok trivial, bool_eq h5, bool_eq h6, trivial⟩)) ?_
        intro _
        refine GS.rekey (env' := [(1, .int .i64 a1), (2, .pointer (some ⟨(fr1 0).x, 0, none⟩)), (18, .bool (decide (a1 ≥ 65536)))]) (mem' := [(1, .cells ((fr1 0).x) 23 [.int .i64 a0.Unit, .int .i64 a0.Count, .int .i64 a0.Size])]) [1, 2, 18] [(1, 1)] (by kernel_rfl) (by kernel_rfl) rfl ?_
        exact H8 (decide (a1 ≥ 65536)) hm
  · rintro v18_0 hm
    replace hm := (hJ9 _).symm.trans hm
    try dsimp only at hm
    refine GS.cond (t := v18_0) rfl rfl (fun h10 => ?_) (fun h10 => ?_)
    · replace hm := br_t h10 hm
      refine GS.seq ?_
      refine GS.region (env' := fun _ => [(4, .int .i64 0), (5, .int .i64 0)]) (mem' := fun _ => []) (RunsTo.mk [] [4, 5] [] (fun _ => []) (fun _ => by kernel_rfl) (fun _ => trivial)) ?_
      intro _
      have hy := Option.some.inj hm
      subst hy
      refine GS.ret (fn := Tryd.f10) [0, 0] [.int .i64 0, .int .i64 0] [] rfl Tryd.func10 (by kernel_rfl) trivial (fun w' hs => ?_)
      exact ⟨(), rfl, hs.turnedG (ks := []) rfl rfl⟩
    · replace hm := br_f h10 hm
      refine GS.skip ?_
      refine GS.seq ?_
      refine grd_elim hm (fun g13 hm => ?_)
      refine grd_elim hm (fun g14 hm => ?_)
      refine GS.region (env' := fun _ => [(1, .int .i64 a1), (2, .pointer (some ⟨(fr1 0).x, 0, none⟩)), (6, .int .i64 (Int.tdiv a1 a0.Unit))]) (mem' := fun _ => [(1, .cells ((fr1 0).x) 23 [.int .i64 a0.Unit, .int .i64 a0.Count, .int .i64 a0.Size])]) (RunsTo.mk [(2, { act := .load 1 0 0 [] }), (3, { act := .div, sp := some (.int .i64 (Int.tdiv a1 a0.Unit)) })] [1, 2, 6] [1] (fun _ => [(fr1 0).x = (fr1 0).x, a0.Unit ≠ 0, ((.int .i64 (IntKind.i64.wrap (Int.tdiv a1 a0.Unit))) : Value) = .int .i64 (Int.tdiv a1 a0.Unit)]) (fun _ => by kernel_rfl) (fun _ => ⟨rfl, g13, I64.w g14, trivial⟩)) ?_
      intro _
      refine GS.seq ?_
      refine bnd_elim hm (fun y16 e17 hm => ?_)
      refine grd_elim hm (fun g18 hm => ?_)
      refine GS.region (env' := fun _ => [(1, .int .i64 a1), (2, .pointer (some ⟨(fr1 0).x, 0, none⟩)), (6, .int .i64 (Int.tdiv a1 a0.Unit)), (7, .int .i64 (Int.tmod (Int.tdiv a1 a0.Unit) y16))]) (mem' := fun _ => [(1, .cells ((fr1 0).x) 23 [.int .i64 a0.Unit, .int .i64 a0.Count, .int .i64 a0.Size])]) (RunsTo.mk [(1, { act := .load 1 0 0 [] }), (2, { act := .call [] (.int .i64 y16) }), (3, { act := .div })] [1, 2, 6, 7] [1] (fun _ => [(fr1 0).x = (fr1 0).x, CallOK Tryd.prog 36 #[.agg #[.int .i64 a0.Unit, .int .i64 a0.Count, .int .i64 a0.Size]] (.int .i64 y16) [], y16 ≠ 0]) (fun _ => by kernel_rfl) (fun _ => ⟨rfl, (w__stripe_Layout__set F a0 e17).ok trivial, g18, trivial⟩)) ?_
      intro _
      refine GS.seq ?_
      refine bnd_elim hm (fun y20 e21 hm => ?_)
      refine grd_elim hm (fun g22 hm => ?_)
      refine grd_elim hm (fun g23 hm => ?_)
      refine grd_elim hm (fun g24 hm => ?_)
      refine grd_elim hm (fun g25 hm => ?_)
      refine grd_elim hm (fun g26 hm => ?_)
      refine grd_elim hm (fun g27 hm => ?_)
      refine grd_elim hm (fun g28 hm => ?_)
      refine grd_elim hm (fun g29 hm => ?_)
      refine GS.region (env' := fun _ => [(4, .int .i64 (((Int.tdiv (Int.tdiv a1 a0.Unit) y20) * a0.Count) + (Int.tmod (Int.tmod (Int.tdiv a1 a0.Unit) y16) a0.Count))), (5, .int .i64 (((Int.tdiv (Int.tmod (Int.tdiv a1 a0.Unit) y16) a0.Count) * a0.Unit) + (Int.tmod a1 a0.Unit)))]) (mem' := fun _ => []) (RunsTo.mkd [(1, { act := .load 1 0 0 [] }), (2, { act := .call [] (.int .i64 y20) }), (3, { act := .div, sp := some (.int .i64 (Int.tdiv (Int.tdiv a1 a0.Unit) y20)) }), (5, { act := .load 1 0 0 [] }), (6, { sp := some (.int .i64 ((Int.tdiv (Int.tdiv a1 a0.Unit) y20) * a0.Count)) }), (9, { act := .load 1 0 0 [] }), (10, { act := .div }), (11, { sp := some (.int .i64 (((Int.tdiv (Int.tdiv a1 a0.Unit) y20) * a0.Count) + (Int.tmod (Int.tmod (Int.tdiv a1 a0.Unit) y16) a0.Count))) }), (14, { act := .load 1 0 0 [] }), (15, { act := .div, sp := some (.int .i64 (Int.tdiv (Int.tmod (Int.tdiv a1 a0.Unit) y16) a0.Count)) }), (17, { act := .load 1 0 0 [] }), (18, { sp := some (.int .i64 ((Int.tdiv (Int.tmod (Int.tdiv a1 a0.Unit) y16) a0.Count) * a0.Unit)) }), (21, { act := .load 1 0 0 [] }), (22, { act := .div }), (23, { sp := some (.int .i64 (((Int.tdiv (Int.tmod (Int.tdiv a1 a0.Unit) y16) a0.Count) * a0.Unit) + (Int.tmod a1 a0.Unit))) })] [4, 5] [] (fun _ => [(fr1 0).x = (fr1 0).x, CallOK Tryd.prog 36 #[.agg #[.int .i64 a0.Unit, .int .i64 a0.Count, .int .i64 a0.Size]] (.int .i64 y20) [], y20 ≠ 0, ((.int .i64 (IntKind.i64.wrap (Int.tdiv (Int.tdiv a1 a0.Unit) y20))) : Value) = .int .i64 (Int.tdiv (Int.tdiv a1 a0.Unit) y20), (fr1 0).x = (fr1 0).x, ((.int .i64 (IntKind.i64.wrap ((Int.tdiv (Int.tdiv a1 a0.Unit) y20) * a0.Count))) : Value) = .int .i64 ((Int.tdiv (Int.tdiv a1 a0.Unit) y20) * a0.Count), (fr1 0).x = (fr1 0).x, a0.Count ≠ 0, ((.int .i64 (IntKind.i64.wrap (((Int.tdiv (Int.tdiv a1 a0.Unit) y20) * a0.Count) + (Int.tmod (Int.tmod (Int.tdiv a1 a0.Unit) y16) a0.Count)))) : Value) = .int .i64 (((Int.tdiv (Int.tdiv a1 a0.Unit) y20) * a0.Count) + (Int.tmod (Int.tmod (Int.tdiv a1 a0.Unit) y16) a0.Count)), (fr1 0).x = (fr1 0).x, a0.Count ≠ 0, ((.int .i64 (IntKind.i64.wrap (Int.tdiv (Int.tmod (Int.tdiv a1 a0.Unit) y16) a0.Count))) : Value) = .int .i64 (Int.tdiv (Int.tmod (Int.tdiv a1 a0.Unit) y16) a0.Count), (fr1 0).x = (fr1 0).x, ((.int .i64 (IntKind.i64.wrap ((Int.tdiv (Int.tmod (Int.tdiv a1 a0.Unit) y16) a0.Count) * a0.Unit))) : Value) = .int .i64 ((Int.tdiv (Int.tmod (Int.tdiv a1 a0.Unit) y16) a0.Count) * a0.Unit), (fr1 0).x = (fr1 0).x, a0.Unit ≠ 0, ((.int .i64 (IntKind.i64.wrap (((Int.tdiv (Int.tmod (Int.tdiv a1 a0.Unit) y16) a0.Count) * a0.Unit) + (Int.tmod a1 a0.Unit)))) : Value) = .int .i64 (((Int.tdiv (Int.tmod (Int.tdiv a1 a0.Unit) y16) a0.Count) * a0.Unit) + (Int.tmod a1 a0.Unit))]) (by kernel_rfl) (by kernel_rfl) (fun _ => by kernel_rfl) (fun _ => ⟨rfl, (w__stripe_Layout__set F a0 e21).ok trivial, g22, I64.w g23, rfl, I64.w g24, rfl, g25, I64.w g26, rfl, g25, I64.w g27, rfl, I64.w g28, rfl, g13, I64.w g29, trivial⟩)) ?_
      intro _
      have hy := Option.some.inj hm
      subst hy
      refine GS.ret (fn := Tryd.f10) [0, 0] [.int .i64 (((Int.tdiv (Int.tdiv a1 a0.Unit) y20) * a0.Count) + (Int.tmod (Int.tmod (Int.tdiv a1 a0.Unit) y16) a0.Count)), .int .i64 (((Int.tdiv (Int.tmod (Int.tdiv a1 a0.Unit) y16) a0.Count) * a0.Unit) + (Int.tmod a1 a0.Unit))] [] rfl Tryd.func10 (by kernel_rfl) trivial (fun w' hs => ?_)
      exact ⟨(), rfl, hs.turnedG (ks := []) rfl rfl⟩

theorem w_tholeref24_Good (F : Nat) (a0 : S_tholeref24_Layout) {y : Bool} (hm : m_tholeref24_Good F a0 = some y) : CallG Tryd.prog 13 #[.agg #[.int .i64 a0.Unit, .int .i64 a0.Count, .int .i64 a0.Size]] (X := Unit) (fun (_ : Unit) => .bool y) [] [] (fun (_ : Unit) => []) := by
  intro w hg
  rw [m_tholeref24_Good] at hm
  refine GS.start (S := mayT [] []) (mem := []) Tryd.func13 rfl Tryd.ntmps13 (Nat.le_of_ble_eq_true rfl) (hg.start rfl) ?_
  refine GS.conv (env' := [(0, .agg #[.int .i64 a0.Unit, .int .i64 a0.Count, .int .i64 a0.Size])]) rfl rfl ?_
  refine GS.seq ?_
  refine GS.region (env' := fun fr1 => [(1, .pointer (some ⟨(fr1 0).x, 0, none⟩))]) (mem' := fun fr1 => [(1, .cells ((fr1 0).x) 24 [.int .i64 a0.Unit, .int .i64 a0.Count, .int .i64 a0.Size])]) (RunsTo.mk [(0, { act := .new .var, key := some 1 })] [1] [1] (fun fr1 => []) (fun fr1 => by kernel_rfl) (fun fr1 => trivial)) ?_
  intro fr1
  refine GS.seq ?_
  refine br_elim hm (fun h3 hm => ?_) (fun h3 hm => ?_)
  · skip
    refine br_elim hm (fun h4 hm => ?_) (fun h4 hm => ?_)
    · skip
      refine br_elim hm (fun h5 hm => ?_) (fun h5 hm => ?_)
      · skip
        refine br_elim hm (fun h6 hm => ?_) (fun h6 hm => ?_)
        · skip
          refine br_elim hm (fun h7 hm => ?_) (fun h7 hm => ?_)
          · skip
            refine br_elim hm (fun h8 hm => ?_) (fun h8 hm => ?_)
            · skip
              refine grd_elim hm (fun g9 hm => ?_)
              refine GS.region (env' := fun _ => [(2, .bool ((Int.tmod a0.Size a0.Unit) == 0))]) (mem' := fun _ => []) (RunsTo.mk [(1, { act := .load 1 0 0 [] }), (3, { sp := some (.bool true) }), (5, { act := .load 1 0 0 [] }), (8, { sp := some (.bool true) }), (10, { act := .load 1 0 0 [] }), (13, { sp := some (.bool true) }), (15, { act := .load 1 0 0 [] }), (18, { sp := some (.bool true) }), (20, { act := .load 1 0 0 [] }), (22, { act := .load 1 0 0 [] }), (25, { sp := some (.bool true) }), (27, { act := .load 1 0 0 [] }), (30, { sp := some (.bool true) }), (32, { act := .load 1 0 0 [] }), (34, { act := .load 1 0 0 [] }), (35, { act := .div })] [2] [] (fun _ => [(fr1 0).x = (fr1 0).x, ((.bool (decide (a0.Unit ≥ 1))) : Value) = .bool true, (fr1 0).x = (fr1 0).x, ((.bool (decide (a0.Unit ≤ 4096))) : Value) = .bool true, (fr1 0).x = (fr1 0).x, ((.bool (decide (a0.Count ≥ 1))) : Value) = .bool true, (fr1 0).x = (fr1 0).x, ((.bool (decide (a0.Count ≤ 16))) : Value) = .bool true, (fr1 0).x = (fr1 0).x, (fr1 0).x = (fr1 0).x, ((.bool (decide (a0.Size ≥ a0.Unit))) : Value) = .bool true, (fr1 0).x = (fr1 0).x, ((.bool (decide (a0.Size ≤ 4096))) : Value) = .bool true, (fr1 0).x = (fr1 0).x, (fr1 0).x = (fr1 0).x, a0.Unit ≠ 0]) (fun _ => by kernel_rfl) (fun _ => ⟨rfl, bool_eq h3, rfl, bool_eq h4, rfl, bool_eq h5, rfl, bool_eq h6, rfl, rfl, bool_eq h7, rfl, bool_eq h8, rfl, rfl, g9, trivial⟩)) ?_
              intro _
              have hy := Option.some.inj hm
              subst hy
              refine GS.ret (fn := Tryd.f13) [0] [.bool ((Int.tmod a0.Size a0.Unit) == 0)] [] rfl Tryd.func13 (by kernel_rfl) trivial (fun w' hs => ?_)
              exact ⟨(), rfl, hs.turnedG (ks := []) rfl rfl⟩
            · skip
              refine GS.region (env' := fun _ => [(2, .bool false)]) (mem' := fun _ => []) (RunsTo.mk [(1, { act := .load 1 0 0 [] }), (3, { sp := some (.bool true) }), (5, { act := .load 1 0 0 [] }), (8, { sp := some (.bool true) }), (10, { act := .load 1 0 0 [] }), (13, { sp := some (.bool true) }), (15, { act := .load 1 0 0 [] }), (18, { sp := some (.bool true) }), (20, { act := .load 1 0 0 [] }), (22, { act := .load 1 0 0 [] }), (25, { sp := some (.bool true) }), (27, { act := .load 1 0 0 [] }), (30, { sp := some (.bool false) })] [2] [] (fun _ => [(fr1 0).x = (fr1 0).x, ((.bool (decide (a0.Unit ≥ 1))) : Value) = .bool true, (fr1 0).x = (fr1 0).x, ((.bool (decide (a0.Unit ≤ 4096))) : Value) = .bool true, (fr1 0).x = (fr1 0).x, ((.bool (decide (a0.Count ≥ 1))) : Value) = .bool true, (fr1 0).x = (fr1 0).x, ((.bool (decide (a0.Count ≤ 16))) : Value) = .bool true, (fr1 0).x = (fr1 0).x, (fr1 0).x = (fr1 0).x, ((.bool (decide (a0.Size ≥ a0.Unit))) : Value) = .bool true, (fr1 0).x = (fr1 0).x, ((.bool (decide (a0.Size ≤ 4096))) : Value) = .bool false]) (fun _ => by kernel_rfl) (fun _ => ⟨rfl, bool_eq h3, rfl, bool_eq h4, rfl, bool_eq h5, rfl, bool_eq h6, rfl, rfl, bool_eq h7, rfl, bool_eq h8, trivial⟩)) ?_
              intro _
              have hy := Option.some.inj hm
              subst hy
              refine GS.ret (fn := Tryd.f13) [0] [.bool false] [] rfl Tryd.func13 (by kernel_rfl) trivial (fun w' hs => ?_)
              exact ⟨(), rfl, hs.turnedG (ks := []) rfl rfl⟩
          · skip
            refine GS.region (env' := fun _ => [(2, .bool false)]) (mem' := fun _ => []) (RunsTo.mk [(1, { act := .load 1 0 0 [] }), (3, { sp := some (.bool true) }), (5, { act := .load 1 0 0 [] }), (8, { sp := some (.bool true) }), (10, { act := .load 1 0 0 [] }), (13, { sp := some (.bool true) }), (15, { act := .load 1 0 0 [] }), (18, { sp := some (.bool true) }), (20, { act := .load 1 0 0 [] }), (22, { act := .load 1 0 0 [] }), (25, { sp := some (.bool false) })] [2] [] (fun _ => [(fr1 0).x = (fr1 0).x, ((.bool (decide (a0.Unit ≥ 1))) : Value) = .bool true, (fr1 0).x = (fr1 0).x, ((.bool (decide (a0.Unit ≤ 4096))) : Value) = .bool true, (fr1 0).x = (fr1 0).x, ((.bool (decide (a0.Count ≥ 1))) : Value) = .bool true, (fr1 0).x = (fr1 0).x, ((.bool (decide (a0.Count ≤ 16))) : Value) = .bool true, (fr1 0).x = (fr1 0).x, (fr1 0).x = (fr1 0).x, ((.bool (decide (a0.Size ≥ a0.Unit))) : Value) = .bool false]) (fun _ => by kernel_rfl) (fun _ => ⟨rfl, bool_eq h3, rfl, bool_eq h4, rfl, bool_eq h5, rfl, bool_eq h6, rfl, rfl, bool_eq h7, trivial⟩)) ?_
            intro _
            have hy := Option.some.inj hm
            subst hy
            refine GS.ret (fn := Tryd.f13) [0] [.bool false] [] rfl Tryd.func13 (by kernel_rfl) trivial (fun w' hs => ?_)
            exact ⟨(), rfl, hs.turnedG (ks := []) rfl rfl⟩
        · skip
          refine GS.region (env' := fun _ => [(2, .bool false)]) (mem' := fun _ => []) (RunsTo.mk [(1, { act := .load 1 0 0 [] }), (3, { sp := some (.bool true) }), (5, { act := .load 1 0 0 [] }), (8, { sp := some (.bool true) }), (10, { act := .load 1 0 0 [] }), (13, { sp := some (.bool true) }), (15, { act := .load 1 0 0 [] }), (18, { sp := some (.bool false) })] [2] [] (fun _ => [(fr1 0).x = (fr1 0).x, ((.bool (decide (a0.Unit ≥ 1))) : Value) = .bool true, (fr1 0).x = (fr1 0).x, ((.bool (decide (a0.Unit ≤ 4096))) : Value) = .bool true, (fr1 0).x = (fr1 0).x, ((.bool (decide (a0.Count ≥ 1))) : Value) = .bool true, (fr1 0).x = (fr1 0).x, ((.bool (decide (a0.Count ≤ 16))) : Value) = .bool false]) (fun _ => by kernel_rfl) (fun _ => ⟨rfl, bool_eq h3, rfl, bool_eq h4, rfl, bool_eq h5, rfl, bool_eq h6, trivial⟩)) ?_
          intro _
          have hy := Option.some.inj hm
          subst hy
          refine GS.ret (fn := Tryd.f13) [0] [.bool false] [] rfl Tryd.func13 (by kernel_rfl) trivial (fun w' hs => ?_)
          exact ⟨(), rfl, hs.turnedG (ks := []) rfl rfl⟩
      · skip
        refine GS.region (env' := fun _ => [(2, .bool false)]) (mem' := fun _ => []) (RunsTo.mk [(1, { act := .load 1 0 0 [] }), (3, { sp := some (.bool true) }), (5, { act := .load 1 0 0 [] }), (8, { sp := some (.bool true) }), (10, { act := .load 1 0 0 [] }), (13, { sp := some (.bool false) })] [2] [] (fun _ => [(fr1 0).x = (fr1 0).x, ((.bool (decide (a0.Unit ≥ 1))) : Value) = .bool true, (fr1 0).x = (fr1 0).x, ((.bool (decide (a0.Unit ≤ 4096))) : Value) = .bool true, (fr1 0).x = (fr1 0).x, ((.bool (decide (a0.Count ≥ 1))) : Value) = .bool false]) (fun _ => by kernel_rfl) (fun _ => ⟨rfl, bool_eq h3, rfl, bool_eq h4, rfl, bool_eq h5, trivial⟩)) ?_
        intro _
        have hy := Option.some.inj hm
        subst hy
        refine GS.ret (fn := Tryd.f13) [0] [.bool false] [] rfl Tryd.func13 (by kernel_rfl) trivial (fun w' hs => ?_)
        exact ⟨(), rfl, hs.turnedG (ks := []) rfl rfl⟩
    · skip
      refine GS.region (env' := fun _ => [(2, .bool false)]) (mem' := fun _ => []) (RunsTo.mk [(1, { act := .load 1 0 0 [] }), (3, { sp := some (.bool true) }), (5, { act := .load 1 0 0 [] }), (8, { sp := some (.bool false) })] [2] [] (fun _ => [(fr1 0).x = (fr1 0).x, ((.bool (decide (a0.Unit ≥ 1))) : Value) = .bool true, (fr1 0).x = (fr1 0).x, ((.bool (decide (a0.Unit ≤ 4096))) : Value) = .bool false]) (fun _ => by kernel_rfl) (fun _ => ⟨rfl, bool_eq h3, rfl, bool_eq h4, trivial⟩)) ?_
      intro _
      have hy := Option.some.inj hm
      subst hy
      refine GS.ret (fn := Tryd.f13) [0] [.bool false] [] rfl Tryd.func13 (by kernel_rfl) trivial (fun w' hs => ?_)
      exact ⟨(), rfl, hs.turnedG (ks := []) rfl rfl⟩
  · skip
    refine GS.region (env' := fun _ => [(2, .bool false)]) (mem' := fun _ => []) (RunsTo.mk [(1, { act := .load 1 0 0 [] }), (3, { sp := some (.bool false) })] [2] [] (fun _ => [(fr1 0).x = (fr1 0).x, ((.bool (decide (a0.Unit ≥ 1))) : Value) = .bool false]) (fun _ => by kernel_rfl) (fun _ => ⟨rfl, bool_eq h3, trivial⟩)) ?_
    intro _
    have hy := Option.some.inj hm
    subst hy
    refine GS.ret (fn := Tryd.f13) [0] [.bool false] [] rfl Tryd.func13 (by kernel_rfl) trivial (fun w' hs => ?_)
    exact ⟨(), rfl, hs.turnedG (ks := []) rfl rfl⟩

theorem w_tholeref24_Place (F : Nat) (a0 : S_tholeref24_Layout) (a1 : Int) {y : Int × Int} (hm : m_tholeref24_Place F a0 a1 = some y) : CallG Tryd.prog 11 #[.agg #[.int .i64 a0.Unit, .int .i64 a0.Count, .int .i64 a0.Size], .int .i64 a1] (X := Unit) (fun (_ : Unit) => .tuple #[.int .i64 y.1, .int .i64 y.2]) [] [] (fun (_ : Unit) => []) := by
  intro w hg
  rw [m_tholeref24_Place] at hm
  refine GS.start (S := mayT [] []) (mem := []) Tryd.func11 rfl Tryd.ntmps11 (Nat.le_of_ble_eq_true rfl) (hg.start rfl) ?_
  refine GS.conv (env' := [(0, .agg #[.int .i64 a0.Unit, .int .i64 a0.Count, .int .i64 a0.Size]), (1, .int .i64 a1)]) rfl rfl ?_
  refine GS.seq ?_
  refine GS.region (env' := fun fr1 => [(1, .int .i64 a1), (2, .pointer (some ⟨(fr1 0).x, 0, none⟩))]) (mem' := fun fr1 => [(1, .cells ((fr1 0).x) 24 [.int .i64 a0.Unit, .int .i64 a0.Count, .int .i64 a0.Size])]) (RunsTo.mk [(0, { act := .new .var, key := some 1 })] [1, 2] [1] (fun fr1 => []) (fun fr1 => by kernel_rfl) (fun fr1 => trivial)) ?_
  intro fr1
  refine GS.seq ?_
  refine GS.seq ?_
  refine jn_elim hm (fun J7 hJ9 hm => ?_)
  refine GS.cut (ι := Bool) (I := fun (v19_0 : Bool) => J7 v19_0 = some y) (E := fun (v19_0 : Bool) => [(1, .int .i64 a1), (2, .pointer (some ⟨(fr1 0).x, 0, none⟩)), (19, .bool v19_0)]) (M := fun (v19_0 : Bool) => [(1, .cells ((fr1 0).x) 24 [.int .i64 a0.Unit, .int .i64 a0.Count, .int .i64 a0.Size])]) ?_ ?_
  rotate_left
  · intro H8
    refine bnd_elim hm (fun y3 e4 hm => ?_)
    refine br_elim hm (fun h5 hm => ?_) (fun h5 hm => ?_)
    · skip
      refine GS.region (env' := fun _ => [(1, .int .i64 a1), (2, .pointer (some ⟨(fr1 0).x, 0, none⟩)), (19, .bool true)]) (mem' := fun _ => [(1, .cells ((fr1 0).x) 24 [.int .i64 a0.Unit, .int .i64 a0.Count, .int .i64 a0.Size])]) (RunsTo.mk [(0, { act := .load 1 0 0 [] }), (1, { act := .call [] (.bool y3) }), (3, { sp := some (.bool true) })] [1, 2, 19] [1] (fun _ => [(fr1 0).x = (fr1 0).x, CallOK Tryd.prog 13 #[.agg #[.int .i64 a0.Unit, .int .i64 a0.Count, .int .i64 a0.Size]] (.bool y3) [], ((.bool (!y3)) : Value) = .bool true]) (fun _ => by kernel_rfl) (fun _ => ⟨rfl, (w_tholeref24_Good F a0 e4).ok trivial, bool_eq h5, trivial⟩)) ?_
      intro _
      refine GS.rekey (env' := [(1, .int .i64 a1), (2, .pointer (some ⟨(fr1 0).x, 0, none⟩)), (19, .bool true)]) (mem' := [(1, .cells ((fr1 0).x) 24 [.int .i64 a0.Unit, .int .i64 a0.Count, .int .i64 a0.Size])]) [1, 2, 19] [(1, 1)] (by kernel_rfl) (by kernel_rfl) rfl ?_
      exact H8 true hm
    · skip
      refine br_elim hm (fun h6 hm => ?_) (fun h6 hm => ?_)
      · skip
        refine GS.region (env' := fun _ => [(1, .int .i64 a1), (2, .pointer (some ⟨(fr1 0).x, 0, none⟩)), (19, .bool true)]) (mem' := fun _ => [(1, .cells ((fr1 0).x) 24 [.int .i64 a0.Unit, .int .i64 a0.Count, .int .i64 a0.Size])]) (RunsTo.mk [(0, { act := .load 1 0 0 [] }), (1, { act := .call [] (.bool y3) }), (3, { sp := some (.bool false) }), (7, { sp := some (.bool true) })] [1, 2, 19] [1] (fun _ => [(fr1 0).x = (fr1 0).x, CallOK Tryd.prog 13 #[.agg #[.int .i64 a0.Unit, .int .i64 a0.Count, .int .i64 a0.Size]] (.bool y3) [], ((.bool (!y3)) : Value) = .bool false, ((.bool (decide (a1 < 0))) : Value) = .bool true]) (fun _ => by kernel_rfl) (fun _ => ⟨rfl, (w_tholeref24_Good F a0 e4).ok trivial, bool_eq h5, bool_eq h6, trivial⟩)) ?_
        intro _
        refine GS.rekey (env' := [(1, .int .i64 a1), (2, .pointer (some ⟨(fr1 0).x, 0, none⟩)), (19, .bool true)]) (mem' := [(1, .cells ((fr1 0).x) 24 [.int .i64 a0.Unit, .int .i64 a0.Count, .int .i64 a0.Size])]) [1, 2, 19] [(1, 1)] (by kernel_rfl) (by kernel_rfl) rfl ?_
        exact H8 true hm
      · skip
        refine GS.region (env' := fun _ => [(1, .int .i64 a1), (2, .pointer (some ⟨(fr1 0).x, 0, none⟩)), (19, .bool (decide (a1 ≥ 65536)))]) (mem' := fun _ => [(1, .cells ((fr1 0).x) 24 [.int .i64 a0.Unit, .int .i64 a0.Count, .int .i64 a0.Size])]) (RunsTo.mk [(0, { act := .load 1 0 0 [] }), (1, { act := .call [] (.bool y3) }), (3, { sp := some (.bool false) }), (7, { sp := some (.bool false) })] [1, 2, 19] [1] (fun _ => [(fr1 0).x = (fr1 0).x, CallOK Tryd.prog 13 #[.agg #[.int .i64 a0.Unit, .int .i64 a0.Count, .int .i64 a0.Size]] (.bool y3) [], ((.bool (!y3)) : Value) = .bool false, ((.bool (decide (a1 < 0))) : Value) = .bool false]) (fun _ => by kernel_rfl) (fun _ => ⟨rfl, (w_tholeref24_Good F a0 e4).ok trivial, bool_eq h5, bool_eq h6, trivial⟩)) ?_
        intro _
        refine GS.rekey (env' := [(1, .int .i64 a1), (2, .pointer (some ⟨(fr1 0).x, 0, none⟩)), (19, .bool (decide (a1 ≥ 65536)))]) (mem' := [(1, .cells ((fr1 0).x) 24 [.int .i64 a0.Unit, .int .i64 a0.Count, .int .i64 a0.Size])]) [1, 2, 19] [(1, 1)] (by kernel_rfl) (by kernel_rfl) rfl ?_
        exact H8 (decide (a1 ≥ 65536)) hm
  · rintro v19_0 hm
    replace hm := (hJ9 _).symm.trans hm
    try dsimp only at hm
    refine GS.cond (t := v19_0) rfl rfl (fun h10 => ?_) (fun h10 => ?_)
    · replace hm := br_t h10 hm
      refine GS.seq ?_
      refine GS.region (env' := fun _ => [(4, .int .i64 0), (5, .int .i64 0)]) (mem' := fun _ => []) (RunsTo.mk [] [4, 5] [] (fun _ => []) (fun _ => by kernel_rfl) (fun _ => trivial)) ?_
      intro _
      have hy := Option.some.inj hm
      subst hy
      refine GS.ret (fn := Tryd.f11) [0, 0] [.int .i64 0, .int .i64 0] [] rfl Tryd.func11 (by kernel_rfl) trivial (fun w' hs => ?_)
      exact ⟨(), rfl, hs.turnedG (ks := []) rfl rfl⟩
    · replace hm := br_f h10 hm
      refine GS.skip ?_
      refine GS.seq ?_
      refine grd_elim hm (fun g13 hm => ?_)
      refine grd_elim hm (fun g14 hm => ?_)
      refine GS.region (env' := fun _ => [(1, .int .i64 a1), (2, .pointer (some ⟨(fr1 0).x, 0, none⟩)), (6, .int .i64 (Int.tdiv a1 a0.Unit))]) (mem' := fun _ => [(1, .cells ((fr1 0).x) 24 [.int .i64 a0.Unit, .int .i64 a0.Count, .int .i64 a0.Size])]) (RunsTo.mk [(2, { act := .load 1 0 0 [] }), (3, { act := .div, sp := some (.int .i64 (Int.tdiv a1 a0.Unit)) })] [1, 2, 6] [1] (fun _ => [(fr1 0).x = (fr1 0).x, a0.Unit ≠ 0, ((.int .i64 (IntKind.i64.wrap (Int.tdiv a1 a0.Unit))) : Value) = .int .i64 (Int.tdiv a1 a0.Unit)]) (fun _ => by kernel_rfl) (fun _ => ⟨rfl, g13, I64.w g14, trivial⟩)) ?_
      intro _
      refine GS.seq ?_
      refine grd_elim hm (fun g16 hm => ?_)
      refine grd_elim hm (fun g17 hm => ?_)
      refine GS.region (env' := fun _ => [(1, .int .i64 a1), (2, .pointer (some ⟨(fr1 0).x, 0, none⟩)), (6, .int .i64 (Int.tdiv a1 a0.Unit)), (7, .int .i64 (a0.Count * (Int.tdiv a0.Size a0.Unit)))]) (mem' := fun _ => [(1, .cells ((fr1 0).x) 24 [.int .i64 a0.Unit, .int .i64 a0.Count, .int .i64 a0.Size])]) (RunsTo.mkd [(1, { act := .load 1 0 0 [] }), (3, { act := .load 1 0 0 [] }), (5, { act := .load 1 0 0 [] }), (6, { act := .div, sp := some (.int .i64 (Int.tdiv a0.Size a0.Unit)) }), (7, { sp := some (.int .i64 (a0.Count * (Int.tdiv a0.Size a0.Unit))) })] [1, 2, 6, 7] [1] (fun _ => [(fr1 0).x = (fr1 0).x, (fr1 0).x = (fr1 0).x, (fr1 0).x = (fr1 0).x, a0.Unit ≠ 0, ((.int .i64 (IntKind.i64.wrap (Int.tdiv a0.Size a0.Unit))) : Value) = .int .i64 (Int.tdiv a0.Size a0.Unit), ((.int .i64 (IntKind.i64.wrap (a0.Count * (Int.tdiv a0.Size a0.Unit)))) : Value) = .int .i64 (a0.Count * (Int.tdiv a0.Size a0.Unit))]) (by kernel_rfl) (by kernel_rfl) (fun _ => by kernel_rfl) (fun _ => ⟨rfl, rfl, rfl, g13, I64.w g16, I64.w g17, trivial⟩)) ?_
      intro _
      refine GS.seq ?_
      refine grd_elim hm (fun g19 hm => ?_)
      refine grd_elim hm (fun g20 hm => ?_)
      refine grd_elim hm (fun g21 hm => ?_)
      refine GS.region (env' := fun _ => [(1, .int .i64 a1), (2, .pointer (some ⟨(fr1 0).x, 0, none⟩)), (6, .int .i64 (Int.tdiv a1 a0.Unit)), (7, .int .i64 (a0.Count * (Int.tdiv a0.Size a0.Unit))), (8, .int .i64 (Int.tdiv (Int.tmod (Int.tdiv a1 a0.Unit) (a0.Count * (Int.tdiv a0.Size a0.Unit))) a0.Count))]) (mem' := fun _ => [(1, .cells ((fr1 0).x) 24 [.int .i64 a0.Unit, .int .i64 a0.Count, .int .i64 a0.Size])]) (RunsTo.mkd [(2, { act := .div }), (4, { act := .load 1 0 0 [] }), (5, { act := .div, sp := some (.int .i64 (Int.tdiv (Int.tmod (Int.tdiv a1 a0.Unit) (a0.Count * (Int.tdiv a0.Size a0.Unit))) a0.Count)) })] [1, 2, 6, 7, 8] [1] (fun _ => [(a0.Count * (Int.tdiv a0.Size a0.Unit)) ≠ 0, (fr1 0).x = (fr1 0).x, a0.Count ≠ 0, ((.int .i64 (IntKind.i64.wrap (Int.tdiv (Int.tmod (Int.tdiv a1 a0.Unit) (a0.Count * (Int.tdiv a0.Size a0.Unit))) a0.Count))) : Value) = .int .i64 (Int.tdiv (Int.tmod (Int.tdiv a1 a0.Unit) (a0.Count * (Int.tdiv a0.Size a0.Unit))) a0.Count)]) (by kernel_rfl) (by kernel_rfl) (fun _ => by kernel_rfl) (fun _ => ⟨g19, rfl, g20, I64.w g21, trivial⟩)) ?_
      intro _
      refine GS.seq ?_
      refine grd_elim hm (fun g23 hm => ?_)
      refine grd_elim hm (fun g24 hm => ?_)
      refine grd_elim hm (fun g25 hm => ?_)
      refine grd_elim hm (fun g26 hm => ?_)
      refine grd_elim hm (fun g27 hm => ?_)
      refine GS.region (env' := fun _ => [(4, .int .i64 (((Int.tdiv (Int.tdiv a1 a0.Unit) (a0.Count * (Int.tdiv a0.Size a0.Unit))) * a0.Count) + (Int.tmod (Int.tdiv a1 a0.Unit) a0.Count))), (5, .int .i64 (((Int.tdiv (Int.tmod (Int.tdiv a1 a0.Unit) (a0.Count * (Int.tdiv a0.Size a0.Unit))) a0.Count) * a0.Unit) + (Int.tmod a1 a0.Unit)))]) (mem' := fun _ => []) (RunsTo.mkd [(2, { act := .div, sp := some (.int .i64 (Int.tdiv (Int.tdiv a1 a0.Unit) (a0.Count * (Int.tdiv a0.Size a0.Unit)))) }), (4, { act := .load 1 0 0 [] }), (5, { sp := some (.int .i64 ((Int.tdiv (Int.tdiv a1 a0.Unit) (a0.Count * (Int.tdiv a0.Size a0.Unit))) * a0.Count)) }), (8, { act := .load 1 0 0 [] }), (9, { act := .div }), (10, { sp := some (.int .i64 (((Int.tdiv (Int.tdiv a1 a0.Unit) (a0.Count * (Int.tdiv a0.Size a0.Unit))) * a0.Count) + (Int.tmod (Int.tdiv a1 a0.Unit) a0.Count))) }), (13, { act := .load 1 0 0 [] }), (14, { sp := some (.int .i64 ((Int.tdiv (Int.tmod (Int.tdiv a1 a0.Unit) (a0.Count * (Int.tdiv a0.Size a0.Unit))) a0.Count) * a0.Unit)) }), (17, { act := .load 1 0 0 [] }), (18, { act := .div }), (19, { sp := some (.int .i64 (((Int.tdiv (Int.tmod (Int.tdiv a1 a0.Unit) (a0.Count * (Int.tdiv a0.Size a0.Unit))) a0.Count) * a0.Unit) + (Int.tmod a1 a0.Unit))) })] [4, 5] [] (fun _ => [(a0.Count * (Int.tdiv a0.Size a0.Unit)) ≠ 0, ((.int .i64 (IntKind.i64.wrap (Int.tdiv (Int.tdiv a1 a0.Unit) (a0.Count * (Int.tdiv a0.Size a0.Unit))))) : Value) = .int .i64 (Int.tdiv (Int.tdiv a1 a0.Unit) (a0.Count * (Int.tdiv a0.Size a0.Unit))), (fr1 0).x = (fr1 0).x, ((.int .i64 (IntKind.i64.wrap ((Int.tdiv (Int.tdiv a1 a0.Unit) (a0.Count * (Int.tdiv a0.Size a0.Unit))) * a0.Count))) : Value) = .int .i64 ((Int.tdiv (Int.tdiv a1 a0.Unit) (a0.Count * (Int.tdiv a0.Size a0.Unit))) * a0.Count), (fr1 0).x = (fr1 0).x, a0.Count ≠ 0, ((.int .i64 (IntKind.i64.wrap (((Int.tdiv (Int.tdiv a1 a0.Unit) (a0.Count * (Int.tdiv a0.Size a0.Unit))) * a0.Count) + (Int.tmod (Int.tdiv a1 a0.Unit) a0.Count)))) : Value) = .int .i64 (((Int.tdiv (Int.tdiv a1 a0.Unit) (a0.Count * (Int.tdiv a0.Size a0.Unit))) * a0.Count) + (Int.tmod (Int.tdiv a1 a0.Unit) a0.Count)), (fr1 0).x = (fr1 0).x, ((.int .i64 (IntKind.i64.wrap ((Int.tdiv (Int.tmod (Int.tdiv a1 a0.Unit) (a0.Count * (Int.tdiv a0.Size a0.Unit))) a0.Count) * a0.Unit))) : Value) = .int .i64 ((Int.tdiv (Int.tmod (Int.tdiv a1 a0.Unit) (a0.Count * (Int.tdiv a0.Size a0.Unit))) a0.Count) * a0.Unit), (fr1 0).x = (fr1 0).x, a0.Unit ≠ 0, ((.int .i64 (IntKind.i64.wrap (((Int.tdiv (Int.tmod (Int.tdiv a1 a0.Unit) (a0.Count * (Int.tdiv a0.Size a0.Unit))) a0.Count) * a0.Unit) + (Int.tmod a1 a0.Unit)))) : Value) = .int .i64 (((Int.tdiv (Int.tmod (Int.tdiv a1 a0.Unit) (a0.Count * (Int.tdiv a0.Size a0.Unit))) a0.Count) * a0.Unit) + (Int.tmod a1 a0.Unit))]) (by kernel_rfl) (by kernel_rfl) (fun _ => by kernel_rfl) (fun _ => ⟨g19, I64.w g23, rfl, I64.w g24, rfl, g20, I64.w g25, rfl, I64.w g26, rfl, g13, I64.w g27, trivial⟩)) ?_
      intro _
      have hy := Option.some.inj hm
      subst hy
      refine GS.ret (fn := Tryd.f11) [0, 0] [.int .i64 (((Int.tdiv (Int.tdiv a1 a0.Unit) (a0.Count * (Int.tdiv a0.Size a0.Unit))) * a0.Count) + (Int.tmod (Int.tdiv a1 a0.Unit) a0.Count)), .int .i64 (((Int.tdiv (Int.tmod (Int.tdiv a1 a0.Unit) (a0.Count * (Int.tdiv a0.Size a0.Unit))) a0.Count) * a0.Unit) + (Int.tmod a1 a0.Unit))] [] rfl Tryd.func11 (by kernel_rfl) trivial (fun w' hs => ?_)
      exact ⟨(), rfl, hs.turnedG (ks := []) rfl rfl⟩

theorem w_stripe_Back (F : Nat) (a0 : S_stripe_Layout) (a1 : Int) (a2 : Int) {y : Int} (hm : m_stripe_Back F a0 a1 a2 = some y) : CallG Tryd.prog 14 #[.agg #[.int .i64 a0.Unit, .int .i64 a0.Count, .int .i64 a0.Size], .int .i64 a1, .int .i64 a2] (X := Unit) (fun (_ : Unit) => .int .i64 y) [] [] (fun (_ : Unit) => []) := by
  intro w hg
  rw [m_stripe_Back] at hm
  refine GS.start (S := mayT [] []) (mem := []) Tryd.func14 rfl Tryd.ntmps14 (Nat.le_of_ble_eq_true rfl) (hg.start rfl) ?_
  refine GS.conv (env' := [(0, .agg #[.int .i64 a0.Unit, .int .i64 a0.Count, .int .i64 a0.Size]), (1, .int .i64 a1), (2, .int .i64 a2)]) rfl rfl ?_
  refine GS.seq ?_
  refine GS.region (env' := fun fr1 => [(1, .int .i64 a1), (2, .int .i64 a2), (3, .pointer (some ⟨(fr1 0).x, 0, none⟩))]) (mem' := fun fr1 => [(1, .cells ((fr1 0).x) 23 [.int .i64 a0.Unit, .int .i64 a0.Count, .int .i64 a0.Size])]) (RunsTo.mk [(0, { act := .new .var, key := some 1 })] [1, 2, 3] [1] (fun fr1 => []) (fun fr1 => by kernel_rfl) (fun fr1 => trivial)) ?_
  intro fr1
  refine GS.seq ?_
  refine GS.block ?_
  refine GS.seq ?_
  refine bnd_elim hm (fun y3 e4 hm => ?_)
  refine GS.region (env' := fun _ => [(1, .int .i64 a1), (2, .int .i64 a2), (3, .pointer (some ⟨(fr1 0).x, 0, none⟩)), (9, .bool (!y3))]) (mem' := fun _ => [(1, .cells ((fr1 0).x) 23 [.int .i64 a0.Unit, .int .i64 a0.Count, .int .i64 a0.Size])]) (RunsTo.mk [(0, { act := .load 1 0 0 [] }), (1, { act := .call [] (.bool y3) })] [1, 2, 3, 9] [1] (fun _ => [(fr1 0).x = (fr1 0).x, CallOK Tryd.prog 12 #[.agg #[.int .i64 a0.Unit, .int .i64 a0.Count, .int .i64 a0.Size]] (.bool y3) []]) (fun _ => by kernel_rfl) (fun _ => ⟨rfl, (w_stripe_Good F a0 e4).ok trivial, trivial⟩)) ?_
  intro _
  refine GS.cond (t := !y3) rfl rfl (fun h5 => ?_) (fun h5 => ?_)
  · replace hm := br_t h5 hm
    refine GS.seq ?_
    refine GS.region (env' := fun _ => [(6, .int .i64 0)]) (mem' := fun _ => []) (RunsTo.mk [] [6] [] (fun _ => []) (fun _ => by kernel_rfl) (fun _ => trivial)) ?_
    intro _
    have hy := Option.some.inj hm
    subst hy
    refine GS.ret (fn := Tryd.f14) [0] [.int .i64 0] [] rfl Tryd.func14 (by kernel_rfl) trivial (fun w' hs => ?_)
    exact ⟨(), rfl, hs.turnedG (ks := []) rfl rfl⟩
  · replace hm := br_f h5 hm
    refine GS.seq ?_
    refine jn_elim hm (fun J12 hJ14 hm => ?_)
    refine GS.cut (ι := Bool) (I := fun (v13_2 : Bool) => J12 v13_2 = some y) (E := fun (v13_2 : Bool) => [(1, .int .i64 a1), (2, .int .i64 a2), (3, .pointer (some ⟨(fr1 0).x, 0, none⟩)), (13, .bool v13_2)]) (M := fun (v13_2 : Bool) => [(1, .cells ((fr1 0).x) 23 [.int .i64 a0.Unit, .int .i64 a0.Count, .int .i64 a0.Size])]) ?_ ?_
    rotate_left
    · intro H13
      refine br_elim hm (fun h8 hm => ?_) (fun h8 hm => ?_)
      · skip
        refine GS.region (env' := fun _ => [(1, .int .i64 a1), (2, .int .i64 a2), (3, .pointer (some ⟨(fr1 0).x, 0, none⟩)), (13, .bool true)]) (mem' := fun _ => [(1, .cells ((fr1 0).x) 23 [.int .i64 a0.Unit, .int .i64 a0.Count, .int .i64 a0.Size])]) (RunsTo.mk [(2, { sp := some (.bool true) })] [1, 2, 3, 13] [1] (fun _ => [((.bool (decide (a2 < 0))) : Value) = .bool true]) (fun _ => by kernel_rfl) (fun _ => ⟨bool_eq h8, trivial⟩)) ?_
        intro _
        refine GS.rekey (env' := [(1, .int .i64 a1), (2, .int .i64 a2), (3, .pointer (some ⟨(fr1 0).x, 0, none⟩)), (13, .bool true)]) (mem' := [(1, .cells ((fr1 0).x) 23 [.int .i64 a0.Unit, .int .i64 a0.Count, .int .i64 a0.Size])]) [1, 2, 3, 13] [(1, 1)] (by kernel_rfl) (by kernel_rfl) rfl ?_
        exact H13 true hm
      · skip
        refine br_elim hm (fun h9 hm => ?_) (fun h9 hm => ?_)
        · skip
          refine GS.region (env' := fun _ => [(1, .int .i64 a1), (2, .int .i64 a2), (3, .pointer (some ⟨(fr1 0).x, 0, none⟩)), (13, .bool true)]) (mem' := fun _ => [(1, .cells ((fr1 0).x) 23 [.int .i64 a0.Unit, .int .i64 a0.Count, .int .i64 a0.Size])]) (RunsTo.mk [(2, { sp := some (.bool false) }), (5, { act := .load 1 0 0 [] }), (8, { sp := some (.bool true) })] [1, 2, 3, 13] [1] (fun _ => [((.bool (decide (a2 < 0))) : Value) = .bool false, (fr1 0).x = (fr1 0).x, ((.bool (decide (a2 ≥ a0.Size))) : Value) = .bool true]) (fun _ => by kernel_rfl) (fun _ => ⟨bool_eq h8, rfl, bool_eq h9, trivial⟩)) ?_
          intro _
          refine GS.rekey (env' := [(1, .int .i64 a1), (2, .int .i64 a2), (3, .pointer (some ⟨(fr1 0).x, 0, none⟩)), (13, .bool true)]) (mem' := [(1, .cells ((fr1 0).x) 23 [.int .i64 a0.Unit, .int .i64 a0.Count, .int .i64 a0.Size])]) [1, 2, 3, 13] [(1, 1)] (by kernel_rfl) (by kernel_rfl) rfl ?_
          exact H13 true hm
        · skip
          refine br_elim hm (fun h10 hm => ?_) (fun h10 hm => ?_)
          · skip
            refine GS.region (env' := fun _ => [(1, .int .i64 a1), (2, .int .i64 a2), (3, .pointer (some ⟨(fr1 0).x, 0, none⟩)), (13, .bool true)]) (mem' := fun _ => [(1, .cells ((fr1 0).x) 23 [.int .i64 a0.Unit, .int .i64 a0.Count, .int .i64 a0.Size])]) (RunsTo.mk [(2, { sp := some (.bool false) }), (5, { act := .load 1 0 0 [] }), (8, { sp := some (.bool false) }), (12, { sp := some (.bool true) })] [1, 2, 3, 13] [1] (fun _ => [((.bool (decide (a2 < 0))) : Value) = .bool false, (fr1 0).x = (fr1 0).x, ((.bool (decide (a2 ≥ a0.Size))) : Value) = .bool false, ((.bool (decide (a1 < 0))) : Value) = .bool true]) (fun _ => by kernel_rfl) (fun _ => ⟨bool_eq h8, rfl, bool_eq h9, bool_eq h10, trivial⟩)) ?_
            intro _
            refine GS.rekey (env' := [(1, .int .i64 a1), (2, .int .i64 a2), (3, .pointer (some ⟨(fr1 0).x, 0, none⟩)), (13, .bool true)]) (mem' := [(1, .cells ((fr1 0).x) 23 [.int .i64 a0.Unit, .int .i64 a0.Count, .int .i64 a0.Size])]) [1, 2, 3, 13] [(1, 1)] (by kernel_rfl) (by kernel_rfl) rfl ?_
            exact H13 true hm
          · skip
            refine grd_elim hm (fun g11 hm => ?_)
            refine GS.region (env' := fun _ => [(1, .int .i64 a1), (2, .int .i64 a2), (3, .pointer (some ⟨(fr1 0).x, 0, none⟩)), (13, .bool (decide (a1 ≥ (65536 * a0.Count))))]) (mem' := fun _ => [(1, .cells ((fr1 0).x) 23 [.int .i64 a0.Unit, .int .i64 a0.Count, .int .i64 a0.Size])]) (RunsTo.mk [(2, { sp := some (.bool false) }), (5, { act := .load 1 0 0 [] }), (8, { sp := some (.bool false) }), (12, { sp := some (.bool false) }), (15, { act := .load 1 0 0 [] }), (16, { sp := some (.int .i64 (65536 * a0.Count)) })] [1, 2, 3, 13] [1] (fun _ => [((.bool (decide (a2 < 0))) : Value) = .bool false, (fr1 0).x = (fr1 0).x, ((.bool (decide (a2 ≥ a0.Size))) : Value) = .bool false, ((.bool (decide (a1 < 0))) : Value) = .bool false, (fr1 0).x = (fr1 0).x, ((.int .i64 (IntKind.i64.wrap (65536 * a0.Count))) : Value) = .int .i64 (65536 * a0.Count)]) (fun _ => by kernel_rfl) (fun _ => ⟨bool_eq h8, rfl, bool_eq h9, bool_eq h10, rfl, I64.w g11, trivial⟩)) ?_
            intro _
            refine GS.rekey (env' := [(1, .int .i64 a1), (2, .int .i64 a2), (3, .pointer (some ⟨(fr1 0).x, 0, none⟩)), (13, .bool (decide (a1 ≥ (65536 * a0.Count))))]) (mem' := [(1, .cells ((fr1 0).x) 23 [.int .i64 a0.Unit, .int .i64 a0.Count, .int .i64 a0.Size])]) [1, 2, 3, 13] [(1, 1)] (by kernel_rfl) (by kernel_rfl) rfl ?_
            exact H13 (decide (a1 ≥ (65536 * a0.Count))) hm
    · rintro v13_2 hm
      replace hm := (hJ14 _).symm.trans hm
      try dsimp only at hm
      refine GS.cond (t := v13_2) rfl rfl (fun h15 => ?_) (fun h15 => ?_)
      · replace hm := br_t h15 hm
        refine GS.seq ?_
        refine GS.region (env' := fun _ => [(6, .int .i64 (-1))]) (mem' := fun _ => []) (RunsTo.mk [] [6] [] (fun _ => []) (fun _ => by kernel_rfl) (fun _ => trivial)) ?_
        intro _
        have hy := Option.some.inj hm
        subst hy
        refine GS.ret (fn := Tryd.f14) [0] [.int .i64 (-1)] [] rfl Tryd.func14 (by kernel_rfl) trivial (fun w' hs => ?_)
        exact ⟨(), rfl, hs.turnedG (ks := []) rfl rfl⟩
      · replace hm := br_f h15 hm
        refine GS.skip ?_
        refine GS.inBlock ?_
        refine GS.seq ?_
        refine grd_elim hm (fun g18 hm => ?_)
        refine grd_elim hm (fun g19 hm => ?_)
        refine bnd_elim hm (fun y20 e21 hm => ?_)
        refine grd_elim hm (fun g22 hm => ?_)
        refine grd_elim hm (fun g23 hm => ?_)
        refine grd_elim hm (fun g24 hm => ?_)
        refine grd_elim hm (fun g25 hm => ?_)
        refine grd_elim hm (fun g26 hm => ?_)
        refine grd_elim hm (fun g27 hm => ?_)
        refine GS.region (env' := fun _ => [(2, .int .i64 a2), (3, .pointer (some ⟨(fr1 0).x, 0, none⟩)), (7, .int .i64 ((((Int.tdiv a1 a0.Count) * y20) + ((Int.tdiv a2 a0.Unit) * a0.Count)) + (Int.tmod a1 a0.Count)))]) (mem' := fun _ => [(1, .cells ((fr1 0).x) 23 [.int .i64 a0.Unit, .int .i64 a0.Count, .int .i64 a0.Size])]) (RunsTo.mkd [(2, { act := .load 1 0 0 [] }), (3, { act := .div, sp := some (.int .i64 (Int.tdiv a1 a0.Count)) }), (4, { act := .load 1 0 0 [] }), (5, { act := .call [] (.int .i64 y20) }), (6, { sp := some (.int .i64 ((Int.tdiv a1 a0.Count) * y20)) }), (9, { act := .load 1 0 0 [] }), (10, { act := .div, sp := some (.int .i64 (Int.tdiv a2 a0.Unit)) }), (12, { act := .load 1 0 0 [] }), (13, { sp := some (.int .i64 ((Int.tdiv a2 a0.Unit) * a0.Count)) }), (14, { sp := some (.int .i64 (((Int.tdiv a1 a0.Count) * y20) + ((Int.tdiv a2 a0.Unit) * a0.Count))) }), (17, { act := .load 1 0 0 [] }), (18, { act := .div }), (19, { sp := some (.int .i64 ((((Int.tdiv a1 a0.Count) * y20) + ((Int.tdiv a2 a0.Unit) * a0.Count)) + (Int.tmod a1 a0.Count))) })] [2, 3, 7] [1] (fun _ => [(fr1 0).x = (fr1 0).x, a0.Count ≠ 0, ((.int .i64 (IntKind.i64.wrap (Int.tdiv a1 a0.Count))) : Value) = .int .i64 (Int.tdiv a1 a0.Count), (fr1 0).x = (fr1 0).x, CallOK Tryd.prog 36 #[.agg #[.int .i64 a0.Unit, .int .i64 a0.Count, .int .i64 a0.Size]] (.int .i64 y20) [], ((.int .i64 (IntKind.i64.wrap ((Int.tdiv a1 a0.Count) * y20))) : Value) = .int .i64 ((Int.tdiv a1 a0.Count) * y20), (fr1 0).x = (fr1 0).x, a0.Unit ≠ 0, ((.int .i64 (IntKind.i64.wrap (Int.tdiv a2 a0.Unit))) : Value) = .int .i64 (Int.tdiv a2 a0.Unit), (fr1 0).x = (fr1 0).x, ((.int .i64 (IntKind.i64.wrap ((Int.tdiv a2 a0.Unit) * a0.Count))) : Value) = .int .i64 ((Int.tdiv a2 a0.Unit) * a0.Count), ((.int .i64 (IntKind.i64.wrap (((Int.tdiv a1 a0.Count) * y20) + ((Int.tdiv a2 a0.Unit) * a0.Count)))) : Value) = .int .i64 (((Int.tdiv a1 a0.Count) * y20) + ((Int.tdiv a2 a0.Unit) * a0.Count)), (fr1 0).x = (fr1 0).x, a0.Count ≠ 0, ((.int .i64 (IntKind.i64.wrap ((((Int.tdiv a1 a0.Count) * y20) + ((Int.tdiv a2 a0.Unit) * a0.Count)) + (Int.tmod a1 a0.Count)))) : Value) = .int .i64 ((((Int.tdiv a1 a0.Count) * y20) + ((Int.tdiv a2 a0.Unit) * a0.Count)) + (Int.tmod a1 a0.Count))]) (by kernel_rfl) (by kernel_rfl) (fun _ => by kernel_rfl) (fun _ => ⟨rfl, g18, I64.w g19, rfl, (w__stripe_Layout__set F a0 e21).ok trivial, I64.w g22, rfl, g23, I64.w g24, rfl, I64.w g25, I64.w g26, rfl, g18, I64.w g27, trivial⟩)) ?_
        intro _
        refine GS.seq ?_
        refine GS.seq ?_
        refine GS.region (env' := fun _ => [(2, .int .i64 a2), (3, .pointer (some ⟨(fr1 0).x, 0, none⟩)), (7, .int .i64 ((((Int.tdiv a1 a0.Count) * y20) + ((Int.tdiv a2 a0.Unit) * a0.Count)) + (Int.tmod a1 a0.Count))), (54, .bool (decide (((((Int.tdiv a1 a0.Count) * y20) + ((Int.tdiv a2 a0.Unit) * a0.Count)) + (Int.tmod a1 a0.Count)) ≥ 65536)))]) (mem' := fun _ => [(1, .cells ((fr1 0).x) 23 [.int .i64 a0.Unit, .int .i64 a0.Count, .int .i64 a0.Size])]) (RunsTo.mk [] [2, 3, 7, 54] [1] (fun _ => []) (fun _ => by kernel_rfl) (fun _ => trivial)) ?_
        intro _
        refine GS.cond (t := decide (((((Int.tdiv a1 a0.Count) * y20) + ((Int.tdiv a2 a0.Unit) * a0.Count)) + (Int.tmod a1 a0.Count)) ≥ 65536)) rfl rfl (fun h29 => ?_) (fun h29 => ?_)
        · replace hm := br_t h29 hm
          refine GS.seq ?_
          refine GS.region (env' := fun _ => [(6, .int .i64 (-1))]) (mem' := fun _ => []) (RunsTo.mk [] [6] [] (fun _ => []) (fun _ => by kernel_rfl) (fun _ => trivial)) ?_
          intro _
          have hy := Option.some.inj hm
          subst hy
          refine GS.ret (fn := Tryd.f14) [0] [.int .i64 (-1)] [] rfl Tryd.func14 (by kernel_rfl) trivial (fun w' hs => ?_)
          exact ⟨(), rfl, hs.turnedG (ks := []) rfl rfl⟩
        · replace hm := br_f h29 hm
          refine GS.skip ?_
          refine GS.seq ?_
          refine GS.seq ?_
          refine grd_elim hm (fun g32 hm => ?_)
          refine grd_elim hm (fun g33 hm => ?_)
          refine GS.region (env' := fun _ => [(8, .int .i64 ((((((Int.tdiv a1 a0.Count) * y20) + ((Int.tdiv a2 a0.Unit) * a0.Count)) + (Int.tmod a1 a0.Count)) * a0.Unit) + (Int.tmod a2 a0.Unit)))]) (mem' := fun _ => []) (RunsTo.mkd [(2, { act := .load 1 0 0 [] }), (3, { sp := some (.int .i64 (((((Int.tdiv a1 a0.Count) * y20) + ((Int.tdiv a2 a0.Unit) * a0.Count)) + (Int.tmod a1 a0.Count)) * a0.Unit)) }), (6, { act := .load 1 0 0 [] }), (7, { act := .div }), (8, { sp := some (.int .i64 ((((((Int.tdiv a1 a0.Count) * y20) + ((Int.tdiv a2 a0.Unit) * a0.Count)) + (Int.tmod a1 a0.Count)) * a0.Unit) + (Int.tmod a2 a0.Unit))) })] [8] [] (fun _ => [(fr1 0).x = (fr1 0).x, ((.int .i64 (IntKind.i64.wrap (((((Int.tdiv a1 a0.Count) * y20) + ((Int.tdiv a2 a0.Unit) * a0.Count)) + (Int.tmod a1 a0.Count)) * a0.Unit))) : Value) = .int .i64 (((((Int.tdiv a1 a0.Count) * y20) + ((Int.tdiv a2 a0.Unit) * a0.Count)) + (Int.tmod a1 a0.Count)) * a0.Unit), (fr1 0).x = (fr1 0).x, a0.Unit ≠ 0, ((.int .i64 (IntKind.i64.wrap ((((((Int.tdiv a1 a0.Count) * y20) + ((Int.tdiv a2 a0.Unit) * a0.Count)) + (Int.tmod a1 a0.Count)) * a0.Unit) + (Int.tmod a2 a0.Unit)))) : Value) = .int .i64 ((((((Int.tdiv a1 a0.Count) * y20) + ((Int.tdiv a2 a0.Unit) * a0.Count)) + (Int.tmod a1 a0.Count)) * a0.Unit) + (Int.tmod a2 a0.Unit))]) (by kernel_rfl) (by kernel_rfl) (fun _ => by kernel_rfl) (fun _ => ⟨rfl, I64.w g32, rfl, g23, I64.w g33, trivial⟩)) ?_
          intro _
          refine GS.seq ?_
          refine GS.region (env' := fun _ => [(8, .int .i64 ((((((Int.tdiv a1 a0.Count) * y20) + ((Int.tdiv a2 a0.Unit) * a0.Count)) + (Int.tmod a1 a0.Count)) * a0.Unit) + (Int.tmod a2 a0.Unit))), (65, .bool (decide (((((((Int.tdiv a1 a0.Count) * y20) + ((Int.tdiv a2 a0.Unit) * a0.Count)) + (Int.tmod a1 a0.Count)) * a0.Unit) + (Int.tmod a2 a0.Unit)) < 65536)))]) (mem' := fun _ => []) (RunsTo.mk [] [8, 65] [] (fun _ => []) (fun _ => by kernel_rfl) (fun _ => trivial)) ?_
          intro _
          refine GS.cond (t := decide (((((((Int.tdiv a1 a0.Count) * y20) + ((Int.tdiv a2 a0.Unit) * a0.Count)) + (Int.tmod a1 a0.Count)) * a0.Unit) + (Int.tmod a2 a0.Unit)) < 65536)) rfl rfl (fun h35 => ?_) (fun h35 => ?_)
          · replace hm := br_t h35 hm
            refine GS.seq ?_
            refine GS.region (env' := fun _ => [(6, .int .i64 ((((((Int.tdiv a1 a0.Count) * y20) + ((Int.tdiv a2 a0.Unit) * a0.Count)) + (Int.tmod a1 a0.Count)) * a0.Unit) + (Int.tmod a2 a0.Unit)))]) (mem' := fun _ => []) (RunsTo.mk [] [6] [] (fun _ => []) (fun _ => by kernel_rfl) (fun _ => trivial)) ?_
            intro _
            have hy := Option.some.inj hm
            subst hy
            refine GS.ret (fn := Tryd.f14) [0] [.int .i64 ((((((Int.tdiv a1 a0.Count) * y20) + ((Int.tdiv a2 a0.Unit) * a0.Count)) + (Int.tmod a1 a0.Count)) * a0.Unit) + (Int.tmod a2 a0.Unit))] [] rfl Tryd.func14 (by kernel_rfl) trivial (fun w' hs => ?_)
            exact ⟨(), rfl, hs.turnedG (ks := []) rfl rfl⟩
          · replace hm := br_f h35 hm
            refine GS.skip ?_
            refine GS.seq ?_
            refine GS.region (env' := fun _ => [(6, .int .i64 (-1))]) (mem' := fun _ => []) (RunsTo.mk [] [6] [] (fun _ => []) (fun _ => by kernel_rfl) (fun _ => trivial)) ?_
            intro _
            have hy := Option.some.inj hm
            subst hy
            refine GS.ret (fn := Tryd.f14) [0] [.int .i64 (-1)] [] rfl Tryd.func14 (by kernel_rfl) trivial (fun w' hs => ?_)
            exact ⟨(), rfl, hs.turnedG (ks := []) rfl rfl⟩

theorem w_tholeref24_Back (F : Nat) (a0 : S_tholeref24_Layout) (a1 : Int) (a2 : Int) {y : Int} (hm : m_tholeref24_Back F a0 a1 a2 = some y) : CallG Tryd.prog 15 #[.agg #[.int .i64 a0.Unit, .int .i64 a0.Count, .int .i64 a0.Size], .int .i64 a1, .int .i64 a2] (X := Unit) (fun (_ : Unit) => .int .i64 y) [] [] (fun (_ : Unit) => []) := by
  intro w hg
  rw [m_tholeref24_Back] at hm
  refine GS.start (S := mayT [] []) (mem := []) Tryd.func15 rfl Tryd.ntmps15 (Nat.le_of_ble_eq_true rfl) (hg.start rfl) ?_
  refine GS.conv (env' := [(0, .agg #[.int .i64 a0.Unit, .int .i64 a0.Count, .int .i64 a0.Size]), (1, .int .i64 a1), (2, .int .i64 a2)]) rfl rfl ?_
  refine GS.seq ?_
  refine GS.region (env' := fun fr1 => [(1, .int .i64 a1), (2, .int .i64 a2), (3, .pointer (some ⟨(fr1 0).x, 0, none⟩))]) (mem' := fun fr1 => [(1, .cells ((fr1 0).x) 24 [.int .i64 a0.Unit, .int .i64 a0.Count, .int .i64 a0.Size])]) (RunsTo.mk [(0, { act := .new .var, key := some 1 })] [1, 2, 3] [1] (fun fr1 => []) (fun fr1 => by kernel_rfl) (fun fr1 => trivial)) ?_
  intro fr1
  refine GS.seq ?_
  refine GS.seq ?_
  refine bnd_elim hm (fun y3 e4 hm => ?_)
  refine GS.region (env' := fun _ => [(1, .int .i64 a1), (2, .int .i64 a2), (3, .pointer (some ⟨(fr1 0).x, 0, none⟩)), (12, .bool (!y3))]) (mem' := fun _ => [(1, .cells ((fr1 0).x) 24 [.int .i64 a0.Unit, .int .i64 a0.Count, .int .i64 a0.Size])]) (RunsTo.mk [(0, { act := .load 1 0 0 [] }), (1, { act := .call [] (.bool y3) })] [1, 2, 3, 12] [1] (fun _ => [(fr1 0).x = (fr1 0).x, CallOK Tryd.prog 13 #[.agg #[.int .i64 a0.Unit, .int .i64 a0.Count, .int .i64 a0.Size]] (.bool y3) []]) (fun _ => by kernel_rfl) (fun _ => ⟨rfl, (w_tholeref24_Good F a0 e4).ok trivial, trivial⟩)) ?_
  intro _
  refine GS.cond (t := !y3) rfl rfl (fun h5 => ?_) (fun h5 => ?_)
  · replace hm := br_t h5 hm
    refine GS.seq ?_
    refine GS.region (env' := fun _ => [(6, .int .i64 0)]) (mem' := fun _ => []) (RunsTo.mk [] [6] [] (fun _ => []) (fun _ => by kernel_rfl) (fun _ => trivial)) ?_
    intro _
    have hy := Option.some.inj hm
    subst hy
    refine GS.ret (fn := Tryd.f15) [0] [.int .i64 0] [] rfl Tryd.func15 (by kernel_rfl) trivial (fun w' hs => ?_)
    exact ⟨(), rfl, hs.turnedG (ks := []) rfl rfl⟩
  · replace hm := br_f h5 hm
    refine GS.skip ?_
    refine GS.seq ?_
    refine GS.seq ?_
    refine jn_elim hm (fun J11 hJ13 hm => ?_)
    refine GS.cut (ι := Bool) (I := fun (v28_0 : Bool) => J11 v28_0 = some y) (E := fun (v28_0 : Bool) => [(1, .int .i64 a1), (2, .int .i64 a2), (3, .pointer (some ⟨(fr1 0).x, 0, none⟩)), (28, .bool v28_0)]) (M := fun (v28_0 : Bool) => [(1, .cells ((fr1 0).x) 24 [.int .i64 a0.Unit, .int .i64 a0.Count, .int .i64 a0.Size])]) ?_ ?_
    rotate_left
    · intro H12
      refine br_elim hm (fun h8 hm => ?_) (fun h8 hm => ?_)
      · skip
        refine GS.region (env' := fun _ => [(1, .int .i64 a1), (2, .int .i64 a2), (3, .pointer (some ⟨(fr1 0).x, 0, none⟩)), (28, .bool true)]) (mem' := fun _ => [(1, .cells ((fr1 0).x) 24 [.int .i64 a0.Unit, .int .i64 a0.Count, .int .i64 a0.Size])]) (RunsTo.mk [(2, { sp := some (.bool true) })] [1, 2, 3, 28] [1] (fun _ => [((.bool (decide (a2 < 0))) : Value) = .bool true]) (fun _ => by kernel_rfl) (fun _ => ⟨bool_eq h8, trivial⟩)) ?_
        intro _
        refine GS.rekey (env' := [(1, .int .i64 a1), (2, .int .i64 a2), (3, .pointer (some ⟨(fr1 0).x, 0, none⟩)), (28, .bool true)]) (mem' := [(1, .cells ((fr1 0).x) 24 [.int .i64 a0.Unit, .int .i64 a0.Count, .int .i64 a0.Size])]) [1, 2, 3, 28] [(1, 1)] (by kernel_rfl) (by kernel_rfl) rfl ?_
        exact H12 true hm
      · skip
        refine br_elim hm (fun h9 hm => ?_) (fun h9 hm => ?_)
        · skip
          refine GS.region (env' := fun _ => [(1, .int .i64 a1), (2, .int .i64 a2), (3, .pointer (some ⟨(fr1 0).x, 0, none⟩)), (28, .bool true)]) (mem' := fun _ => [(1, .cells ((fr1 0).x) 24 [.int .i64 a0.Unit, .int .i64 a0.Count, .int .i64 a0.Size])]) (RunsTo.mk [(2, { sp := some (.bool false) }), (5, { act := .load 1 0 0 [] }), (8, { sp := some (.bool true) })] [1, 2, 3, 28] [1] (fun _ => [((.bool (decide (a2 < 0))) : Value) = .bool false, (fr1 0).x = (fr1 0).x, ((.bool (decide (a2 ≥ a0.Size))) : Value) = .bool true]) (fun _ => by kernel_rfl) (fun _ => ⟨bool_eq h8, rfl, bool_eq h9, trivial⟩)) ?_
          intro _
          refine GS.rekey (env' := [(1, .int .i64 a1), (2, .int .i64 a2), (3, .pointer (some ⟨(fr1 0).x, 0, none⟩)), (28, .bool true)]) (mem' := [(1, .cells ((fr1 0).x) 24 [.int .i64 a0.Unit, .int .i64 a0.Count, .int .i64 a0.Size])]) [1, 2, 3, 28] [(1, 1)] (by kernel_rfl) (by kernel_rfl) rfl ?_
          exact H12 true hm
        · skip
          refine br_elim hm (fun h10 hm => ?_) (fun h10 hm => ?_)
          · skip
            refine GS.region (env' := fun _ => [(1, .int .i64 a1), (2, .int .i64 a2), (3, .pointer (some ⟨(fr1 0).x, 0, none⟩)), (28, .bool true)]) (mem' := fun _ => [(1, .cells ((fr1 0).x) 24 [.int .i64 a0.Unit, .int .i64 a0.Count, .int .i64 a0.Size])]) (RunsTo.mk [(2, { sp := some (.bool false) }), (5, { act := .load 1 0 0 [] }), (8, { sp := some (.bool false) }), (12, { sp := some (.bool true) })] [1, 2, 3, 28] [1] (fun _ => [((.bool (decide (a2 < 0))) : Value) = .bool false, (fr1 0).x = (fr1 0).x, ((.bool (decide (a2 ≥ a0.Size))) : Value) = .bool false, ((.bool (decide (a1 < 0))) : Value) = .bool true]) (fun _ => by kernel_rfl) (fun _ => ⟨bool_eq h8, rfl, bool_eq h9, bool_eq h10, trivial⟩)) ?_
            intro _
            refine GS.rekey (env' := [(1, .int .i64 a1), (2, .int .i64 a2), (3, .pointer (some ⟨(fr1 0).x, 0, none⟩)), (28, .bool true)]) (mem' := [(1, .cells ((fr1 0).x) 24 [.int .i64 a0.Unit, .int .i64 a0.Count, .int .i64 a0.Size])]) [1, 2, 3, 28] [(1, 1)] (by kernel_rfl) (by kernel_rfl) rfl ?_
            exact H12 true hm
          · skip
            refine GS.region (env' := fun _ => [(1, .int .i64 a1), (2, .int .i64 a2), (3, .pointer (some ⟨(fr1 0).x, 0, none⟩)), (28, .bool (decide (a1 > 65536)))]) (mem' := fun _ => [(1, .cells ((fr1 0).x) 24 [.int .i64 a0.Unit, .int .i64 a0.Count, .int .i64 a0.Size])]) (RunsTo.mk [(2, { sp := some (.bool false) }), (5, { act := .load 1 0 0 [] }), (8, { sp := some (.bool false) }), (12, { sp := some (.bool false) })] [1, 2, 3, 28] [1] (fun _ => [((.bool (decide (a2 < 0))) : Value) = .bool false, (fr1 0).x = (fr1 0).x, ((.bool (decide (a2 ≥ a0.Size))) : Value) = .bool false, ((.bool (decide (a1 < 0))) : Value) = .bool false]) (fun _ => by kernel_rfl) (fun _ => ⟨bool_eq h8, rfl, bool_eq h9, bool_eq h10, trivial⟩)) ?_
            intro _
            refine GS.rekey (env' := [(1, .int .i64 a1), (2, .int .i64 a2), (3, .pointer (some ⟨(fr1 0).x, 0, none⟩)), (28, .bool (decide (a1 > 65536)))]) (mem' := [(1, .cells ((fr1 0).x) 24 [.int .i64 a0.Unit, .int .i64 a0.Count, .int .i64 a0.Size])]) [1, 2, 3, 28] [(1, 1)] (by kernel_rfl) (by kernel_rfl) rfl ?_
            exact H12 (decide (a1 > 65536)) hm
    · rintro v28_0 hm
      replace hm := (hJ13 _).symm.trans hm
      try dsimp only at hm
      refine GS.cond (t := v28_0) rfl rfl (fun h14 => ?_) (fun h14 => ?_)
      · replace hm := br_t h14 hm
        refine GS.seq ?_
        refine GS.region (env' := fun _ => [(6, .int .i64 (-1))]) (mem' := fun _ => []) (RunsTo.mk [] [6] [] (fun _ => []) (fun _ => by kernel_rfl) (fun _ => trivial)) ?_
        intro _
        have hy := Option.some.inj hm
        subst hy
        refine GS.ret (fn := Tryd.f15) [0] [.int .i64 (-1)] [] rfl Tryd.func15 (by kernel_rfl) trivial (fun w' hs => ?_)
        exact ⟨(), rfl, hs.turnedG (ks := []) rfl rfl⟩
      · replace hm := br_f h14 hm
        refine GS.skip ?_
        refine GS.seq ?_
        refine grd_elim hm (fun g17 hm => ?_)
        refine grd_elim hm (fun g18 hm => ?_)
        refine GS.region (env' := fun _ => [(1, .int .i64 a1), (2, .int .i64 a2), (3, .pointer (some ⟨(fr1 0).x, 0, none⟩)), (7, .int .i64 (Int.tdiv a1 a0.Count))]) (mem' := fun _ => [(1, .cells ((fr1 0).x) 24 [.int .i64 a0.Unit, .int .i64 a0.Count, .int .i64 a0.Size])]) (RunsTo.mk [(2, { act := .load 1 0 0 [] }), (3, { act := .div, sp := some (.int .i64 (Int.tdiv a1 a0.Count)) })] [1, 2, 3, 7] [1] (fun _ => [(fr1 0).x = (fr1 0).x, a0.Count ≠ 0, ((.int .i64 (IntKind.i64.wrap (Int.tdiv a1 a0.Count))) : Value) = .int .i64 (Int.tdiv a1 a0.Count)]) (fun _ => by kernel_rfl) (fun _ => ⟨rfl, g17, I64.w g18, trivial⟩)) ?_
        intro _
        refine GS.seq ?_
        refine grd_elim hm (fun g20 hm => ?_)
        refine grd_elim hm (fun g21 hm => ?_)
        refine grd_elim hm (fun g22 hm => ?_)
        refine grd_elim hm (fun g23 hm => ?_)
        refine grd_elim hm (fun g24 hm => ?_)
        refine grd_elim hm (fun g25 hm => ?_)
        refine grd_elim hm (fun g26 hm => ?_)
        refine grd_elim hm (fun g27 hm => ?_)
        refine GS.region (env' := fun _ => [(2, .int .i64 a2), (3, .pointer (some ⟨(fr1 0).x, 0, none⟩)), (8, .int .i64 (((((Int.tdiv a1 a0.Count) * a0.Count) * (Int.tdiv a0.Size a0.Unit)) + ((Int.tdiv a2 a0.Unit) * a0.Count)) + (Int.tmod a1 a0.Count)))]) (mem' := fun _ => [(1, .cells ((fr1 0).x) 24 [.int .i64 a0.Unit, .int .i64 a0.Count, .int .i64 a0.Size])]) (RunsTo.mkd [(2, { act := .load 1 0 0 [] }), (3, { sp := some (.int .i64 ((Int.tdiv a1 a0.Count) * a0.Count)) }), (5, { act := .load 1 0 0 [] }), (7, { act := .load 1 0 0 [] }), (8, { act := .div, sp := some (.int .i64 (Int.tdiv a0.Size a0.Unit)) }), (9, { sp := some (.int .i64 (((Int.tdiv a1 a0.Count) * a0.Count) * (Int.tdiv a0.Size a0.Unit))) }), (12, { act := .load 1 0 0 [] }), (13, { act := .div, sp := some (.int .i64 (Int.tdiv a2 a0.Unit)) }), (15, { act := .load 1 0 0 [] }), (16, { sp := some (.int .i64 ((Int.tdiv a2 a0.Unit) * a0.Count)) }), (17, { sp := some (.int .i64 ((((Int.tdiv a1 a0.Count) * a0.Count) * (Int.tdiv a0.Size a0.Unit)) + ((Int.tdiv a2 a0.Unit) * a0.Count))) }), (20, { act := .load 1 0 0 [] }), (21, { act := .div }), (22, { sp := some (.int .i64 (((((Int.tdiv a1 a0.Count) * a0.Count) * (Int.tdiv a0.Size a0.Unit)) + ((Int.tdiv a2 a0.Unit) * a0.Count)) + (Int.tmod a1 a0.Count))) })] [2, 3, 8] [1] (fun _ => [(fr1 0).x = (fr1 0).x, ((.int .i64 (IntKind.i64.wrap ((Int.tdiv a1 a0.Count) * a0.Count))) : Value) = .int .i64 ((Int.tdiv a1 a0.Count) * a0.Count), (fr1 0).x = (fr1 0).x, (fr1 0).x = (fr1 0).x, a0.Unit ≠ 0, ((.int .i64 (IntKind.i64.wrap (Int.tdiv a0.Size a0.Unit))) : Value) = .int .i64 (Int.tdiv a0.Size a0.Unit), ((.int .i64 (IntKind.i64.wrap (((Int.tdiv a1 a0.Count) * a0.Count) * (Int.tdiv a0.Size a0.Unit)))) : Value) = .int .i64 (((Int.tdiv a1 a0.Count) * a0.Count) * (Int.tdiv a0.Size a0.Unit)), (fr1 0).x = (fr1 0).x, a0.Unit ≠ 0, ((.int .i64 (IntKind.i64.wrap (Int.tdiv a2 a0.Unit))) : Value) = .int .i64 (Int.tdiv a2 a0.Unit), (fr1 0).x = (fr1 0).x, ((.int .i64 (IntKind.i64.wrap ((Int.tdiv a2 a0.Unit) * a0.Count))) : Value) = .int .i64 ((Int.tdiv a2 a0.Unit) * a0.Count), ((.int .i64 (IntKind.i64.wrap ((((Int.tdiv a1 a0.Count) * a0.Count) * (Int.tdiv a0.Size a0.Unit)) + ((Int.tdiv a2 a0.Unit) * a0.Count)))) : Value) = .int .i64 ((((Int.tdiv a1 a0.Count) * a0.Count) * (Int.tdiv a0.Size a0.Unit)) + ((Int.tdiv a2 a0.Unit) * a0.Count)), (fr1 0).x = (fr1 0).x, a0.Count ≠ 0, ((.int .i64 (IntKind.i64.wrap (((((Int.tdiv a1 a0.Count) * a0.Count) * (Int.tdiv a0.Size a0.Unit)) + ((Int.tdiv a2 a0.Unit) * a0.Count)) + (Int.tmod a1 a0.Count)))) : Value) = .int .i64 (((((Int.tdiv a1 a0.Count) * a0.Count) * (Int.tdiv a0.Size a0.Unit)) + ((Int.tdiv a2 a0.Unit) * a0.Count)) + (Int.tmod a1 a0.Count))]) (by kernel_rfl) (by kernel_rfl) (fun _ => by kernel_rfl) (fun _ => ⟨rfl, I64.w g20, rfl, rfl, g21, I64.w g22, I64.w g23, rfl, g21, I64.w g24, rfl, I64.w g25, I64.w g26, rfl, g17, I64.w g27, trivial⟩)) ?_
        intro _
        refine GS.seq ?_
        refine grd_elim hm (fun g29 hm => ?_)
        refine grd_elim hm (fun g30 hm => ?_)
        refine GS.region (env' := fun _ => [(9, .int .i64 (((((((Int.tdiv a1 a0.Count) * a0.Count) * (Int.tdiv a0.Size a0.Unit)) + ((Int.tdiv a2 a0.Unit) * a0.Count)) + (Int.tmod a1 a0.Count)) * a0.Unit) + (Int.tmod a2 a0.Unit)))]) (mem' := fun _ => []) (RunsTo.mkd [(2, { act := .load 1 0 0 [] }), (3, { sp := some (.int .i64 ((((((Int.tdiv a1 a0.Count) * a0.Count) * (Int.tdiv a0.Size a0.Unit)) + ((Int.tdiv a2 a0.Unit) * a0.Count)) + (Int.tmod a1 a0.Count)) * a0.Unit)) }), (6, { act := .load 1 0 0 [] }), (7, { act := .div }), (8, { sp := some (.int .i64 (((((((Int.tdiv a1 a0.Count) * a0.Count) * (Int.tdiv a0.Size a0.Unit)) + ((Int.tdiv a2 a0.Unit) * a0.Count)) + (Int.tmod a1 a0.Count)) * a0.Unit) + (Int.tmod a2 a0.Unit))) })] [9] [] (fun _ => [(fr1 0).x = (fr1 0).x, ((.int .i64 (IntKind.i64.wrap ((((((Int.tdiv a1 a0.Count) * a0.Count) * (Int.tdiv a0.Size a0.Unit)) + ((Int.tdiv a2 a0.Unit) * a0.Count)) + (Int.tmod a1 a0.Count)) * a0.Unit))) : Value) = .int .i64 ((((((Int.tdiv a1 a0.Count) * a0.Count) * (Int.tdiv a0.Size a0.Unit)) + ((Int.tdiv a2 a0.Unit) * a0.Count)) + (Int.tmod a1 a0.Count)) * a0.Unit), (fr1 0).x = (fr1 0).x, a0.Unit ≠ 0, ((.int .i64 (IntKind.i64.wrap (((((((Int.tdiv a1 a0.Count) * a0.Count) * (Int.tdiv a0.Size a0.Unit)) + ((Int.tdiv a2 a0.Unit) * a0.Count)) + (Int.tmod a1 a0.Count)) * a0.Unit) + (Int.tmod a2 a0.Unit)))) : Value) = .int .i64 (((((((Int.tdiv a1 a0.Count) * a0.Count) * (Int.tdiv a0.Size a0.Unit)) + ((Int.tdiv a2 a0.Unit) * a0.Count)) + (Int.tmod a1 a0.Count)) * a0.Unit) + (Int.tmod a2 a0.Unit))]) (by kernel_rfl) (by kernel_rfl) (fun _ => by kernel_rfl) (fun _ => ⟨rfl, I64.w g29, rfl, g21, I64.w g30, trivial⟩)) ?_
        intro _
        refine GS.seq ?_
        refine GS.seq ?_
        refine GS.region (env' := fun _ => [(9, .int .i64 (((((((Int.tdiv a1 a0.Count) * a0.Count) * (Int.tdiv a0.Size a0.Unit)) + ((Int.tdiv a2 a0.Unit) * a0.Count)) + (Int.tmod a1 a0.Count)) * a0.Unit) + (Int.tmod a2 a0.Unit))), (66, .bool (decide ((((((((Int.tdiv a1 a0.Count) * a0.Count) * (Int.tdiv a0.Size a0.Unit)) + ((Int.tdiv a2 a0.Unit) * a0.Count)) + (Int.tmod a1 a0.Count)) * a0.Unit) + (Int.tmod a2 a0.Unit)) ≥ 65536)))]) (mem' := fun _ => []) (RunsTo.mk [] [9, 66] [] (fun _ => []) (fun _ => by kernel_rfl) (fun _ => trivial)) ?_
        intro _
        refine GS.cond (t := decide ((((((((Int.tdiv a1 a0.Count) * a0.Count) * (Int.tdiv a0.Size a0.Unit)) + ((Int.tdiv a2 a0.Unit) * a0.Count)) + (Int.tmod a1 a0.Count)) * a0.Unit) + (Int.tmod a2 a0.Unit)) ≥ 65536)) rfl rfl (fun h32 => ?_) (fun h32 => ?_)
        · replace hm := br_t h32 hm
          refine GS.seq ?_
          refine GS.region (env' := fun _ => [(6, .int .i64 (-1))]) (mem' := fun _ => []) (RunsTo.mk [] [6] [] (fun _ => []) (fun _ => by kernel_rfl) (fun _ => trivial)) ?_
          intro _
          have hy := Option.some.inj hm
          subst hy
          refine GS.ret (fn := Tryd.f15) [0] [.int .i64 (-1)] [] rfl Tryd.func15 (by kernel_rfl) trivial (fun w' hs => ?_)
          exact ⟨(), rfl, hs.turnedG (ks := []) rfl rfl⟩
        · replace hm := br_f h32 hm
          refine GS.skip ?_
          refine GS.seq ?_
          refine GS.region (env' := fun _ => [(6, .int .i64 (((((((Int.tdiv a1 a0.Count) * a0.Count) * (Int.tdiv a0.Size a0.Unit)) + ((Int.tdiv a2 a0.Unit) * a0.Count)) + (Int.tmod a1 a0.Count)) * a0.Unit) + (Int.tmod a2 a0.Unit)))]) (mem' := fun _ => []) (RunsTo.mk [] [6] [] (fun _ => []) (fun _ => by kernel_rfl) (fun _ => trivial)) ?_
          intro _
          have hy := Option.some.inj hm
          subst hy
          refine GS.ret (fn := Tryd.f15) [0] [.int .i64 (((((((Int.tdiv a1 a0.Count) * a0.Count) * (Int.tdiv a0.Size a0.Unit)) + ((Int.tdiv a2 a0.Unit) * a0.Count)) + (Int.tmod a1 a0.Count)) * a0.Unit) + (Int.tmod a2 a0.Unit))] [] rfl Tryd.func15 (by kernel_rfl) trivial (fun w' hs => ?_)
          exact ⟨(), rfl, hs.turnedG (ks := []) rfl rfl⟩

theorem w_internal_bytealg_LastIndexByteString (F : Nat) (a0 : ByteArray) (a1 : Int) {y : Int} (hm : m_internal_bytealg_LastIndexByteString F a0 a1 = some y) : CallG Tryd.prog 41 #[.string a0, .int .u8 a1] (X := Unit) (fun (_ : Unit) => .int .i64 y) [] [] (fun (_ : Unit) => []) := by
  intro w hg
  rw [m_internal_bytealg_LastIndexByteString] at hm
  refine GS.start (S := mayT [] []) (mem := []) Tryd.func41 rfl Tryd.ntmps41 (Nat.le_of_ble_eq_true rfl) (hg.start rfl) ?_
  refine GS.conv (env' := [(0, .string a0), (1, .int .u8 a1)]) rfl rfl ?_
  refine GS.seq ?_
  refine GS.region (env' := fun _ => [(0, .string a0), (1, .int .u8 a1)]) (mem' := fun _ => []) (RunsTo.mk [] [0, 1] [] (fun _ => []) (fun _ => by kernel_rfl) (fun _ => trivial)) ?_
  intro _
  refine GS.seq ?_
  refine GS.seq ?_
  refine grd_elim hm (fun g3 hm => ?_)
  refine GS.region (env' := fun _ => [(0, .string a0), (1, .int .u8 a1), (5, .int .i64 (((a0.size : Nat) : Int) - 1))]) (mem' := fun _ => []) (RunsTo.mk [(2, { sp := some (.int .i64 (((a0.size : Nat) : Int) - 1)) })] [0, 1, 5] [] (fun _ => [((.int .i64 (IntKind.i64.wrap (((a0.size : Nat) : Int) - 1))) : Value) = .int .i64 (((a0.size : Nat) : Int) - 1)]) (fun _ => by kernel_rfl) (fun _ => ⟨I64.w g3, trivial⟩)) ?_
  intro _
  refine GS.block ?_
  refine GS.loop ?_
  refine GS.rekey (env' := [(0, .string a0), (1, .int .u8 a1), (5, .int .i64 (((a0.size : Nat) : Int) - 1))]) (mem' := []) [0, 1, 5] [] (by kernel_rfl) (by kernel_rfl) rfl ?_
  refine loopW_elim hm (fun st32 hst34 hm => ?_)
  refine GS.loopInv (ι := Nat × Int) (I := fun ⟨rs30, v5_1⟩ => loopW st32 rs30 v5_1 = some y) (μ := fun ⟨rs30, v5_1⟩ => rs30) (E := fun ⟨rs30, v5_1⟩ => [(0, .string a0), (1, .int .u8 a1), (5, .int .i64 v5_1)]) (M := fun ⟨rs30, v5_1⟩ => []) ?_ ⟨F, (((a0.size : Nat) : Int) - 1)⟩ hm
  rintro ⟨rs30, v5_1⟩ hm ih31
  cases rs30 with
  | zero => cases hm
  | succ rs30 =>
    replace hm := (hst34 _ _).symm.trans hm
    try dsimp only at hm
    refine GS.seq ?_
    refine GS.seq ?_
    refine GS.region (env' := fun _ => [(0, .string a0), (1, .int .u8 a1), (5, .int .i64 v5_1), (10, .bool (decide (v5_1 ≥ 0)))]) (mem' := fun _ => []) (RunsTo.mk [] [0, 1, 5, 10] [] (fun _ => []) (fun _ => by kernel_rfl) (fun _ => trivial)) ?_
    intro _
    refine GS.cond (t := decide (v5_1 ≥ 0)) rfl rfl (fun h22 => ?_) (fun h22 => ?_)
    · replace hm := br_t h22 hm
      refine GS.skip ?_
      refine GS.seq ?_
      refine GS.block ?_
      refine GS.seq ?_
      refine grd_elim hm (fun g24 hm => ?_)
      refine GS.region (env' := fun _ => [(0, .string a0), (1, .int .u8 a1), (5, .int .i64 v5_1), (17, .bool ((((a0.data.getD (Int.toNat v5_1) 0).toNat : Nat) : Int) == a1))]) (mem' := fun _ => []) (RunsTo.mk [(2, { act := .elt (Int.toNat v5_1) })] [0, 1, 5, 17] [] (fun _ => [(v5_1 : Int) = (((Int.toNat v5_1) : Nat) : Int), (Int.toNat v5_1) < a0.size]) (fun _ => by kernel_rfl) (fun _ => ⟨g24.eq, g24.2, trivial⟩)) ?_
      intro _
      refine GS.cond (t := (((a0.data.getD (Int.toNat v5_1) 0).toNat : Nat) : Int) == a1) rfl rfl (fun h25 => ?_) (fun h25 => ?_)
      · replace hm := br_t h25 hm
        refine GS.seq ?_
        refine GS.region (env' := fun _ => [(4, .int .i64 v5_1)]) (mem' := fun _ => []) (RunsTo.mk [] [4] [] (fun _ => []) (fun _ => by kernel_rfl) (fun _ => trivial)) ?_
        intro _
        have hy := Option.some.inj hm
        subst hy
        refine GS.ret (fn := Tryd.f41) [0] [.int .i64 v5_1] [] rfl Tryd.func41 (by kernel_rfl) trivial (fun w' hs => ?_)
        exact ⟨(), rfl, hs.turnedG (ks := []) rfl rfl⟩
      · replace hm := br_f h25 hm
        refine GS.skip ?_
        refine GS.inBlock ?_
        refine grd_elim hm (fun g28 hm => ?_)
        refine GS.region (env' := fun _ => [(0, .string a0), (1, .int .u8 a1), (5, .int .i64 (v5_1 - 1))]) (mem' := fun _ => []) (RunsTo.mk [(1, { sp := some (.int .i64 (v5_1 - 1)) })] [0, 1, 5] [] (fun _ => [((.int .i64 (IntKind.i64.wrap (v5_1 - 1))) : Value) = .int .i64 (v5_1 - 1)]) (fun _ => by kernel_rfl) (fun _ => ⟨I64.w g28, trivial⟩)) ?_
        intro _
        refine GS.inLoop ?_
        refine GS.rekey (env' := [(0, .string a0), (1, .int .u8 a1), (5, .int .i64 (v5_1 - 1))]) (mem' := []) [0, 1, 5] [] (by kernel_rfl) (by kernel_rfl) rfl ?_
        exact ih31 ⟨rs30, (v5_1 - 1)⟩ hm (Nat.lt_succ_self _)
    · replace hm := br_f h22 hm
      refine GS.exit rfl ?_
      refine GS.seq ?_
      refine GS.region (env' := fun _ => [(4, .int .i64 (-1))]) (mem' := fun _ => []) (RunsTo.mk [] [4] [] (fun _ => []) (fun _ => by kernel_rfl) (fun _ => trivial)) ?_
      intro _
      have hy := Option.some.inj hm
      subst hy
      refine GS.ret (fn := Tryd.f41) [0] [.int .i64 (-1)] [] rfl Tryd.func41 (by kernel_rfl) trivial (fun w' hs => ?_)
      exact ⟨(), rfl, hs.turnedG (ks := []) rfl rfl⟩

theorem w_strings_LastIndexByte (F : Nat) (a0 : ByteArray) (a1 : Int) {y : Int} (hm : m_strings_LastIndexByte F a0 a1 = some y) : CallG Tryd.prog 37 #[.string a0, .int .u8 a1] (X := Unit) (fun (_ : Unit) => .int .i64 y) [] [] (fun (_ : Unit) => []) := by
  intro w hg
  rw [m_strings_LastIndexByte] at hm
  refine GS.start (S := mayT [] []) (mem := []) Tryd.func37 rfl Tryd.ntmps37 (Nat.le_of_ble_eq_true rfl) (hg.start rfl) ?_
  refine GS.conv (env' := [(0, .string a0), (1, .int .u8 a1)]) rfl rfl ?_
  refine GS.seq ?_
  refine GS.region (env' := fun _ => [(0, .string a0), (1, .int .u8 a1)]) (mem' := fun _ => []) (RunsTo.mk [] [0, 1] [] (fun _ => []) (fun _ => by kernel_rfl) (fun _ => trivial)) ?_
  intro _
  refine GS.seq ?_
  refine bnd_elim hm (fun y3 e4 hm => ?_)
  refine GS.region (env' := fun _ => [(4, .int .i64 y3)]) (mem' := fun _ => []) (RunsTo.mk [(2, { act := .call [] (.int .i64 y3) })] [4] [] (fun _ => [CallOK Tryd.prog 41 #[.string a0, .int .u8 a1] (.int .i64 y3) []]) (fun _ => by kernel_rfl) (fun _ => ⟨(w_internal_bytealg_LastIndexByteString F a0 a1 e4).ok trivial, trivial⟩)) ?_
  intro _
  have hy := Option.some.inj hm
  subst hy
  refine GS.ret (fn := Tryd.f37) [0] [.int .i64 y3] [] rfl Tryd.func37 (by kernel_rfl) trivial (fun w' hs => ?_)
  exact ⟨(), rfl, hs.turnedG (ks := []) rfl rfl⟩

theorem w_internal_strconv_Atoi (F : Nat) (a0 : ByteArray) {y : Int} (hm : m_internal_strconv_Atoi F a0 = some y) : CallG Tryd.prog 42 #[.string a0] (X := Unit) (fun (_ : Unit) => .tuple #[.int .i64 y, .nilIface]) [] [] (fun (_ : Unit) => []) := by
  intro w hg
  rw [m_internal_strconv_Atoi] at hm
  refine GS.start (S := mayT [] []) (mem := []) Tryd.func42 rfl Tryd.ntmps42 (Nat.le_of_ble_eq_true rfl) (hg.start rfl) ?_
  refine GS.conv (env' := [(0, .string a0)]) rfl rfl ?_
  refine GS.seq ?_
  refine GS.region (env' := fun _ => [(0, .string a0)]) (mem' := fun _ => []) (RunsTo.mk [] [0] [] (fun _ => []) (fun _ => by kernel_rfl) (fun _ => trivial)) ?_
  intro _
  refine GS.seq ?_
  refine GS.region (env' := fun _ => [(0, .string a0), (4, .int .i64 ((a0.size : Nat) : Int))]) (mem' := fun _ => []) (RunsTo.mk [] [0, 4] [] (fun _ => []) (fun _ => by kernel_rfl) (fun _ => trivial)) ?_
  intro _
  refine GS.seq ?_
  refine GS.seq ?_
  refine jn_elim hm (fun J5 hJ7 hm => ?_)
  refine GS.cut (ι := Bool) (I := fun (v30_0 : Bool) => J5 v30_0 = some y) (E := fun (v30_0 : Bool) => [(0, .string a0), (30, .bool v30_0)]) (M := fun (v30_0 : Bool) => []) ?_ ?_
  rotate_left
  · intro H6
    refine br_elim hm (fun h4 hm => ?_) (fun h4 hm => ?_)
    · skip
      refine GS.region (env' := fun _ => [(0, .string a0), (30, .bool (decide (((a0.size : Nat) : Int) < 19)))]) (mem' := fun _ => []) (RunsTo.mk [(12, { sp := some (.bool true) })] [0, 30] [] (fun _ => [((.bool (decide (0 < ((a0.size : Nat) : Int)))) : Value) = .bool true]) (fun _ => by kernel_rfl) (fun _ => ⟨bool_eq h4, trivial⟩)) ?_
      intro _
      refine GS.rekey (env' := [(0, .string a0), (30, .bool (decide (((a0.size : Nat) : Int) < 19)))]) (mem' := []) [0, 30] [] (by kernel_rfl) (by kernel_rfl) rfl ?_
      exact H6 (decide (((a0.size : Nat) : Int) < 19)) hm
    · skip
      refine GS.region (env' := fun _ => [(0, .string a0), (30, .bool false)]) (mem' := fun _ => []) (RunsTo.mk [(12, { sp := some (.bool false) })] [0, 30] [] (fun _ => [((.bool (decide (0 < ((a0.size : Nat) : Int)))) : Value) = .bool false]) (fun _ => by kernel_rfl) (fun _ => ⟨bool_eq h4, trivial⟩)) ?_
      intro _
      refine GS.rekey (env' := [(0, .string a0), (30, .bool false)]) (mem' := []) [0, 30] [] (by kernel_rfl) (by kernel_rfl) rfl ?_
      exact H6 false hm
  · rintro v30_0 hm
    replace hm := (hJ7 _).symm.trans hm
    try dsimp only at hm
    refine GS.cond (t := v30_0) rfl rfl (fun h8 => ?_) (fun h8 => ?_)
    · replace hm := br_t h8 hm
      refine GS.seq ?_
      refine GS.region (env' := fun _ => [(0, .string a0), (5, .string a0)]) (mem' := fun _ => []) (RunsTo.mk [] [0, 5] [] (fun _ => []) (fun _ => by kernel_rfl) (fun _ => trivial)) ?_
      intro _
      refine GS.seq ?_
      refine GS.seq ?_
      refine jn_elim hm (fun J13 hJ15 hm => ?_)
      refine GS.cut (ι := Bool) (I := fun (v39_1 : Bool) => J13 v39_1 = some y) (E := fun (v39_1 : Bool) => [(0, .string a0), (5, .string a0), (39, .bool v39_1)]) (M := fun (v39_1 : Bool) => []) ?_ ?_
      rotate_left
      · intro H14
        refine grd_elim hm (fun g11 hm => ?_)
        refine br_elim hm (fun h12 hm => ?_) (fun h12 hm => ?_)
        · skip
          refine GS.region (env' := fun _ => [(0, .string a0), (5, .string a0), (39, .bool true)]) (mem' := fun _ => []) (RunsTo.mk [(1, { act := .elt 0 }), (3, { sp := some (.bool true) })] [0, 5, 39] [] (fun _ => [(0 : Int) = ((0 : Nat) : Int), 0 < a0.size, ((.bool ((((a0.data.getD 0 0).toNat : Nat) : Int) == 45)) : Value) = .bool true]) (fun _ => by kernel_rfl) (fun _ => ⟨rfl, g11, bool_eq h12, trivial⟩)) ?_
          intro _
          refine GS.rekey (env' := [(0, .string a0), (5, .string a0), (39, .bool true)]) (mem' := []) [0, 5, 39] [] (by kernel_rfl) (by kernel_rfl) rfl ?_
          exact H14 true hm
        · skip
          refine GS.region (env' := fun _ => [(0, .string a0), (5, .string a0), (39, .bool ((((a0.data.getD 0 0).toNat : Nat) : Int) == 43))]) (mem' := fun _ => []) (RunsTo.mk [(1, { act := .elt 0 }), (3, { sp := some (.bool false) }), (5, { act := .elt 0 })] [0, 5, 39] [] (fun _ => [(0 : Int) = ((0 : Nat) : Int), 0 < a0.size, ((.bool ((((a0.data.getD 0 0).toNat : Nat) : Int) == 45)) : Value) = .bool false, (0 : Int) = ((0 : Nat) : Int), 0 < a0.size]) (fun _ => by kernel_rfl) (fun _ => ⟨rfl, g11, bool_eq h12, rfl, g11, trivial⟩)) ?_
          intro _
          refine GS.rekey (env' := [(0, .string a0), (5, .string a0), (39, .bool ((((a0.data.getD 0 0).toNat : Nat) : Int) == 43))]) (mem' := []) [0, 5, 39] [] (by kernel_rfl) (by kernel_rfl) rfl ?_
          exact H14 ((((a0.data.getD 0 0).toNat : Nat) : Int) == 43) hm
      · rintro v39_1 hm
        replace hm := (hJ15 _).symm.trans hm
        try dsimp only at hm
        refine jn_elim hm (fun J22 hJ24 hm => ?_)
        refine GS.cut (ι := ByteArray) (I := fun (v0_1 : ByteArray) => J22 v0_1 = some y) (E := fun (v0_1 : ByteArray) => [(0, .string v0_1), (5, .string a0)]) (M := fun (v0_1 : ByteArray) => []) ?_ ?_
        rotate_left
        · intro H23
          refine GS.cond (t := v39_1) rfl rfl (fun h16 => ?_) (fun h16 => ?_)
          · replace hm := br_t h16 hm
            refine GS.seq ?_
            refine grd_elim hm (fun g18 hm => ?_)
            refine GS.region (env' := fun _ => [(0, .string (a0.extract 1 a0.size)), (5, .string a0)]) (mem' := fun _ => []) (RunsTo.mk [(1, { act := .cut 1 a0.size 0 })] [0, 5] [] (fun _ => [1 = ((1 : Nat) : Int), a0.size = a0.size, 1 ≤ a0.size, a0.size ≤ a0.size]) (fun _ => by kernel_rfl) (fun _ => ⟨rfl, rfl, g18, (Nat.le_refl _), trivial⟩)) ?_
            intro _
            refine GS.seq ?_
            refine GS.region (env' := fun _ => [(0, .string (a0.extract 1 a0.size)), (5, .string a0), (44, .bool (decide ((((a0.extract 1 a0.size).size : Nat) : Int) < 1)))]) (mem' := fun _ => []) (RunsTo.mk [] [0, 5, 44] [] (fun _ => []) (fun _ => by kernel_rfl) (fun _ => trivial)) ?_
            intro _
            refine GS.cond (t := decide ((((a0.extract 1 a0.size).size : Nat) : Int) < 1)) rfl rfl (fun h20 => ?_) (fun h20 => ?_)
            · replace hm := br_t h20 hm
              cases hm
            · replace hm := br_f h20 hm
              refine GS.skip ?_
              refine GS.rekey (env' := [(0, .string (a0.extract 1 a0.size)), (5, .string a0)]) (mem' := []) [0, 5] [] (by kernel_rfl) (by kernel_rfl) rfl ?_
              exact H23 (a0.extract 1 a0.size) hm
          · replace hm := br_f h16 hm
            refine GS.skip ?_
            refine GS.rekey (env' := [(0, .string a0), (5, .string a0)]) (mem' := []) [0, 5] [] (by kernel_rfl) (by kernel_rfl) rfl ?_
            exact H23 a0 hm
        · rintro v0_1 hm
          replace hm := (hJ24 _).symm.trans hm
          try dsimp only at hm
          refine GS.seq ?_
          refine GS.region (env' := fun _ => [(0, .string v0_1), (5, .string a0), (6, .int .i64 0)]) (mem' := fun _ => []) (RunsTo.mk [] [0, 5, 6] [] (fun _ => []) (fun _ => by kernel_rfl) (fun _ => trivial)) ?_
          intro _
          refine GS.seq ?_
          refine GS.seq ?_
          refine GS.region (env' := fun fr26 => [(5, .string a0), (6, .int .i64 0), (47, .slice (some (Addr.mk (fr26 1).x 0 none)) v0_1.data.toList.length ((fr26 1).cap)), (48, .int .i64 ((v0_1.data.toList.length : Nat) : Int)), (49, .int .i64 0)]) (mem' := fun fr26 => [(1, .osl (some (Addr.mk (fr26 1).x 0 none)) ((fr26 1).cap) 5 1 (encB v0_1.data.toList))]) (RunsTo.mk [(1, { act := .bytes, key := some 1, spf := some (fun f => .slice (some (Addr.mk f.x 0 none)) v0_1.data.toList.length (f.cap)) })] [5, 6, 47, 48, 49] [1] (fun fr26 => [((.slice (some (Addr.mk (fr26 1).x 0 none)) v0_1.size ((fr26 1).cap)) : Value) = .slice (some (Addr.mk (fr26 1).x 0 none)) v0_1.data.toList.length ((fr26 1).cap)]) (fun fr26 => by kernel_rfl) (fun fr26 => ⟨rfl, trivial⟩)) ?_
          intro fr26
          refine GS.conv (mem' := [(1, o5 (some (Addr.mk (fr26 1).x 0 none)) ((fr26 1).cap) v0_1.data.toList)]) rfl (congrArg (fun rr : List (List Value) => ([(1, .osl (some (Addr.mk (fr26 1).x 0 none)) ((fr26 1).cap) 5 1 rr)] : List (Nat × Ent))) (show encB v0_1.data.toList = List.map rB v0_1.data.toList from rfl)) ?_
          refine GS.block ?_
          refine GS.loop ?_
          refine GS.know (p := v0_1.data.toList.length ≤ (fr26 1).cap) (fun w hw => by first | (have h := (hw.ok 1 _ rfl).1.1; rw [List.length_map] at h; exact h) | simpa using (hw.ok 1 _ rfl).1.1) (fun k27 => ?_)
          refine grd_elim hm (fun g53 hm => ?_)
          refine GS.rekey (env' := [(5, .string a0), (6, .int .i64 0), (47, .slice (some (Addr.mk (fr26 1).x 0 none)) v0_1.data.toList.length ((fr26 1).cap)), (48, .int .i64 ((v0_1.data.toList.length : Nat) : Int)), (49, .int .i64 0)]) (mem' := [(1, o5 (some (Addr.mk (fr26 1).x 0 none)) ((fr26 1).cap) v0_1.data.toList)]) [5, 6, 47, 48, 49] [(1, 1)] (by kernel_rfl) (by kernel_rfl) rfl ?_
          refine loopL_elim hm (fun st71 fn72 hst73 hfn74 hm => ?_)
          refine GS.loopInv (ι := List UInt8 × Int × Nat) (I := fun ⟨rs69, v6_2, v49_2⟩ => v0_1.data.toList.drop v49_2 = rs69 ∧ loopL st71 fn72 rs69 v49_2 v6_2 = some y) (μ := fun ⟨rs69, v6_2, v49_2⟩ => rs69.length) (E := fun ⟨rs69, v6_2, v49_2⟩ => [(5, .string a0), (6, .int .i64 v6_2), (47, .slice (some (Addr.mk (fr26 1).x 0 none)) v0_1.data.toList.length ((fr26 1).cap)), (48, .int .i64 ((v0_1.data.toList.length : Nat) : Int)), (49, .int .i64 ((v49_2 : Nat) : Int))]) (M := fun ⟨rs69, v6_2, v49_2⟩ => [(1, o5 (some (Addr.mk (fr26 1).x 0 none)) ((fr26 1).cap) v0_1.data.toList)]) ?_ ⟨v0_1.data.toList, 0, 0⟩ ⟨List.drop_zero .., hm⟩
          rintro ⟨rs69, v6_2, v49_2⟩ ⟨hd52, hm⟩ ih70
          cases rs69 with
          | nil =>
            replace hm := (hfn74 _ _).symm.trans hm
            try dsimp only at hm
            refine GS.seq ?_
            refine GS.region (env' := fun _ => [(5, .string a0), (6, .int .i64 v6_2), (47, .slice (some (Addr.mk (fr26 1).x 0 none)) v0_1.data.toList.length ((fr26 1).cap)), (48, .int .i64 ((v0_1.data.toList.length : Nat) : Int)), (49, .int .i64 ((v49_2 : Nat) : Int)), (50, .bool (decide (((v49_2 : Nat) : Int) < ((v0_1.data.toList.length : Nat) : Int))))]) (mem' := fun _ => [(1, o5 (some (Addr.mk (fr26 1).x 0 none)) ((fr26 1).cap) v0_1.data.toList)]) (RunsTo.mk [] [5, 6, 47, 48, 49, 50] [1] (fun _ => []) (fun _ => by kernel_rfl) (fun _ => trivial)) ?_
            intro _
            refine GS.seq ?_
            refine GS.cond (t := decide (((v49_2 : Nat) : Int) < ((v0_1.data.toList.length : Nat) : Int))) rfl rfl (fun h67 => absb h67 (drop_dec0 hd52)) (fun _ => ?_)
            refine GS.exit rfl ?_
            refine GS.seq ?_
            refine GS.seq ?_
            refine grd_elim hm (fun g76 hm => ?_)
            refine GS.region (env' := fun _ => [(6, .int .i64 v6_2), (66, .bool ((((a0.data.getD 0 0).toNat : Nat) : Int) == 45))]) (mem' := fun _ => []) (RunsTo.mk [(1, { act := .elt 0 })] [6, 66] [] (fun _ => [(0 : Int) = ((0 : Nat) : Int), 0 < a0.size]) (fun _ => by kernel_rfl) (fun _ => ⟨rfl, g76, trivial⟩)) ?_
            intro _
            refine GS.cond (t := (((a0.data.getD 0 0).toNat : Nat) : Int) == 45) rfl rfl (fun h77 => ?_) (fun h77 => ?_)
            · replace hm := br_t h77 hm
              refine grd_elim hm (fun g79 hm => ?_)
              refine GS.region (env' := fun _ => [(6, .int .i64 (0 - v6_2))]) (mem' := fun _ => []) (RunsTo.mk [(1, { sp := some (.int .i64 (0 - v6_2)) })] [6] [] (fun _ => [((.int .i64 (IntKind.i64.wrap (0 - v6_2))) : Value) = .int .i64 (0 - v6_2)]) (fun _ => by kernel_rfl) (fun _ => ⟨I64.w g79, trivial⟩)) ?_
              intro _
              refine GS.seq ?_
              refine GS.region (env' := fun _ => [(2, .int .i64 (0 - v6_2)), (3, .nilIface)]) (mem' := fun _ => []) (RunsTo.mk [] [2, 3] [] (fun _ => []) (fun _ => by kernel_rfl) (fun _ => trivial)) ?_
              intro _
              have hy := Option.some.inj hm
              subst hy
              refine GS.ret (fn := Tryd.f42) [0, 0] [.int .i64 (0 - v6_2), .nilIface] [] rfl Tryd.func42 (by kernel_rfl) trivial (fun w' hs => ?_)
              exact ⟨(), rfl, hs.turnedG (ks := []) rfl rfl⟩
            · replace hm := br_f h77 hm
              refine GS.skip ?_
              refine GS.seq ?_
              refine GS.region (env' := fun _ => [(2, .int .i64 v6_2), (3, .nilIface)]) (mem' := fun _ => []) (RunsTo.mk [] [2, 3] [] (fun _ => []) (fun _ => by kernel_rfl) (fun _ => trivial)) ?_
              intro _
              have hy := Option.some.inj hm
              subst hy
              refine GS.ret (fn := Tryd.f42) [0, 0] [.int .i64 v6_2, .nilIface] [] rfl Tryd.func42 (by kernel_rfl) trivial (fun w' hs => ?_)
              exact ⟨(), rfl, hs.turnedG (ks := []) rfl rfl⟩
          | cons x54 rs69 =>
            replace hm := (hst73 _ _ _ _).symm.trans hm
            try dsimp only at hm
            refine GS.seq ?_
            refine GS.region (env' := fun _ => [(5, .string a0), (6, .int .i64 v6_2), (47, .slice (some (Addr.mk (fr26 1).x 0 none)) v0_1.data.toList.length ((fr26 1).cap)), (48, .int .i64 ((v0_1.data.toList.length : Nat) : Int)), (49, .int .i64 ((v49_2 : Nat) : Int)), (50, .bool (decide (((v49_2 : Nat) : Int) < ((v0_1.data.toList.length : Nat) : Int))))]) (mem' := fun _ => [(1, o5 (some (Addr.mk (fr26 1).x 0 none)) ((fr26 1).cap) v0_1.data.toList)]) (RunsTo.mk [] [5, 6, 47, 48, 49, 50] [1] (fun _ => []) (fun _ => by kernel_rfl) (fun _ => trivial)) ?_
            intro _
            refine GS.seq ?_
            refine GS.cond (t := decide (((v49_2 : Nat) : Int) < ((v0_1.data.toList.length : Nat) : Int))) rfl rfl (fun _ => ?_) (fun h56 => absb (drop_dec hd52) h56)
            refine GS.skip ?_
            refine GS.seq ?_
            refine GS.block ?_
            refine GS.seq ?_
            refine GS.region (env' := fun _ => [(5, .string a0), (6, .int .i64 v6_2), (8, .int .u8 ((x54.toNat : Nat) : Int)), (47, .slice (some (Addr.mk (fr26 1).x 0 none)) v0_1.data.toList.length ((fr26 1).cap)), (48, .int .i64 ((v0_1.data.toList.length : Nat) : Int)), (49, .int .i64 ((v49_2 : Nat) : Int))]) (mem' := fun _ => [(1, o5 (some (Addr.mk (fr26 1).x 0 none)) ((fr26 1).cap) v0_1.data.toList)]) (RunsTo.mk [(0, { act := .idx 1 v49_2 }), (1, { act := .load 1 v49_2 0 [.int .u8 ((x54.toNat : Nat) : Int)] })] [5, 6, 8, 47, 48, 49] [1] (fun _ => [some (Addr.mk (fr26 1).x 0 none) = some (Addr.mk (fr26 1).x 0 none), v0_1.data.toList.length = (List.map rB v0_1.data.toList).length, (((v49_2 : Nat) : Int) : Int) = ((v49_2 : Nat) : Int), v49_2 < v0_1.data.toList.length, blk (some (Addr.mk (fr26 1).x 0 none)) = blk (some (Addr.mk (fr26 1).x 0 none)), offs (some (Addr.mk (fr26 1).x 0 none)) + v49_2 * 1 = offs (some (Addr.mk (fr26 1).x 0 none)) + (v49_2 * 1 + 0), (List.map rB v0_1.data.toList)[v49_2]? = some [.int .u8 ((x54.toNat : Nat) : Int)]]) (fun _ => by kernel_rfl) (fun _ => ⟨rfl, mlen rB v0_1.data.toList, rfl, (drop_lt hd52), rfl, rfl, map_drop rB hd52, trivial⟩)) ?_
            intro _
            refine GS.seq ?_
            refine GS.region (env' := fun _ => [(5, .string a0), (6, .int .i64 v6_2), (8, .int .u8 (IntKind.u8.wrap (((x54.toNat : Nat) : Int) - 48))), (47, .slice (some (Addr.mk (fr26 1).x 0 none)) v0_1.data.toList.length ((fr26 1).cap)), (48, .int .i64 ((v0_1.data.toList.length : Nat) : Int)), (49, .int .i64 ((v49_2 : Nat) : Int))]) (mem' := fun _ => [(1, o5 (some (Addr.mk (fr26 1).x 0 none)) ((fr26 1).cap) v0_1.data.toList)]) (RunsTo.mk [] [5, 6, 8, 47, 48, 49] [1] (fun _ => []) (fun _ => by kernel_rfl) (fun _ => trivial)) ?_
            intro _
            refine GS.seq ?_
            refine GS.seq ?_
            refine GS.region (env' := fun _ => [(5, .string a0), (6, .int .i64 v6_2), (8, .int .u8 (IntKind.u8.wrap (((x54.toNat : Nat) : Int) - 48))), (47, .slice (some (Addr.mk (fr26 1).x 0 none)) v0_1.data.toList.length ((fr26 1).cap)), (48, .int .i64 ((v0_1.data.toList.length : Nat) : Int)), (49, .int .i64 ((v49_2 : Nat) : Int)), (56, .bool (decide ((IntKind.u8.wrap (((x54.toNat : Nat) : Int) - 48)) > 9)))]) (mem' := fun _ => [(1, o5 (some (Addr.mk (fr26 1).x 0 none)) ((fr26 1).cap) v0_1.data.toList)]) (RunsTo.mk [] [5, 6, 8, 47, 48, 49, 56] [1] (fun _ => []) (fun _ => by kernel_rfl) (fun _ => trivial)) ?_
            intro _
            refine GS.cond (t := decide ((IntKind.u8.wrap (((x54.toNat : Nat) : Int) - 48)) > 9)) rfl rfl (fun h60 => ?_) (fun h60 => ?_)
            · replace hm := br_t h60 hm
              cases hm
            · replace hm := br_f h60 hm
              refine GS.skip ?_
              refine grd_elim hm (fun g63 hm => ?_)
              refine grd_elim hm (fun g64 hm => ?_)
              refine GS.region (env' := fun _ => [(5, .string a0), (6, .int .i64 ((v6_2 * 10) + (IntKind.i64.wrap (IntKind.u8.wrap (((x54.toNat : Nat) : Int) - 48))))), (47, .slice (some (Addr.mk (fr26 1).x 0 none)) v0_1.data.toList.length ((fr26 1).cap)), (48, .int .i64 ((v0_1.data.toList.length : Nat) : Int)), (49, .int .i64 ((v49_2 : Nat) : Int))]) (mem' := fun _ => [(1, o5 (some (Addr.mk (fr26 1).x 0 none)) ((fr26 1).cap) v0_1.data.toList)]) (RunsTo.mk [(1, { sp := some (.int .i64 (v6_2 * 10)) }), (4, { sp := some (.int .i64 ((v6_2 * 10) + (IntKind.i64.wrap (IntKind.u8.wrap (((x54.toNat : Nat) : Int) - 48))))) })] [5, 6, 47, 48, 49] [1] (fun _ => [((.int .i64 (IntKind.i64.wrap (v6_2 * 10))) : Value) = .int .i64 (v6_2 * 10), ((.int .i64 (IntKind.i64.wrap ((v6_2 * 10) + (IntKind.i64.wrap (IntKind.u8.wrap (((x54.toNat : Nat) : Int) - 48)))))) : Value) = .int .i64 ((v6_2 * 10) + (IntKind.i64.wrap (IntKind.u8.wrap (((x54.toNat : Nat) : Int) - 48))))]) (fun _ => by kernel_rfl) (fun _ => ⟨I64.w g63, I64.w g64, trivial⟩)) ?_
              intro _
              refine GS.inBlock ?_
              refine GS.region (env' := fun _ => [(5, .string a0), (6, .int .i64 ((v6_2 * 10) + (IntKind.i64.wrap (IntKind.u8.wrap (((x54.toNat : Nat) : Int) - 48))))), (47, .slice (some (Addr.mk (fr26 1).x 0 none)) v0_1.data.toList.length ((fr26 1).cap)), (48, .int .i64 ((v0_1.data.toList.length : Nat) : Int)), (49, .int .i64 ((v49_2 + 1 : Nat) : Int))]) (mem' := fun _ => [(1, o5 (some (Addr.mk (fr26 1).x 0 none)) ((fr26 1).cap) v0_1.data.toList)]) (RunsTo.mk [(0, { sp := some (.int .i64 ((v49_2 + 1 : Nat) : Int)) })] [5, 6, 47, 48, 49] [1] (fun _ => [((.int .i64 (IntKind.i64.wrap (((v49_2 : Nat) : Int) + 1))) : Value) = .int .i64 ((v49_2 + 1 : Nat) : Int)]) (fun _ => by kernel_rfl) (fun _ => ⟨natw (drop_lt hd52) g53, trivial⟩)) ?_
              intro _
              refine GS.inLoop ?_
              refine GS.rekey (env' := [(5, .string a0), (6, .int .i64 ((v6_2 * 10) + (IntKind.i64.wrap (IntKind.u8.wrap (((x54.toNat : Nat) : Int) - 48))))), (47, .slice (some (Addr.mk (fr26 1).x 0 none)) v0_1.data.toList.length ((fr26 1).cap)), (48, .int .i64 ((v0_1.data.toList.length : Nat) : Int)), (49, .int .i64 ((v49_2 + 1 : Nat) : Int))]) (mem' := [(1, o5 (some (Addr.mk (fr26 1).x 0 none)) ((fr26 1).cap) v0_1.data.toList)]) [5, 6, 47, 48, 49] [(1, 1)] (by kernel_rfl) (by kernel_rfl) rfl ?_
              exact ih70 ⟨rs69, ((v6_2 * 10) + (IntKind.i64.wrap (IntKind.u8.wrap (((x54.toNat : Nat) : Int) - 48)))), v49_2 + 1⟩ ⟨drop_next hd52, hm⟩ (Nat.lt_succ_self _)
    · replace hm := br_f h8 hm
      refine GS.skip ?_
      cases hm

theorem w_strconv_Atoi (F : Nat) (a0 : ByteArray) {y : Int} (hm : m_strconv_Atoi F a0 = some y) : CallG Tryd.prog 38 #[.string a0] (X := Unit) (fun (_ : Unit) => .tuple #[.int .i64 y, .nilIface]) [] [] (fun (_ : Unit) => []) := by
  intro w hg
  rw [m_strconv_Atoi] at hm
  refine GS.start (S := mayT [] []) (mem := []) Tryd.func38 rfl Tryd.ntmps38 (Nat.le_of_ble_eq_true rfl) (hg.start rfl) ?_
  refine GS.conv (env' := [(0, .string a0)]) rfl rfl ?_
  refine GS.seq ?_
  refine GS.region (env' := fun _ => [(0, .string a0)]) (mem' := fun _ => []) (RunsTo.mk [] [0] [] (fun _ => []) (fun _ => by kernel_rfl) (fun _ => trivial)) ?_
  intro _
  refine GS.seq ?_
  refine bnd_elim hm (fun y3 e4 hm => ?_)
  refine GS.region (env' := fun _ => [(0, .string a0), (4, .int .i64 y3), (5, .nilIface)]) (mem' := fun _ => []) (RunsTo.mk [(1, { act := .call [] (.tuple #[.int .i64 y3, .nilIface]) })] [0, 4, 5] [] (fun _ => [CallOK Tryd.prog 42 #[.string a0] (.tuple #[.int .i64 y3, .nilIface]) []]) (fun _ => by kernel_rfl) (fun _ => ⟨(w_internal_strconv_Atoi F a0 e4).ok trivial, trivial⟩)) ?_
  intro _
  refine GS.seq ?_
  refine GS.seq ?_
  refine GS.region (env' := fun _ => [(0, .string a0), (4, .int .i64 y3), (5, .nilIface), (12, .bool false)]) (mem' := fun _ => []) (RunsTo.mk [] [0, 4, 5, 12] [] (fun _ => []) (fun _ => by kernel_rfl) (fun _ => trivial)) ?_
  intro _
  refine GS.cond (t := false) rfl rfl (fun hf => by cases hf) (fun _ => ?_)
  refine GS.skip ?_
  refine GS.seq ?_
  refine GS.region (env' := fun _ => [(2, .int .i64 y3), (3, .nilIface)]) (mem' := fun _ => []) (RunsTo.mk [] [2, 3] [] (fun _ => []) (fun _ => by kernel_rfl) (fun _ => trivial)) ?_
  intro _
  have hy := Option.some.inj hm
  subst hy
  refine GS.ret (fn := Tryd.f38) [0, 0] [.int .i64 y3, .nilIface] [] rfl Tryd.func38 (by kernel_rfl) trivial (fun w' hs => ?_)
  exact ⟨(), rfl, hs.turnedG (ks := []) rfl rfl⟩

end Go.Proofs.YtfdojammchbboaaDoor
