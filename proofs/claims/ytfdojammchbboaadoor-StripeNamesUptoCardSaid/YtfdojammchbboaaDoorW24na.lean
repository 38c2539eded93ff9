/-
  CHAPTER 24n: the functions do what their models say (1).
-/
import Derived.Test.YtfdojammchbboaaDoorM24n
import Derived.Test.YtfdojammchbboaaDoorE24
set_option linter.unusedVariables false
set_option linter.unusedSimpArgs false
set_option maxRecDepth 100000
namespace Go.Proofs.YtfdojammchbboaaDoor
open Go Go.RowKit Sx

theorem w_internal_bytealg_LastIndexByteString (F : Nat) (a0 : ByteArray) (a1 : Int) {y : Int} (hm : m_internal_bytealg_LastIndexByteString F a0 a1 = some y) : CallG Tryd.prog 41 #[.string a0, .int .u8 a1] (X := Unit) (fun (_ : Unit) => .int .i64 y) [] [] (fun (_ : Unit) => []) := by
  intro w hg
  rw [m_internal_bytealg_LastIndexByteString] at hm
  refine GS.start (S := mayT [] []) (mem := []) Tryd.func41 rfl Tryd.ntmps41 (Nat.le_of_ble_eq_true rfl) (hg.start rfl) ?_
  refine GS.conv (env' := [(0, .string a0), (1, .int .u8 a1)]) rfl rfl ?_
  refine GS.seq ?_
  refine GS.region (env' := fun _ => [(0, .string a0), (1, .int .u8 a1)]) (mem' := fun _ => []) (RunsTo.mk [] [0, 1] [] (fun _ => []) (fun _ => by kernel_rfl) (fun _ => trivial)) ?_
  intro _
  refine GS.seq ?_
  refine GS.seq ?_
  refine grd_elim hm (fun g3 hm => ?_)
  refine GS.region (env' := fun _ => [(0, .string a0), (1, .int .u8 a1), (5, .int .i64 (((a0.size : Nat) : Int) - 1))]) (mem' := fun _ => []) (RunsTo.mk [(2, { sp := some (.int .i64 (((a0.size : Nat) : Int) - 1)) })] [0, 1, 5] [] (fun _ => [((.int .i64 (IntKind.i64.wrap (((a0.size : Nat) : Int) - 1))) : Value) = .int .i64 (((a0.size : Nat) : Int) - 1)]) (fun _ => by kernel_rfl) (fun _ => ⟨I64.w g3, trivial⟩)) ?_
  intro _
  refine GS.block ?_
  refine GS.loop ?_
  refine GS.rekey (env' := [(0, .string a0), (1, .int .u8 a1), (5, .int .i64 (((a0.size : Nat) : Int) - 1))]) (mem' := []) [0, 1, 5] [] (by kernel_rfl) (by kernel_rfl) rfl ?_
  refine loopW_elim hm (fun st32 hst34 hm => ?_)
  refine GS.loopInv (ι := Nat × Int) (I := fun ⟨rs30, v5_1⟩ => loopW st32 rs30 v5_1 = some y) (μ := fun ⟨rs30, v5_1⟩ => rs30) (E := fun ⟨rs30, v5_1⟩ => [(0, .string a0), (1, .int .u8 a1), (5, .int .i64 v5_1)]) (M := fun ⟨rs30, v5_1⟩ => []) ?_ ⟨F, (((a0.size : Nat) : Int) - 1)⟩ hm
  rintro ⟨rs30, v5_1⟩ hm ih31
  cases rs30 with
  | zero => cases hm
  | succ rs30 =>
    replace hm := (hst34 _ _).symm.trans hm
    try dsimp only at hm
    refine GS.seq ?_
    refine GS.seq ?_
    refine GS.region (env' := fun _ => [(0, .string a0), (1, .int .u8 a1), (5, .int .i64 v5_1), (10, .bool (decide (v5_1 ≥ 0)))]) (mem' := fun _ => []) (RunsTo.mk [] [0, 1, 5, 10] [] (fun _ => []) (fun _ => by kernel_rfl) (fun _ => trivial)) ?_
    intro _
    refine GS.cond (t := decide (v5_1 ≥ 0)) rfl rfl (fun h22 => ?_) (fun h22 => ?_)
    · replace hm := br_t h22 hm
      refine GS.skip ?_
      refine GS.seq ?_
      refine GS.block ?_
      refine GS.seq ?_
      refine grd_elim hm (fun g24 hm => ?_)
      refine GS.region (env' := fun _ => [(0, .string a0), (1, .int .u8 a1), (5, .int .i64 v5_1), (17, .bool ((((a0.data.getD (Int.toNat v5_1) 0).toNat : Nat) : Int) == a1))]) (mem' := fun _ => []) (RunsTo.mk [(2, { act := .elt (Int.toNat v5_1) })] [0, 1, 5, 17] [] (fun _ => [(v5_1 : Int) = (((Int.toNat v5_1) : Nat) : Int), (Int.toNat v5_1) < a0.size]) (fun _ => by kernel_rfl) (fun _ => ⟨g24.eq, g24.2, trivial⟩)) ?_
      intro _
      refine GS.cond (t := (((a0.data.getD (Int.toNat v5_1) 0).toNat : Nat) : Int) == a1) rfl rfl (fun h25 => ?_) (fun h25 => ?_)
      · replace hm := br_t h25 hm
        refine GS.seq ?_
        refine GS.region (env' := fun _ => [(4, .int .i64 v5_1)]) (mem' := fun _ => []) (RunsTo.mk [] [4] [] (fun _ => []) (fun _ => by kernel_rfl) (fun _ => trivial)) ?_
        intro _
        have hy := Option.some.inj hm
        subst hy
        refine GS.ret (fn := Tryd.f41) [0] [.int .i64 v5_1] [] rfl Tryd.func41 (by kernel_rfl) trivial (fun w' hs => ?_)
        exact ⟨(), rfl, hs.turnedG (ks := []) rfl rfl⟩
      · replace hm := br_f h25 hm
        refine GS.skip ?_
        refine GS.inBlock ?_
        refine grd_elim hm (fun g28 hm => ?_)
        refine GS.region (env' := fun _ => [(0, .string a0), (1, .int .u8 a1), (5, .int .i64 (v5_1 - 1))]) (mem' := fun _ => []) (RunsTo.mk [(1, { sp := some (.int .i64 (v5_1 - 1)) })] [0, 1, 5] [] (fun _ => [((.int .i64 (IntKind.i64.wrap (v5_1 - 1))) : Value) = .int .i64 (v5_1 - 1)]) (fun _ => by kernel_rfl) (fun _ => ⟨I64.w g28, trivial⟩)) ?_
        intro _
        refine GS.inLoop ?_
        refine GS.rekey (env' := [(0, .string a0), (1, .int .u8 a1), (5, .int .i64 (v5_1 - 1))]) (mem' := []) [0, 1, 5] [] (by kernel_rfl) (by kernel_rfl) rfl ?_
        exact ih31 ⟨rs30, (v5_1 - 1)⟩ hm (Nat.lt_succ_self _)
    · replace hm := br_f h22 hm
      refine GS.exit rfl ?_
      refine GS.seq ?_
      refine GS.region (env' := fun _ => [(4, .int .i64 (-1))]) (mem' := fun _ => []) (RunsTo.mk [] [4] [] (fun _ => []) (fun _ => by kernel_rfl) (fun _ => trivial)) ?_
      intro _
      have hy := Option.some.inj hm
      subst hy
      refine GS.ret (fn := Tryd.f41) [0] [.int .i64 (-1)] [] rfl Tryd.func41 (by kernel_rfl) trivial (fun w' hs => ?_)
      exact ⟨(), rfl, hs.turnedG (ks := []) rfl rfl⟩

theorem w_strings_LastIndexByte (F : Nat) (a0 : ByteArray) (a1 : Int) {y : Int} (hm : m_strings_LastIndexByte F a0 a1 = some y) : CallG Tryd.prog 37 #[.string a0, .int .u8 a1] (X := Unit) (fun (_ : Unit) => .int .i64 y) [] [] (fun (_ : Unit) => []) := by
  intro w hg
  rw [m_strings_LastIndexByte] at hm
  refine GS.start (S := mayT [] []) (mem := []) Tryd.func37 rfl Tryd.ntmps37 (Nat.le_of_ble_eq_true rfl) (hg.start rfl) ?_
  refine GS.conv (env' := [(0, .string a0), (1, .int .u8 a1)]) rfl rfl ?_
  refine GS.seq ?_
  refine GS.region (env' := fun _ => [(0, .string a0), (1, .int .u8 a1)]) (mem' := fun _ => []) (RunsTo.mk [] [0, 1] [] (fun _ => []) (fun _ => by kernel_rfl) (fun _ => trivial)) ?_
  intro _
  refine GS.seq ?_
  refine bnd_elim hm (fun y3 e4 hm => ?_)
  refine GS.region (env' := fun _ => [(4, .int .i64 y3)]) (mem' := fun _ => []) (RunsTo.mk [(2, { act := .call [] (.int .i64 y3) })] [4] [] (fun _ => [CallOK Tryd.prog 41 #[.string a0, .int .u8 a1] (.int .i64 y3) []]) (fun _ => by kernel_rfl) (fun _ => ⟨(w_internal_bytealg_LastIndexByteString F a0 a1 e4).ok trivial, trivial⟩)) ?_
  intro _
  have hy := Option.some.inj hm
  subst hy
  refine GS.ret (fn := Tryd.f37) [0] [.int .i64 y3] [] rfl Tryd.func37 (by kernel_rfl) trivial (fun w' hs => ?_)
  exact ⟨(), rfl, hs.turnedG (ks := []) rfl rfl⟩

theorem w_stripe_Parse (F : Nat) (a0 : ByteArray) {y : ByteArray × Int × Bool} (hm : m_stripe_Parse F a0 = some y) : CallG Tryd.prog 17 #[.string a0] (X := Unit) (fun (_ : Unit) => .tuple #[.string y.1, .int .i64 y.2.1, .bool y.2.2]) [] [glob24] (fun (_ : Unit) => []) := by
  intro w hg
  rw [m_stripe_Parse] at hm
  refine GS.start (S := mayT [] [glob24]) (mem := [(1, glob24)]) Tryd.func17 rfl Tryd.ntmps17 (Nat.le_of_ble_eq_true rfl) (hg.start rfl) ?_
  refine GS.conv (env' := [(0, .string a0)]) rfl rfl ?_
  refine GS.seq ?_
  refine GS.region (env' := fun _ => [(0, .string a0)]) (mem' := fun _ => [(1, glob24)]) (RunsTo.mk [] [0] [1] (fun _ => []) (fun _ => by kernel_rfl) (fun _ => trivial)) ?_
  intro _
  refine GS.seq ?_
  refine bnd_elim hm (fun y3 e4 hm => ?_)
  refine GS.region (env' := fun _ => [(0, .string a0), (5, .int .i64 y3)]) (mem' := fun _ => [(1, glob24)]) (RunsTo.mk [(1, { act := .call [] (.int .i64 y3) })] [0, 5] [1] (fun _ => [CallOK Tryd.prog 37 #[.string a0, .int .u8 46] (.int .i64 y3) []]) (fun _ => by kernel_rfl) (fun _ => ⟨(w_strings_LastIndexByte F a0 46 e4).ok trivial, trivial⟩)) ?_
  intro _
  refine GS.seq ?_
  refine GS.seq ?_
  refine GS.region (env' := fun _ => [(0, .string a0), (5, .int .i64 y3), (11, .bool (decide (y3 < 0)))]) (mem' := fun _ => [(1, glob24)]) (RunsTo.mk [] [0, 5, 11] [1] (fun _ => []) (fun _ => by kernel_rfl) (fun _ => trivial)) ?_
  intro _
  refine GS.cond (t := decide (y3 < 0)) rfl rfl (fun h6 => ?_) (fun h6 => ?_)
  · replace hm := br_t h6 hm
    refine GS.seq ?_
    refine GS.region (env' := fun _ => [(2, .string (ByteArray.mk #[])), (3, .int .i64 0), (4, .bool false)]) (mem' := fun _ => [(1, glob24)]) (RunsTo.mk [] [2, 3, 4] [1] (fun _ => []) (fun _ => by kernel_rfl) (fun _ => trivial)) ?_
    intro _
    have hy := Option.some.inj hm
    subst hy
    refine GS.ret (fn := Tryd.f17) [0, 0, 0] [.string (ByteArray.mk #[]), .int .i64 0, .bool false] [] rfl Tryd.func17 (by kernel_rfl) trivial (fun w' hs => ?_)
    exact ⟨(), rfl, hs.turnedG (ks := []) rfl rfl⟩
  · replace hm := br_f h6 hm
    refine GS.skip ?_
    refine GS.seq ?_
    refine grd_elim hm (fun g9 hm => ?_)
    refine grd_elim hm (fun g10 hm => ?_)
    refine br_elim hm (fun h11 hm => ?_) (fun h11 hm => ?_)
    · skip
      refine grd_elim hm (fun g12 hm => ?_)
      refine GS.region (env' := fun _ => [(0, .string a0), (5, .int .i64 y3), (6, .int .i64 (atoiV (a0.extract (Int.toNat (y3 + 1)) a0.size))), (7, .nilIface)]) (mem' := fun _ => [(1, glob24)]) (RunsTo.mk [(2, { sp := some (.int .i64 (y3 + 1)) }), (3, { act := .cut (Int.toNat (y3 + 1)) a0.size 0 }), (4, { act := .call [] (.tuple #[.int .i64 (atoiV (a0.extract (Int.toNat (y3 + 1)) a0.size)), .nilIface]) })] [0, 5, 6, 7] [1] (fun _ => [((.int .i64 (IntKind.i64.wrap (y3 + 1))) : Value) = .int .i64 (y3 + 1), (y3 + 1) = (((Int.toNat (y3 + 1)) : Nat) : Int), a0.size = a0.size, (Int.toNat (y3 + 1)) ≤ a0.size, a0.size ≤ a0.size, CallOK Tryd.prog 38 #[.string (a0.extract (Int.toNat (y3 + 1)) a0.size)] (.tuple #[.int .i64 (atoiV (a0.extract (Int.toNat (y3 + 1)) a0.size)), .nilIface]) []]) (fun _ => by kernel_rfl) (fun _ => ⟨I64.w g9, g10.eq, rfl, g10.2, (Nat.le_refl _), (call_atoi_ok (a0.extract (Int.toNat (y3 + 1)) a0.size) g12 h11).ok trivial, trivial⟩)) ?_
      intro _
      refine GS.seq ?_
      refine GS.seq ?_
      refine jn_elim hm (fun J19 hJ21 hm => ?_)
      refine GS.cut (ι := Bool) (I := fun (v38_2 : Bool) => J19 v38_2 = some y) (E := fun (v38_2 : Bool) => [(0, .string a0), (5, .int .i64 y3), (6, .int .i64 (atoiV (a0.extract (Int.toNat (y3 + 1)) a0.size))), (38, .bool v38_2)]) (M := fun (v38_2 : Bool) => [(1, glob24)]) ?_ ?_
      rotate_left
      · intro H20
        refine br_elim hm (fun h16 hm => ?_) (fun h16 hm => ?_)
        · skip
          refine GS.region (env' := fun _ => [(0, .string a0), (5, .int .i64 y3), (6, .int .i64 (atoiV (a0.extract (Int.toNat (y3 + 1)) a0.size))), (38, .bool true)]) (mem' := fun _ => [(1, glob24)]) (RunsTo.mkd [(6, { sp := some (.bool true) })] [0, 5, 6, 38] [1] (fun _ => [((.bool (decide ((atoiV (a0.extract (Int.toNat (y3 + 1)) a0.size)) < 0))) : Value) = .bool true]) (by kernel_rfl) (by kernel_rfl) (fun _ => by kernel_rfl) (fun _ => ⟨bool_eq h16, trivial⟩)) ?_
          intro _
          refine GS.rekey (env' := [(0, .string a0), (5, .int .i64 y3), (6, .int .i64 (atoiV (a0.extract (Int.toNat (y3 + 1)) a0.size))), (38, .bool true)]) (mem' := [(1, glob24)]) [0, 5, 6, 38] [(1, 1)] (by kernel_rfl) (by kernel_rfl) rfl ?_
          exact H20 true hm
        · skip
          refine br_elim hm (fun h17 hm => ?_) (fun h17 hm => ?_)
          · skip
            refine GS.region (env' := fun _ => [(0, .string a0), (5, .int .i64 y3), (6, .int .i64 (atoiV (a0.extract (Int.toNat (y3 + 1)) a0.size))), (38, .bool true)]) (mem' := fun _ => [(1, glob24)]) (RunsTo.mkd [(6, { sp := some (.bool false) }), (10, { sp := some (.bool true) })] [0, 5, 6, 38] [1] (fun _ => [((.bool (decide ((atoiV (a0.extract (Int.toNat (y3 + 1)) a0.size)) < 0))) : Value) = .bool false, ((.bool (decide ((atoiV (a0.extract (Int.toNat (y3 + 1)) a0.size)) > 65535))) : Value) = .bool true]) (by kernel_rfl) (by kernel_rfl) (fun _ => by kernel_rfl) (fun _ => ⟨bool_eq h16, bool_eq h17, trivial⟩)) ?_
            intro _
            refine GS.rekey (env' := [(0, .string a0), (5, .int .i64 y3), (6, .int .i64 (atoiV (a0.extract (Int.toNat (y3 + 1)) a0.size))), (38, .bool true)]) (mem' := [(1, glob24)]) [0, 5, 6, 38] [(1, 1)] (by kernel_rfl) (by kernel_rfl) rfl ?_
            exact H20 true hm
          · skip
            refine grd_elim hm (fun g18 hm => ?_)
            refine GS.region (env' := fun _ => [(0, .string a0), (5, .int .i64 y3), (6, .int .i64 (atoiV (a0.extract (Int.toNat (y3 + 1)) a0.size))), (38, .bool (!((ByteArray.mk (Lib.itoa (atoiV (a0.extract (Int.toNat (y3 + 1)) a0.size))).toArray).toList == (a0.extract (Int.toNat (y3 + 1)) a0.size).toList)))]) (mem' := fun _ => [(1, glob24)]) (RunsTo.mkd [(6, { sp := some (.bool false) }), (10, { sp := some (.bool false) }), (12, { act := .call [1] (.string (ByteArray.mk (Lib.itoa (atoiV (a0.extract (Int.toNat (y3 + 1)) a0.size))).toArray)) }), (15, { sp := some (.int .i64 (y3 + 1)) }), (16, { act := .cut (Int.toNat (y3 + 1)) a0.size 0 })] [0, 5, 6, 38] [1] (fun _ => [((.bool (decide ((atoiV (a0.extract (Int.toNat (y3 + 1)) a0.size)) < 0))) : Value) = .bool false, ((.bool (decide ((atoiV (a0.extract (Int.toNat (y3 + 1)) a0.size)) > 65535))) : Value) = .bool false, CallOK Tryd.prog 39 #[.int .i64 (atoiV (a0.extract (Int.toNat (y3 + 1)) a0.size))] (.string (ByteArray.mk (Lib.itoa (atoiV (a0.extract (Int.toNat (y3 + 1)) a0.size))).toArray)) [some (glob24)], ((.int .i64 (IntKind.i64.wrap (y3 + 1))) : Value) = .int .i64 (y3 + 1), (y3 + 1) = (((Int.toNat (y3 + 1)) : Nat) : Int), a0.size = a0.size, (Int.toNat (y3 + 1)) ≤ a0.size, a0.size ≤ a0.size]) (by kernel_rfl) (by kernel_rfl) (fun _ => by kernel_rfl) (fun _ => ⟨bool_eq h16, bool_eq h17, (call_itoa (atoiV (a0.extract (Int.toNat (y3 + 1)) a0.size)) g18).ok ⟨(.inl ⟨glob24, .head _, Cov.refl _⟩), trivial⟩, I64.w g9, g10.eq, rfl, g10.2, (Nat.le_refl _), trivial⟩)) ?_
            intro _
            refine GS.rekey (env' := [(0, .string a0), (5, .int .i64 y3), (6, .int .i64 (atoiV (a0.extract (Int.toNat (y3 + 1)) a0.size))), (38, .bool (!((ByteArray.mk (Lib.itoa (atoiV (a0.extract (Int.toNat (y3 + 1)) a0.size))).toArray).toList == (a0.extract (Int.toNat (y3 + 1)) a0.size).toList)))]) (mem' := [(1, glob24)]) [0, 5, 6, 38] [(1, 1)] (by kernel_rfl) (by kernel_rfl) rfl ?_
            exact H20 (!((ByteArray.mk (Lib.itoa (atoiV (a0.extract (Int.toNat (y3 + 1)) a0.size))).toArray).toList == (a0.extract (Int.toNat (y3 + 1)) a0.size).toList)) hm
      · rintro v38_2 hm
        replace hm := (hJ21 _).symm.trans hm
        try dsimp only at hm
        refine GS.cond (t := v38_2) rfl rfl (fun h22 => ?_) (fun h22 => ?_)
        · replace hm := br_t h22 hm
          refine GS.seq ?_
          refine GS.region (env' := fun _ => [(2, .string (ByteArray.mk #[])), (3, .int .i64 0), (4, .bool false)]) (mem' := fun _ => [(1, glob24)]) (RunsTo.mk [] [2, 3, 4] [1] (fun _ => []) (fun _ => by kernel_rfl) (fun _ => trivial)) ?_
          intro _
          have hy := Option.some.inj hm
          subst hy
          refine GS.ret (fn := Tryd.f17) [0, 0, 0] [.string (ByteArray.mk #[]), .int .i64 0, .bool false] [] rfl Tryd.func17 (by kernel_rfl) trivial (fun w' hs => ?_)
          exact ⟨(), rfl, hs.turnedG (ks := []) rfl rfl⟩
        · replace hm := br_f h22 hm
          refine GS.skip ?_
          refine GS.seq ?_
          refine grd_elim hm (fun g25 hm => ?_)
          refine GS.region (env' := fun _ => [(2, .string (a0.extract 0 (Int.toNat y3))), (3, .int .i64 (atoiV (a0.extract (Int.toNat (y3 + 1)) a0.size))), (4, .bool true)]) (mem' := fun _ => [(1, glob24)]) (RunsTo.mk [(2, { act := .cut 0 (Int.toNat y3) 0 })] [2, 3, 4] [1] (fun _ => [0 = 0, y3 = (((Int.toNat y3) : Nat) : Int), 0 ≤ (Int.toNat y3), (Int.toNat y3) ≤ a0.size]) (fun _ => by kernel_rfl) (fun _ => ⟨rfl, g25.eq, (Nat.zero_le _), g25.2, trivial⟩)) ?_
          intro _
          have hy := Option.some.inj hm
          subst hy
          refine GS.ret (fn := Tryd.f17) [0, 0, 0] [.string (a0.extract 0 (Int.toNat y3)), .int .i64 (atoiV (a0.extract (Int.toNat (y3 + 1)) a0.size)), .bool true] [] rfl Tryd.func17 (by kernel_rfl) trivial (fun w' hs => ?_)
          exact ⟨(), rfl, hs.turnedG (ks := []) rfl rfl⟩
    · skip
      refine grd_elim hm (fun g12 hm => ?_)
      refine GS.open_ ?_
      refine GR.run (i := 0) 4 (env' := fun _ => [(0, .string a0), (5, .int .i64 y3), (16, .string (a0.extract (Int.toNat (y3 + 1)) a0.size))]) (mem' := fun _ => [(1, glob24)]) (Nat.le_of_ble_eq_true (by kernel_rfl)) (RunsTo.mk [(2, { sp := some (.int .i64 (y3 + 1)) }), (3, { act := .cut (Int.toNat (y3 + 1)) a0.size 0 })] [0, 5, 16] [1] (fun _ => [((.int .i64 (IntKind.i64.wrap (y3 + 1))) : Value) = .int .i64 (y3 + 1), (y3 + 1) = (((Int.toNat (y3 + 1)) : Nat) : Int), a0.size = a0.size, (Int.toNat (y3 + 1)) ≤ a0.size, a0.size ≤ a0.size]) (fun _ => by kernel_rfl) (fun _ => ⟨I64.w g9, g10.eq, rfl, g10.2, (Nat.le_refl _), trivial⟩)) ?_
      intro _
      refine GR.callG (X := Nat) (i := 4) (g := 38) (args := #[.string (a0.extract (Int.toNat (y3 + 1)) a0.size)]) (v := fun (x13 : Nat) => .tuple #[.int .i64 (atoiV (a0.extract (Int.toNat (y3 + 1)) a0.size)), .iface (laysAtoi_ren.t 168) (.pointer (some ⟨x13, 0, none⟩))]) (own := []) (ro := [glob24]) (es' := fun (x13 : Nat) => []) (mem' := fun (x13 : Nat) => [(1, glob24)]) (env' := fun (x13 : Nat) => [(0, .string a0), (5, .int .i64 y3), (17, .tuple #[.int .i64 (atoiV (a0.extract (Int.toNat (y3 + 1)) a0.size)), .iface (laysAtoi_ren.t 168) (.pointer (some ⟨x13, 0, none⟩))])]) [] [] [0, 5, 17] [1] false (by kernel_rfl) (by kernel_rfl) (by kernel_rfl) (by kernel_rfl) (by kernel_rfl) (fun _ => rfl) (fun _ _ => rfl) ⟨(.inl ⟨1, _, rfl, rfl, Cov.refl _, fun h => by cases h⟩), trivial⟩ (by rintro x13; kernel_rfl) (by rintro x13; kernel_rfl) (call_atoi_err (a0.extract (Int.toNat (y3 + 1)) a0.size) g12 h11) ?_
      rintro x13
      refine GR.run (i := 5) 5 (env' := fun _ => [(0, .string a0), (5, .int .i64 y3), (6, .int .i64 (atoiV (a0.extract (Int.toNat (y3 + 1)) a0.size))), (7, .iface (laysAtoi_ren.t 168) (.pointer (some ⟨x13, 0, none⟩)))]) (mem' := fun _ => [(1, glob24)]) (Nat.le_of_ble_eq_true (by kernel_rfl)) (RunsTo.mk [] [0, 5, 6, 7] [1] (fun _ => []) (fun _ => by kernel_rfl) (fun _ => trivial)) ?_
      intro _
      refine GR.done (Nat.le_of_ble_eq_true (by kernel_rfl)) ?_
      refine GS.seq ?_
      refine GS.seq ?_
      refine GS.region (env' := fun _ => [(0, .string a0), (5, .int .i64 y3), (6, .int .i64 (atoiV (a0.extract (Int.toNat (y3 + 1)) a0.size))), (38, .bool true)]) (mem' := fun _ => [(1, glob24)]) (RunsTo.mkd [] [0, 5, 6, 38] [1] (fun _ => []) (by kernel_rfl) (by kernel_rfl) (fun _ => by kernel_rfl) (fun _ => trivial)) ?_
      intro _
      refine GS.cond (t := true) rfl rfl (fun _ => ?_) (fun hf => by cases hf)
      refine GS.seq ?_
      refine GS.region (env' := fun _ => [(2, .string (ByteArray.mk #[])), (3, .int .i64 0), (4, .bool false)]) (mem' := fun _ => [(1, glob24)]) (RunsTo.mk [] [2, 3, 4] [1] (fun _ => []) (fun _ => by kernel_rfl) (fun _ => trivial)) ?_
      intro _
      have hy := Option.some.inj hm
      subst hy
      refine GS.ret (fn := Tryd.f17) [0, 0, 0] [.string (ByteArray.mk #[]), .int .i64 0, .bool false] [] rfl Tryd.func17 (by kernel_rfl) trivial (fun w' hs => ?_)
      exact ⟨(), rfl, hs.turnedG (ks := []) rfl rfl⟩

theorem w_tholeref24_Parse (F : Nat) (a0 : ByteArray) {y : ByteArray × Int × Bool} (hm : m_tholeref24_Parse F a0 = some y) : CallG Tryd.prog 18 #[.string a0] (X := Unit) (fun (_ : Unit) => .tuple #[.string y.1, .int .i64 y.2.1, .bool y.2.2]) [] [] (fun (_ : Unit) => []) := by
  intro w hg
  rw [m_tholeref24_Parse] at hm
  refine GS.start (S := mayT [] []) (mem := []) Tryd.func18 rfl Tryd.ntmps18 (Nat.le_of_ble_eq_true rfl) (hg.start rfl) ?_
  refine GS.conv (env' := [(0, .string a0)]) rfl rfl ?_
  refine GS.seq ?_
  refine GS.region (env' := fun _ => [(0, .string a0)]) (mem' := fun _ => []) (RunsTo.mk [] [0] [] (fun _ => []) (fun _ => by kernel_rfl) (fun _ => trivial)) ?_
  intro _
  refine GS.seq ?_
  refine GS.region (env' := fun _ => [(0, .string a0), (5, .int .i64 (-1))]) (mem' := fun _ => []) (RunsTo.mk [] [0, 5] [] (fun _ => []) (fun _ => by kernel_rfl) (fun _ => trivial)) ?_
  intro _
  refine GS.seq ?_
  refine GS.seq ?_
  refine GS.region (env' := fun _ => [(0, .string a0), (5, .int .i64 (-1)), (11, .int .i64 ((a0.size : Nat) : Int)), (12, .int .i64 0)]) (mem' := fun _ => []) (RunsTo.mk [] [0, 5, 11, 12] [] (fun _ => []) (fun _ => by kernel_rfl) (fun _ => trivial)) ?_
  intro _
  refine GS.block ?_
  refine GS.loop ?_
  refine grd_elim hm (fun g36 hm => ?_)
  refine GS.rekey (env' := [(0, .string a0), (5, .int .i64 (-1)), (11, .int .i64 ((a0.size : Nat) : Int)), (12, .int .i64 0)]) (mem' := []) [0, 5, 11, 12] [] (by kernel_rfl) (by kernel_rfl) rfl ?_
  refine loopC_elim hm (fun st58 fn59 hst60 hfn61 hm => ?_)
  refine GS.loopInv (ι := Nat × Int × Nat) (I := fun ⟨rs56, v5_1, v12_1⟩ => ((((a0.size : Nat) : Int)) - ((v12_1 : Nat) : Int) : Int).toNat = rs56 ∧ loopC st58 fn59 rs56 v12_1 v5_1 = some y) (μ := fun ⟨rs56, v5_1, v12_1⟩ => rs56) (E := fun ⟨rs56, v5_1, v12_1⟩ => [(0, .string a0), (5, .int .i64 v5_1), (11, .int .i64 ((a0.size : Nat) : Int)), (12, .int .i64 ((v12_1 : Nat) : Int))]) (M := fun ⟨rs56, v5_1, v12_1⟩ => []) ?_ ⟨(Int.toNat (((a0.size : Nat) : Int) - ((0 : Nat) : Int))), (-1), 0⟩ ⟨rfl, hm⟩
  rintro ⟨rs56, v5_1, v12_1⟩ ⟨hd35, hm⟩ ih57
  cases rs56 with
  | zero =>
    replace hm := (hfn61 _ _).symm.trans hm
    try dsimp only at hm
    refine GS.seq ?_
    refine GS.region (env' := fun _ => [(0, .string a0), (5, .int .i64 v5_1), (11, .int .i64 ((a0.size : Nat) : Int)), (12, .int .i64 ((v12_1 : Nat) : Int)), (13, .bool (decide (((v12_1 : Nat) : Int) < ((a0.size : Nat) : Int))))]) (mem' := fun _ => []) (RunsTo.mk [] [0, 5, 11, 12, 13] [] (fun _ => []) (fun _ => by kernel_rfl) (fun _ => trivial)) ?_
    intro _
    refine GS.seq ?_
    refine GS.cond (t := decide (((v12_1 : Nat) : Int) < ((a0.size : Nat) : Int))) rfl rfl (fun h54 => absb h54 (cnt0 hd35)) (fun _ => ?_)
    refine GS.exit rfl ?_
    refine GS.seq ?_
    refine GS.seq ?_
    refine GS.region (env' := fun _ => [(0, .string a0), (5, .int .i64 v5_1), (22, .bool (decide (v5_1 < 0)))]) (mem' := fun _ => []) (RunsTo.mk [] [0, 5, 22] [] (fun _ => []) (fun _ => by kernel_rfl) (fun _ => trivial)) ?_
    intro _
    refine GS.cond (t := decide (v5_1 < 0)) rfl rfl (fun h63 => ?_) (fun h63 => ?_)
    · replace hm := br_t h63 hm
      refine GS.seq ?_
      refine GS.region (env' := fun _ => [(2, .string (ByteArray.mk #[])), (3, .int .i64 0), (4, .bool false)]) (mem' := fun _ => []) (RunsTo.mk [] [2, 3, 4] [] (fun _ => []) (fun _ => by kernel_rfl) (fun _ => trivial)) ?_
      intro _
      have hy := Option.some.inj hm
      subst hy
      refine GS.ret (fn := Tryd.f18) [0, 0, 0] [.string (ByteArray.mk #[]), .int .i64 0, .bool false] [] rfl Tryd.func18 (by kernel_rfl) trivial (fun w' hs => ?_)
      exact ⟨(), rfl, hs.turnedG (ks := []) rfl rfl⟩
    · replace hm := br_f h63 hm
      refine GS.skip ?_
      refine GS.seq ?_
      refine grd_elim hm (fun g66 hm => ?_)
      refine grd_elim hm (fun g67 hm => ?_)
      refine GS.region (env' := fun _ => [(0, .string a0), (5, .int .i64 v5_1), (7, .string (a0.extract (Int.toNat (v5_1 + 1)) a0.size))]) (mem' := fun _ => []) (RunsTo.mk [(2, { sp := some (.int .i64 (v5_1 + 1)) }), (3, { act := .cut (Int.toNat (v5_1 + 1)) a0.size 0 })] [0, 5, 7] [] (fun _ => [((.int .i64 (IntKind.i64.wrap (v5_1 + 1))) : Value) = .int .i64 (v5_1 + 1), (v5_1 + 1) = (((Int.toNat (v5_1 + 1)) : Nat) : Int), a0.size = a0.size, (Int.toNat (v5_1 + 1)) ≤ a0.size, a0.size ≤ a0.size]) (fun _ => by kernel_rfl) (fun _ => ⟨I64.w g66, g67.eq, rfl, g67.2, (Nat.le_refl _), trivial⟩)) ?_
      intro _
      refine GS.seq ?_
      refine GS.seq ?_
      refine jn_elim hm (fun J72 hJ74 hm => ?_)
      refine GS.cut (ι := Bool) (I := fun (v43_8 : Bool) => J72 v43_8 = some y) (E := fun (v43_8 : Bool) => [(0, .string a0), (5, .int .i64 v5_1), (7, .string (a0.extract (Int.toNat (v5_1 + 1)) a0.size)), (43, .bool v43_8)]) (M := fun (v43_8 : Bool) => []) ?_ ?_
      rotate_left
      · intro H73
        refine br_elim hm (fun h69 hm => ?_) (fun h69 hm => ?_)
        · skip
          refine GS.region (env' := fun _ => [(0, .string a0), (5, .int .i64 v5_1), (7, .string (a0.extract (Int.toNat (v5_1 + 1)) a0.size)), (43, .bool true)]) (mem' := fun _ => []) (RunsTo.mk [(2, { sp := some (.bool true) })] [0, 5, 7, 43] [] (fun _ => [((.bool ((a0.extract (Int.toNat (v5_1 + 1)) a0.size).toList == (ByteArray.mk #[]).toList)) : Value) = .bool true]) (fun _ => by kernel_rfl) (fun _ => ⟨bool_eq h69, trivial⟩)) ?_
          intro _
          refine GS.rekey (env' := [(0, .string a0), (5, .int .i64 v5_1), (7, .string (a0.extract (Int.toNat (v5_1 + 1)) a0.size)), (43, .bool true)]) (mem' := []) [0, 5, 7, 43] [] (by kernel_rfl) (by kernel_rfl) rfl ?_
          exact H73 true hm
        · skip
          refine br_elim hm (fun h70 hm => ?_) (fun h70 hm => ?_)
          · skip
            refine GS.region (env' := fun _ => [(0, .string a0), (5, .int .i64 v5_1), (7, .string (a0.extract (Int.toNat (v5_1 + 1)) a0.size)), (43, .bool true)]) (mem' := fun _ => []) (RunsTo.mk [(2, { sp := some (.bool false) }), (7, { sp := some (.bool true) })] [0, 5, 7, 43] [] (fun _ => [((.bool ((a0.extract (Int.toNat (v5_1 + 1)) a0.size).toList == (ByteArray.mk #[]).toList)) : Value) = .bool false, ((.bool (decide ((((a0.extract (Int.toNat (v5_1 + 1)) a0.size).size : Nat) : Int) > 5))) : Value) = .bool true]) (fun _ => by kernel_rfl) (fun _ => ⟨bool_eq h69, bool_eq h70, trivial⟩)) ?_
            intro _
            refine GS.rekey (env' := [(0, .string a0), (5, .int .i64 v5_1), (7, .string (a0.extract (Int.toNat (v5_1 + 1)) a0.size)), (43, .bool true)]) (mem' := []) [0, 5, 7, 43] [] (by kernel_rfl) (by kernel_rfl) rfl ?_
            exact H73 true hm
          · skip
            refine br_elim hm (fun h71 hm => ?_) (fun h71 hm => ?_)
            · skip
              refine grd_elim hm (fun g72 hm => ?_)
              refine GS.region (env' := fun _ => [(0, .string a0), (5, .int .i64 v5_1), (7, .string (a0.extract (Int.toNat (v5_1 + 1)) a0.size)), (43, .bool (((((a0.extract (Int.toNat (v5_1 + 1)) a0.size).data.getD 0 0).toNat : Nat) : Int) == 48))]) (mem' := fun _ => []) (RunsTo.mk [(2, { sp := some (.bool false) }), (7, { sp := some (.bool false) }), (11, { sp := some (.bool true) }), (13, { act := .elt 0 })] [0, 5, 7, 43] [] (fun _ => [((.bool ((a0.extract (Int.toNat (v5_1 + 1)) a0.size).toList == (ByteArray.mk #[]).toList)) : Value) = .bool false, ((.bool (decide ((((a0.extract (Int.toNat (v5_1 + 1)) a0.size).size : Nat) : Int) > 5))) : Value) = .bool false, ((.bool (decide ((((a0.extract (Int.toNat (v5_1 + 1)) a0.size).size : Nat) : Int) > 1))) : Value) = .bool true, (0 : Int) = ((0 : Nat) : Int), 0 < (a0.extract (Int.toNat (v5_1 + 1)) a0.size).size]) (fun _ => by kernel_rfl) (fun _ => ⟨bool_eq h69, bool_eq h70, bool_eq h71, rfl, g72, trivial⟩)) ?_
              intro _
              refine GS.rekey (env' := [(0, .string a0), (5, .int .i64 v5_1), (7, .string (a0.extract (Int.toNat (v5_1 + 1)) a0.size)), (43, .bool (((((a0.extract (Int.toNat (v5_1 + 1)) a0.size).data.getD 0 0).toNat : Nat) : Int) == 48))]) (mem' := []) [0, 5, 7, 43] [] (by kernel_rfl) (by kernel_rfl) rfl ?_
              exact H73 (((((a0.extract (Int.toNat (v5_1 + 1)) a0.size).data.getD 0 0).toNat : Nat) : Int) == 48) hm
            · skip
              refine GS.region (env' := fun _ => [(0, .string a0), (5, .int .i64 v5_1), (7, .string (a0.extract (Int.toNat (v5_1 + 1)) a0.size)), (43, .bool false)]) (mem' := fun _ => []) (RunsTo.mk [(2, { sp := some (.bool false) }), (7, { sp := some (.bool false) }), (11, { sp := some (.bool false) })] [0, 5, 7, 43] [] (fun _ => [((.bool ((a0.extract (Int.toNat (v5_1 + 1)) a0.size).toList == (ByteArray.mk #[]).toList)) : Value) = .bool false, ((.bool (decide ((((a0.extract (Int.toNat (v5_1 + 1)) a0.size).size : Nat) : Int) > 5))) : Value) = .bool false, ((.bool (decide ((((a0.extract (Int.toNat (v5_1 + 1)) a0.size).size : Nat) : Int) > 1))) : Value) = .bool false]) (fun _ => by kernel_rfl) (fun _ => ⟨bool_eq h69, bool_eq h70, bool_eq h71, trivial⟩)) ?_
              intro _
              refine GS.rekey (env' := [(0, .string a0), (5, .int .i64 v5_1), (7, .string (a0.extract (Int.toNat (v5_1 + 1)) a0.size)), (43, .bool false)]) (mem' := []) [0, 5, 7, 43] [] (by kernel_rfl) (by kernel_rfl) rfl ?_
              exact H73 false hm
      · rintro v43_8 hm
        replace hm := (hJ74 _).symm.trans hm
        try dsimp only at hm
        refine GS.cond (t := v43_8) rfl rfl (fun h75 => ?_) (fun h75 => ?_)
        · replace hm := br_t h75 hm
          refine GS.seq ?_
          refine GS.region (env' := fun _ => [(2, .string (ByteArray.mk #[])), (3, .int .i64 0), (4, .bool false)]) (mem' := fun _ => []) (RunsTo.mk [] [2, 3, 4] [] (fun _ => []) (fun _ => by kernel_rfl) (fun _ => trivial)) ?_
          intro _
          have hy := Option.some.inj hm
          subst hy
          refine GS.ret (fn := Tryd.f18) [0, 0, 0] [.string (ByteArray.mk #[]), .int .i64 0, .bool false] [] rfl Tryd.func18 (by kernel_rfl) trivial (fun w' hs => ?_)
          exact ⟨(), rfl, hs.turnedG (ks := []) rfl rfl⟩
        · replace hm := br_f h75 hm
          refine GS.skip ?_
          refine GS.seq ?_
          refine GS.region (env' := fun _ => [(0, .string a0), (5, .int .i64 v5_1), (7, .string (a0.extract (Int.toNat (v5_1 + 1)) a0.size)), (8, .int .i64 0)]) (mem' := fun _ => []) (RunsTo.mk [] [0, 5, 7, 8] [] (fun _ => []) (fun _ => by kernel_rfl) (fun _ => trivial)) ?_
          intro _
          refine GS.seq ?_
          refine GS.seq ?_
          refine GS.region (env' := fun _ => [(0, .string a0), (5, .int .i64 v5_1), (7, .string (a0.extract (Int.toNat (v5_1 + 1)) a0.size)), (8, .int .i64 0), (45, .int .i64 (((a0.extract (Int.toNat (v5_1 + 1)) a0.size).size : Nat) : Int)), (46, .int .i64 0)]) (mem' := fun _ => []) (RunsTo.mk [] [0, 5, 7, 8, 45, 46] [] (fun _ => []) (fun _ => by kernel_rfl) (fun _ => trivial)) ?_
          intro _
          refine GS.block ?_
          refine GS.loop ?_
          refine grd_elim hm (fun g112 hm => ?_)
          refine GS.rekey (env' := [(0, .string a0), (5, .int .i64 v5_1), (7, .string (a0.extract (Int.toNat (v5_1 + 1)) a0.size)), (8, .int .i64 0), (45, .int .i64 (((a0.extract (Int.toNat (v5_1 + 1)) a0.size).size : Nat) : Int)), (46, .int .i64 0)]) (mem' := []) [0, 5, 7, 8, 45, 46] [] (by kernel_rfl) (by kernel_rfl) rfl ?_
          refine loopC_elim hm (fun st134 fn135 hst136 hfn137 hm => ?_)
          refine GS.loopInv (ι := Nat × Int × Nat) (I := fun ⟨rs132, v8_9, v46_9⟩ => (((((a0.extract (Int.toNat (v5_1 + 1)) a0.size).size : Nat) : Int)) - ((v46_9 : Nat) : Int) : Int).toNat = rs132 ∧ loopC st134 fn135 rs132 v46_9 v8_9 = some y) (μ := fun ⟨rs132, v8_9, v46_9⟩ => rs132) (E := fun ⟨rs132, v8_9, v46_9⟩ => [(0, .string a0), (5, .int .i64 v5_1), (7, .string (a0.extract (Int.toNat (v5_1 + 1)) a0.size)), (8, .int .i64 v8_9), (45, .int .i64 (((a0.extract (Int.toNat (v5_1 + 1)) a0.size).size : Nat) : Int)), (46, .int .i64 ((v46_9 : Nat) : Int))]) (M := fun ⟨rs132, v8_9, v46_9⟩ => []) ?_ ⟨(Int.toNat ((((a0.extract (Int.toNat (v5_1 + 1)) a0.size).size : Nat) : Int) - ((0 : Nat) : Int))), 0, 0⟩ ⟨rfl, hm⟩
          rintro ⟨rs132, v8_9, v46_9⟩ ⟨hd111, hm⟩ ih133
          cases rs132 with
          | zero =>
            replace hm := (hfn137 _ _).symm.trans hm
            try dsimp only at hm
            refine GS.seq ?_
            refine GS.region (env' := fun _ => [(0, .string a0), (5, .int .i64 v5_1), (7, .string (a0.extract (Int.toNat (v5_1 + 1)) a0.size)), (8, .int .i64 v8_9), (45, .int .i64 (((a0.extract (Int.toNat (v5_1 + 1)) a0.size).size : Nat) : Int)), (46, .int .i64 ((v46_9 : Nat) : Int)), (47, .bool (decide (((v46_9 : Nat) : Int) < (((a0.extract (Int.toNat (v5_1 + 1)) a0.size).size : Nat) : Int))))]) (mem' := fun _ => []) (RunsTo.mk [] [0, 5, 7, 8, 45, 46, 47] [] (fun _ => []) (fun _ => by kernel_rfl) (fun _ => trivial)) ?_
            intro _
            refine GS.seq ?_
            refine GS.cond (t := decide (((v46_9 : Nat) : Int) < (((a0.extract (Int.toNat (v5_1 + 1)) a0.size).size : Nat) : Int))) rfl rfl (fun h130 => absb h130 (cnt0 hd111)) (fun _ => ?_)
            refine GS.exit rfl ?_
            refine GS.seq ?_
            refine GS.seq ?_
            refine GS.region (env' := fun _ => [(0, .string a0), (5, .int .i64 v5_1), (8, .int .i64 v8_9), (69, .bool (decide (v8_9 > 65535)))]) (mem' := fun _ => []) (RunsTo.mk [] [0, 5, 8, 69] [] (fun _ => []) (fun _ => by kernel_rfl) (fun _ => trivial)) ?_
            intro _
            refine GS.cond (t := decide (v8_9 > 65535)) rfl rfl (fun h139 => ?_) (fun h139 => ?_)
            · replace hm := br_t h139 hm
              refine GS.seq ?_
              refine GS.region (env' := fun _ => [(2, .string (ByteArray.mk #[])), (3, .int .i64 0), (4, .bool false)]) (mem' := fun _ => []) (RunsTo.mk [] [2, 3, 4] [] (fun _ => []) (fun _ => by kernel_rfl) (fun _ => trivial)) ?_
              intro _
              have hy := Option.some.inj hm
              subst hy
              refine GS.ret (fn := Tryd.f18) [0, 0, 0] [.string (ByteArray.mk #[]), .int .i64 0, .bool false] [] rfl Tryd.func18 (by kernel_rfl) trivial (fun w' hs => ?_)
              exact ⟨(), rfl, hs.turnedG (ks := []) rfl rfl⟩
            · replace hm := br_f h139 hm
              refine GS.skip ?_
              refine GS.seq ?_
              refine grd_elim hm (fun g142 hm => ?_)
              refine GS.region (env' := fun _ => [(2, .string (a0.extract 0 (Int.toNat v5_1))), (3, .int .i64 v8_9), (4, .bool true)]) (mem' := fun _ => []) (RunsTo.mk [(2, { act := .cut 0 (Int.toNat v5_1) 0 })] [2, 3, 4] [] (fun _ => [0 = 0, v5_1 = (((Int.toNat v5_1) : Nat) : Int), 0 ≤ (Int.toNat v5_1), (Int.toNat v5_1) ≤ a0.size]) (fun _ => by kernel_rfl) (fun _ => ⟨rfl, g142.eq, (Nat.zero_le _), g142.2, trivial⟩)) ?_
              intro _
              have hy := Option.some.inj hm
              subst hy
              refine GS.ret (fn := Tryd.f18) [0, 0, 0] [.string (a0.extract 0 (Int.toNat v5_1)), .int .i64 v8_9, .bool true] [] rfl Tryd.func18 (by kernel_rfl) trivial (fun w' hs => ?_)
              exact ⟨(), rfl, hs.turnedG (ks := []) rfl rfl⟩
          | succ rs132 =>
            replace hm := (hst136 _ _ _).symm.trans hm
            try dsimp only at hm
            refine GS.seq ?_
            refine GS.region (env' := fun _ => [(0, .string a0), (5, .int .i64 v5_1), (7, .string (a0.extract (Int.toNat (v5_1 + 1)) a0.size)), (8, .int .i64 v8_9), (45, .int .i64 (((a0.extract (Int.toNat (v5_1 + 1)) a0.size).size : Nat) : Int)), (46, .int .i64 ((v46_9 : Nat) : Int)), (47, .bool (decide (((v46_9 : Nat) : Int) < (((a0.extract (Int.toNat (v5_1 + 1)) a0.size).size : Nat) : Int))))]) (mem' := fun _ => []) (RunsTo.mk [] [0, 5, 7, 8, 45, 46, 47] [] (fun _ => []) (fun _ => by kernel_rfl) (fun _ => trivial)) ?_
            intro _
            refine GS.seq ?_
            refine GS.cond (t := decide (((v46_9 : Nat) : Int) < (((a0.extract (Int.toNat (v5_1 + 1)) a0.size).size : Nat) : Int))) rfl rfl (fun _ => ?_) (fun h114 => absb (cnt1 hd111) h114)
            refine GS.skip ?_
            refine GS.seq ?_
            refine GS.block ?_
            refine GS.seq ?_
            refine GS.region (env' := fun _ => [(0, .string a0), (5, .int .i64 v5_1), (7, .string (a0.extract (Int.toNat (v5_1 + 1)) a0.size)), (8, .int .i64 v8_9), (9, .int .i64 ((v46_9 : Nat) : Int)), (45, .int .i64 (((a0.extract (Int.toNat (v5_1 + 1)) a0.size).size : Nat) : Int)), (46, .int .i64 ((v46_9 : Nat) : Int))]) (mem' := fun _ => []) (RunsTo.mk [] [0, 5, 7, 8, 9, 45, 46] [] (fun _ => []) (fun _ => by kernel_rfl) (fun _ => trivial)) ?_
            intro _
            refine GS.seq ?_
            refine GS.seq ?_
            refine jn_elim hm (fun J119 hJ121 hm => ?_)
            refine GS.cut (ι := Bool) (I := fun (v58_12 : Bool) => J119 v58_12 = some y) (E := fun (v58_12 : Bool) => [(0, .string a0), (5, .int .i64 v5_1), (7, .string (a0.extract (Int.toNat (v5_1 + 1)) a0.size)), (8, .int .i64 v8_9), (9, .int .i64 ((v46_9 : Nat) : Int)), (45, .int .i64 (((a0.extract (Int.toNat (v5_1 + 1)) a0.size).size : Nat) : Int)), (46, .int .i64 ((v46_9 : Nat) : Int)), (58, .bool v58_12)]) (M := fun (v58_12 : Bool) => []) ?_ ?_
            rotate_left
            · intro H120
              refine grd_elim hm (fun g117 hm => ?_)
              refine br_elim hm (fun h118 hm => ?_) (fun h118 hm => ?_)
              · skip
                refine GS.region (env' := fun _ => [(0, .string a0), (5, .int .i64 v5_1), (7, .string (a0.extract (Int.toNat (v5_1 + 1)) a0.size)), (8, .int .i64 v8_9), (9, .int .i64 ((v46_9 : Nat) : Int)), (45, .int .i64 (((a0.extract (Int.toNat (v5_1 + 1)) a0.size).size : Nat) : Int)), (46, .int .i64 ((v46_9 : Nat) : Int)), (58, .bool true)]) (mem' := fun _ => []) (RunsTo.mk [(2, { act := .elt v46_9 }), (4, { sp := some (.bool true) })] [0, 5, 7, 8, 9, 45, 46, 58] [] (fun _ => [(((v46_9 : Nat) : Int) : Int) = ((v46_9 : Nat) : Int), v46_9 < (a0.extract (Int.toNat (v5_1 + 1)) a0.size).size, ((.bool (decide (((((a0.extract (Int.toNat (v5_1 + 1)) a0.size).data.getD v46_9 0).toNat : Nat) : Int) < 48))) : Value) = .bool true]) (fun _ => by kernel_rfl) (fun _ => ⟨rfl, g117, bool_eq h118, trivial⟩)) ?_
                intro _
                refine GS.rekey (env' := [(0, .string a0), (5, .int .i64 v5_1), (7, .string (a0.extract (Int.toNat (v5_1 + 1)) a0.size)), (8, .int .i64 v8_9), (9, .int .i64 ((v46_9 : Nat) : Int)), (45, .int .i64 (((a0.extract (Int.toNat (v5_1 + 1)) a0.size).size : Nat) : Int)), (46, .int .i64 ((v46_9 : Nat) : Int)), (58, .bool true)]) (mem' := []) [0, 5, 7, 8, 9, 45, 46, 58] [] (by kernel_rfl) (by kernel_rfl) rfl ?_
                exact H120 true hm
              · skip
                refine GS.region (env' := fun _ => [(0, .string a0), (5, .int .i64 v5_1), (7, .string (a0.extract (Int.toNat (v5_1 + 1)) a0.size)), (8, .int .i64 v8_9), (9, .int .i64 ((v46_9 : Nat) : Int)), (45, .int .i64 (((a0.extract (Int.toNat (v5_1 + 1)) a0.size).size : Nat) : Int)), (46, .int .i64 ((v46_9 : Nat) : Int)), (58, .bool (decide (((((a0.extract (Int.toNat (v5_1 + 1)) a0.size).data.getD v46_9 0).toNat : Nat) : Int) > 57)))]) (mem' := fun _ => []) (RunsTo.mk [(2, { act := .elt v46_9 }), (4, { sp := some (.bool false) }), (7, { act := .elt v46_9 })] [0, 5, 7, 8, 9, 45, 46, 58] [] (fun _ => [(((v46_9 : Nat) : Int) : Int) = ((v46_9 : Nat) : Int), v46_9 < (a0.extract (Int.toNat (v5_1 + 1)) a0.size).size, ((.bool (decide (((((a0.extract (Int.toNat (v5_1 + 1)) a0.size).data.getD v46_9 0).toNat : Nat) : Int) < 48))) : Value) = .bool false, (((v46_9 : Nat) : Int) : Int) = ((v46_9 : Nat) : Int), v46_9 < (a0.extract (Int.toNat (v5_1 + 1)) a0.size).size]) (fun _ => by kernel_rfl) (fun _ => ⟨rfl, g117, bool_eq h118, rfl, g117, trivial⟩)) ?_
                intro _
                refine GS.rekey (env' := [(0, .string a0), (5, .int .i64 v5_1), (7, .string (a0.extract (Int.toNat (v5_1 + 1)) a0.size)), (8, .int .i64 v8_9), (9, .int .i64 ((v46_9 : Nat) : Int)), (45, .int .i64 (((a0.extract (Int.toNat (v5_1 + 1)) a0.size).size : Nat) : Int)), (46, .int .i64 ((v46_9 : Nat) : Int)), (58, .bool (decide (((((a0.extract (Int.toNat (v5_1 + 1)) a0.size).data.getD v46_9 0).toNat : Nat) : Int) > 57)))]) (mem' := []) [0, 5, 7, 8, 9, 45, 46, 58] [] (by kernel_rfl) (by kernel_rfl) rfl ?_
                exact H120 (decide (((((a0.extract (Int.toNat (v5_1 + 1)) a0.size).data.getD v46_9 0).toNat : Nat) : Int) > 57)) hm
            · rintro v58_12 hm
              replace hm := (hJ121 _).symm.trans hm
              try dsimp only at hm
              refine GS.cond (t := v58_12) rfl rfl (fun h122 => ?_) (fun h122 => ?_)
              · replace hm := br_t h122 hm
                refine GS.seq ?_
                refine GS.region (env' := fun _ => [(2, .string (ByteArray.mk #[])), (3, .int .i64 0), (4, .bool false)]) (mem' := fun _ => []) (RunsTo.mk [] [2, 3, 4] [] (fun _ => []) (fun _ => by kernel_rfl) (fun _ => trivial)) ?_
                intro _
                have hy := Option.some.inj hm
                subst hy
                refine GS.ret (fn := Tryd.f18) [0, 0, 0] [.string (ByteArray.mk #[]), .int .i64 0, .bool false] [] rfl Tryd.func18 (by kernel_rfl) trivial (fun w' hs => ?_)
                exact ⟨(), rfl, hs.turnedG (ks := []) rfl rfl⟩
              · replace hm := br_f h122 hm
                refine GS.skip ?_
                refine grd_elim hm (fun g125 hm => ?_)
                refine grd_elim hm (fun g126 hm => ?_)
                refine grd_elim hm (fun g127 hm => ?_)
                refine GS.region (env' := fun _ => [(0, .string a0), (5, .int .i64 v5_1), (7, .string (a0.extract (Int.toNat (v5_1 + 1)) a0.size)), (8, .int .i64 ((v8_9 * 10) + (IntKind.i64.wrap (IntKind.u8.wrap (((((a0.extract (Int.toNat (v5_1 + 1)) a0.size).data.getD v46_9 0).toNat : Nat) : Int) - 48))))), (45, .int .i64 (((a0.extract (Int.toNat (v5_1 + 1)) a0.size).size : Nat) : Int)), (46, .int .i64 ((v46_9 : Nat) : Int))]) (mem' := fun _ => []) (RunsTo.mk [(1, { sp := some (.int .i64 (v8_9 * 10)) }), (4, { act := .elt v46_9 }), (7, { sp := some (.int .i64 ((v8_9 * 10) + (IntKind.i64.wrap (IntKind.u8.wrap (((((a0.extract (Int.toNat (v5_1 + 1)) a0.size).data.getD v46_9 0).toNat : Nat) : Int) - 48))))) })] [0, 5, 7, 8, 45, 46] [] (fun _ => [((.int .i64 (IntKind.i64.wrap (v8_9 * 10))) : Value) = .int .i64 (v8_9 * 10), (((v46_9 : Nat) : Int) : Int) = ((v46_9 : Nat) : Int), v46_9 < (a0.extract (Int.toNat (v5_1 + 1)) a0.size).size, ((.int .i64 (IntKind.i64.wrap ((v8_9 * 10) + (IntKind.i64.wrap (IntKind.u8.wrap (((((a0.extract (Int.toNat (v5_1 + 1)) a0.size).data.getD v46_9 0).toNat : Nat) : Int) - 48)))))) : Value) = .int .i64 ((v8_9 * 10) + (IntKind.i64.wrap (IntKind.u8.wrap (((((a0.extract (Int.toNat (v5_1 + 1)) a0.size).data.getD v46_9 0).toNat : Nat) : Int) - 48))))]) (fun _ => by kernel_rfl) (fun _ => ⟨I64.w g125, rfl, g126, I64.w g127, trivial⟩)) ?_
                intro _
                refine GS.inBlock ?_
                refine GS.region (env' := fun _ => [(0, .string a0), (5, .int .i64 v5_1), (7, .string (a0.extract (Int.toNat (v5_1 + 1)) a0.size)), (8, .int .i64 ((v8_9 * 10) + (IntKind.i64.wrap (IntKind.u8.wrap (((((a0.extract (Int.toNat (v5_1 + 1)) a0.size).data.getD v46_9 0).toNat : Nat) : Int) - 48))))), (45, .int .i64 (((a0.extract (Int.toNat (v5_1 + 1)) a0.size).size : Nat) : Int)), (46, .int .i64 ((v46_9 + 1 : Nat) : Int))]) (mem' := fun _ => []) (RunsTo.mk [(0, { sp := some (.int .i64 ((v46_9 + 1 : Nat) : Int)) })] [0, 5, 7, 8, 45, 46] [] (fun _ => [((.int .i64 (IntKind.i64.wrap (((v46_9 : Nat) : Int) + 1))) : Value) = .int .i64 ((v46_9 + 1 : Nat) : Int)]) (fun _ => by kernel_rfl) (fun _ => ⟨natwB (cnt1 hd111) g112, trivial⟩)) ?_
                intro _
                refine GS.inLoop ?_
                refine GS.rekey (env' := [(0, .string a0), (5, .int .i64 v5_1), (7, .string (a0.extract (Int.toNat (v5_1 + 1)) a0.size)), (8, .int .i64 ((v8_9 * 10) + (IntKind.i64.wrap (IntKind.u8.wrap (((((a0.extract (Int.toNat (v5_1 + 1)) a0.size).data.getD v46_9 0).toNat : Nat) : Int) - 48))))), (45, .int .i64 (((a0.extract (Int.toNat (v5_1 + 1)) a0.size).size : Nat) : Int)), (46, .int .i64 ((v46_9 + 1 : Nat) : Int))]) (mem' := []) [0, 5, 7, 8, 45, 46] [] (by kernel_rfl) (by kernel_rfl) rfl ?_
                exact ih133 ⟨rs132, ((v8_9 * 10) + (IntKind.i64.wrap (IntKind.u8.wrap (((((a0.extract (Int.toNat (v5_1 + 1)) a0.size).data.getD v46_9 0).toNat : Nat) : Int) - 48)))), v46_9 + 1⟩ ⟨cntN hd111, hm⟩ (Nat.lt_succ_self _)
  | succ rs56 =>
    replace hm := (hst60 _ _ _).symm.trans hm
    try dsimp only at hm
    refine GS.seq ?_
    refine GS.region (env' := fun _ => [(0, .string a0), (5, .int .i64 v5_1), (11, .int .i64 ((a0.size : Nat) : Int)), (12, .int .i64 ((v12_1 : Nat) : Int)), (13, .bool (decide (((v12_1 : Nat) : Int) < ((a0.size : Nat) : Int))))]) (mem' := fun _ => []) (RunsTo.mk [] [0, 5, 11, 12, 13] [] (fun _ => []) (fun _ => by kernel_rfl) (fun _ => trivial)) ?_
    intro _
    refine GS.seq ?_
    refine GS.cond (t := decide (((v12_1 : Nat) : Int) < ((a0.size : Nat) : Int))) rfl rfl (fun _ => ?_) (fun h38 => absb (cnt1 hd35) h38)
    refine GS.skip ?_
    refine GS.seq ?_
    refine GS.block ?_
    refine GS.seq ?_
    refine GS.region (env' := fun _ => [(0, .string a0), (5, .int .i64 v5_1), (6, .int .i64 ((v12_1 : Nat) : Int)), (11, .int .i64 ((a0.size : Nat) : Int)), (12, .int .i64 ((v12_1 : Nat) : Int))]) (mem' := fun _ => []) (RunsTo.mk [] [0, 5, 6, 11, 12] [] (fun _ => []) (fun _ => by kernel_rfl) (fun _ => trivial)) ?_
    intro _
    refine GS.seq ?_
    refine grd_elim hm (fun g41 hm => ?_)
    refine GS.region (env' := fun _ => [(0, .string a0), (5, .int .i64 v5_1), (6, .int .i64 ((v12_1 : Nat) : Int)), (11, .int .i64 ((a0.size : Nat) : Int)), (12, .int .i64 ((v12_1 : Nat) : Int)), (18, .bool ((((a0.data.getD v12_1 0).toNat : Nat) : Int) == 46))]) (mem' := fun _ => []) (RunsTo.mk [(2, { act := .elt v12_1 })] [0, 5, 6, 11, 12, 18] [] (fun _ => [(((v12_1 : Nat) : Int) : Int) = ((v12_1 : Nat) : Int), v12_1 < a0.size]) (fun _ => by kernel_rfl) (fun _ => ⟨rfl, g41, trivial⟩)) ?_
    intro _
    refine GS.cond (t := (((a0.data.getD v12_1 0).toNat : Nat) : Int) == 46) rfl rfl (fun h42 => ?_) (fun h42 => ?_)
    · replace hm := br_t h42 hm
      refine GS.region (env' := fun _ => [(0, .string a0), (5, .int .i64 ((v12_1 : Nat) : Int)), (11, .int .i64 ((a0.size : Nat) : Int)), (12, .int .i64 ((v12_1 : Nat) : Int))]) (mem' := fun _ => []) (RunsTo.mk [] [0, 5, 11, 12] [] (fun _ => []) (fun _ => by kernel_rfl) (fun _ => trivial)) ?_
      intro _
      refine GS.inBlock ?_
      refine GS.region (env' := fun _ => [(0, .string a0), (5, .int .i64 ((v12_1 : Nat) : Int)), (11, .int .i64 ((a0.size : Nat) : Int)), (12, .int .i64 ((v12_1 + 1 : Nat) : Int))]) (mem' := fun _ => []) (RunsTo.mk [(0, { sp := some (.int .i64 ((v12_1 + 1 : Nat) : Int)) })] [0, 5, 11, 12] [] (fun _ => [((.int .i64 (IntKind.i64.wrap (((v12_1 : Nat) : Int) + 1))) : Value) = .int .i64 ((v12_1 + 1 : Nat) : Int)]) (fun _ => by kernel_rfl) (fun _ => ⟨natwB (cnt1 hd35) g36, trivial⟩)) ?_
      intro _
      refine GS.inLoop ?_
      refine GS.rekey (env' := [(0, .string a0), (5, .int .i64 ((v12_1 : Nat) : Int)), (11, .int .i64 ((a0.size : Nat) : Int)), (12, .int .i64 ((v12_1 + 1 : Nat) : Int))]) (mem' := []) [0, 5, 11, 12] [] (by kernel_rfl) (by kernel_rfl) rfl ?_
      exact ih57 ⟨rs56, ((v12_1 : Nat) : Int), v12_1 + 1⟩ ⟨cntN hd35, hm⟩ (Nat.lt_succ_self _)
    · replace hm := br_f h42 hm
      refine GS.skip ?_
      refine GS.inBlock ?_
      refine GS.region (env' := fun _ => [(0, .string a0), (5, .int .i64 v5_1), (11, .int .i64 ((a0.size : Nat) : Int)), (12, .int .i64 ((v12_1 + 1 : Nat) : Int))]) (mem' := fun _ => []) (RunsTo.mk [(0, { sp := some (.int .i64 ((v12_1 + 1 : Nat) : Int)) })] [0, 5, 11, 12] [] (fun _ => [((.int .i64 (IntKind.i64.wrap (((v12_1 : Nat) : Int) + 1))) : Value) = .int .i64 ((v12_1 + 1 : Nat) : Int)]) (fun _ => by kernel_rfl) (fun _ => ⟨natwB (cnt1 hd35) g36, trivial⟩)) ?_
      intro _
      refine GS.inLoop ?_
      refine GS.rekey (env' := [(0, .string a0), (5, .int .i64 v5_1), (11, .int .i64 ((a0.size : Nat) : Int)), (12, .int .i64 ((v12_1 + 1 : Nat) : Int))]) (mem' := []) [0, 5, 11, 12] [] (by kernel_rfl) (by kernel_rfl) rfl ?_
      exact ih57 ⟨rs56, v5_1, v12_1 + 1⟩ ⟨cntN hd35, hm⟩ (Nat.lt_succ_self _)

theorem w_stripe_Name (F : Nat) (a0 : ByteArray) (a1 : Int) {y : ByteArray} (hm : m_stripe_Name F a0 a1 = some y) : CallG Tryd.prog 19 #[.string a0, .int .i64 a1] (X := Unit) (fun (_ : Unit) => .string y) [] [glob24] (fun (_ : Unit) => []) := by
  intro w hg
  rw [m_stripe_Name] at hm
  refine GS.start (S := mayT [] [glob24]) (mem := [(1, glob24)]) Tryd.func19 rfl Tryd.ntmps19 (Nat.le_of_ble_eq_true rfl) (hg.start rfl) ?_
  refine GS.conv (env' := [(0, .string a0), (1, .int .i64 a1)]) rfl rfl ?_
  refine GS.seq ?_
  refine GS.region (env' := fun _ => [(0, .string a0), (1, .int .i64 a1)]) (mem' := fun _ => [(1, glob24)]) (RunsTo.mk [] [0, 1] [1] (fun _ => []) (fun _ => by kernel_rfl) (fun _ => trivial)) ?_
  intro _
  refine GS.seq ?_
  refine GS.seq ?_
  refine GS.region (env' := fun _ => [(0, .string a0), (1, .int .i64 a1), (6, .bool (decide (a1 < 0)))]) (mem' := fun _ => [(1, glob24)]) (RunsTo.mk [] [0, 1, 6] [1] (fun _ => []) (fun _ => by kernel_rfl) (fun _ => trivial)) ?_
  intro _
  refine GS.cond (t := decide (a1 < 0)) rfl rfl (fun h3 => ?_) (fun h3 => ?_)
  · replace hm := br_t h3 hm
    refine GS.seq ?_
    refine GS.region (env' := fun _ => [(4, .string (ByteArray.mk #[]))]) (mem' := fun _ => [(1, glob24)]) (RunsTo.mk [] [4] [1] (fun _ => []) (fun _ => by kernel_rfl) (fun _ => trivial)) ?_
    intro _
    have hy := Option.some.inj hm
    subst hy
    refine GS.ret (fn := Tryd.f19) [0] [.string (ByteArray.mk #[])] [] rfl Tryd.func19 (by kernel_rfl) trivial (fun w' hs => ?_)
    exact ⟨(), rfl, hs.turnedG (ks := []) rfl rfl⟩
  · replace hm := br_f h3 hm
    refine GS.skip ?_
    refine GS.seq ?_
    refine grd_elim hm (fun g6 hm => ?_)
    refine grd_elim hm (fun g7 hm => ?_)
    refine grd_elim hm (fun g8 hm => ?_)
    refine GS.region (env' := fun _ => [(4, .string ((a0 ++ (ByteArray.mk #[46])) ++ (ByteArray.mk (Lib.itoa a1).toArray)))]) (mem' := fun _ => [(1, glob24)]) (RunsTo.mk [(1, { act := .cat }), (3, { act := .call [1] (.string (ByteArray.mk (Lib.itoa a1).toArray)) }), (4, { act := .cat })] [4] [1] (fun _ => [a0.size + (ByteArray.mk #[46]).size ≤ 9223372036854775807, CallOK Tryd.prog 39 #[.int .i64 a1] (.string (ByteArray.mk (Lib.itoa a1).toArray)) [some (glob24)], (a0 ++ (ByteArray.mk #[46])).size + (ByteArray.mk (Lib.itoa a1).toArray).size ≤ 9223372036854775807]) (fun _ => by kernel_rfl) (fun _ => ⟨g6, (call_itoa a1 g7).ok ⟨(.inl ⟨glob24, .head _, Cov.refl _⟩), trivial⟩, g8, trivial⟩)) ?_
    intro _
    have hy := Option.some.inj hm
    subst hy
    refine GS.ret (fn := Tryd.f19) [0] [.string ((a0 ++ (ByteArray.mk #[46])) ++ (ByteArray.mk (Lib.itoa a1).toArray))] [] rfl Tryd.func19 (by kernel_rfl) trivial (fun w' hs => ?_)
    exact ⟨(), rfl, hs.turnedG (ks := []) rfl rfl⟩

theorem w_tholeref08_digits (F : Nat) (a0 : Int) {y : ByteArray} (hm : m_tholeref08_digits F a0 = some y) : CallG Tryd.prog 52 #[.int .u64 a0] (X := Unit) (fun (_ : Unit) => .string y) [] [] (fun (_ : Unit) => []) := by
  intro w hg
  rw [m_tholeref08_digits] at hm
  refine GS.start (S := mayT [] []) (mem := []) Tryd.func52 rfl Tryd.ntmps52 (Nat.le_of_ble_eq_true rfl) (hg.start rfl) ?_
  refine GS.conv (env' := [(0, .int .u64 a0)]) rfl rfl ?_
  refine GS.seq ?_
  refine GS.region (env' := fun _ => [(0, .int .u64 a0)]) (mem' := fun _ => []) (RunsTo.mk [] [0] [] (fun _ => []) (fun _ => by kernel_rfl) (fun _ => trivial)) ?_
  intro _
  refine GS.seq ?_
  refine GS.region (env' := fun _ => [(0, .int .u64 a0), (3, .string (ByteArray.mk #[]))]) (mem' := fun _ => []) (RunsTo.mk [] [0, 3] [] (fun _ => []) (fun _ => by kernel_rfl) (fun _ => trivial)) ?_
  intro _
  refine GS.seq ?_
  refine GS.block ?_
  refine GS.loop ?_
  refine GS.rekey (env' := [(0, .int .u64 a0), (3, .string (ByteArray.mk #[]))]) (mem' := []) [0, 3] [] (by kernel_rfl) (by kernel_rfl) rfl ?_
  refine loopW_elim hm (fun st25 hst27 hm => ?_)
  refine GS.loopInv (ι := Nat × Int × ByteArray) (I := fun ⟨rs23, v0_1, v3_1⟩ => loopW st25 rs23 (v0_1, v3_1) = some y) (μ := fun ⟨rs23, v0_1, v3_1⟩ => rs23) (E := fun ⟨rs23, v0_1, v3_1⟩ => [(0, .int .u64 v0_1), (3, .string v3_1)]) (M := fun ⟨rs23, v0_1, v3_1⟩ => []) ?_ ⟨F, a0, (ByteArray.mk #[])⟩ hm
  rintro ⟨rs23, v0_1, v3_1⟩ hm ih24
  cases rs23 with
  | zero => cases hm
  | succ rs23 =>
    replace hm := (hst27 _ _).symm.trans hm
    try dsimp only at hm
    refine GS.seq ?_
    refine GS.seq ?_
    refine GS.region (env' := fun _ => [(0, .int .u64 v0_1), (3, .string v3_1), (5, .bool (decide (v0_1 > 9)))]) (mem' := fun _ => []) (RunsTo.mk [] [0, 3, 5] [] (fun _ => []) (fun _ => by kernel_rfl) (fun _ => trivial)) ?_
    intro _
    refine GS.cond (t := decide (v0_1 > 9)) rfl rfl (fun h17 => ?_) (fun h17 => ?_)
    · replace hm := br_t h17 hm
      refine GS.skip ?_
      refine GS.block ?_
      refine GS.seq ?_
      refine grd_elim hm (fun g19 hm => ?_)
      refine grd_elim hm (fun g20 hm => ?_)
      refine GS.region (env' := fun fr18 => [(0, .int .u64 v0_1), (3, .string ((ByteArray.mk [(UInt8.ofNat (Int.toNat (IntKind.u8.wrap (IntKind.u64.wrap (48 + (Int.tmod v0_1 10))))))].toArray) ++ v3_1))]) (mem' := fun fr18 => []) (RunsTo.mk [(4, { act := .new (.row 1 1), key := some 1, spf := some (fun f => .slice (some (Addr.mk f.x 0 none)) ([(UInt8.ofNat (Int.toNat (IntKind.u8.wrap (IntKind.u64.wrap (48 + (Int.tmod v0_1 10))))))].length) 1) }), (5, { act := .text 1 [(UInt8.ofNat (Int.toNat (IntKind.u8.wrap (IntKind.u64.wrap (48 + (Int.tmod v0_1 10))))))] }), (7, { act := .cat })] [0, 3] [] (fun fr18 => [((.slice (some (Addr.mk (fr18 4).x 0 none)) 1 1) : Value) = .slice (some (Addr.mk (fr18 4).x 0 none)) ([(UInt8.ofNat (Int.toNat (IntKind.u8.wrap (IntKind.u64.wrap (48 + (Int.tmod v0_1 10))))))].length) 1, (some (Addr.mk (fr18 4).x 0 none)) = (some (Addr.mk (fr18 4).x 0 none)), [(UInt8.ofNat (Int.toNat (IntKind.u8.wrap (IntKind.u64.wrap (48 + (Int.tmod v0_1 10))))))].length = ([[.int .u8 (IntKind.u8.wrap (IntKind.u64.wrap (48 + (Int.tmod v0_1 10))))]] : List (List Value)).length, ([[.int .u8 (IntKind.u8.wrap (IntKind.u64.wrap (48 + (Int.tmod v0_1 10))))]] : List (List Value)) = encB [(UInt8.ofNat (Int.toNat (IntKind.u8.wrap (IntKind.u64.wrap (48 + (Int.tmod v0_1 10))))))], (ByteArray.mk [(UInt8.ofNat (Int.toNat (IntKind.u8.wrap (IntKind.u64.wrap (48 + (Int.tmod v0_1 10))))))].toArray).size + v3_1.size ≤ 9223372036854775807]) (fun fr18 => by kernel_rfl) (fun fr18 => ⟨rfl, rfl, (by rw [show ([[.int .u8 (IntKind.u8.wrap (IntKind.u64.wrap (48 + (Int.tmod v0_1 10))))]] : List (List Value)) = List.map rB [(UInt8.ofNat (Int.toNat (IntKind.u8.wrap (IntKind.u64.wrap (48 + (Int.tmod v0_1 10))))))] from (one_u8 g19)]; exact mlen rB [(UInt8.ofNat (Int.toNat (IntKind.u8.wrap (IntKind.u64.wrap (48 + (Int.tmod v0_1 10))))))]), (one_u8 g19), g20, trivial⟩)) ?_
      intro fr18
      refine GS.region (env' := fun _ => [(0, .int .u64 (IntKind.u64.wrap (Int.tdiv v0_1 10))), (3, .string ((ByteArray.mk [(UInt8.ofNat (Int.toNat (IntKind.u8.wrap (IntKind.u64.wrap (48 + (Int.tmod v0_1 10))))))].toArray) ++ v3_1))]) (mem' := fun _ => []) (RunsTo.mk [] [0, 3] [] (fun _ => []) (fun _ => by kernel_rfl) (fun _ => trivial)) ?_
      intro _
      refine GS.inBlock ?_
      refine GS.inLoop ?_
      refine GS.rekey (env' := [(0, .int .u64 (IntKind.u64.wrap (Int.tdiv v0_1 10))), (3, .string ((ByteArray.mk [(UInt8.ofNat (Int.toNat (IntKind.u8.wrap (IntKind.u64.wrap (48 + (Int.tmod v0_1 10))))))].toArray) ++ v3_1))]) (mem' := []) [0, 3] [] (by kernel_rfl) (by kernel_rfl) rfl ?_
      exact ih24 ⟨rs23, (IntKind.u64.wrap (Int.tdiv v0_1 10)), ((ByteArray.mk [(UInt8.ofNat (Int.toNat (IntKind.u8.wrap (IntKind.u64.wrap (48 + (Int.tmod v0_1 10))))))].toArray) ++ v3_1)⟩ hm (Nat.lt_succ_self _)
    · replace hm := br_f h17 hm
      refine GS.exit rfl ?_
      refine GS.seq ?_
      refine grd_elim hm (fun g30 hm => ?_)
      refine grd_elim hm (fun g31 hm => ?_)
      refine GS.region (env' := fun fr29 => [(2, .string ((ByteArray.mk [(UInt8.ofNat (Int.toNat (IntKind.u8.wrap (IntKind.u64.wrap (48 + v0_1)))))].toArray) ++ v3_1))]) (mem' := fun fr29 => []) (RunsTo.mk [(3, { act := .new (.row 1 1), key := some 1, spf := some (fun f => .slice (some (Addr.mk f.x 0 none)) ([(UInt8.ofNat (Int.toNat (IntKind.u8.wrap (IntKind.u64.wrap (48 + v0_1)))))].length) 1) }), (4, { act := .text 1 [(UInt8.ofNat (Int.toNat (IntKind.u8.wrap (IntKind.u64.wrap (48 + v0_1)))))] }), (6, { act := .cat })] [2] [] (fun fr29 => [((.slice (some (Addr.mk (fr29 3).x 0 none)) 1 1) : Value) = .slice (some (Addr.mk (fr29 3).x 0 none)) ([(UInt8.ofNat (Int.toNat (IntKind.u8.wrap (IntKind.u64.wrap (48 + v0_1)))))].length) 1, (some (Addr.mk (fr29 3).x 0 none)) = (some (Addr.mk (fr29 3).x 0 none)), [(UInt8.ofNat (Int.toNat (IntKind.u8.wrap (IntKind.u64.wrap (48 + v0_1)))))].length = ([[.int .u8 (IntKind.u8.wrap (IntKind.u64.wrap (48 + v0_1)))]] : List (List Value)).length, ([[.int .u8 (IntKind.u8.wrap (IntKind.u64.wrap (48 + v0_1)))]] : List (List Value)) = encB [(UInt8.ofNat (Int.toNat (IntKind.u8.wrap (IntKind.u64.wrap (48 + v0_1)))))], (ByteArray.mk [(UInt8.ofNat (Int.toNat (IntKind.u8.wrap (IntKind.u64.wrap (48 + v0_1)))))].toArray).size + v3_1.size ≤ 9223372036854775807]) (fun fr29 => by kernel_rfl) (fun fr29 => ⟨rfl, rfl, (by rw [show ([[.int .u8 (IntKind.u8.wrap (IntKind.u64.wrap (48 + v0_1)))]] : List (List Value)) = List.map rB [(UInt8.ofNat (Int.toNat (IntKind.u8.wrap (IntKind.u64.wrap (48 + v0_1)))))] from (one_u8 g30)]; exact mlen rB [(UInt8.ofNat (Int.toNat (IntKind.u8.wrap (IntKind.u64.wrap (48 + v0_1)))))]), (one_u8 g30), g31, trivial⟩)) ?_
      intro fr29
      have hy := Option.some.inj hm
      subst hy
      refine GS.ret (fn := Tryd.f52) [0] [.string ((ByteArray.mk [(UInt8.ofNat (Int.toNat (IntKind.u8.wrap (IntKind.u64.wrap (48 + v0_1)))))].toArray) ++ v3_1)] [] rfl Tryd.func52 (by kernel_rfl) trivial (fun w' hs => ?_)
      exact ⟨(), rfl, hs.turnedG (ks := []) rfl rfl⟩

theorem w_tholeref08_text (F : Nat) (a0 : Int) {y : ByteArray} (hm : m_tholeref08_text F a0 = some y) : CallG Tryd.prog 45 #[.int .i64 a0] (X := Unit) (fun (_ : Unit) => .string y) [] [] (fun (_ : Unit) => []) := by
  intro w hg
  rw [m_tholeref08_text] at hm
  refine GS.start (S := mayT [] []) (mem := []) Tryd.func45 rfl Tryd.ntmps45 (Nat.le_of_ble_eq_true rfl) (hg.start rfl) ?_
  refine GS.conv (env' := [(0, .int .i64 a0)]) rfl rfl ?_
  refine GS.seq ?_
  refine GS.region (env' := fun _ => [(0, .int .i64 a0)]) (mem' := fun _ => []) (RunsTo.mk [] [0] [] (fun _ => []) (fun _ => by kernel_rfl) (fun _ => trivial)) ?_
  intro _
  refine GS.seq ?_
  refine GS.seq ?_
  refine GS.region (env' := fun _ => [(0, .int .i64 a0), (4, .bool (decide (a0 < 0)))]) (mem' := fun _ => []) (RunsTo.mk [] [0, 4] [] (fun _ => []) (fun _ => by kernel_rfl) (fun _ => trivial)) ?_
  intro _
  refine GS.cond (t := decide (a0 < 0)) rfl rfl (fun h3 => ?_) (fun h3 => ?_)
  · replace hm := br_t h3 hm
    refine GS.seq ?_
    refine grd_elim hm (fun g5 hm => ?_)
    refine grd_elim hm (fun g6 hm => ?_)
    refine bnd_elim hm (fun y7 e8 hm => ?_)
    refine grd_elim hm (fun g9 hm => ?_)
    refine GS.region (env' := fun _ => [(2, .string ((ByteArray.mk #[45]) ++ y7))]) (mem' := fun _ => []) (RunsTo.mk [(1, { sp := some (.int .i64 (a0 + 1)) }), (2, { sp := some (.int .i64 (0 - (a0 + 1))) }), (5, { act := .call [] (.string y7) }), (6, { act := .cat })] [2] [] (fun _ => [((.int .i64 (IntKind.i64.wrap (a0 + 1))) : Value) = .int .i64 (a0 + 1), ((.int .i64 (IntKind.i64.wrap (0 - (a0 + 1)))) : Value) = .int .i64 (0 - (a0 + 1)), CallOK Tryd.prog 52 #[.int .u64 (IntKind.u64.wrap ((IntKind.u64.wrap (0 - (a0 + 1))) + 1))] (.string y7) [], (ByteArray.mk #[45]).size + y7.size ≤ 9223372036854775807]) (fun _ => by kernel_rfl) (fun _ => ⟨I64.w g5, I64.w g6, (w_tholeref08_digits F (IntKind.u64.wrap ((IntKind.u64.wrap (0 - (a0 + 1))) + 1)) e8).ok trivial, g9, trivial⟩)) ?_
    intro _
    have hy := Option.some.inj hm
    subst hy
    refine GS.ret (fn := Tryd.f45) [0] [.string ((ByteArray.mk #[45]) ++ y7)] [] rfl Tryd.func45 (by kernel_rfl) trivial (fun w' hs => ?_)
    exact ⟨(), rfl, hs.turnedG (ks := []) rfl rfl⟩
  · replace hm := br_f h3 hm
    refine GS.skip ?_
    refine GS.seq ?_
    refine bnd_elim hm (fun y11 e12 hm => ?_)
    refine GS.region (env' := fun _ => [(2, .string y11)]) (mem' := fun _ => []) (RunsTo.mk [(2, { act := .call [] (.string y11) })] [2] [] (fun _ => [CallOK Tryd.prog 52 #[.int .u64 (IntKind.u64.wrap a0)] (.string y11) []]) (fun _ => by kernel_rfl) (fun _ => ⟨(w_tholeref08_digits F (IntKind.u64.wrap a0) e12).ok trivial, trivial⟩)) ?_
    intro _
    have hy := Option.some.inj hm
    subst hy
    refine GS.ret (fn := Tryd.f45) [0] [.string y11] [] rfl Tryd.func45 (by kernel_rfl) trivial (fun w' hs => ?_)
    exact ⟨(), rfl, hs.turnedG (ks := []) rfl rfl⟩

theorem w_tholeref08_Text (F : Nat) (a0 : Int) {y : ByteArray} (hm : m_tholeref08_Text F a0 = some y) : CallG Tryd.prog 40 #[.int .i64 a0] (X := Unit) (fun (_ : Unit) => .string y) [] [] (fun (_ : Unit) => []) := by
  intro w hg
  rw [m_tholeref08_Text] at hm
  refine GS.start (S := mayT [] []) (mem := []) Tryd.func40 rfl Tryd.ntmps40 (Nat.le_of_ble_eq_true rfl) (hg.start rfl) ?_
  refine GS.conv (env' := [(0, .int .i64 a0)]) rfl rfl ?_
  refine GS.seq ?_
  refine GS.region (env' := fun _ => [(0, .int .i64 a0)]) (mem' := fun _ => []) (RunsTo.mk [] [0] [] (fun _ => []) (fun _ => by kernel_rfl) (fun _ => trivial)) ?_
  intro _
  refine GS.seq ?_
  refine bnd_elim hm (fun y3 e4 hm => ?_)
  refine GS.region (env' := fun _ => [(2, .string y3)]) (mem' := fun _ => []) (RunsTo.mk [(1, { act := .call [] (.string y3) })] [2] [] (fun _ => [CallOK Tryd.prog 45 #[.int .i64 a0] (.string y3) []]) (fun _ => by kernel_rfl) (fun _ => ⟨(w_tholeref08_text F a0 e4).ok trivial, trivial⟩)) ?_
  intro _
  have hy := Option.some.inj hm
  subst hy
  refine GS.ret (fn := Tryd.f40) [0] [.string y3] [] rfl Tryd.func40 (by kernel_rfl) trivial (fun w' hs => ?_)
  exact ⟨(), rfl, hs.turnedG (ks := []) rfl rfl⟩

theorem w_tholeref24_Name (F : Nat) (a0 : ByteArray) (a1 : Int) {y : ByteArray} (hm : m_tholeref24_Name F a0 a1 = some y) : CallG Tryd.prog 20 #[.string a0, .int .i64 a1] (X := Unit) (fun (_ : Unit) => .string y) [] [] (fun (_ : Unit) => []) := by
  intro w hg
  rw [m_tholeref24_Name] at hm
  refine GS.start (S := mayT [] []) (mem := []) Tryd.func20 rfl Tryd.ntmps20 (Nat.le_of_ble_eq_true rfl) (hg.start rfl) ?_
  refine GS.conv (env' := [(0, .string a0), (1, .int .i64 a1)]) rfl rfl ?_
  refine GS.seq ?_
  refine GS.region (env' := fun _ => [(0, .string a0), (1, .int .i64 a1)]) (mem' := fun _ => []) (RunsTo.mk [] [0, 1] [] (fun _ => []) (fun _ => by kernel_rfl) (fun _ => trivial)) ?_
  intro _
  refine GS.seq ?_
  refine GS.seq ?_
  refine GS.region (env' := fun _ => [(0, .string a0), (1, .int .i64 a1), (6, .bool (decide (a1 < 0)))]) (mem' := fun _ => []) (RunsTo.mk [] [0, 1, 6] [] (fun _ => []) (fun _ => by kernel_rfl) (fun _ => trivial)) ?_
  intro _
  refine GS.cond (t := decide (a1 < 0)) rfl rfl (fun h3 => ?_) (fun h3 => ?_)
  · replace hm := br_t h3 hm
    refine GS.seq ?_
    refine GS.region (env' := fun _ => [(4, .string (ByteArray.mk #[]))]) (mem' := fun _ => []) (RunsTo.mk [] [4] [] (fun _ => []) (fun _ => by kernel_rfl) (fun _ => trivial)) ?_
    intro _
    have hy := Option.some.inj hm
    subst hy
    refine GS.ret (fn := Tryd.f20) [0] [.string (ByteArray.mk #[])] [] rfl Tryd.func20 (by kernel_rfl) trivial (fun w' hs => ?_)
    exact ⟨(), rfl, hs.turnedG (ks := []) rfl rfl⟩
  · replace hm := br_f h3 hm
    refine GS.skip ?_
    refine GS.seq ?_
    refine grd_elim hm (fun g6 hm => ?_)
    refine bnd_elim hm (fun y7 e8 hm => ?_)
    refine grd_elim hm (fun g9 hm => ?_)
    refine GS.region (env' := fun _ => [(4, .string ((a0 ++ (ByteArray.mk #[46])) ++ y7))]) (mem' := fun _ => []) (RunsTo.mk [(1, { act := .cat }), (3, { act := .call [] (.string y7) }), (4, { act := .cat })] [4] [] (fun _ => [a0.size + (ByteArray.mk #[46]).size ≤ 9223372036854775807, CallOK Tryd.prog 40 #[.int .i64 a1] (.string y7) [], (a0 ++ (ByteArray.mk #[46])).size + y7.size ≤ 9223372036854775807]) (fun _ => by kernel_rfl) (fun _ => ⟨g6, (w_tholeref08_Text F a1 e8).ok trivial, g9, trivial⟩)) ?_
    intro _
    have hy := Option.some.inj hm
    subst hy
    refine GS.ret (fn := Tryd.f20) [0] [.string ((a0 ++ (ByteArray.mk #[46])) ++ y7)] [] rfl Tryd.func20 (by kernel_rfl) trivial (fun w' hs => ?_)
    exact ⟨(), rfl, hs.turnedG (ks := []) rfl rfl⟩

theorem w_stripe_Good (F : Nat) (a0 : S_stripe_Layout) {y : Bool} (hm : m_stripe_Good F a0 = some y) : CallG Tryd.prog 12 #[.agg #[.int .i64 a0.Unit, .int .i64 a0.Count, .int .i64 a0.Size]] (X := Unit) (fun (_ : Unit) => .bool y) [] [] (fun (_ : Unit) => []) := by
  intro w hg
  rw [m_stripe_Good] at hm
  refine GS.start (S := mayT [] []) (mem := []) Tryd.func12 rfl Tryd.ntmps12 (Nat.le_of_ble_eq_true rfl) (hg.start rfl) ?_
  refine GS.conv (env' := [(0, .agg #[.int .i64 a0.Unit, .int .i64 a0.Count, .int .i64 a0.Size])]) rfl rfl ?_
  refine GS.seq ?_
  refine GS.region (env' := fun fr1 => [(1, .pointer (some ⟨(fr1 0).x, 0, none⟩))]) (mem' := fun fr1 => [(1, .cells ((fr1 0).x) 23 [.int .i64 a0.Unit, .int .i64 a0.Count, .int .i64 a0.Size])]) (RunsTo.mk [(0, { act := .new .var, key := some 1 })] [1] [1] (fun fr1 => []) (fun fr1 => by kernel_rfl) (fun fr1 => trivial)) ?_
  intro fr1
  refine GS.seq ?_
  refine br_elim hm (fun h3 hm => ?_) (fun h3 hm => ?_)
  · skip
    refine br_elim hm (fun h4 hm => ?_) (fun h4 hm => ?_)
    · skip
      refine br_elim hm (fun h5 hm => ?_) (fun h5 hm => ?_)
      · skip
        refine br_elim hm (fun h6 hm => ?_) (fun h6 hm => ?_)
        · skip
          refine br_elim hm (fun h7 hm => ?_) (fun h7 hm => ?_)
          · skip
            refine br_elim hm (fun h8 hm => ?_) (fun h8 hm => ?_)
            · skip
              refine grd_elim hm (fun g9 hm => ?_)
              refine GS.region (env' := fun _ => [(2, .bool ((Int.tmod a0.Size a0.Unit) == 0))]) (mem' := fun _ => []) (RunsTo.mk [(1, { act := .load 1 0 0 [] }), (3, { sp := some (.bool true) }), (5, { act := .load 1 0 0 [] }), (8, { sp := some (.bool true) }), (10, { act := .load 1 0 0 [] }), (13, { sp := some (.bool true) }), (15, { act := .load 1 0 0 [] }), (18, { sp := some (.bool true) }), (20, { act := .load 1 0 0 [] }), (22, { act := .load 1 0 0 [] }), (25, { sp := some (.bool true) }), (27, { act := .load 1 0 0 [] }), (30, { sp := some (.bool true) }), (32, { act := .load 1 0 0 [] }), (34, { act := .load 1 0 0 [] }), (35, { act := .div })] [2] [] (fun _ => [(fr1 0).x = (fr1 0).x, ((.bool (decide (a0.Unit ≥ 1))) : Value) = .bool true, (fr1 0).x = (fr1 0).x, ((.bool (decide (a0.Unit ≤ 4096))) : Value) = .bool true, (fr1 0).x = (fr1 0).x, ((.bool (decide (a0.Count ≥ 1))) : Value) = .bool true, (fr1 0).x = (fr1 0).x, ((.bool (decide (a0.Count ≤ 16))) : Value) = .bool true, (fr1 0).x = (fr1 0).x, (fr1 0).x = (fr1 0).x, ((.bool (decide (a0.Size ≥ a0.Unit))) : Value) = .bool true, (fr1 0).x = (fr1 0).x, ((.bool (decide (a0.Size ≤ 4096))) : Value) = .bool true, (fr1 0).x = (fr1 0).x, (fr1 0).x = (fr1 0).x, a0.Unit ≠ 0]) (fun _ => by kernel_rfl) (fun _ => ⟨rfl, bool_eq h3, rfl, bool_eq h4, rfl, bool_eq h5, rfl, bool_eq h6, rfl, rfl, bool_eq h7, rfl, bool_eq h8, rfl, rfl, g9, trivial⟩)) ?_
              intro _
              have hy := Option.some.inj hm
              subst hy
              refine GS.ret (fn := Tryd.f12) [0] [.bool ((Int.tmod a0.Size a0.Unit) == 0)] [] rfl Tryd.func12 (by kernel_rfl) trivial (fun w' hs => ?_)
              exact ⟨(), rfl, hs.turnedG (ks := []) rfl rfl⟩
            · skip
              refine GS.region (env' := fun _ => [(2, .bool false)]) (mem' := fun _ => []) (RunsTo.mk [(1, { act := .load 1 0 0 [] }), (3, { sp := some (.bool true) }), (5, { act := .load 1 0 0 [] }), (8, { sp := some (.bool true) }), (10, { act := .load 1 0 0 [] }), (13, { sp := some (.bool true) }), (15, { act := .load 1 0 0 [] }), (18, { sp := some (.bool true) }), (20, { act := .load 1 0 0 [] }), (22, { act := .load 1 0 0 [] }), (25, { sp := some (.bool true) }), (27, { act := .load 1 0 0 [] }), (30, { sp := some (.bool false) })] [2] [] (fun _ => [(fr1 0).x = (fr1 0).x, ((.bool (decide (a0.Unit ≥ 1))) : Value) = .bool true, (fr1 0).x = (fr1 0).x, ((.bool (decide (a0.Unit ≤ 4096))) : Value) = .bool true, (fr1 0).x = (fr1 0).x, ((.bool (decide (a0.Count ≥ 1))) : Value) = .bool true, (fr1 0).x = (fr1 0).x, ((.bool (decide (a0.Count ≤ 16))) : Value) = .bool true, (fr1 0).x = (fr1 0).x, (fr1 0).x = (fr1 0).x, ((.bool (decide (a0.Size ≥ a0.Unit))) : Value) = .bool true, (fr1 0).x = (fr1 0).x, ((.bool (decide (a0.Size ≤ 4096))) : Value) = .bool false]) (fun _ => by kernel_rfl) (fun _ => ⟨rfl, bool_eq h3, rfl, bool_eq h4, rfl, bool_eq h5, rfl, bool_eq h6, rfl, rfl, bool_eq h7, rfl, bool_eq h8, trivial⟩)) ?_
              intro _
              have hy := Option.some.inj hm
              subst hy
              refine GS.ret (fn := Tryd.f12) [0] [.bool false] [] rfl Tryd.func12 (by kernel_rfl) trivial (fun w' hs => ?_)
              exact ⟨(), rfl, hs.turnedG (ks := []) rfl rfl⟩
          · skip
            refine GS.region (env' := fun _ => [(2, .bool false)]) (mem' := fun _ => []) (RunsTo.mk [(1, { act := .load 1 0 0 [] }), (3, { sp := some (.bool true) }), (5, { act := .load 1 0 0 [] }), (8, { sp := some (.bool true) }), (10, { act := .load 1 0 0 [] }), (13, { sp := some (.bool true) }), (15, { act := .load 1 0 0 [] }), (18, { sp := some (.bool true) }), (20, { act := .load 1 0 0 [] }), (22, { act := .load 1 0 0 [] }), (25, { sp := some (.bool false) })] [2] [] (fun _ => [(fr1 0).x = (fr1 0).x, ((.bool (decide (a0.Unit ≥ 1))) : Value) = .bool true, (fr1 0).x = (fr1 0).x, ((.bool (decide (a0.Unit ≤ 4096))) : Value) = .bool true, (fr1 0).x = (fr1 0).x, ((.bool (decide (a0.Count ≥ 1))) : Value) = .bool true, (fr1 0).x = (fr1 0).x, ((.bool (decide (a0.Count ≤ 16))) : Value) = .bool true, (fr1 0).x = (fr1 0).x, (fr1 0).x = (fr1 0).x, ((.bool (decide (a0.Size ≥ a0.Unit))) : Value) = .bool false]) (fun _ => by kernel_rfl) (fun _ => ⟨rfl, bool_eq h3, rfl, bool_eq h4, rfl, bool_eq h5, rfl, bool_eq h6, rfl, rfl, bool_eq h7, trivial⟩)) ?_
            intro _
            have hy := Option.some.inj hm
            subst hy
            refine GS.ret (fn := Tryd.f12) [0] [.bool false] [] rfl Tryd.func12 (by kernel_rfl) trivial (fun w' hs => ?_)
            exact ⟨(), rfl, hs.turnedG (ks := []) rfl rfl⟩
        · skip
          refine GS.region (env' := fun _ => [(2, .bool false)]) (mem' := fun _ => []) (RunsTo.mk [(1, { act := .load 1 0 0 [] }), (3, { sp := some (.bool true) }), (5, { act := .load 1 0 0 [] }), (8, { sp := some (.bool true) }), (10, { act := .load 1 0 0 [] }), (13, { sp := some (.bool true) }), (15, { act := .load 1 0 0 [] }), (18, { sp := some (.bool false) })] [2] [] (fun _ => [(fr1 0).x = (fr1 0).x, ((.bool (decide (a0.Unit ≥ 1))) : Value) = .bool true, (fr1 0).x = (fr1 0).x, ((.bool (decide (a0.Unit ≤ 4096))) : Value) = .bool true, (fr1 0).x = (fr1 0).x, ((.bool (decide (a0.Count ≥ 1))) : Value) = .bool true, (fr1 0).x = (fr1 0).x, ((.bool (decide (a0.Count ≤ 16))) : Value) = .bool false]) (fun _ => by kernel_rfl) (fun _ => ⟨rfl, bool_eq h3, rfl, bool_eq h4, rfl, bool_eq h5, rfl, bool_eq h6, trivial⟩)) ?_
          intro _
          have hy := Option.some.inj hm
          subst hy
          refine GS.ret (fn := Tryd.f12) [0] [.bool false] [] rfl Tryd.func12 (by kernel_rfl) trivial (fun w' hs => ?_)
          exact ⟨(), rfl, hs.turnedG (ks := []) rfl rfl⟩
      · skip
        refine GS.region (env' := fun _ => [(2, .bool false)]) (mem' := fun _ => []) (RunsTo.mk [(1, { act := .load 1 0 0 [] }), (3, { sp := some (.bool true) }), (5, { act := .load 1 0 0 [] }), (8, { sp := some (.bool true) }), (10, { act := .load 1 0 0 [] }), (13, { sp := some (.bool false) })] [2] [] (fun _ => [(fr1 0).x = (fr1 0).x, ((.bool (decide (a0.Unit ≥ 1))) : Value) = .bool true, (fr1 0).x = (fr1 0).x, ((.bool (decide (a0.Unit ≤ 4096))) : Value) = .bool true, (fr1 0).x = (fr1 0).x, ((.bool (decide (a0.Count ≥ 1))) : Value) = .bool false]) (fun _ => by kernel_rfl) (fun _ => ⟨rfl, bool_eq h3, rfl, bool_eq h4, rfl, bool_eq h5, trivial⟩)) ?_
        intro _
        have hy := Option.some.inj hm
        subst hy
        refine GS.ret (fn := Tryd.f12) [0] [.bool false] [] rfl Tryd.func12 (by kernel_rfl) trivial (fun w' hs => ?_)
        exact ⟨(), rfl, hs.turnedG (ks := []) rfl rfl⟩
    · skip
      refine GS.region (env' := fun _ => [(2, .bool false)]) (mem' := fun _ => []) (RunsTo.mk [(1, { act := .load 1 0 0 [] }), (3, { sp := some (.bool true) }), (5, { act := .load 1 0 0 [] }), (8, { sp := some (.bool false) })] [2] [] (fun _ => [(fr1 0).x = (fr1 0).x, ((.bool (decide (a0.Unit ≥ 1))) : Value) = .bool true, (fr1 0).x = (fr1 0).x, ((.bool (decide (a0.Unit ≤ 4096))) : Value) = .bool false]) (fun _ => by kernel_rfl) (fun _ => ⟨rfl, bool_eq h3, rfl, bool_eq h4, trivial⟩)) ?_
      intro _
      have hy := Option.some.inj hm
      subst hy
      refine GS.ret (fn := Tryd.f12) [0] [.bool false] [] rfl Tryd.func12 (by kernel_rfl) trivial (fun w' hs => ?_)
      exact ⟨(), rfl, hs.turnedG (ks := []) rfl rfl⟩
  · skip
    refine GS.region (env' := fun _ => [(2, .bool false)]) (mem' := fun _ => []) (RunsTo.mk [(1, { act := .load 1 0 0 [] }), (3, { sp := some (.bool false) })] [2] [] (fun _ => [(fr1 0).x = (fr1 0).x, ((.bool (decide (a0.Unit ≥ 1))) : Value) = .bool false]) (fun _ => by kernel_rfl) (fun _ => ⟨rfl, bool_eq h3, trivial⟩)) ?_
    intro _
    have hy := Option.some.inj hm
    subst hy
    refine GS.ret (fn := Tryd.f12) [0] [.bool false] [] rfl Tryd.func12 (by kernel_rfl) trivial (fun w' hs => ?_)
    exact ⟨(), rfl, hs.turnedG (ks := []) rfl rfl⟩

theorem w__stripe_Layout__set (F : Nat) (a0 : S_stripe_Layout) {y : Int} (hm : m__stripe_Layout__set F a0 = some y) : CallG Tryd.prog 36 #[.agg #[.int .i64 a0.Unit, .int .i64 a0.Count, .int .i64 a0.Size]] (X := Unit) (fun (_ : Unit) => .int .i64 y) [] [] (fun (_ : Unit) => []) := by
  intro w hg
  rw [m__stripe_Layout__set] at hm
  refine GS.start (S := mayT [] []) (mem := []) Tryd.func36 rfl Tryd.ntmps36 (Nat.le_of_ble_eq_true rfl) (hg.start rfl) ?_
  refine GS.conv (env' := [(0, .agg #[.int .i64 a0.Unit, .int .i64 a0.Count, .int .i64 a0.Size])]) rfl rfl ?_
  refine GS.seq ?_
  refine GS.region (env' := fun fr1 => [(1, .pointer (some ⟨(fr1 0).x, 0, none⟩))]) (mem' := fun fr1 => [(1, .cells ((fr1 0).x) 23 [.int .i64 a0.Unit, .int .i64 a0.Count, .int .i64 a0.Size])]) (RunsTo.mk [(0, { act := .new .var, key := some 1 })] [1] [1] (fun fr1 => []) (fun fr1 => by kernel_rfl) (fun fr1 => trivial)) ?_
  intro fr1
  refine GS.seq ?_
  refine grd_elim hm (fun g3 hm => ?_)
  refine grd_elim hm (fun g4 hm => ?_)
  refine grd_elim hm (fun g5 hm => ?_)
  refine GS.region (env' := fun _ => [(2, .int .i64 (a0.Count * (Int.tdiv a0.Size a0.Unit)))]) (mem' := fun _ => []) (RunsTo.mkd [(1, { act := .load 1 0 0 [] }), (3, { act := .load 1 0 0 [] }), (5, { act := .load 1 0 0 [] }), (6, { act := .div, sp := some (.int .i64 (Int.tdiv a0.Size a0.Unit)) }), (7, { sp := some (.int .i64 (a0.Count * (Int.tdiv a0.Size a0.Unit))) })] [2] [] (fun _ => [(fr1 0).x = (fr1 0).x, (fr1 0).x = (fr1 0).x, (fr1 0).x = (fr1 0).x, a0.Unit ≠ 0, ((.int .i64 (IntKind.i64.wrap (Int.tdiv a0.Size a0.Unit))) : Value) = .int .i64 (Int.tdiv a0.Size a0.Unit), ((.int .i64 (IntKind.i64.wrap (a0.Count * (Int.tdiv a0.Size a0.Unit)))) : Value) = .int .i64 (a0.Count * (Int.tdiv a0.Size a0.Unit))]) (by kernel_rfl) (by kernel_rfl) (fun _ => by kernel_rfl) (fun _ => ⟨rfl, rfl, rfl, g3, I64.w g4, I64.w g5, trivial⟩)) ?_
  intro _
  have hy := Option.some.inj hm
  subst hy
  refine GS.ret (fn := Tryd.f36) [0] [.int .i64 (a0.Count * (Int.tdiv a0.Size a0.Unit))] [] rfl Tryd.func36 (by kernel_rfl) trivial (fun w' hs => ?_)
  exact ⟨(), rfl, hs.turnedG (ks := []) rfl rfl⟩

theorem w_stripe_Place (F : Nat) (a0 : S_stripe_Layout) (a1 : Int) {y : Int × Int} (hm : m_stripe_Place F a0 a1 = some y) : CallG Tryd.prog 10 #[.agg #[.int .i64 a0.Unit, .int .i64 a0.Count, .int .i64 a0.Size], .int .i64 a1] (X := Unit) (fun (_ : Unit) => .tuple #[.int .i64 y.1, .int .i64 y.2]) [] [] (fun (_ : Unit) => []) := by
  intro w hg
  rw [m_stripe_Place] at hm
  refine GS.start (S := mayT [] []) (mem := []) Tryd.func10 rfl Tryd.ntmps10 (Nat.le_of_ble_eq_true rfl) (hg.start rfl) ?_
  refine GS.conv (env' := [(0, .agg #[.int .i64 a0.Unit, .int .i64 a0.Count, .int .i64 a0.Size]), (1, .int .i64 a1)]) rfl rfl ?_
  refine GS.seq ?_
  refine GS.region (env' := fun fr1 => [(1, .int .i64 a1), (2, .pointer (some ⟨(fr1 0).x, 0, none⟩))]) (mem' := fun fr1 => [(1, .cells ((fr1 0).x) 23 [.int .i64 a0.Unit, .int .i64 a0.Count, .int .i64 a0.Size])]) (RunsTo.mk [(0, { act := .new .var, key := some 1 })] [1, 2] [1] (fun fr1 => []) (fun fr1 => by kernel_rfl) (fun fr1 => trivial)) ?_
  intro fr1
  refine GS.seq ?_
  refine GS.seq ?_
  refine jn_elim hm (fun J7 hJ9 hm => ?_)
  refine GS.cut (ι := Bool) (I := fun (v18_1 : Bool) => J7 v18_1 = some y) (E := fun (v18_1 : Bool) => [(1, .int .i64 a1), (2, .pointer (some ⟨(fr1 0).x, 0, none⟩)), (18, .bool v18_1)]) (M := fun (v18_1 : Bool) => [(1, .cells ((fr1 0).x) 23 [.int .i64 a0.Unit, .int .i64 a0.Count, .int .i64 a0.Size])]) ?_ ?_
  rotate_left
  · intro H8
    refine bnd_elim hm (fun y3 e4 hm => ?_)
    refine br_elim hm (fun h5 hm => ?_) (fun h5 hm => ?_)
    · skip
      refine GS.region (env' := fun _ => [(1, .int .i64 a1), (2, .pointer (some ⟨(fr1 0).x, 0, none⟩)), (18, .bool true)]) (mem' := fun _ => [(1, .cells ((fr1 0).x) 23 [.int .i64 a0.Unit, .int .i64 a0.Count, .int .i64 a0.Size])]) (RunsTo.mk [(0, { act := .load 1 0 0 [] }), (1, { act := .call [] (.bool y3) }), (3, { sp := some (.bool true) })] [1, 2, 18] [1] (fun _ => [(fr1 0).x = (fr1 0).x, CallOK Tryd.prog 12 #[.agg #[.int .i64 a0.Unit, .int .i64 a0.Count, .int .i64 a0.Size]] (.bool y3) [], ((.bool (!y3)) : Value) = .bool true]) (fun _ => by kernel_rfl) (fun _ => ⟨rfl, (w_stripe_Good F a0 e4).ok trivial, bool_eq h5, trivial⟩)) ?_
      intro _
      refine GS.rekey (env' := [(1, .int .i64 a1), (2, .pointer (some ⟨(fr1 0).x, 0, none⟩)), (18, .bool true)]) (mem' := [(1, .cells ((fr1 0).x) 23 [.int .i64 a0.Unit, .int .i64 a0.Count, .int .i64 a0.Size])]) [1, 2, 18] [(1, 1)] (by kernel_rfl) (by kernel_rfl) rfl ?_
      exact H8 true hm
    · skip
      refine br_elim hm (fun h6 hm => ?_) (fun h6 hm => ?_)
      · skip
        refine GS.region (env' := fun _ => [(1, .int .i64 a1), (2, .pointer (some ⟨(fr1 0).x, 0, none⟩)), (18, .bool true)]) (mem' := fun _ => [(1, .cells ((fr1 0).x) 23 [.int .i64 a0.Unit, .int .i64 a0.Count, .int .i64 a0.Size])]) (RunsTo.mk [(0, { act := .load 1 0 0 [] }), (1, { act := .call [] (.bool y3) }), (3, { sp := some (.bool false) }), (7, { sp := some (.bool true) })] [1, 2, 18] [1] (fun _ => [(fr1 0).x = (fr1 0).x, CallOK Tryd.prog 12 #[.agg #[.int .i64 a0.Unit, .int .i64 a0.Count, .int .i64 a0.Size]] (.bool y3) [], ((.bool (!y3)) : Value) = .bool false, ((.bool (decide (a1 < 0))) : Value) = .bool true]) (fun _ => by kernel_rfl) (fun _ => ⟨rfl, (w_stripe_Good F a0 e4).ok trivial, bool_eq h5, bool_eq h6, trivial⟩)) ?_
        intro _
        refine GS.rekey (env' := [(1, .int .i64 a1), (2, .pointer (some ⟨(fr1 0).x, 0, none⟩)), (18, .bool true)]) (mem' := [(1, .cells ((fr1 0).x) 23 [.int .i64 a0.Unit, .int .i64 a0.Count, .int .i64 a0.Size])]) [1, 2, 18] [(1, 1)] (by kernel_rfl) (by kernel_rfl) rfl ?_
        exact H8 true hm
      · skip
        refine GS.region (env' := fun _ => [(1, .int .i64 a1), (2, .pointer (some ⟨(fr1 0).x, 0, none⟩)), (18, .bool (decide (a1 ≥ 65536)))]) (mem' := fun _ => [(1, .cells ((fr1 0).x) 23 [.int .i64 a0.Unit, .int .i64 a0.Count, .int .i64 a0.Size])]) (RunsTo.mk [(0, { act := .load 1 0 0 [] }), (1, { act := .call [] (.bool y3) }), (3, { sp := some (.bool false) }), (7, { sp := some (.bool false) })] [1, 2, 18] [1] (fun _ => [(fr1 0).x = (fr1 0).x, CallOK Tryd.prog 12 #[.agg #[.int .i64 a0.Unit, .int .i64 a0.Count, .int .i64 a0.Size]] (.bool y3) [], ((.bool (!y3)) : Value) = .bool false, ((.bool (decide (a1 < 0))) : Value) = .bool false]) (fun _ => by kernel_rfl) (fun _ => ⟨rfl, (w_stripe_Good F a0 e4).ok trivial, bool_eq h5, bool_eq h6, trivial⟩)) ?_
        intro _
        refine GS.rekey (env' := [(1, .int .i64 a1), (2, .pointer (some ⟨(fr1 0).x, 0, none⟩)), (18, .bool (decide (a1 ≥ 65536)))]) (mem' := [(1, .cells ((fr1 0).x) 23 [.int .i64 a0.Unit, .int .i64 a0.Count, .int .i64 a0.Size])]) [1, 2, 18] [(1, 1)] (by kernel_rfl) (by kernel_rfl) rfl ?_
        exact H8 (decide (a1 ≥ 65536)) hm
  · rintro v18_1 hm
    replace hm := (hJ9 _).symm.trans hm
    try dsimp only at hm
    refine GS.cond (t := v18_1) rfl rfl (fun h10 => ?_) (fun h10 => ?_)
    · replace hm := br_t h10 hm
      refine GS.seq ?_
      refine GS.region (env' := fun _ => [(4, .int .i64 0), (5, .int .i64 0)]) (mem' := fun _ => []) (RunsTo.mk [] [4, 5] [] (fun _ => []) (fun _ => by kernel_rfl) (fun _ => trivial)) ?_
      intro _
      have hy := Option.some.inj hm
      subst hy
      refine GS.ret (fn := Tryd.f10) [0, 0] [.int .i64 0, .int .i64 0] [] rfl Tryd.func10 (by kernel_rfl) trivial (fun w' hs => ?_)
      exact ⟨(), rfl, hs.turnedG (ks := []) rfl rfl⟩
    · replace hm := br_f h10 hm
      refine GS.skip ?_
      refine GS.seq ?_
      refine grd_elim hm (fun g13 hm => ?_)
      refine grd_elim hm (fun g14 hm => ?_)
      refine GS.region (env' := fun _ => [(1, .int .i64 a1), (2, .pointer (some ⟨(fr1 0).x, 0, none⟩)), (6, .int .i64 (Int.tdiv a1 a0.Unit))]) (mem' := fun _ => [(1, .cells ((fr1 0).x) 23 [.int .i64 a0.Unit, .int .i64 a0.Count, .int .i64 a0.Size])]) (RunsTo.mk [(2, { act := .load 1 0 0 [] }), (3, { act := .div, sp := some (.int .i64 (Int.tdiv a1 a0.Unit)) })] [1, 2, 6] [1] (fun _ => [(fr1 0).x = (fr1 0).x, a0.Unit ≠ 0, ((.int .i64 (IntKind.i64.wrap (Int.tdiv a1 a0.Unit))) : Value) = .int .i64 (Int.tdiv a1 a0.Unit)]) (fun _ => by kernel_rfl) (fun _ => ⟨rfl, g13, I64.w g14, trivial⟩)) ?_
      intro _
      refine GS.seq ?_
      refine bnd_elim hm (fun y16 e17 hm => ?_)
      refine grd_elim hm (fun g18 hm => ?_)
      refine GS.region (env' := fun _ => [(1, .int .i64 a1), (2, .pointer (some ⟨(fr1 0).x, 0, none⟩)), (6, .int .i64 (Int.tdiv a1 a0.Unit)), (7, .int .i64 (Int.tmod (Int.tdiv a1 a0.Unit) y16))]) (mem' := fun _ => [(1, .cells ((fr1 0).x) 23 [.int .i64 a0.Unit, .int .i64 a0.Count, .int .i64 a0.Size])]) (RunsTo.mk [(1, { act := .load 1 0 0 [] }), (2, { act := .call [] (.int .i64 y16) }), (3, { act := .div })] [1, 2, 6, 7] [1] (fun _ => [(fr1 0).x = (fr1 0).x, CallOK Tryd.prog 36 #[.agg #[.int .i64 a0.Unit, .int .i64 a0.Count, .int .i64 a0.Size]] (.int .i64 y16) [], y16 ≠ 0]) (fun _ => by kernel_rfl) (fun _ => ⟨rfl, (w__stripe_Layout__set F a0 e17).ok trivial, g18, trivial⟩)) ?_
      intro _
      refine GS.seq ?_
      refine bnd_elim hm (fun y20 e21 hm => ?_)
      refine grd_elim hm (fun g22 hm => ?_)
      refine grd_elim hm (fun g23 hm => ?_)
      refine grd_elim hm (fun g24 hm => ?_)
      refine grd_elim hm (fun g25 hm => ?_)
      refine grd_elim hm (fun g26 hm => ?_)
      refine grd_elim hm (fun g27 hm => ?_)
      refine grd_elim hm (fun g28 hm => ?_)
      refine grd_elim hm (fun g29 hm => ?_)
      refine GS.region (env' := fun _ => [(4, .int .i64 (((Int.tdiv (Int.tdiv a1 a0.Unit) y20) * a0.Count) + (Int.tmod (Int.tmod (Int.tdiv a1 a0.Unit) y16) a0.Count))), (5, .int .i64 (((Int.tdiv (Int.tmod (Int.tdiv a1 a0.Unit) y16) a0.Count) * a0.Unit) + (Int.tmod a1 a0.Unit)))]) (mem' := fun _ => []) (RunsTo.mkd [(1, { act := .load 1 0 0 [] }), (2, { act := .call [] (.int .i64 y20) }), (3, { act := .div, sp := some (.int .i64 (Int.tdiv (Int.tdiv a1 a0.Unit) y20)) }), (5, { act := .load 1 0 0 [] }), (6, { sp := some (.int .i64 ((Int.tdiv (Int.tdiv a1 a0.Unit) y20) * a0.Count)) }), (9, { act := .load 1 0 0 [] }), (10, { act := .div }), (11, { sp := some (.int .i64 (((Int.tdiv (Int.tdiv a1 a0.Unit) y20) * a0.Count) + (Int.tmod (Int.tmod (Int.tdiv a1 a0.Unit) y16) a0.Count))) }), (14, { act := .load 1 0 0 [] }), (15, { act := .div, sp := some (.int .i64 (Int.tdiv (Int.tmod (Int.tdiv a1 a0.Unit) y16) a0.Count)) }), (17, { act := .load 1 0 0 [] }), (18, { sp := some (.int .i64 ((Int.tdiv (Int.tmod (Int.tdiv a1 a0.Unit) y16) a0.Count) * a0.Unit)) }), (21, { act := .load 1 0 0 [] }), (22, { act := .div }), (23, { sp := some (.int .i64 (((Int.tdiv (Int.tmod (Int.tdiv a1 a0.Unit) y16) a0.Count) * a0.Unit) + (Int.tmod a1 a0.Unit))) })] [4, 5] [] (fun _ => [(fr1 0).x = (fr1 0).x, CallOK Tryd.prog 36 #[.agg #[.int .i64 a0.Unit, .int .i64 a0.Count, .int .i64 a0.Size]] (.int .i64 y20) [], y20 ≠ 0, ((.int .i64 (IntKind.i64.wrap (Int.tdiv (Int.tdiv a1 a0.Unit) y20))) : Value) = .int .i64 (Int.tdiv (Int.tdiv a1 a0.Unit) y20), (fr1 0).x = (fr1 0).x, ((.int .i64 (IntKind.i64.wrap ((Int.tdiv (Int.tdiv a1 a0.Unit) y20) * a0.Count))) : Value) = .int .i64 ((Int.tdiv (Int.tdiv a1 a0.Unit) y20) * a0.Count), (fr1 0).x = (fr1 0).x, a0.Count ≠ 0, ((.int .i64 (IntKind.i64.wrap (((Int.tdiv (Int.tdiv a1 a0.Unit) y20) * a0.Count) + (Int.tmod (Int.tmod (Int.tdiv a1 a0.Unit) y16) a0.Count)))) : Value) = .int .i64 (((Int.tdiv (Int.tdiv a1 a0.Unit) y20) * a0.Count) + (Int.tmod (Int.tmod (Int.tdiv a1 a0.Unit) y16) a0.Count)), (fr1 0).x = (fr1 0).x, a0.Count ≠ 0, ((.int .i64 (IntKind.i64.wrap (Int.tdiv (Int.tmod (Int.tdiv a1 a0.Unit) y16) a0.Count))) : Value) = .int .i64 (Int.tdiv (Int.tmod (Int.tdiv a1 a0.Unit) y16) a0.Count), (fr1 0).x = (fr1 0).x, ((.int .i64 (IntKind.i64.wrap ((Int.tdiv (Int.tmod (Int.tdiv a1 a0.Unit) y16) a0.Count) * a0.Unit))) : Value) = .int .i64 ((Int.tdiv (Int.tmod (Int.tdiv a1 a0.Unit) y16) a0.Count) * a0.Unit), (fr1 0).x = (fr1 0).x, a0.Unit ≠ 0, ((.int .i64 (IntKind.i64.wrap (((Int.tdiv (Int.tmod (Int.tdiv a1 a0.Unit) y16) a0.Count) * a0.Unit) + (Int.tmod a1 a0.Unit)))) : Value) = .int .i64 (((Int.tdiv (Int.tmod (Int.tdiv a1 a0.Unit) y16) a0.Count) * a0.Unit) + (Int.tmod a1 a0.Unit))]) (by kernel_rfl) (by kernel_rfl) (fun _ => by kernel_rfl) (fun _ => ⟨rfl, (w__stripe_Layout__set F a0 e21).ok trivial, g22, I64.w g23, rfl, I64.w g24, rfl, g25, I64.w g26, rfl, g25, I64.w g27, rfl, I64.w g28, rfl, g13, I64.w g29, trivial⟩)) ?_
      intro _
      have hy := Option.some.inj hm
      subst hy
      refine GS.ret (fn := Tryd.f10) [0, 0] [.int .i64 (((Int.tdiv (Int.tdiv a1 a0.Unit) y20) * a0.Count) + (Int.tmod (Int.tmod (Int.tdiv a1 a0.Unit) y16) a0.Count)), .int .i64 (((Int.tdiv (Int.tmod (Int.tdiv a1 a0.Unit) y16) a0.Count) * a0.Unit) + (Int.tmod a1 a0.Unit))] [] rfl Tryd.func10 (by kernel_rfl) trivial (fun w' hs => ?_)
      exact ⟨(), rfl, hs.turnedG (ks := []) rfl rfl⟩

end Go.Proofs.YtfdojammchbboaaDoor
