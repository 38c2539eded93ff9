/-
  CHAPTER 24: the functions do what their models say (2).
-/
import Derived.Test.YtfdojammchbboaaDoorW24a
set_option linter.unusedVariables false
set_option linter.unusedSimpArgs false
set_option maxRecDepth 100000
namespace Go.Proofs.YtfdojammchbboaaDoor
open Go Go.RowKit Sx

theorem w_internal_strconv_small (F : Nat) (a0 : Int) {y : ByteArray} (hm : m_internal_strconv_small F a0 = some y) : CallG Tryd.prog 56 #[.int .i64 a0] (X := Unit) (fun (_ : Unit) => .string y) [] [] (fun (_ : Unit) => []) := by
  intro w hg
  rw [m_internal_strconv_small] at hm
  refine GS.start (S := mayT [] []) (mem := []) Tryd.func56 rfl Tryd.ntmps56 (Nat.le_of_ble_eq_true rfl) (hg.start rfl) ?_
  refine GS.conv (env' := [(0, .int .i64 a0)]) rfl rfl ?_
  refine GS.seq ?_
  refine GS.region (env' := fun _ => [(0, .int .i64 a0)]) (mem' := fun _ => []) (RunsTo.mk [] [0] [] (fun _ => []) (fun _ => by kernel_rfl) (fun _ => trivial)) ?_
  intro _
  refine GS.seq ?_
  refine GS.seq ?_
  refine GS.region (env' := fun _ => [(0, .int .i64 a0), (4, .bool (decide (a0 < 10)))]) (mem' := fun _ => []) (RunsTo.mk [] [0, 4] [] (fun _ => []) (fun _ => by kernel_rfl) (fun _ => trivial)) ?_
  intro _
  refine GS.cond (t := decide (a0 < 10)) rfl rfl (fun h3 => ?_) (fun h3 => ?_)
  · replace hm := br_t h3 hm
    refine GS.seq ?_
    refine grd_elim hm (fun g5 hm => ?_)
    refine grd_elim hm (fun g6 hm => ?_)
    refine grd_elim hm (fun g7 hm => ?_)
    refine GS.region (env' := fun _ => [(2, .string ((ByteArray.mk #[48, 49, 50, 51, 52, 53, 54, 55, 56, 57, 97, 98, 99, 100, 101, 102, 103, 104, 105, 106, 107, 108, 109, 110, 111, 112, 113, 114, 115, 116, 117, 118, 119, 120, 121, 122]).extract (Int.toNat a0) (Int.toNat (a0 + 1))))]) (mem' := fun _ => []) (RunsTo.mk [(2, { sp := some (.int .i64 (a0 + 1)) }), (3, { act := .cut (Int.toNat a0) (Int.toNat (a0 + 1)) 0 })] [2] [] (fun _ => [((.int .i64 (IntKind.i64.wrap (a0 + 1))) : Value) = .int .i64 (a0 + 1), a0 = (((Int.toNat a0) : Nat) : Int), (a0 + 1) = (((Int.toNat (a0 + 1)) : Nat) : Int), (Int.toNat a0) ≤ (Int.toNat (a0 + 1)), (Int.toNat (a0 + 1)) ≤ (ByteArray.mk #[48, 49, 50, 51, 52, 53, 54, 55, 56, 57, 97, 98, 99, 100, 101, 102, 103, 104, 105, 106, 107, 108, 109, 110, 111, 112, 113, 114, 115, 116, 117, 118, 119, 120, 121, 122]).size]) (fun _ => by kernel_rfl) (fun _ => ⟨I64.w g5, g7.eq, g6.eq, g7.2, g6.2, trivial⟩)) ?_
    intro _
    have hy := Option.some.inj hm
    subst hy
    refine GS.ret (fn := Tryd.f56) [0] [.string ((ByteArray.mk #[48, 49, 50, 51, 52, 53, 54, 55, 56, 57, 97, 98, 99, 100, 101, 102, 103, 104, 105, 106, 107, 108, 109, 110, 111, 112, 113, 114, 115, 116, 117, 118, 119, 120, 121, 122]).extract (Int.toNat a0) (Int.toNat (a0 + 1)))] [] rfl Tryd.func56 (by kernel_rfl) trivial (fun w' hs => ?_)
    exact ⟨(), rfl, hs.turnedG (ks := []) rfl rfl⟩
  · replace hm := br_f h3 hm
    refine GS.skip ?_
    refine GS.seq ?_
    refine grd_elim hm (fun g9 hm => ?_)
    refine grd_elim hm (fun g10 hm => ?_)
    refine grd_elim hm (fun g11 hm => ?_)
    refine grd_elim hm (fun g12 hm => ?_)
    refine GS.region (env' := fun _ => [(2, .string ((ByteArray.mk #[48, 48, 48, 49, 48, 50, 48, 51, 48, 52, 48, 53, 48, 54, 48, 55, 48, 56, 48, 57, 49, 48, 49, 49, 49, 50, 49, 51, 49, 52, 49, 53, 49, 54, 49, 55, 49, 56, 49, 57, 50, 48, 50, 49, 50, 50, 50, 51, 50, 52, 50, 53, 50, 54, 50, 55, 50, 56, 50, 57, 51, 48, 51, 49, 51, 50, 51, 51, 51, 52, 51, 53, 51, 54, 51, 55, 51, 56, 51, 57, 52, 48, 52, 49, 52, 50, 52, 51, 52, 52, 52, 53, 52, 54, 52, 55, 52, 56, 52, 57, 53, 48, 53, 49, 53, 50, 53, 51, 53, 52, 53, 53, 53, 54, 53, 55, 53, 56, 53, 57, 54, 48, 54, 49, 54, 50, 54, 51, 54, 52, 54, 53, 54, 54, 54, 55, 54, 56, 54, 57, 55, 48, 55, 49, 55, 50, 55, 51, 55, 52, 55, 53, 55, 54, 55, 55, 55, 56, 55, 57, 56, 48, 56, 49, 56, 50, 56, 51, 56, 52, 56, 53, 56, 54, 56, 55, 56, 56, 56, 57, 57, 48, 57, 49, 57, 50, 57, 51, 57, 52, 57, 53, 57, 54, 57, 55, 57, 56, 57, 57]).extract (Int.toNat (a0 * 2)) (Int.toNat ((a0 * 2) + 2))))]) (mem' := fun _ => []) (RunsTo.mk [(1, { sp := some (.int .i64 (a0 * 2)) }), (3, { sp := some (.int .i64 (a0 * 2)) }), (4, { sp := some (.int .i64 ((a0 * 2) + 2)) }), (5, { act := .cut (Int.toNat (a0 * 2)) (Int.toNat ((a0 * 2) + 2)) 0 })] [2] [] (fun _ => [((.int .i64 (IntKind.i64.wrap (a0 * 2))) : Value) = .int .i64 (a0 * 2), ((.int .i64 (IntKind.i64.wrap (a0 * 2))) : Value) = .int .i64 (a0 * 2), ((.int .i64 (IntKind.i64.wrap ((a0 * 2) + 2))) : Value) = .int .i64 ((a0 * 2) + 2), (a0 * 2) = (((Int.toNat (a0 * 2)) : Nat) : Int), ((a0 * 2) + 2) = (((Int.toNat ((a0 * 2) + 2)) : Nat) : Int), (Int.toNat (a0 * 2)) ≤ (Int.toNat ((a0 * 2) + 2)), (Int.toNat ((a0 * 2) + 2)) ≤ (ByteArray.mk #[48, 48, 48, 49, 48, 50, 48, 51, 48, 52, 48, 53, 48, 54, 48, 55, 48, 56, 48, 57, 49, 48, 49, 49, 49, 50, 49, 51, 49, 52, 49, 53, 49, 54, 49, 55, 49, 56, 49, 57, 50, 48, 50, 49, 50, 50, 50, 51, 50, 52, 50, 53, 50, 54, 50, 55, 50, 56, 50, 57, 51, 48, 51, 49, 51, 50, 51, 51, 51, 52, 51, 53, 51, 54, 51, 55, 51, 56, 51, 57, 52, 48, 52, 49, 52, 50, 52, 51, 52, 52, 52, 53, 52, 54, 52, 55, 52, 56, 52, 57, 53, 48, 53, 49, 53, 50, 53, 51, 53, 52, 53, 53, 53, 54, 53, 55, 53, 56, 53, 57, 54, 48, 54, 49, 54, 50, 54, 51, 54, 52, 54, 53, 54, 54, 54, 55, 54, 56, 54, 57, 55, 48, 55, 49, 55, 50, 55, 51, 55, 52, 55, 53, 55, 54, 55, 55, 55, 56, 55, 57, 56, 48, 56, 49, 56, 50, 56, 51, 56, 52, 56, 53, 56, 54, 56, 55, 56, 56, 56, 57, 57, 48, 57, 49, 57, 50, 57, 51, 57, 52, 57, 53, 57, 54, 57, 55, 57, 56, 57, 57]).size]) (fun _ => by kernel_rfl) (fun _ => ⟨I64.w g9, I64.w g9, I64.w g10, g12.eq, g11.eq, g12.2, g11.2, trivial⟩)) ?_
    intro _
    have hy := Option.some.inj hm
    subst hy
    refine GS.ret (fn := Tryd.f56) [0] [.string ((ByteArray.mk #[48, 48, 48, 49, 48, 50, 48, 51, 48, 52, 48, 53, 48, 54, 48, 55, 48, 56, 48, 57, 49, 48, 49, 49, 49, 50, 49, 51, 49, 52, 49, 53, 49, 54, 49, 55, 49, 56, 49, 57, 50, 48, 50, 49, 50, 50, 50, 51, 50, 52, 50, 53, 50, 54, 50, 55, 50, 56, 50, 57, 51, 48, 51, 49, 51, 50, 51, 51, 51, 52, 51, 53, 51, 54, 51, 55, 51, 56, 51, 57, 52, 48, 52, 49, 52, 50, 52, 51, 52, 52, 52, 53, 52, 54, 52, 55, 52, 56, 52, 57, 53, 48, 53, 49, 53, 50, 53, 51, 53, 52, 53, 53, 53, 54, 53, 55, 53, 56, 53, 57, 54, 48, 54, 49, 54, 50, 54, 51, 54, 52, 54, 53, 54, 54, 54, 55, 54, 56, 54, 57, 55, 48, 55, 49, 55, 50, 55, 51, 55, 52, 55, 53, 55, 54, 55, 55, 55, 56, 55, 57, 56, 48, 56, 49, 56, 50, 56, 51, 56, 52, 56, 53, 56, 54, 56, 55, 56, 56, 56, 57, 57, 48, 57, 49, 57, 50, 57, 51, 57, 52, 57, 53, 57, 54, 57, 55, 57, 56, 57, 57]).extract (Int.toNat (a0 * 2)) (Int.toNat ((a0 * 2) + 2)))] [] rfl Tryd.func56 (by kernel_rfl) trivial (fun w' hs => ?_)
    exact ⟨(), rfl, hs.turnedG (ks := []) rfl rfl⟩

theorem w_math_bits_Len64 (F : Nat) (a0 : Int) {y : Int} (hm : m_math_bits_Len64 F a0 = some y) : CallG Tryd.prog 63 #[.int .u64 a0] (X := Unit) (fun (_ : Unit) => .int .i64 y) [] [] (fun (_ : Unit) => []) := by
  intro w hg
  rw [m_math_bits_Len64] at hm
  refine GS.start (S := mayT [] []) (mem := []) Tryd.func63 rfl Tryd.ntmps63 (Nat.le_of_ble_eq_true rfl) (hg.start rfl) ?_
  refine GS.conv (env' := [(0, .int .u64 a0)]) rfl rfl ?_
  refine GS.seq ?_
  refine GS.region (env' := fun _ => [(0, .int .u64 a0), (2, .int .i64 0)]) (mem' := fun _ => []) (RunsTo.mk [] [0, 2] [] (fun _ => []) (fun _ => by kernel_rfl) (fun _ => trivial)) ?_
  intro _
  refine GS.seq ?_
  refine GS.seq ?_
  refine GS.region (env' := fun _ => [(0, .int .u64 a0), (2, .int .i64 0), (4, .bool (decide (a0 ≥ 4294967296)))]) (mem' := fun _ => []) (RunsTo.mk [] [0, 2, 4] [] (fun _ => []) (fun _ => by kernel_rfl) (fun _ => trivial)) ?_
  intro _
  refine jn_elim hm (fun J6 hJ8 hm => ?_)
  refine GS.cut (ι := Int × Nat) (I := fun ⟨v0_0, v2_0⟩ => J6 (v0_0, v2_0) = some y) (E := fun ⟨v0_0, v2_0⟩ => [(0, .int .u64 v0_0), (2, .int .i64 ((v2_0 : Nat) : Int))]) (M := fun ⟨v0_0, v2_0⟩ => []) ?_ ?_
  rotate_left
  · intro H7
    refine GS.cond (t := decide (a0 ≥ 4294967296)) rfl rfl (fun h3 => ?_) (fun h3 => ?_)
    · replace hm := br_t h3 hm
      refine GS.seq ?_
      refine GS.region (env' := fun _ => [(0, .int .u64 (Int.fdiv a0 (2 ^ 32)))]) (mem' := fun _ => []) (RunsTo.mk [] [0] [] (fun _ => []) (fun _ => by kernel_rfl) (fun _ => trivial)) ?_
      intro _
      refine GS.region (env' := fun _ => [(0, .int .u64 (Int.fdiv a0 (2 ^ 32))), (2, .int .i64 32)]) (mem' := fun _ => []) (RunsTo.mk [] [0, 2] [] (fun _ => []) (fun _ => by kernel_rfl) (fun _ => trivial)) ?_
      intro _
      refine GS.rekey (env' := [(0, .int .u64 (Int.fdiv a0 (2 ^ 32))), (2, .int .i64 32)]) (mem' := []) [0, 2] [] (by kernel_rfl) (by kernel_rfl) rfl ?_
      exact H7 ⟨(Int.fdiv a0 (2 ^ 32)), 32⟩ hm
    · replace hm := br_f h3 hm
      refine GS.skip ?_
      refine GS.rekey (env' := [(0, .int .u64 a0), (2, .int .i64 0)]) (mem' := []) [0, 2] [] (by kernel_rfl) (by kernel_rfl) rfl ?_
      exact H7 ⟨a0, 0⟩ hm
  · rintro ⟨v0_0, v2_0⟩ hm
    replace hm := (hJ8 _).symm.trans hm
    try dsimp only at hm
    refine GS.seq ?_
    refine GS.seq ?_
    refine GS.region (env' := fun _ => [(0, .int .u64 v0_0), (2, .int .i64 ((v2_0 : Nat) : Int)), (8, .bool (decide (v0_0 ≥ 65536)))]) (mem' := fun _ => []) (RunsTo.mk [] [0, 2, 8] [] (fun _ => []) (fun _ => by kernel_rfl) (fun _ => trivial)) ?_
    intro _
    refine jn_elim hm (fun J14 hJ16 hm => ?_)
    refine GS.cut (ι := Int × Nat) (I := fun ⟨v0_0, v2_0⟩ => J14 (v0_0, v2_0) = some y) (E := fun ⟨v0_0, v2_0⟩ => [(0, .int .u64 v0_0), (2, .int .i64 ((v2_0 : Nat) : Int))]) (M := fun ⟨v0_0, v2_0⟩ => []) ?_ ?_
    rotate_left
    · intro H15
      refine GS.cond (t := decide (v0_0 ≥ 65536)) rfl rfl (fun h10 => ?_) (fun h10 => ?_)
      · replace hm := br_t h10 hm
        refine GS.seq ?_
        refine GS.region (env' := fun _ => [(0, .int .u64 (Int.fdiv v0_0 (2 ^ 16))), (2, .int .i64 ((v2_0 : Nat) : Int))]) (mem' := fun _ => []) (RunsTo.mk [] [0, 2] [] (fun _ => []) (fun _ => by kernel_rfl) (fun _ => trivial)) ?_
        intro _
        refine grd_elim hm (fun g13 hm => ?_)
        refine GS.region (env' := fun _ => [(0, .int .u64 (Int.fdiv v0_0 (2 ^ 16))), (2, .int .i64 ((v2_0 + 16 : Nat) : Int))]) (mem' := fun _ => []) (RunsTo.mk [(1, { sp := some (.int .i64 ((v2_0 + 16 : Nat) : Int)) })] [0, 2] [] (fun _ => [((.int .i64 (IntKind.i64.wrap (((v2_0 : Nat) : Int) + 16))) : Value) = .int .i64 ((v2_0 + 16 : Nat) : Int)]) (fun _ => by kernel_rfl) (fun _ => ⟨natw2 g13, trivial⟩)) ?_
        intro _
        refine GS.rekey (env' := [(0, .int .u64 (Int.fdiv v0_0 (2 ^ 16))), (2, .int .i64 ((v2_0 + 16 : Nat) : Int))]) (mem' := []) [0, 2] [] (by kernel_rfl) (by kernel_rfl) rfl ?_
        exact H15 ⟨(Int.fdiv v0_0 (2 ^ 16)), v2_0 + 16⟩ hm
      · replace hm := br_f h10 hm
        refine GS.skip ?_
        refine GS.rekey (env' := [(0, .int .u64 v0_0), (2, .int .i64 ((v2_0 : Nat) : Int))]) (mem' := []) [0, 2] [] (by kernel_rfl) (by kernel_rfl) rfl ?_
        exact H15 ⟨v0_0, v2_0⟩ hm
    · rintro ⟨v0_0, v2_0⟩ hm
      replace hm := (hJ16 _).symm.trans hm
      try dsimp only at hm
      refine GS.seq ?_
      refine GS.seq ?_
      refine GS.region (env' := fun _ => [(0, .int .u64 v0_0), (2, .int .i64 ((v2_0 : Nat) : Int)), (14, .bool (decide (v0_0 ≥ 256)))]) (mem' := fun _ => []) (RunsTo.mk [] [0, 2, 14] [] (fun _ => []) (fun _ => by kernel_rfl) (fun _ => trivial)) ?_
      intro _
      refine jn_elim hm (fun J22 hJ24 hm => ?_)
      refine GS.cut (ι := Int × Nat) (I := fun ⟨v0_0, v2_0⟩ => J22 (v0_0, v2_0) = some y) (E := fun ⟨v0_0, v2_0⟩ => [(0, .int .u64 v0_0), (2, .int .i64 ((v2_0 : Nat) : Int))]) (M := fun ⟨v0_0, v2_0⟩ => []) ?_ ?_
      rotate_left
      · intro H23
        refine GS.cond (t := decide (v0_0 ≥ 256)) rfl rfl (fun h18 => ?_) (fun h18 => ?_)
        · replace hm := br_t h18 hm
          refine GS.seq ?_
          refine GS.region (env' := fun _ => [(0, .int .u64 (Int.fdiv v0_0 (2 ^ 8))), (2, .int .i64 ((v2_0 : Nat) : Int))]) (mem' := fun _ => []) (RunsTo.mk [] [0, 2] [] (fun _ => []) (fun _ => by kernel_rfl) (fun _ => trivial)) ?_
          intro _
          refine grd_elim hm (fun g21 hm => ?_)
          refine GS.region (env' := fun _ => [(0, .int .u64 (Int.fdiv v0_0 (2 ^ 8))), (2, .int .i64 ((v2_0 + 8 : Nat) : Int))]) (mem' := fun _ => []) (RunsTo.mk [(1, { sp := some (.int .i64 ((v2_0 + 8 : Nat) : Int)) })] [0, 2] [] (fun _ => [((.int .i64 (IntKind.i64.wrap (((v2_0 : Nat) : Int) + 8))) : Value) = .int .i64 ((v2_0 + 8 : Nat) : Int)]) (fun _ => by kernel_rfl) (fun _ => ⟨natw2 g21, trivial⟩)) ?_
          intro _
          refine GS.rekey (env' := [(0, .int .u64 (Int.fdiv v0_0 (2 ^ 8))), (2, .int .i64 ((v2_0 + 8 : Nat) : Int))]) (mem' := []) [0, 2] [] (by kernel_rfl) (by kernel_rfl) rfl ?_
          exact H23 ⟨(Int.fdiv v0_0 (2 ^ 8)), v2_0 + 8⟩ hm
        · replace hm := br_f h18 hm
          refine GS.skip ?_
          refine GS.rekey (env' := [(0, .int .u64 v0_0), (2, .int .i64 ((v2_0 : Nat) : Int))]) (mem' := []) [0, 2] [] (by kernel_rfl) (by kernel_rfl) rfl ?_
          exact H23 ⟨v0_0, v2_0⟩ hm
      · rintro ⟨v0_0, v2_0⟩ hm
        replace hm := (hJ24 _).symm.trans hm
        try dsimp only at hm
        refine GS.seq ?_
        refine grd_elim hm (fun g26 hm => ?_)
        refine grd_elim hm (fun g27 hm => ?_)
        refine GS.region (env' := fun _ => [(2, .int .i64 (((v2_0 : Nat) : Int) + (IntKind.i64.wrap ((((ByteArray.mk #[0, 1, 2, 2, 3, 3, 3, 3, 4, 4, 4, 4, 4, 4, 4, 4, 5, 5, 5, 5, 5, 5, 5, 5, 5, 5, 5, 5, 5, 5, 5, 5, 6, 6, 6, 6, 6, 6, 6, 6, 6, 6, 6, 6, 6, 6, 6, 6, 6, 6, 6, 6, 6, 6, 6, 6, 6, 6, 6, 6, 6, 6, 6, 6, 7, 7, 7, 7, 7, 7, 7, 7, 7, 7, 7, 7, 7, 7, 7, 7, 7, 7, 7, 7, 7, 7, 7, 7, 7, 7, 7, 7, 7, 7, 7, 7, 7, 7, 7, 7, 7, 7, 7, 7, 7, 7, 7, 7, 7, 7, 7, 7, 7, 7, 7, 7, 7, 7, 7, 7, 7, 7, 7, 7, 7, 7, 7, 7, 8, 8, 8, 8, 8, 8, 8, 8, 8, 8, 8, 8, 8, 8, 8, 8, 8, 8, 8, 8, 8, 8, 8, 8, 8, 8, 8, 8, 8, 8, 8, 8, 8, 8, 8, 8, 8, 8, 8, 8, 8, 8, 8, 8, 8, 8, 8, 8, 8, 8, 8, 8, 8, 8, 8, 8, 8, 8, 8, 8, 8, 8, 8, 8, 8, 8, 8, 8, 8, 8, 8, 8, 8, 8, 8, 8, 8, 8, 8, 8, 8, 8, 8, 8, 8, 8, 8, 8, 8, 8, 8, 8, 8, 8, 8, 8, 8, 8, 8, 8, 8, 8, 8, 8, 8, 8, 8, 8, 8, 8, 8, 8, 8, 8, 8, 8, 8, 8, 8, 8, 8, 8, 8, 8, 8, 8, 8, 8]).data.getD (Int.toNat (IntKind.u8.wrap v0_0)) 0).toNat : Nat) : Int))))]) (mem' := fun _ => []) (RunsTo.mk [(3, { act := .elt (Int.toNat (IntKind.u8.wrap v0_0)) }), (5, { sp := some (.int .i64 (((v2_0 : Nat) : Int) + (IntKind.i64.wrap ((((ByteArray.mk #[0, 1, 2, 2, 3, 3, 3, 3, 4, 4, 4, 4, 4, 4, 4, 4, 5, 5, 5, 5, 5, 5, 5, 5, 5, 5, 5, 5, 5, 5, 5, 5, 6, 6, 6, 6, 6, 6, 6, 6, 6, 6, 6, 6, 6, 6, 6, 6, 6, 6, 6, 6, 6, 6, 6, 6, 6, 6, 6, 6, 6, 6, 6, 6, 7, 7, 7, 7, 7, 7, 7, 7, 7, 7, 7, 7, 7, 7, 7, 7, 7, 7, 7, 7, 7, 7, 7, 7, 7, 7, 7, 7, 7, 7, 7, 7, 7, 7, 7, 7, 7, 7, 7, 7, 7, 7, 7, 7, 7, 7, 7, 7, 7, 7, 7, 7, 7, 7, 7, 7, 7, 7, 7, 7, 7, 7, 7, 7, 8, 8, 8, 8, 8, 8, 8, 8, 8, 8, 8, 8, 8, 8, 8, 8, 8, 8, 8, 8, 8, 8, 8, 8, 8, 8, 8, 8, 8, 8, 8, 8, 8, 8, 8, 8, 8, 8, 8, 8, 8, 8, 8, 8, 8, 8, 8, 8, 8, 8, 8, 8, 8, 8, 8, 8, 8, 8, 8, 8, 8, 8, 8, 8, 8, 8, 8, 8, 8, 8, 8, 8, 8, 8, 8, 8, 8, 8, 8, 8, 8, 8, 8, 8, 8, 8, 8, 8, 8, 8, 8, 8, 8, 8, 8, 8, 8, 8, 8, 8, 8, 8, 8, 8, 8, 8, 8, 8, 8, 8, 8, 8, 8, 8, 8, 8, 8, 8, 8, 8, 8, 8, 8, 8, 8, 8, 8, 8]).data.getD (Int.toNat (IntKind.u8.wrap v0_0)) 0).toNat : Nat) : Int)))) })] [2] [] (fun _ => [((IntKind.u8.wrap v0_0) : Int) = (((Int.toNat (IntKind.u8.wrap v0_0)) : Nat) : Int), (Int.toNat (IntKind.u8.wrap v0_0)) < (ByteArray.mk #[0, 1, 2, 2, 3, 3, 3, 3, 4, 4, 4, 4, 4, 4, 4, 4, 5, 5, 5, 5, 5, 5, 5, 5, 5, 5, 5, 5, 5, 5, 5, 5, 6, 6, 6, 6, 6, 6, 6, 6, 6, 6, 6, 6, 6, 6, 6, 6, 6, 6, 6, 6, 6, 6, 6, 6, 6, 6, 6, 6, 6, 6, 6, 6, 7, 7, 7, 7, 7, 7, 7, 7, 7, 7, 7, 7, 7, 7, 7, 7, 7, 7, 7, 7, 7, 7, 7, 7, 7, 7, 7, 7, 7, 7, 7, 7, 7, 7, 7, 7, 7, 7, 7, 7, 7, 7, 7, 7, 7, 7, 7, 7, 7, 7, 7, 7, 7, 7, 7, 7, 7, 7, 7, 7, 7, 7, 7, 7, 8, 8, 8, 8, 8, 8, 8, 8, 8, 8, 8, 8, 8, 8, 8, 8, 8, 8, 8, 8, 8, 8, 8, 8, 8, 8, 8, 8, 8, 8, 8, 8, 8, 8, 8, 8, 8, 8, 8, 8, 8, 8, 8, 8, 8, 8, 8, 8, 8, 8, 8, 8, 8, 8, 8, 8, 8, 8, 8, 8, 8, 8, 8, 8, 8, 8, 8, 8, 8, 8, 8, 8, 8, 8, 8, 8, 8, 8, 8, 8, 8, 8, 8, 8, 8, 8, 8, 8, 8, 8, 8, 8, 8, 8, 8, 8, 8, 8, 8, 8, 8, 8, 8, 8, 8, 8, 8, 8, 8, 8, 8, 8, 8, 8, 8, 8, 8, 8, 8, 8, 8, 8, 8, 8, 8, 8, 8, 8]).size, ((.int .i64 (IntKind.i64.wrap (((v2_0 : Nat) : Int) + (IntKind.i64.wrap ((((ByteArray.mk #[0, 1, 2, 2, 3, 3, 3, 3, 4, 4, 4, 4, 4, 4, 4, 4, 5, 5, 5, 5, 5, 5, 5, 5, 5, 5, 5, 5, 5, 5, 5, 5, 6, 6, 6, 6, 6, 6, 6, 6, 6, 6, 6, 6, 6, 6, 6, 6, 6, 6, 6, 6, 6, 6, 6, 6, 6, 6, 6, 6, 6, 6, 6, 6, 7, 7, 7, 7, 7, 7, 7, 7, 7, 7, 7, 7, 7, 7, 7, 7, 7, 7, 7, 7, 7, 7, 7, 7, 7, 7, 7, 7, 7, 7, 7, 7, 7, 7, 7, 7, 7, 7, 7, 7, 7, 7, 7, 7, 7, 7, 7, 7, 7, 7, 7, 7, 7, 7, 7, 7, 7, 7, 7, 7, 7, 7, 7, 7, 8, 8, 8, 8, 8, 8, 8, 8, 8, 8, 8, 8, 8, 8, 8, 8, 8, 8, 8, 8, 8, 8, 8, 8, 8, 8, 8, 8, 8, 8, 8, 8, 8, 8, 8, 8, 8, 8, 8, 8, 8, 8, 8, 8, 8, 8, 8, 8, 8, 8, 8, 8, 8, 8, 8, 8, 8, 8, 8, 8, 8, 8, 8, 8, 8, 8, 8, 8, 8, 8, 8, 8, 8, 8, 8, 8, 8, 8, 8, 8, 8, 8, 8, 8, 8, 8, 8, 8, 8, 8, 8, 8, 8, 8, 8, 8, 8, 8, 8, 8, 8, 8, 8, 8, 8, 8, 8, 8, 8, 8, 8, 8, 8, 8, 8, 8, 8, 8, 8, 8, 8, 8, 8, 8, 8, 8, 8, 8]).data.getD (Int.toNat (IntKind.u8.wrap v0_0)) 0).toNat : Nat) : Int))))) : Value) = .int .i64 (((v2_0 : Nat) : Int) + (IntKind.i64.wrap ((((ByteArray.mk #[0, 1, 2, 2, 3, 3, 3, 3, 4, 4, 4, 4, 4, 4, 4, 4, 5, 5, 5, 5, 5, 5, 5, 5, 5, 5, 5, 5, 5, 5, 5, 5, 6, 6, 6, 6, 6, 6, 6, 6, 6, 6, 6, 6, 6, 6, 6, 6, 6, 6, 6, 6, 6, 6, 6, 6, 6, 6, 6, 6, 6, 6, 6, 6, 7, 7, 7, 7, 7, 7, 7, 7, 7, 7, 7, 7, 7, 7, 7, 7, 7, 7, 7, 7, 7, 7, 7, 7, 7, 7, 7, 7, 7, 7, 7, 7, 7, 7, 7, 7, 7, 7, 7, 7, 7, 7, 7, 7, 7, 7, 7, 7, 7, 7, 7, 7, 7, 7, 7, 7, 7, 7, 7, 7, 7, 7, 7, 7, 8, 8, 8, 8, 8, 8, 8, 8, 8, 8, 8, 8, 8, 8, 8, 8, 8, 8, 8, 8, 8, 8, 8, 8, 8, 8, 8, 8, 8, 8, 8, 8, 8, 8, 8, 8, 8, 8, 8, 8, 8, 8, 8, 8, 8, 8, 8, 8, 8, 8, 8, 8, 8, 8, 8, 8, 8, 8, 8, 8, 8, 8, 8, 8, 8, 8, 8, 8, 8, 8, 8, 8, 8, 8, 8, 8, 8, 8, 8, 8, 8, 8, 8, 8, 8, 8, 8, 8, 8, 8, 8, 8, 8, 8, 8, 8, 8, 8, 8, 8, 8, 8, 8, 8, 8, 8, 8, 8, 8, 8, 8, 8, 8, 8, 8, 8, 8, 8, 8, 8, 8, 8, 8, 8, 8, 8, 8, 8]).data.getD (Int.toNat (IntKind.u8.wrap v0_0)) 0).toNat : Nat) : Int)))]) (fun _ => by kernel_rfl) (fun _ => ⟨g26.eq, g26.2, I64.w g27, trivial⟩)) ?_
        intro _
        have hy := Option.some.inj hm
        subst hy
        refine GS.ret (fn := Tryd.f63) [0] [.int .i64 (((v2_0 : Nat) : Int) + (IntKind.i64.wrap ((((ByteArray.mk #[0, 1, 2, 2, 3, 3, 3, 3, 4, 4, 4, 4, 4, 4, 4, 4, 5, 5, 5, 5, 5, 5, 5, 5, 5, 5, 5, 5, 5, 5, 5, 5, 6, 6, 6, 6, 6, 6, 6, 6, 6, 6, 6, 6, 6, 6, 6, 6, 6, 6, 6, 6, 6, 6, 6, 6, 6, 6, 6, 6, 6, 6, 6, 6, 7, 7, 7, 7, 7, 7, 7, 7, 7, 7, 7, 7, 7, 7, 7, 7, 7, 7, 7, 7, 7, 7, 7, 7, 7, 7, 7, 7, 7, 7, 7, 7, 7, 7, 7, 7, 7, 7, 7, 7, 7, 7, 7, 7, 7, 7, 7, 7, 7, 7, 7, 7, 7, 7, 7, 7, 7, 7, 7, 7, 7, 7, 7, 7, 8, 8, 8, 8, 8, 8, 8, 8, 8, 8, 8, 8, 8, 8, 8, 8, 8, 8, 8, 8, 8, 8, 8, 8, 8, 8, 8, 8, 8, 8, 8, 8, 8, 8, 8, 8, 8, 8, 8, 8, 8, 8, 8, 8, 8, 8, 8, 8, 8, 8, 8, 8, 8, 8, 8, 8, 8, 8, 8, 8, 8, 8, 8, 8, 8, 8, 8, 8, 8, 8, 8, 8, 8, 8, 8, 8, 8, 8, 8, 8, 8, 8, 8, 8, 8, 8, 8, 8, 8, 8, 8, 8, 8, 8, 8, 8, 8, 8, 8, 8, 8, 8, 8, 8, 8, 8, 8, 8, 8, 8, 8, 8, 8, 8, 8, 8, 8, 8, 8, 8, 8, 8, 8, 8, 8, 8, 8, 8]).data.getD (Int.toNat (IntKind.u8.wrap v0_0)) 0).toNat : Nat) : Int)))] [] rfl Tryd.func63 (by kernel_rfl) trivial (fun w' hs => ?_)
        exact ⟨(), rfl, hs.turnedG (ks := []) rfl rfl⟩

theorem w_internal_strconv_log10Pow2 (F : Nat) (a0 : Int) {y : Int} (hm : m_internal_strconv_log10Pow2 F a0 = some y) : CallG Tryd.prog 62 #[.int .i64 a0] (X := Unit) (fun (_ : Unit) => .int .i64 y) [] [] (fun (_ : Unit) => []) := by
  intro w hg
  rw [m_internal_strconv_log10Pow2] at hm
  refine GS.start (S := mayT [] []) (mem := []) Tryd.func62 rfl Tryd.ntmps62 (Nat.le_of_ble_eq_true rfl) (hg.start rfl) ?_
  refine GS.conv (env' := [(0, .int .i64 a0)]) rfl rfl ?_
  refine GS.seq ?_
  refine GS.region (env' := fun _ => [(0, .int .i64 a0)]) (mem' := fun _ => []) (RunsTo.mk [] [0] [] (fun _ => []) (fun _ => by kernel_rfl) (fun _ => trivial)) ?_
  intro _
  refine GS.seq ?_
  refine grd_elim hm (fun g3 hm => ?_)
  refine GS.region (env' := fun _ => [(2, .int .i64 (Int.fdiv (a0 * 78913) (2 ^ 18)))]) (mem' := fun _ => []) (RunsTo.mk [(1, { sp := some (.int .i64 (a0 * 78913)) })] [2] [] (fun _ => [((.int .i64 (IntKind.i64.wrap (a0 * 78913))) : Value) = .int .i64 (a0 * 78913)]) (fun _ => by kernel_rfl) (fun _ => ⟨I64.w g3, trivial⟩)) ?_
  intro _
  have hy := Option.some.inj hm
  subst hy
  refine GS.ret (fn := Tryd.f62) [0] [.int .i64 (Int.fdiv (a0 * 78913) (2 ^ 18))] [] rfl Tryd.func62 (by kernel_rfl) trivial (fun w' hs => ?_)
  exact ⟨(), rfl, hs.turnedG (ks := []) rfl rfl⟩

theorem w_internal_strconv_FormatInt (F : Nat) (a0 : Int) (a1 : Int) {y : ByteArray} (hm : m_internal_strconv_FormatInt F a0 a1 = some y) : CallG Tryd.prog 51 #[.int .i64 a0, .int .i64 a1] (X := Unit) (fun (_ : Unit) => .string y) [] [] (fun (_ : Unit) => []) := by
  intro w hg
  rw [m_internal_strconv_FormatInt] at hm
  refine GS.start (S := mayT [] []) (mem := []) Tryd.func51 rfl Tryd.ntmps51 (Nat.le_of_ble_eq_true rfl) (hg.start rfl) ?_
  refine GS.conv (env' := [(0, .int .i64 a0), (1, .int .i64 a1)]) rfl rfl ?_
  refine GS.seq ?_
  refine GS.region (env' := fun _ => [(0, .int .i64 a0), (1, .int .i64 a1)]) (mem' := fun _ => []) (RunsTo.mk [] [0, 1] [] (fun _ => []) (fun _ => by kernel_rfl) (fun _ => trivial)) ?_
  intro _
  refine GS.seq ?_
  refine GS.seq ?_
  refine GS.region (env' := fun _ => [(0, .int .i64 a0), (1, .int .i64 a1), (11, .bool (a1 == 10))]) (mem' := fun _ => []) (RunsTo.mk [] [0, 1, 11] [] (fun _ => []) (fun _ => by kernel_rfl) (fun _ => trivial)) ?_
  intro _
  refine GS.cond (t := a1 == 10) rfl rfl (fun h3 => ?_) (fun h3 => ?_)
  · replace hm := br_t h3 hm
    refine GS.seq ?_
    refine GS.seq ?_
    refine jn_elim hm (fun J6 hJ8 hm => ?_)
    refine GS.cut (ι := Bool) (I := fun (v17_1 : Bool) => J6 v17_1 = some y) (E := fun (v17_1 : Bool) => [(0, .int .i64 a0), (17, .bool v17_1)]) (M := fun (v17_1 : Bool) => []) ?_ ?_
    rotate_left
    · intro H7
      refine br_elim hm (fun h5 hm => ?_) (fun h5 hm => ?_)
      · skip
        refine GS.region (env' := fun _ => [(0, .int .i64 a0), (17, .bool (decide (a0 < 100)))]) (mem' := fun _ => []) (RunsTo.mk [(2, { sp := some (.bool true) })] [0, 17] [] (fun _ => [((.bool (decide (0 ≤ a0))) : Value) = .bool true]) (fun _ => by kernel_rfl) (fun _ => ⟨bool_eq h5, trivial⟩)) ?_
        intro _
        refine GS.rekey (env' := [(0, .int .i64 a0), (17, .bool (decide (a0 < 100)))]) (mem' := []) [0, 17] [] (by kernel_rfl) (by kernel_rfl) rfl ?_
        exact H7 (decide (a0 < 100)) hm
      · skip
        refine GS.region (env' := fun _ => [(0, .int .i64 a0), (17, .bool false)]) (mem' := fun _ => []) (RunsTo.mk [(2, { sp := some (.bool false) })] [0, 17] [] (fun _ => [((.bool (decide (0 ≤ a0))) : Value) = .bool false]) (fun _ => by kernel_rfl) (fun _ => ⟨bool_eq h5, trivial⟩)) ?_
        intro _
        refine GS.rekey (env' := [(0, .int .i64 a0), (17, .bool false)]) (mem' := []) [0, 17] [] (by kernel_rfl) (by kernel_rfl) rfl ?_
        exact H7 false hm
    · rintro v17_1 hm
      replace hm := (hJ8 _).symm.trans hm
      try dsimp only at hm
      refine GS.cond (t := v17_1) rfl rfl (fun h9 => ?_) (fun h9 => ?_)
      · replace hm := br_t h9 hm
        refine GS.seq ?_
        refine bnd_elim hm (fun y11 e12 hm => ?_)
        refine GS.region (env' := fun _ => [(4, .string y11)]) (mem' := fun _ => []) (RunsTo.mk [(1, { act := .call [] (.string y11) })] [4] [] (fun _ => [CallOK Tryd.prog 56 #[.int .i64 a0] (.string y11) []]) (fun _ => by kernel_rfl) (fun _ => ⟨(w_internal_strconv_small F a0 e12).ok trivial, trivial⟩)) ?_
        intro _
        have hy := Option.some.inj hm
        subst hy
        refine GS.ret (fn := Tryd.f51) [0] [.string y11] [] rfl Tryd.func51 (by kernel_rfl) trivial (fun w' hs => ?_)
        exact ⟨(), rfl, hs.turnedG (ks := []) rfl rfl⟩
      · replace hm := br_f h9 hm
        refine GS.skip ?_
        refine GS.seq ?_
        refine GS.region (env' := fun fr13 => [(0, .int .i64 a0), (5, .pointer (some ⟨(fr13 0).x, 0, none⟩))]) (mem' := fun fr13 => [(1, .cells ((fr13 0).x) 92 [.int .u8 0, .int .u8 0, .int .u8 0, .int .u8 0, .int .u8 0, .int .u8 0, .int .u8 0, .int .u8 0, .int .u8 0, .int .u8 0, .int .u8 0, .int .u8 0, .int .u8 0, .int .u8 0, .int .u8 0, .int .u8 0, .int .u8 0, .int .u8 0, .int .u8 0, .int .u8 0, .int .u8 0, .int .u8 0, .int .u8 0, .int .u8 0])]) (RunsTo.mk [(0, { act := .new .var, key := some 1 })] [0, 5] [1] (fun fr13 => []) (fun fr13 => by kernel_rfl) (fun fr13 => trivial)) ?_
        intro fr13
        refine GS.seq ?_
        refine GS.region (env' := fun _ => [(0, .int .i64 a0), (5, .pointer (some ⟨(fr13 0).x, 0, none⟩)), (6, .int .u64 (IntKind.u64.wrap a0))]) (mem' := fun _ => [(1, .cells ((fr13 0).x) 92 [.int .u8 0, .int .u8 0, .int .u8 0, .int .u8 0, .int .u8 0, .int .u8 0, .int .u8 0, .int .u8 0, .int .u8 0, .int .u8 0, .int .u8 0, .int .u8 0, .int .u8 0, .int .u8 0, .int .u8 0, .int .u8 0, .int .u8 0, .int .u8 0, .int .u8 0, .int .u8 0, .int .u8 0, .int .u8 0, .int .u8 0, .int .u8 0])]) (RunsTo.mk [] [0, 5, 6] [1] (fun _ => []) (fun _ => by kernel_rfl) (fun _ => trivial)) ?_
        intro _
        refine GS.seq ?_
        refine GS.seq ?_
        refine GS.region (env' := fun _ => [(0, .int .i64 a0), (5, .pointer (some ⟨(fr13 0).x, 0, none⟩)), (6, .int .u64 (IntKind.u64.wrap a0)), (23, .bool (decide (a0 < 0)))]) (mem' := fun _ => [(1, .cells ((fr13 0).x) 92 [.int .u8 0, .int .u8 0, .int .u8 0, .int .u8 0, .int .u8 0, .int .u8 0, .int .u8 0, .int .u8 0, .int .u8 0, .int .u8 0, .int .u8 0, .int .u8 0, .int .u8 0, .int .u8 0, .int .u8 0, .int .u8 0, .int .u8 0, .int .u8 0, .int .u8 0, .int .u8 0, .int .u8 0, .int .u8 0, .int .u8 0, .int .u8 0])]) (RunsTo.mk [] [0, 5, 6, 23] [1] (fun _ => []) (fun _ => by kernel_rfl) (fun _ => trivial)) ?_
        intro _
        refine jn_elim hm (fun J18 hJ20 hm => ?_)
        refine GS.cut (ι := Int) (I := fun (v6_1 : Int) => J18 v6_1 = some y) (E := fun (v6_1 : Int) => [(0, .int .i64 a0), (5, .pointer (some ⟨(fr13 0).x, 0, none⟩)), (6, .int .u64 v6_1)]) (M := fun (v6_1 : Int) => [(1, .cells ((fr13 0).x) 92 [.int .u8 0, .int .u8 0, .int .u8 0, .int .u8 0, .int .u8 0, .int .u8 0, .int .u8 0, .int .u8 0, .int .u8 0, .int .u8 0, .int .u8 0, .int .u8 0, .int .u8 0, .int .u8 0, .int .u8 0, .int .u8 0, .int .u8 0, .int .u8 0, .int .u8 0, .int .u8 0, .int .u8 0, .int .u8 0, .int .u8 0, .int .u8 0])]) ?_ ?_
        rotate_left
        · intro H19
          refine GS.cond (t := decide (a0 < 0)) rfl rfl (fun h16 => ?_) (fun h16 => ?_)
          · replace hm := br_t h16 hm
            refine GS.region (env' := fun _ => [(0, .int .i64 a0), (5, .pointer (some ⟨(fr13 0).x, 0, none⟩)), (6, .int .u64 (IntKind.u64.wrap (0 - (IntKind.u64.wrap a0))))]) (mem' := fun _ => [(1, .cells ((fr13 0).x) 92 [.int .u8 0, .int .u8 0, .int .u8 0, .int .u8 0, .int .u8 0, .int .u8 0, .int .u8 0, .int .u8 0, .int .u8 0, .int .u8 0, .int .u8 0, .int .u8 0, .int .u8 0, .int .u8 0, .int .u8 0, .int .u8 0, .int .u8 0, .int .u8 0, .int .u8 0, .int .u8 0, .int .u8 0, .int .u8 0, .int .u8 0, .int .u8 0])]) (RunsTo.mk [] [0, 5, 6] [1] (fun _ => []) (fun _ => by kernel_rfl) (fun _ => trivial)) ?_
            intro _
            refine GS.rekey (env' := [(0, .int .i64 a0), (5, .pointer (some ⟨(fr13 0).x, 0, none⟩)), (6, .int .u64 (IntKind.u64.wrap (0 - (IntKind.u64.wrap a0))))]) (mem' := [(1, .cells ((fr13 0).x) 92 [.int .u8 0, .int .u8 0, .int .u8 0, .int .u8 0, .int .u8 0, .int .u8 0, .int .u8 0, .int .u8 0, .int .u8 0, .int .u8 0, .int .u8 0, .int .u8 0, .int .u8 0, .int .u8 0, .int .u8 0, .int .u8 0, .int .u8 0, .int .u8 0, .int .u8 0, .int .u8 0, .int .u8 0, .int .u8 0, .int .u8 0, .int .u8 0])]) [0, 5, 6] [(1, 1)] (by kernel_rfl) (by kernel_rfl) rfl ?_
            exact H19 (IntKind.u64.wrap (0 - (IntKind.u64.wrap a0))) hm
          · replace hm := br_f h16 hm
            refine GS.skip ?_
            refine GS.rekey (env' := [(0, .int .i64 a0), (5, .pointer (some ⟨(fr13 0).x, 0, none⟩)), (6, .int .u64 (IntKind.u64.wrap a0))]) (mem' := [(1, .cells ((fr13 0).x) 92 [.int .u8 0, .int .u8 0, .int .u8 0, .int .u8 0, .int .u8 0, .int .u8 0, .int .u8 0, .int .u8 0, .int .u8 0, .int .u8 0, .int .u8 0, .int .u8 0, .int .u8 0, .int .u8 0, .int .u8 0, .int .u8 0, .int .u8 0, .int .u8 0, .int .u8 0, .int .u8 0, .int .u8 0, .int .u8 0, .int .u8 0, .int .u8 0])]) [0, 5, 6] [(1, 1)] (by kernel_rfl) (by kernel_rfl) rfl ?_
            exact H19 (IntKind.u64.wrap a0) hm
        · rintro v6_1 hm
          replace hm := (hJ20 _).symm.trans hm
          try dsimp only at hm
          cases hm
  · replace hm := br_f h3 hm
    refine GS.skip ?_
    cases hm

theorem w_internal_strconv_Itoa (F : Nat) (a0 : Int) {y : ByteArray} (hm : m_internal_strconv_Itoa F a0 = some y) : CallG Tryd.prog 44 #[.int .i64 a0] (X := Unit) (fun (_ : Unit) => .string y) [] [] (fun (_ : Unit) => []) := by
  intro w hg
  rw [m_internal_strconv_Itoa] at hm
  refine GS.start (S := mayT [] []) (mem := []) Tryd.func44 rfl Tryd.ntmps44 (Nat.le_of_ble_eq_true rfl) (hg.start rfl) ?_
  refine GS.conv (env' := [(0, .int .i64 a0)]) rfl rfl ?_
  refine GS.seq ?_
  refine GS.region (env' := fun _ => [(0, .int .i64 a0)]) (mem' := fun _ => []) (RunsTo.mk [] [0] [] (fun _ => []) (fun _ => by kernel_rfl) (fun _ => trivial)) ?_
  intro _
  refine GS.seq ?_
  refine bnd_elim hm (fun y3 e4 hm => ?_)
  refine GS.region (env' := fun _ => [(2, .string y3)]) (mem' := fun _ => []) (RunsTo.mk [(1, { act := .call [] (.string y3) })] [2] [] (fun _ => [CallOK Tryd.prog 51 #[.int .i64 a0, .int .i64 10] (.string y3) []]) (fun _ => by kernel_rfl) (fun _ => ⟨(w_internal_strconv_FormatInt F a0 10 e4).ok trivial, trivial⟩)) ?_
  intro _
  have hy := Option.some.inj hm
  subst hy
  refine GS.ret (fn := Tryd.f44) [0] [.string y3] [] rfl Tryd.func44 (by kernel_rfl) trivial (fun w' hs => ?_)
  exact ⟨(), rfl, hs.turnedG (ks := []) rfl rfl⟩

theorem w_strconv_Itoa (F : Nat) (a0 : Int) {y : ByteArray} (hm : m_strconv_Itoa F a0 = some y) : CallG Tryd.prog 39 #[.int .i64 a0] (X := Unit) (fun (_ : Unit) => .string y) [] [] (fun (_ : Unit) => []) := by
  intro w hg
  rw [m_strconv_Itoa] at hm
  refine GS.start (S := mayT [] []) (mem := []) Tryd.func39 rfl Tryd.ntmps39 (Nat.le_of_ble_eq_true rfl) (hg.start rfl) ?_
  refine GS.conv (env' := [(0, .int .i64 a0)]) rfl rfl ?_
  refine GS.seq ?_
  refine GS.region (env' := fun _ => [(0, .int .i64 a0)]) (mem' := fun _ => []) (RunsTo.mk [] [0] [] (fun _ => []) (fun _ => by kernel_rfl) (fun _ => trivial)) ?_
  intro _
  refine GS.seq ?_
  refine bnd_elim hm (fun y3 e4 hm => ?_)
  refine GS.region (env' := fun _ => [(2, .string y3)]) (mem' := fun _ => []) (RunsTo.mk [(1, { act := .call [] (.string y3) })] [2] [] (fun _ => [CallOK Tryd.prog 44 #[.int .i64 a0] (.string y3) []]) (fun _ => by kernel_rfl) (fun _ => ⟨(w_internal_strconv_Itoa F a0 e4).ok trivial, trivial⟩)) ?_
  intro _
  have hy := Option.some.inj hm
  subst hy
  refine GS.ret (fn := Tryd.f39) [0] [.string y3] [] rfl Tryd.func39 (by kernel_rfl) trivial (fun w' hs => ?_)
  exact ⟨(), rfl, hs.turnedG (ks := []) rfl rfl⟩

theorem w_stripe_Parse (F : Nat) (a0 : ByteArray) {y : ByteArray × Int × Bool} (hm : m_stripe_Parse F a0 = some y) : CallG Tryd.prog 17 #[.string a0] (X := Unit) (fun (_ : Unit) => .tuple #[.string y.1, .int .i64 y.2.1, .bool y.2.2]) [] [] (fun (_ : Unit) => []) := by
  intro w hg
  rw [m_stripe_Parse] at hm
  refine GS.start (S := mayT [] []) (mem := []) Tryd.func17 rfl Tryd.ntmps17 (Nat.le_of_ble_eq_true rfl) (hg.start rfl) ?_
  refine GS.conv (env' := [(0, .string a0)]) rfl rfl ?_
  refine GS.seq ?_
  refine GS.region (env' := fun _ => [(0, .string a0)]) (mem' := fun _ => []) (RunsTo.mk [] [0] [] (fun _ => []) (fun _ => by kernel_rfl) (fun _ => trivial)) ?_
  intro _
  refine GS.seq ?_
  refine bnd_elim hm (fun y3 e4 hm => ?_)
  refine GS.region (env' := fun _ => [(0, .string a0), (5, .int .i64 y3)]) (mem' := fun _ => []) (RunsTo.mk [(1, { act := .call [] (.int .i64 y3) })] [0, 5] [] (fun _ => [CallOK Tryd.prog 37 #[.string a0, .int .u8 46] (.int .i64 y3) []]) (fun _ => by kernel_rfl) (fun _ => ⟨(w_strings_LastIndexByte F a0 46 e4).ok trivial, trivial⟩)) ?_
  intro _
  refine GS.seq ?_
  refine GS.seq ?_
  refine GS.region (env' := fun _ => [(0, .string a0), (5, .int .i64 y3), (11, .bool (decide (y3 < 0)))]) (mem' := fun _ => []) (RunsTo.mk [] [0, 5, 11] [] (fun _ => []) (fun _ => by kernel_rfl) (fun _ => trivial)) ?_
  intro _
  refine GS.cond (t := decide (y3 < 0)) rfl rfl (fun h6 => ?_) (fun h6 => ?_)
  · replace hm := br_t h6 hm
    refine GS.seq ?_
    refine GS.region (env' := fun _ => [(2, .string (ByteArray.mk #[])), (3, .int .i64 0), (4, .bool false)]) (mem' := fun _ => []) (RunsTo.mk [] [2, 3, 4] [] (fun _ => []) (fun _ => by kernel_rfl) (fun _ => trivial)) ?_
    intro _
    have hy := Option.some.inj hm
    subst hy
    refine GS.ret (fn := Tryd.f17) [0, 0, 0] [.string (ByteArray.mk #[]), .int .i64 0, .bool false] [] rfl Tryd.func17 (by kernel_rfl) trivial (fun w' hs => ?_)
    exact ⟨(), rfl, hs.turnedG (ks := []) rfl rfl⟩
  · replace hm := br_f h6 hm
    refine GS.skip ?_
    refine GS.seq ?_
    refine grd_elim hm (fun g9 hm => ?_)
    refine grd_elim hm (fun g10 hm => ?_)
    refine bnd_elim hm (fun y11 e12 hm => ?_)
    refine GS.region (env' := fun _ => [(0, .string a0), (5, .int .i64 y3), (6, .int .i64 y11), (7, .nilIface)]) (mem' := fun _ => []) (RunsTo.mk [(2, { sp := some (.int .i64 (y3 + 1)) }), (3, { act := .cut (Int.toNat (y3 + 1)) a0.size 0 }), (4, { act := .call [] (.tuple #[.int .i64 y11, .nilIface]) })] [0, 5, 6, 7] [] (fun _ => [((.int .i64 (IntKind.i64.wrap (y3 + 1))) : Value) = .int .i64 (y3 + 1), (y3 + 1) = (((Int.toNat (y3 + 1)) : Nat) : Int), a0.size = a0.size, (Int.toNat (y3 + 1)) ≤ a0.size, a0.size ≤ a0.size, CallOK Tryd.prog 38 #[.string (a0.extract (Int.toNat (y3 + 1)) a0.size)] (.tuple #[.int .i64 y11, .nilIface]) []]) (fun _ => by kernel_rfl) (fun _ => ⟨I64.w g9, g10.eq, rfl, g10.2, (Nat.le_refl _), (w_strconv_Atoi F (a0.extract (Int.toNat (y3 + 1)) a0.size) e12).ok trivial, trivial⟩)) ?_
    intro _
    refine GS.seq ?_
    refine GS.seq ?_
    refine jn_elim hm (fun J18 hJ20 hm => ?_)
    refine GS.cut (ι := Bool) (I := fun (v38_0 : Bool) => J18 v38_0 = some y) (E := fun (v38_0 : Bool) => [(0, .string a0), (5, .int .i64 y3), (6, .int .i64 y11), (38, .bool v38_0)]) (M := fun (v38_0 : Bool) => []) ?_ ?_
    rotate_left
    · intro H19
      refine br_elim hm (fun h14 hm => ?_) (fun h14 hm => ?_)
      · skip
        refine GS.region (env' := fun _ => [(0, .string a0), (5, .int .i64 y3), (6, .int .i64 y11), (38, .bool true)]) (mem' := fun _ => []) (RunsTo.mkd [(6, { sp := some (.bool true) })] [0, 5, 6, 38] [] (fun _ => [((.bool (decide (y11 < 0))) : Value) = .bool true]) (by kernel_rfl) (by kernel_rfl) (fun _ => by kernel_rfl) (fun _ => ⟨bool_eq h14, trivial⟩)) ?_
        intro _
        refine GS.rekey (env' := [(0, .string a0), (5, .int .i64 y3), (6, .int .i64 y11), (38, .bool true)]) (mem' := []) [0, 5, 6, 38] [] (by kernel_rfl) (by kernel_rfl) rfl ?_
        exact H19 true hm
      · skip
        refine br_elim hm (fun h15 hm => ?_) (fun h15 hm => ?_)
        · skip
          refine GS.region (env' := fun _ => [(0, .string a0), (5, .int .i64 y3), (6, .int .i64 y11), (38, .bool true)]) (mem' := fun _ => []) (RunsTo.mkd [(6, { sp := some (.bool false) }), (10, { sp := some (.bool true) })] [0, 5, 6, 38] [] (fun _ => [((.bool (decide (y11 < 0))) : Value) = .bool false, ((.bool (decide (y11 > 65535))) : Value) = .bool true]) (by kernel_rfl) (by kernel_rfl) (fun _ => by kernel_rfl) (fun _ => ⟨bool_eq h14, bool_eq h15, trivial⟩)) ?_
          intro _
          refine GS.rekey (env' := [(0, .string a0), (5, .int .i64 y3), (6, .int .i64 y11), (38, .bool true)]) (mem' := []) [0, 5, 6, 38] [] (by kernel_rfl) (by kernel_rfl) rfl ?_
          exact H19 true hm
        · skip
          refine bnd_elim hm (fun y16 e17 hm => ?_)
          refine GS.region (env' := fun _ => [(0, .string a0), (5, .int .i64 y3), (6, .int .i64 y11), (38, .bool (!(y16.toList == (a0.extract (Int.toNat (y3 + 1)) a0.size).toList)))]) (mem' := fun _ => []) (RunsTo.mkd [(6, { sp := some (.bool false) }), (10, { sp := some (.bool false) }), (12, { act := .call [] (.string y16) }), (15, { sp := some (.int .i64 (y3 + 1)) }), (16, { act := .cut (Int.toNat (y3 + 1)) a0.size 0 })] [0, 5, 6, 38] [] (fun _ => [((.bool (decide (y11 < 0))) : Value) = .bool false, ((.bool (decide (y11 > 65535))) : Value) = .bool false, CallOK Tryd.prog 39 #[.int .i64 y11] (.string y16) [], ((.int .i64 (IntKind.i64.wrap (y3 + 1))) : Value) = .int .i64 (y3 + 1), (y3 + 1) = (((Int.toNat (y3 + 1)) : Nat) : Int), a0.size = a0.size, (Int.toNat (y3 + 1)) ≤ a0.size, a0.size ≤ a0.size]) (by kernel_rfl) (by kernel_rfl) (fun _ => by kernel_rfl) (fun _ => ⟨bool_eq h14, bool_eq h15, (w_strconv_Itoa F y11 e17).ok trivial, I64.w g9, g10.eq, rfl, g10.2, (Nat.le_refl _), trivial⟩)) ?_
          intro _
          refine GS.rekey (env' := [(0, .string a0), (5, .int .i64 y3), (6, .int .i64 y11), (38, .bool (!(y16.toList == (a0.extract (Int.toNat (y3 + 1)) a0.size).toList)))]) (mem' := []) [0, 5, 6, 38] [] (by kernel_rfl) (by kernel_rfl) rfl ?_
          exact H19 (!(y16.toList == (a0.extract (Int.toNat (y3 + 1)) a0.size).toList)) hm
    · rintro v38_0 hm
      replace hm := (hJ20 _).symm.trans hm
      try dsimp only at hm
      refine GS.cond (t := v38_0) rfl rfl (fun h21 => ?_) (fun h21 => ?_)
      · replace hm := br_t h21 hm
        refine GS.seq ?_
        refine GS.region (env' := fun _ => [(2, .string (ByteArray.mk #[])), (3, .int .i64 0), (4, .bool false)]) (mem' := fun _ => []) (RunsTo.mk [] [2, 3, 4] [] (fun _ => []) (fun _ => by kernel_rfl) (fun _ => trivial)) ?_
        intro _
        have hy := Option.some.inj hm
        subst hy
        refine GS.ret (fn := Tryd.f17) [0, 0, 0] [.string (ByteArray.mk #[]), .int .i64 0, .bool false] [] rfl Tryd.func17 (by kernel_rfl) trivial (fun w' hs => ?_)
        exact ⟨(), rfl, hs.turnedG (ks := []) rfl rfl⟩
      · replace hm := br_f h21 hm
        refine GS.skip ?_
        refine GS.seq ?_
        refine grd_elim hm (fun g24 hm => ?_)
        refine GS.region (env' := fun _ => [(2, .string (a0.extract 0 (Int.toNat y3))), (3, .int .i64 y11), (4, .bool true)]) (mem' := fun _ => []) (RunsTo.mk [(2, { act := .cut 0 (Int.toNat y3) 0 })] [2, 3, 4] [] (fun _ => [0 = 0, y3 = (((Int.toNat y3) : Nat) : Int), 0 ≤ (Int.toNat y3), (Int.toNat y3) ≤ a0.size]) (fun _ => by kernel_rfl) (fun _ => ⟨rfl, g24.eq, (Nat.zero_le _), g24.2, trivial⟩)) ?_
        intro _
        have hy := Option.some.inj hm
        subst hy
        refine GS.ret (fn := Tryd.f17) [0, 0, 0] [.string (a0.extract 0 (Int.toNat y3)), .int .i64 y11, .bool true] [] rfl Tryd.func17 (by kernel_rfl) trivial (fun w' hs => ?_)
        exact ⟨(), rfl, hs.turnedG (ks := []) rfl rfl⟩

theorem w_stripe_Extents (F : Nat) (a0 : S_stripe_Layout) (a1 : Int) (a2 : Int) {y : List S_stripe_Extent} (hm : m_stripe_Extents F a0 a1 a2 = some y) : CallG Tryd.prog 21 #[.agg #[.int .i64 a0.Unit, .int .i64 a0.Count, .int .i64 a0.Size], .int .i64 a1, .int .i64 a2] (X := Option Addr × Nat) (fun ⟨x0, x1⟩ => .slice x0 y.length x1) [] [] (fun ⟨x0, x1⟩ => [o44 x0 x1 y]) := by
  intro w hg
  rw [m_stripe_Extents] at hm
  refine GS.start (S := mayT [] []) (mem := []) Tryd.func21 rfl Tryd.ntmps21 (Nat.le_of_ble_eq_true rfl) (hg.start rfl) ?_
  refine GS.conv (env' := [(0, .agg #[.int .i64 a0.Unit, .int .i64 a0.Count, .int .i64 a0.Size]), (1, .int .i64 a1), (2, .int .i64 a2)]) rfl rfl ?_
  refine GS.seq ?_
  refine GS.region (env' := fun fr1 => [(1, .int .i64 a1), (2, .int .i64 a2), (3, .pointer (some ⟨(fr1 0).x, 0, none⟩))]) (mem' := fun fr1 => [(1, .cells ((fr1 0).x) 23 [.int .i64 a0.Unit, .int .i64 a0.Count, .int .i64 a0.Size])]) (RunsTo.mk [(0, { act := .new .var, key := some 1 })] [1, 2, 3] [1] (fun fr1 => []) (fun fr1 => by kernel_rfl) (fun fr1 => trivial)) ?_
  intro fr1
  refine GS.seq ?_
  refine GS.seq ?_
  refine jn_elim hm (fun J10 hJ12 hm => ?_)
  refine GS.cut (ι := Bool) (I := fun (v33_0 : Bool) => J10 v33_0 = some y) (E := fun (v33_0 : Bool) => [(1, .int .i64 a1), (2, .int .i64 a2), (3, .pointer (some ⟨(fr1 0).x, 0, none⟩)), (33, .bool v33_0)]) (M := fun (v33_0 : Bool) => [(1, .cells ((fr1 0).x) 23 [.int .i64 a0.Unit, .int .i64 a0.Count, .int .i64 a0.Size])]) ?_ ?_
  rotate_left
  · intro H11
    refine bnd_elim hm (fun y3 e4 hm => ?_)
    refine br_elim hm (fun h5 hm => ?_) (fun h5 hm => ?_)
    · skip
      refine GS.region (env' := fun _ => [(1, .int .i64 a1), (2, .int .i64 a2), (3, .pointer (some ⟨(fr1 0).x, 0, none⟩)), (33, .bool true)]) (mem' := fun _ => [(1, .cells ((fr1 0).x) 23 [.int .i64 a0.Unit, .int .i64 a0.Count, .int .i64 a0.Size])]) (RunsTo.mk [(0, { act := .load 1 0 0 [] }), (1, { act := .call [] (.bool y3) }), (3, { sp := some (.bool true) })] [1, 2, 3, 33] [1] (fun _ => [(fr1 0).x = (fr1 0).x, CallOK Tryd.prog 12 #[.agg #[.int .i64 a0.Unit, .int .i64 a0.Count, .int .i64 a0.Size]] (.bool y3) [], ((.bool (!y3)) : Value) = .bool true]) (fun _ => by kernel_rfl) (fun _ => ⟨rfl, (w_stripe_Good F a0 e4).ok trivial, bool_eq h5, trivial⟩)) ?_
      intro _
      refine GS.rekey (env' := [(1, .int .i64 a1), (2, .int .i64 a2), (3, .pointer (some ⟨(fr1 0).x, 0, none⟩)), (33, .bool true)]) (mem' := [(1, .cells ((fr1 0).x) 23 [.int .i64 a0.Unit, .int .i64 a0.Count, .int .i64 a0.Size])]) [1, 2, 3, 33] [(1, 1)] (by kernel_rfl) (by kernel_rfl) rfl ?_
      exact H11 true hm
    · skip
      refine br_elim hm (fun h6 hm => ?_) (fun h6 hm => ?_)
      · skip
        refine GS.region (env' := fun _ => [(1, .int .i64 a1), (2, .int .i64 a2), (3, .pointer (some ⟨(fr1 0).x, 0, none⟩)), (33, .bool true)]) (mem' := fun _ => [(1, .cells ((fr1 0).x) 23 [.int .i64 a0.Unit, .int .i64 a0.Count, .int .i64 a0.Size])]) (RunsTo.mk [(0, { act := .load 1 0 0 [] }), (1, { act := .call [] (.bool y3) }), (3, { sp := some (.bool false) }), (7, { sp := some (.bool true) })] [1, 2, 3, 33] [1] (fun _ => [(fr1 0).x = (fr1 0).x, CallOK Tryd.prog 12 #[.agg #[.int .i64 a0.Unit, .int .i64 a0.Count, .int .i64 a0.Size]] (.bool y3) [], ((.bool (!y3)) : Value) = .bool false, ((.bool (decide (a1 < 0))) : Value) = .bool true]) (fun _ => by kernel_rfl) (fun _ => ⟨rfl, (w_stripe_Good F a0 e4).ok trivial, bool_eq h5, bool_eq h6, trivial⟩)) ?_
        intro _
        refine GS.rekey (env' := [(1, .int .i64 a1), (2, .int .i64 a2), (3, .pointer (some ⟨(fr1 0).x, 0, none⟩)), (33, .bool true)]) (mem' := [(1, .cells ((fr1 0).x) 23 [.int .i64 a0.Unit, .int .i64 a0.Count, .int .i64 a0.Size])]) [1, 2, 3, 33] [(1, 1)] (by kernel_rfl) (by kernel_rfl) rfl ?_
        exact H11 true hm
      · skip
        refine br_elim hm (fun h7 hm => ?_) (fun h7 hm => ?_)
        · skip
          refine GS.region (env' := fun _ => [(1, .int .i64 a1), (2, .int .i64 a2), (3, .pointer (some ⟨(fr1 0).x, 0, none⟩)), (33, .bool true)]) (mem' := fun _ => [(1, .cells ((fr1 0).x) 23 [.int .i64 a0.Unit, .int .i64 a0.Count, .int .i64 a0.Size])]) (RunsTo.mk [(0, { act := .load 1 0 0 [] }), (1, { act := .call [] (.bool y3) }), (3, { sp := some (.bool false) }), (7, { sp := some (.bool false) }), (11, { sp := some (.bool true) })] [1, 2, 3, 33] [1] (fun _ => [(fr1 0).x = (fr1 0).x, CallOK Tryd.prog 12 #[.agg #[.int .i64 a0.Unit, .int .i64 a0.Count, .int .i64 a0.Size]] (.bool y3) [], ((.bool (!y3)) : Value) = .bool false, ((.bool (decide (a1 < 0))) : Value) = .bool false, ((.bool (decide (a2 < 0))) : Value) = .bool true]) (fun _ => by kernel_rfl) (fun _ => ⟨rfl, (w_stripe_Good F a0 e4).ok trivial, bool_eq h5, bool_eq h6, bool_eq h7, trivial⟩)) ?_
          intro _
          refine GS.rekey (env' := [(1, .int .i64 a1), (2, .int .i64 a2), (3, .pointer (some ⟨(fr1 0).x, 0, none⟩)), (33, .bool true)]) (mem' := [(1, .cells ((fr1 0).x) 23 [.int .i64 a0.Unit, .int .i64 a0.Count, .int .i64 a0.Size])]) [1, 2, 3, 33] [(1, 1)] (by kernel_rfl) (by kernel_rfl) rfl ?_
          exact H11 true hm
        · skip
          refine br_elim hm (fun h8 hm => ?_) (fun h8 hm => ?_)
          · skip
            refine GS.region (env' := fun _ => [(1, .int .i64 a1), (2, .int .i64 a2), (3, .pointer (some ⟨(fr1 0).x, 0, none⟩)), (33, .bool true)]) (mem' := fun _ => [(1, .cells ((fr1 0).x) 23 [.int .i64 a0.Unit, .int .i64 a0.Count, .int .i64 a0.Size])]) (RunsTo.mk [(0, { act := .load 1 0 0 [] }), (1, { act := .call [] (.bool y3) }), (3, { sp := some (.bool false) }), (7, { sp := some (.bool false) }), (11, { sp := some (.bool false) }), (15, { sp := some (.bool true) })] [1, 2, 3, 33] [1] (fun _ => [(fr1 0).x = (fr1 0).x, CallOK Tryd.prog 12 #[.agg #[.int .i64 a0.Unit, .int .i64 a0.Count, .int .i64 a0.Size]] (.bool y3) [], ((.bool (!y3)) : Value) = .bool false, ((.bool (decide (a1 < 0))) : Value) = .bool false, ((.bool (decide (a2 < 0))) : Value) = .bool false, ((.bool (decide (a1 > 65536))) : Value) = .bool true]) (fun _ => by kernel_rfl) (fun _ => ⟨rfl, (w_stripe_Good F a0 e4).ok trivial, bool_eq h5, bool_eq h6, bool_eq h7, bool_eq h8, trivial⟩)) ?_
            intro _
            refine GS.rekey (env' := [(1, .int .i64 a1), (2, .int .i64 a2), (3, .pointer (some ⟨(fr1 0).x, 0, none⟩)), (33, .bool true)]) (mem' := [(1, .cells ((fr1 0).x) 23 [.int .i64 a0.Unit, .int .i64 a0.Count, .int .i64 a0.Size])]) [1, 2, 3, 33] [(1, 1)] (by kernel_rfl) (by kernel_rfl) rfl ?_
            exact H11 true hm
          · skip
            refine grd_elim hm (fun g9 hm => ?_)
            refine GS.region (env' := fun _ => [(1, .int .i64 a1), (2, .int .i64 a2), (3, .pointer (some ⟨(fr1 0).x, 0, none⟩)), (33, .bool (decide (a2 > (65536 - a1))))]) (mem' := fun _ => [(1, .cells ((fr1 0).x) 23 [.int .i64 a0.Unit, .int .i64 a0.Count, .int .i64 a0.Size])]) (RunsTo.mk [(0, { act := .load 1 0 0 [] }), (1, { act := .call [] (.bool y3) }), (3, { sp := some (.bool false) }), (7, { sp := some (.bool false) }), (11, { sp := some (.bool false) }), (15, { sp := some (.bool false) }), (18, { sp := some (.int .i64 (65536 - a1)) })] [1, 2, 3, 33] [1] (fun _ => [(fr1 0).x = (fr1 0).x, CallOK Tryd.prog 12 #[.agg #[.int .i64 a0.Unit, .int .i64 a0.Count, .int .i64 a0.Size]] (.bool y3) [], ((.bool (!y3)) : Value) = .bool false, ((.bool (decide (a1 < 0))) : Value) = .bool false, ((.bool (decide (a2 < 0))) : Value) = .bool false, ((.bool (decide (a1 > 65536))) : Value) = .bool false, ((.int .i64 (IntKind.i64.wrap (65536 - a1))) : Value) = .int .i64 (65536 - a1)]) (fun _ => by kernel_rfl) (fun _ => ⟨rfl, (w_stripe_Good F a0 e4).ok trivial, bool_eq h5, bool_eq h6, bool_eq h7, bool_eq h8, I64.w g9, trivial⟩)) ?_
            intro _
            refine GS.rekey (env' := [(1, .int .i64 a1), (2, .int .i64 a2), (3, .pointer (some ⟨(fr1 0).x, 0, none⟩)), (33, .bool (decide (a2 > (65536 - a1))))]) (mem' := [(1, .cells ((fr1 0).x) 23 [.int .i64 a0.Unit, .int .i64 a0.Count, .int .i64 a0.Size])]) [1, 2, 3, 33] [(1, 1)] (by kernel_rfl) (by kernel_rfl) rfl ?_
            exact H11 (decide (a2 > (65536 - a1))) hm
  · rintro v33_0 hm
    replace hm := (hJ12 _).symm.trans hm
    try dsimp only at hm
    refine GS.cond (t := v33_0) rfl rfl (fun h13 => ?_) (fun h13 => ?_)
    · replace hm := br_t h13 hm
      refine GS.seq ?_
      refine GS.region (env' := fun _ => [(6, .slice none 0 0)]) (mem' := fun _ => []) (RunsTo.mk [] [6] [] (fun _ => []) (fun _ => by kernel_rfl) (fun _ => trivial)) ?_
      intro _
      refine GS.setMem (mem' := [(2, o44 none 0 ([] : List S_stripe_Extent))]) (fun w hw => Sat.addNil hw rfl) ?_
      have hy := Option.some.inj hm
      subst hy
      refine GS.ret (fn := Tryd.f21) [0] [.slice none 0 0] [] rfl Tryd.func21 (by kernel_rfl) trivial (fun w' hs => ?_)
      exact ⟨⟨none, 0⟩, rfl, hs.turnedG (ks := [2]) rfl rfl⟩
    · replace hm := br_f h13 hm
      refine GS.skip ?_
      refine GS.seq ?_
      refine GS.region (env' := fun _ => [(1, .int .i64 a1), (2, .int .i64 a2), (3, .pointer (some ⟨(fr1 0).x, 0, none⟩)), (7, .slice none 0 0)]) (mem' := fun _ => [(1, .cells ((fr1 0).x) 23 [.int .i64 a0.Unit, .int .i64 a0.Count, .int .i64 a0.Size])]) (RunsTo.mk [] [1, 2, 3, 7] [1] (fun _ => []) (fun _ => by kernel_rfl) (fun _ => trivial)) ?_
      intro _
      refine GS.seq ?_
      refine GS.seq ?_
      refine grd_elim hm (fun g17 hm => ?_)
      refine GS.region (env' := fun _ => [(1, .int .i64 a1), (3, .pointer (some ⟨(fr1 0).x, 0, none⟩)), (7, .slice none 0 0), (8, .int .i64 (a1 + a2))]) (mem' := fun _ => [(1, .cells ((fr1 0).x) 23 [.int .i64 a0.Unit, .int .i64 a0.Count, .int .i64 a0.Size])]) (RunsTo.mk [(2, { sp := some (.int .i64 (a1 + a2)) })] [1, 3, 7, 8] [1] (fun _ => [((.int .i64 (IntKind.i64.wrap (a1 + a2))) : Value) = .int .i64 (a1 + a2)]) (fun _ => by kernel_rfl) (fun _ => ⟨I64.w g17, trivial⟩)) ?_
      intro _
      refine GS.block ?_
      refine GS.loop ?_
      refine GS.setMem (mem' := [(1, .cells ((fr1 0).x) 23 [.int .i64 a0.Unit, .int .i64 a0.Count, .int .i64 a0.Size]), (20001, o44 none 0 ([] : List S_stripe_Extent))]) (fun w hw => Sat.addNil hw rfl) ?_
      refine GS.rekey (env' := [(1, .int .i64 a1), (3, .pointer (some ⟨(fr1 0).x, 0, none⟩)), (7, .slice none 0 0), (8, .int .i64 (a1 + a2))]) (mem' := [(1, .cells ((fr1 0).x) 23 [.int .i64 a0.Unit, .int .i64 a0.Count, .int .i64 a0.Size]), (20000, o44 none 0 ([] : List S_stripe_Extent))]) [1, 3, 7, 8] [(1, 1), (20000, 20001)] (by kernel_rfl) (by kernel_rfl) rfl ?_
      refine loopW_elim hm (fun st91 hst93 hm => ?_)
      refine GS.loopInv (ι := Nat × Int × List S_stripe_Extent × Option Addr × Nat) (I := fun ⟨rs89, v1_1, l20000_1, o20000_1, k20000_1⟩ => loopW st91 rs89 (v1_1, l20000_1) = some y) (μ := fun ⟨rs89, v1_1, l20000_1, o20000_1, k20000_1⟩ => rs89) (E := fun ⟨rs89, v1_1, l20000_1, o20000_1, k20000_1⟩ => [(1, .int .i64 v1_1), (3, .pointer (some ⟨(fr1 0).x, 0, none⟩)), (7, .slice o20000_1 l20000_1.length k20000_1), (8, .int .i64 (a1 + a2))]) (M := fun ⟨rs89, v1_1, l20000_1, o20000_1, k20000_1⟩ => [(1, .cells ((fr1 0).x) 23 [.int .i64 a0.Unit, .int .i64 a0.Count, .int .i64 a0.Size]), (20000, o44 o20000_1 k20000_1 l20000_1)]) ?_ ⟨F, a1, ([] : List S_stripe_Extent), none, 0⟩ hm
      rintro ⟨rs89, v1_1, l20000_1, o20000_1, k20000_1⟩ hm ih90
      cases rs89 with
      | zero => cases hm
      | succ rs89 =>
        replace hm := (hst93 _ _).symm.trans hm
        try dsimp only at hm
        refine GS.seq ?_
        refine GS.seq ?_
        refine GS.region (env' := fun _ => [(1, .int .i64 v1_1), (3, .pointer (some ⟨(fr1 0).x, 0, none⟩)), (7, .slice o20000_1 l20000_1.length k20000_1), (8, .int .i64 (a1 + a2)), (39, .bool (decide (v1_1 < (a1 + a2))))]) (mem' := fun _ => [(1, .cells ((fr1 0).x) 23 [.int .i64 a0.Unit, .int .i64 a0.Count, .int .i64 a0.Size]), (20000, o44 o20000_1 k20000_1 l20000_1)]) (RunsTo.mk [] [1, 3, 7, 8, 39] [1, 20000] (fun _ => []) (fun _ => by kernel_rfl) (fun _ => trivial)) ?_
        intro _
        refine GS.cond (t := decide (v1_1 < (a1 + a2))) rfl rfl (fun h62 => ?_) (fun h62 => ?_)
        · replace hm := br_t h62 hm
          refine GS.skip ?_
          refine GS.block ?_
          refine GS.seq ?_
          refine bnd_elim hm (fun y64 e65 hm => ?_)
          refine GS.region (env' := fun _ => [(1, .int .i64 v1_1), (3, .pointer (some ⟨(fr1 0).x, 0, none⟩)), (7, .slice o20000_1 l20000_1.length k20000_1), (8, .int .i64 (a1 + a2)), (9, .int .i64 y64.1), (10, .int .i64 y64.2)]) (mem' := fun _ => [(1, .cells ((fr1 0).x) 23 [.int .i64 a0.Unit, .int .i64 a0.Count, .int .i64 a0.Size]), (20000, o44 o20000_1 k20000_1 l20000_1)]) (RunsTo.mk [(0, { act := .load 1 0 0 [] }), (2, { act := .call [] (.tuple #[.int .i64 y64.1, .int .i64 y64.2]) })] [1, 3, 7, 8, 9, 10] [1, 20000] (fun _ => [(fr1 0).x = (fr1 0).x, CallOK Tryd.prog 10 #[.agg #[.int .i64 a0.Unit, .int .i64 a0.Count, .int .i64 a0.Size], .int .i64 v1_1] (.tuple #[.int .i64 y64.1, .int .i64 y64.2]) []]) (fun _ => by kernel_rfl) (fun _ => ⟨rfl, (w_stripe_Place F a0 v1_1 e65).ok trivial, trivial⟩)) ?_
          intro _
          refine GS.seq ?_
          refine grd_elim hm (fun g67 hm => ?_)
          refine grd_elim hm (fun g68 hm => ?_)
          refine grd_elim hm (fun g69 hm => ?_)
          refine GS.region (env' := fun _ => [(1, .int .i64 v1_1), (3, .pointer (some ⟨(fr1 0).x, 0, none⟩)), (7, .slice o20000_1 l20000_1.length k20000_1), (8, .int .i64 (a1 + a2)), (9, .int .i64 y64.1), (10, .int .i64 y64.2), (11, .int .i64 (if ((a1 + a2) - v1_1) < (a0.Unit - (Int.tmod v1_1 a0.Unit)) then ((a1 + a2) - v1_1) else (a0.Unit - (Int.tmod v1_1 a0.Unit))))]) (mem' := fun _ => [(1, .cells ((fr1 0).x) 23 [.int .i64 a0.Unit, .int .i64 a0.Count, .int .i64 a0.Size]), (20000, o44 o20000_1 k20000_1 l20000_1)]) (RunsTo.mkd [(1, { act := .load 1 0 0 [] }), (4, { act := .load 1 0 0 [] }), (5, { act := .div }), (6, { sp := some (.int .i64 (a0.Unit - (Int.tmod v1_1 a0.Unit))) }), (9, { sp := some (.int .i64 ((a1 + a2) - v1_1)) })] [1, 3, 7, 8, 9, 10, 11] [1, 20000] (fun _ => [(fr1 0).x = (fr1 0).x, (fr1 0).x = (fr1 0).x, a0.Unit ≠ 0, ((.int .i64 (IntKind.i64.wrap (a0.Unit - (Int.tmod v1_1 a0.Unit)))) : Value) = .int .i64 (a0.Unit - (Int.tmod v1_1 a0.Unit)), ((.int .i64 (IntKind.i64.wrap ((a1 + a2) - v1_1))) : Value) = .int .i64 ((a1 + a2) - v1_1)]) (by kernel_rfl) (by kernel_rfl) (fun _ => by kernel_rfl) (fun _ => ⟨rfl, rfl, g67, I64.w g68, I64.w g69, trivial⟩)) ?_
          intro _
          refine GS.seq ?_
          refine GS.seq ?_
          refine grd_elim hm (fun g71 hm => ?_)
          refine GS.region (env' := fun _ => [(1, .int .i64 v1_1), (3, .pointer (some ⟨(fr1 0).x, 0, none⟩)), (7, .slice o20000_1 l20000_1.length k20000_1), (8, .int .i64 (a1 + a2)), (9, .int .i64 y64.1), (10, .int .i64 y64.2), (11, .int .i64 (if ((a1 + a2) - v1_1) < (a0.Unit - (Int.tmod v1_1 a0.Unit)) then ((a1 + a2) - v1_1) else (a0.Unit - (Int.tmod v1_1 a0.Unit)))), (12, .int .i64 (((l20000_1.length : Nat) : Int) - 1))]) (mem' := fun _ => [(1, .cells ((fr1 0).x) 23 [.int .i64 a0.Unit, .int .i64 a0.Count, .int .i64 a0.Size]), (20000, o44 o20000_1 k20000_1 l20000_1)]) (RunsTo.mk [(2, { sp := some (.int .i64 (((l20000_1.length : Nat) : Int) - 1)) })] [1, 3, 7, 8, 9, 10, 11, 12] [1, 20000] (fun _ => [((.int .i64 (IntKind.i64.wrap (((l20000_1.length : Nat) : Int) - 1))) : Value) = .int .i64 (((l20000_1.length : Nat) : Int) - 1)]) (fun _ => by kernel_rfl) (fun _ => ⟨I64.w g71, trivial⟩)) ?_
          intro _
          refine GS.seq ?_
          refine jn_elim hm (fun J74 hJ76 hm => ?_)
          refine GS.cut (ι := Bool) (I := fun (v85_3 : Bool) => J74 v85_3 = some y) (E := fun (v85_3 : Bool) => [(1, .int .i64 v1_1), (3, .pointer (some ⟨(fr1 0).x, 0, none⟩)), (7, .slice o20000_1 l20000_1.length k20000_1), (8, .int .i64 (a1 + a2)), (9, .int .i64 y64.1), (10, .int .i64 y64.2), (11, .int .i64 (if ((a1 + a2) - v1_1) < (a0.Unit - (Int.tmod v1_1 a0.Unit)) then ((a1 + a2) - v1_1) else (a0.Unit - (Int.tmod v1_1 a0.Unit)))), (12, .int .i64 (((l20000_1.length : Nat) : Int) - 1)), (85, .bool v85_3)]) (M := fun (v85_3 : Bool) => [(1, .cells ((fr1 0).x) 23 [.int .i64 a0.Unit, .int .i64 a0.Count, .int .i64 a0.Size]), (20000, o44 o20000_1 k20000_1 l20000_1)]) ?_ ?_
          rotate_left
          · intro H75
            refine br_elim hm (fun h73 hm => ?_) (fun h73 hm => ?_)
            · skip
              refine grd_elim hm (fun g74 hm => ?_)
              refine br_elim hm (fun h75 hm => ?_) (fun h75 hm => ?_)
              · skip
                refine grd_elim hm (fun g76 hm => ?_)
                refine GS.region (env' := fun _ => [(1, .int .i64 v1_1), (3, .pointer (some ⟨(fr1 0).x, 0, none⟩)), (7, .slice o20000_1 l20000_1.length k20000_1), (8, .int .i64 (a1 + a2)), (9, .int .i64 y64.1), (10, .int .i64 y64.2), (11, .int .i64 (if ((a1 + a2) - v1_1) < (a0.Unit - (Int.tmod v1_1 a0.Unit)) then ((a1 + a2) - v1_1) else (a0.Unit - (Int.tmod v1_1 a0.Unit)))), (12, .int .i64 (((l20000_1.length : Nat) : Int) - 1)), (85, .bool ((((l20000_1.getD (Int.toNat (((l20000_1.length : Nat) : Int) - 1)) dS_stripe_Extent).At) + ((l20000_1.getD (Int.toNat (((l20000_1.length : Nat) : Int) - 1)) dS_stripe_Extent).N)) == y64.2))]) (mem' := fun _ => [(1, .cells ((fr1 0).x) 23 [.int .i64 a0.Unit, .int .i64 a0.Count, .int .i64 a0.Size]), (20000, o44 o20000_1 k20000_1 l20000_1)]) (RunsTo.mkd [(2, { sp := some (.bool true) }), (5, { act := .idx 20000 (Int.toNat (((l20000_1.length : Nat) : Int) - 1)) }), (7, { act := .load 20000 (Int.toNat (((l20000_1.length : Nat) : Int) - 1)) 0 [.int .i64 ((l20000_1.getD (Int.toNat (((l20000_1.length : Nat) : Int) - 1)) dS_stripe_Extent).Object), .int .i64 ((l20000_1.getD (Int.toNat (((l20000_1.length : Nat) : Int) - 1)) dS_stripe_Extent).At), .int .i64 ((l20000_1.getD (Int.toNat (((l20000_1.length : Nat) : Int) - 1)) dS_stripe_Extent).N)] }), (11, { sp := some (.bool true) }), (14, { act := .idx 20000 (Int.toNat (((l20000_1.length : Nat) : Int) - 1)) }), (16, { act := .load 20000 (Int.toNat (((l20000_1.length : Nat) : Int) - 1)) 1 [.int .i64 ((l20000_1.getD (Int.toNat (((l20000_1.length : Nat) : Int) - 1)) dS_stripe_Extent).Object), .int .i64 ((l20000_1.getD (Int.toNat (((l20000_1.length : Nat) : Int) - 1)) dS_stripe_Extent).At), .int .i64 ((l20000_1.getD (Int.toNat (((l20000_1.length : Nat) : Int) - 1)) dS_stripe_Extent).N)] }), (19, { act := .idx 20000 (Int.toNat (((l20000_1.length : Nat) : Int) - 1)) }), (21, { act := .load 20000 (Int.toNat (((l20000_1.length : Nat) : Int) - 1)) 2 [.int .i64 ((l20000_1.getD (Int.toNat (((l20000_1.length : Nat) : Int) - 1)) dS_stripe_Extent).Object), .int .i64 ((l20000_1.getD (Int.toNat (((l20000_1.length : Nat) : Int) - 1)) dS_stripe_Extent).At), .int .i64 ((l20000_1.getD (Int.toNat (((l20000_1.length : Nat) : Int) - 1)) dS_stripe_Extent).N)] }), (22, { sp := some (.int .i64 (((l20000_1.getD (Int.toNat (((l20000_1.length : Nat) : Int) - 1)) dS_stripe_Extent).At) + ((l20000_1.getD (Int.toNat (((l20000_1.length : Nat) : Int) - 1)) dS_stripe_Extent).N))) })] [1, 3, 7, 8, 9, 10, 11, 12, 85] [1, 20000] (fun _ => [((.bool (decide ((((l20000_1.length : Nat) : Int) - 1) ≥ 0))) : Value) = .bool true, o20000_1 = o20000_1, l20000_1.length = (List.map S_stripe_Extent.row l20000_1).length, ((((l20000_1.length : Nat) : Int) - 1) : Int) = (((Int.toNat (((l20000_1.length : Nat) : Int) - 1)) : Nat) : Int), (Int.toNat (((l20000_1.length : Nat) : Int) - 1)) < l20000_1.length, blk o20000_1 = blk o20000_1, offs o20000_1 + (Int.toNat (((l20000_1.length : Nat) : Int) - 1)) * 3 = offs o20000_1 + ((Int.toNat (((l20000_1.length : Nat) : Int) - 1)) * 3 + 0), (List.map S_stripe_Extent.row l20000_1)[(Int.toNat (((l20000_1.length : Nat) : Int) - 1))]? = some [.int .i64 ((l20000_1.getD (Int.toNat (((l20000_1.length : Nat) : Int) - 1)) dS_stripe_Extent).Object), .int .i64 ((l20000_1.getD (Int.toNat (((l20000_1.length : Nat) : Int) - 1)) dS_stripe_Extent).At), .int .i64 ((l20000_1.getD (Int.toNat (((l20000_1.length : Nat) : Int) - 1)) dS_stripe_Extent).N)], ((.bool (((l20000_1.getD (Int.toNat (((l20000_1.length : Nat) : Int) - 1)) dS_stripe_Extent).Object) == y64.1)) : Value) = .bool true, o20000_1 = o20000_1, l20000_1.length = (List.map S_stripe_Extent.row l20000_1).length, ((((l20000_1.length : Nat) : Int) - 1) : Int) = (((Int.toNat (((l20000_1.length : Nat) : Int) - 1)) : Nat) : Int), (Int.toNat (((l20000_1.length : Nat) : Int) - 1)) < l20000_1.length, blk o20000_1 = blk o20000_1, offs o20000_1 + (Int.toNat (((l20000_1.length : Nat) : Int) - 1)) * 3 + 1 = offs o20000_1 + ((Int.toNat (((l20000_1.length : Nat) : Int) - 1)) * 3 + 1), (List.map S_stripe_Extent.row l20000_1)[(Int.toNat (((l20000_1.length : Nat) : Int) - 1))]? = some [.int .i64 ((l20000_1.getD (Int.toNat (((l20000_1.length : Nat) : Int) - 1)) dS_stripe_Extent).Object), .int .i64 ((l20000_1.getD (Int.toNat (((l20000_1.length : Nat) : Int) - 1)) dS_stripe_Extent).At), .int .i64 ((l20000_1.getD (Int.toNat (((l20000_1.length : Nat) : Int) - 1)) dS_stripe_Extent).N)], o20000_1 = o20000_1, l20000_1.length = (List.map S_stripe_Extent.row l20000_1).length, ((((l20000_1.length : Nat) : Int) - 1) : Int) = (((Int.toNat (((l20000_1.length : Nat) : Int) - 1)) : Nat) : Int), (Int.toNat (((l20000_1.length : Nat) : Int) - 1)) < l20000_1.length, blk o20000_1 = blk o20000_1, offs o20000_1 + (Int.toNat (((l20000_1.length : Nat) : Int) - 1)) * 3 + 2 = offs o20000_1 + ((Int.toNat (((l20000_1.length : Nat) : Int) - 1)) * 3 + 2), (List.map S_stripe_Extent.row l20000_1)[(Int.toNat (((l20000_1.length : Nat) : Int) - 1))]? = some [.int .i64 ((l20000_1.getD (Int.toNat (((l20000_1.length : Nat) : Int) - 1)) dS_stripe_Extent).Object), .int .i64 ((l20000_1.getD (Int.toNat (((l20000_1.length : Nat) : Int) - 1)) dS_stripe_Extent).At), .int .i64 ((l20000_1.getD (Int.toNat (((l20000_1.length : Nat) : Int) - 1)) dS_stripe_Extent).N)], ((.int .i64 (IntKind.i64.wrap (((l20000_1.getD (Int.toNat (((l20000_1.length : Nat) : Int) - 1)) dS_stripe_Extent).At) + ((l20000_1.getD (Int.toNat (((l20000_1.length : Nat) : Int) - 1)) dS_stripe_Extent).N)))) : Value) = .int .i64 (((l20000_1.getD (Int.toNat (((l20000_1.length : Nat) : Int) - 1)) dS_stripe_Extent).At) + ((l20000_1.getD (Int.toNat (((l20000_1.length : Nat) : Int) - 1)) dS_stripe_Extent).N))]) (by kernel_rfl) (by kernel_rfl) (fun _ => by kernel_rfl) (fun _ => ⟨bool_eq h73, rfl, mlen S_stripe_Extent.row l20000_1, g74.eq, g74.2, rfl, rfl, map_at S_stripe_Extent.row dS_stripe_Extent g74.2, bool_eq h75, rfl, mlen S_stripe_Extent.row l20000_1, g74.eq, g74.2, rfl, (Nat.add_assoc ..), map_at S_stripe_Extent.row dS_stripe_Extent g74.2, rfl, mlen S_stripe_Extent.row l20000_1, g74.eq, g74.2, rfl, (Nat.add_assoc ..), map_at S_stripe_Extent.row dS_stripe_Extent g74.2, I64.w g76, trivial⟩)) ?_
                intro _
                refine GS.rekey (env' := [(1, .int .i64 v1_1), (3, .pointer (some ⟨(fr1 0).x, 0, none⟩)), (7, .slice o20000_1 l20000_1.length k20000_1), (8, .int .i64 (a1 + a2)), (9, .int .i64 y64.1), (10, .int .i64 y64.2), (11, .int .i64 (if ((a1 + a2) - v1_1) < (a0.Unit - (Int.tmod v1_1 a0.Unit)) then ((a1 + a2) - v1_1) else (a0.Unit - (Int.tmod v1_1 a0.Unit)))), (12, .int .i64 (((l20000_1.length : Nat) : Int) - 1)), (85, .bool ((((l20000_1.getD (Int.toNat (((l20000_1.length : Nat) : Int) - 1)) dS_stripe_Extent).At) + ((l20000_1.getD (Int.toNat (((l20000_1.length : Nat) : Int) - 1)) dS_stripe_Extent).N)) == y64.2))]) (mem' := [(1, .cells ((fr1 0).x) 23 [.int .i64 a0.Unit, .int .i64 a0.Count, .int .i64 a0.Size]), (20000, o44 o20000_1 k20000_1 l20000_1)]) [1, 3, 7, 8, 9, 10, 11, 12, 85] [(1, 1), (20000, 20000)] (by kernel_rfl) (by kernel_rfl) rfl ?_
                exact H75 ((((l20000_1.getD (Int.toNat (((l20000_1.length : Nat) : Int) - 1)) dS_stripe_Extent).At) + ((l20000_1.getD (Int.toNat (((l20000_1.length : Nat) : Int) - 1)) dS_stripe_Extent).N)) == y64.2) hm
              · skip
                refine GS.region (env' := fun _ => [(1, .int .i64 v1_1), (3, .pointer (some ⟨(fr1 0).x, 0, none⟩)), (7, .slice o20000_1 l20000_1.length k20000_1), (8, .int .i64 (a1 + a2)), (9, .int .i64 y64.1), (10, .int .i64 y64.2), (11, .int .i64 (if ((a1 + a2) - v1_1) < (a0.Unit - (Int.tmod v1_1 a0.Unit)) then ((a1 + a2) - v1_1) else (a0.Unit - (Int.tmod v1_1 a0.Unit)))), (12, .int .i64 (((l20000_1.length : Nat) : Int) - 1)), (85, .bool false)]) (mem' := fun _ => [(1, .cells ((fr1 0).x) 23 [.int .i64 a0.Unit, .int .i64 a0.Count, .int .i64 a0.Size]), (20000, o44 o20000_1 k20000_1 l20000_1)]) (RunsTo.mkd [(2, { sp := some (.bool true) }), (5, { act := .idx 20000 (Int.toNat (((l20000_1.length : Nat) : Int) - 1)) }), (7, { act := .load 20000 (Int.toNat (((l20000_1.length : Nat) : Int) - 1)) 0 [.int .i64 ((l20000_1.getD (Int.toNat (((l20000_1.length : Nat) : Int) - 1)) dS_stripe_Extent).Object), .int .i64 ((l20000_1.getD (Int.toNat (((l20000_1.length : Nat) : Int) - 1)) dS_stripe_Extent).At), .int .i64 ((l20000_1.getD (Int.toNat (((l20000_1.length : Nat) : Int) - 1)) dS_stripe_Extent).N)] }), (11, { sp := some (.bool false) })] [1, 3, 7, 8, 9, 10, 11, 12, 85] [1, 20000] (fun _ => [((.bool (decide ((((l20000_1.length : Nat) : Int) - 1) ≥ 0))) : Value) = .bool true, o20000_1 = o20000_1, l20000_1.length = (List.map S_stripe_Extent.row l20000_1).length, ((((l20000_1.length : Nat) : Int) - 1) : Int) = (((Int.toNat (((l20000_1.length : Nat) : Int) - 1)) : Nat) : Int), (Int.toNat (((l20000_1.length : Nat) : Int) - 1)) < l20000_1.length, blk o20000_1 = blk o20000_1, offs o20000_1 + (Int.toNat (((l20000_1.length : Nat) : Int) - 1)) * 3 = offs o20000_1 + ((Int.toNat (((l20000_1.length : Nat) : Int) - 1)) * 3 + 0), (List.map S_stripe_Extent.row l20000_1)[(Int.toNat (((l20000_1.length : Nat) : Int) - 1))]? = some [.int .i64 ((l20000_1.getD (Int.toNat (((l20000_1.length : Nat) : Int) - 1)) dS_stripe_Extent).Object), .int .i64 ((l20000_1.getD (Int.toNat (((l20000_1.length : Nat) : Int) - 1)) dS_stripe_Extent).At), .int .i64 ((l20000_1.getD (Int.toNat (((l20000_1.length : Nat) : Int) - 1)) dS_stripe_Extent).N)], ((.bool (((l20000_1.getD (Int.toNat (((l20000_1.length : Nat) : Int) - 1)) dS_stripe_Extent).Object) == y64.1)) : Value) = .bool false]) (by kernel_rfl) (by kernel_rfl) (fun _ => by kernel_rfl) (fun _ => ⟨bool_eq h73, rfl, mlen S_stripe_Extent.row l20000_1, g74.eq, g74.2, rfl, rfl, map_at S_stripe_Extent.row dS_stripe_Extent g74.2, bool_eq h75, trivial⟩)) ?_
                intro _
                refine GS.rekey (env' := [(1, .int .i64 v1_1), (3, .pointer (some ⟨(fr1 0).x, 0, none⟩)), (7, .slice o20000_1 l20000_1.length k20000_1), (8, .int .i64 (a1 + a2)), (9, .int .i64 y64.1), (10, .int .i64 y64.2), (11, .int .i64 (if ((a1 + a2) - v1_1) < (a0.Unit - (Int.tmod v1_1 a0.Unit)) then ((a1 + a2) - v1_1) else (a0.Unit - (Int.tmod v1_1 a0.Unit)))), (12, .int .i64 (((l20000_1.length : Nat) : Int) - 1)), (85, .bool false)]) (mem' := [(1, .cells ((fr1 0).x) 23 [.int .i64 a0.Unit, .int .i64 a0.Count, .int .i64 a0.Size]), (20000, o44 o20000_1 k20000_1 l20000_1)]) [1, 3, 7, 8, 9, 10, 11, 12, 85] [(1, 1), (20000, 20000)] (by kernel_rfl) (by kernel_rfl) rfl ?_
                exact H75 false hm
            · skip
              refine GS.region (env' := fun _ => [(1, .int .i64 v1_1), (3, .pointer (some ⟨(fr1 0).x, 0, none⟩)), (7, .slice o20000_1 l20000_1.length k20000_1), (8, .int .i64 (a1 + a2)), (9, .int .i64 y64.1), (10, .int .i64 y64.2), (11, .int .i64 (if ((a1 + a2) - v1_1) < (a0.Unit - (Int.tmod v1_1 a0.Unit)) then ((a1 + a2) - v1_1) else (a0.Unit - (Int.tmod v1_1 a0.Unit)))), (12, .int .i64 (((l20000_1.length : Nat) : Int) - 1)), (85, .bool false)]) (mem' := fun _ => [(1, .cells ((fr1 0).x) 23 [.int .i64 a0.Unit, .int .i64 a0.Count, .int .i64 a0.Size]), (20000, o44 o20000_1 k20000_1 l20000_1)]) (RunsTo.mkd [(2, { sp := some (.bool false) })] [1, 3, 7, 8, 9, 10, 11, 12, 85] [1, 20000] (fun _ => [((.bool (decide ((((l20000_1.length : Nat) : Int) - 1) ≥ 0))) : Value) = .bool false]) (by kernel_rfl) (by kernel_rfl) (fun _ => by kernel_rfl) (fun _ => ⟨bool_eq h73, trivial⟩)) ?_
              intro _
              refine GS.rekey (env' := [(1, .int .i64 v1_1), (3, .pointer (some ⟨(fr1 0).x, 0, none⟩)), (7, .slice o20000_1 l20000_1.length k20000_1), (8, .int .i64 (a1 + a2)), (9, .int .i64 y64.1), (10, .int .i64 y64.2), (11, .int .i64 (if ((a1 + a2) - v1_1) < (a0.Unit - (Int.tmod v1_1 a0.Unit)) then ((a1 + a2) - v1_1) else (a0.Unit - (Int.tmod v1_1 a0.Unit)))), (12, .int .i64 (((l20000_1.length : Nat) : Int) - 1)), (85, .bool false)]) (mem' := [(1, .cells ((fr1 0).x) 23 [.int .i64 a0.Unit, .int .i64 a0.Count, .int .i64 a0.Size]), (20000, o44 o20000_1 k20000_1 l20000_1)]) [1, 3, 7, 8, 9, 10, 11, 12, 85] [(1, 1), (20000, 20000)] (by kernel_rfl) (by kernel_rfl) rfl ?_
              exact H75 false hm
          · rintro v85_3 hm
            replace hm := (hJ76 _).symm.trans hm
            try dsimp only at hm
            refine jn_elim hm (fun J83 hJ85 hm => ?_)
            refine GS.cut (ι := List S_stripe_Extent × Option Addr × Nat) (I := fun ⟨l20000_3, o20000_3, k20000_3⟩ => J83 l20000_3 = some y) (E := fun ⟨l20000_3, o20000_3, k20000_3⟩ => [(1, .int .i64 v1_1), (3, .pointer (some ⟨(fr1 0).x, 0, none⟩)), (7, .slice o20000_3 l20000_3.length k20000_3), (8, .int .i64 (a1 + a2)), (11, .int .i64 (if ((a1 + a2) - v1_1) < (a0.Unit - (Int.tmod v1_1 a0.Unit)) then ((a1 + a2) - v1_1) else (a0.Unit - (Int.tmod v1_1 a0.Unit))))]) (M := fun ⟨l20000_3, o20000_3, k20000_3⟩ => [(1, .cells ((fr1 0).x) 23 [.int .i64 a0.Unit, .int .i64 a0.Count, .int .i64 a0.Size]), (20000, o44 o20000_3 k20000_3 l20000_3)]) ?_ ?_
            rotate_left
            · intro H84
              refine GS.cond (t := v85_3) rfl rfl (fun h77 => ?_) (fun h77 => ?_)
              · replace hm := br_t h77 hm
                refine grd_elim hm (fun g79 hm => ?_)
                refine grd_elim hm (fun g80 hm => ?_)
                refine GS.region (env' := fun _ => [(1, .int .i64 v1_1), (3, .pointer (some ⟨(fr1 0).x, 0, none⟩)), (7, .slice o20000_1 l20000_1.length k20000_1), (8, .int .i64 (a1 + a2)), (11, .int .i64 (if ((a1 + a2) - v1_1) < (a0.Unit - (Int.tmod v1_1 a0.Unit)) then ((a1 + a2) - v1_1) else (a0.Unit - (Int.tmod v1_1 a0.Unit))))]) (mem' := fun _ => [(1, .cells ((fr1 0).x) 23 [.int .i64 a0.Unit, .int .i64 a0.Count, .int .i64 a0.Size]), (20000, .osl o20000_1 k20000_1 44 3 ((List.map S_stripe_Extent.row l20000_1).set (Int.toNat (((l20000_1.length : Nat) : Int) - 1)) [.int .i64 ((l20000_1.getD (Int.toNat (((l20000_1.length : Nat) : Int) - 1)) dS_stripe_Extent).Object), .int .i64 ((l20000_1.getD (Int.toNat (((l20000_1.length : Nat) : Int) - 1)) dS_stripe_Extent).At), .int .i64 (((l20000_1.getD (Int.toNat (((l20000_1.length : Nat) : Int) - 1)) dS_stripe_Extent).N) + (if ((a1 + a2) - v1_1) < (a0.Unit - (Int.tmod v1_1 a0.Unit)) then ((a1 + a2) - v1_1) else (a0.Unit - (Int.tmod v1_1 a0.Unit))))]))]) (RunsTo.mk [(2, { act := .idx 20000 (Int.toNat (((l20000_1.length : Nat) : Int) - 1)) }), (4, { act := .load 20000 (Int.toNat (((l20000_1.length : Nat) : Int) - 1)) 2 [.int .i64 ((l20000_1.getD (Int.toNat (((l20000_1.length : Nat) : Int) - 1)) dS_stripe_Extent).Object), .int .i64 ((l20000_1.getD (Int.toNat (((l20000_1.length : Nat) : Int) - 1)) dS_stripe_Extent).At), .int .i64 ((l20000_1.getD (Int.toNat (((l20000_1.length : Nat) : Int) - 1)) dS_stripe_Extent).N)] }), (6, { sp := some (.int .i64 (((l20000_1.getD (Int.toNat (((l20000_1.length : Nat) : Int) - 1)) dS_stripe_Extent).N) + (if ((a1 + a2) - v1_1) < (a0.Unit - (Int.tmod v1_1 a0.Unit)) then ((a1 + a2) - v1_1) else (a0.Unit - (Int.tmod v1_1 a0.Unit))))) }), (7, { act := .idx 20000 (Int.toNat (((l20000_1.length : Nat) : Int) - 1)) }), (9, { act := .store (Int.toNat (((l20000_1.length : Nat) : Int) - 1)) 2 [.int .i64 ((l20000_1.getD (Int.toNat (((l20000_1.length : Nat) : Int) - 1)) dS_stripe_Extent).Object), .int .i64 ((l20000_1.getD (Int.toNat (((l20000_1.length : Nat) : Int) - 1)) dS_stripe_Extent).At), .int .i64 ((l20000_1.getD (Int.toNat (((l20000_1.length : Nat) : Int) - 1)) dS_stripe_Extent).N)], key := some 20000 })] [1, 3, 7, 8, 11] [1, 20000] (fun _ => [o20000_1 = o20000_1, l20000_1.length = (List.map S_stripe_Extent.row l20000_1).length, ((((l20000_1.length : Nat) : Int) - 1) : Int) = (((Int.toNat (((l20000_1.length : Nat) : Int) - 1)) : Nat) : Int), (Int.toNat (((l20000_1.length : Nat) : Int) - 1)) < l20000_1.length, blk o20000_1 = blk o20000_1, offs o20000_1 + (Int.toNat (((l20000_1.length : Nat) : Int) - 1)) * 3 + 2 = offs o20000_1 + ((Int.toNat (((l20000_1.length : Nat) : Int) - 1)) * 3 + 2), (List.map S_stripe_Extent.row l20000_1)[(Int.toNat (((l20000_1.length : Nat) : Int) - 1))]? = some [.int .i64 ((l20000_1.getD (Int.toNat (((l20000_1.length : Nat) : Int) - 1)) dS_stripe_Extent).Object), .int .i64 ((l20000_1.getD (Int.toNat (((l20000_1.length : Nat) : Int) - 1)) dS_stripe_Extent).At), .int .i64 ((l20000_1.getD (Int.toNat (((l20000_1.length : Nat) : Int) - 1)) dS_stripe_Extent).N)], ((.int .i64 (IntKind.i64.wrap (((l20000_1.getD (Int.toNat (((l20000_1.length : Nat) : Int) - 1)) dS_stripe_Extent).N) + (if ((a1 + a2) - v1_1) < (a0.Unit - (Int.tmod v1_1 a0.Unit)) then ((a1 + a2) - v1_1) else (a0.Unit - (Int.tmod v1_1 a0.Unit)))))) : Value) = .int .i64 (((l20000_1.getD (Int.toNat (((l20000_1.length : Nat) : Int) - 1)) dS_stripe_Extent).N) + (if ((a1 + a2) - v1_1) < (a0.Unit - (Int.tmod v1_1 a0.Unit)) then ((a1 + a2) - v1_1) else (a0.Unit - (Int.tmod v1_1 a0.Unit)))), o20000_1 = o20000_1, l20000_1.length = (List.map S_stripe_Extent.row l20000_1).length, ((((l20000_1.length : Nat) : Int) - 1) : Int) = (((Int.toNat (((l20000_1.length : Nat) : Int) - 1)) : Nat) : Int), (Int.toNat (((l20000_1.length : Nat) : Int) - 1)) < l20000_1.length, blk o20000_1 = blk o20000_1, offs o20000_1 + (Int.toNat (((l20000_1.length : Nat) : Int) - 1)) * 3 + 2 = offs o20000_1 + ((Int.toNat (((l20000_1.length : Nat) : Int) - 1)) * 3 + 2), (List.map S_stripe_Extent.row l20000_1)[(Int.toNat (((l20000_1.length : Nat) : Int) - 1))]? = some [.int .i64 ((l20000_1.getD (Int.toNat (((l20000_1.length : Nat) : Int) - 1)) dS_stripe_Extent).Object), .int .i64 ((l20000_1.getD (Int.toNat (((l20000_1.length : Nat) : Int) - 1)) dS_stripe_Extent).At), .int .i64 ((l20000_1.getD (Int.toNat (((l20000_1.length : Nat) : Int) - 1)) dS_stripe_Extent).N)], ((.int .i64 (((l20000_1.getD (Int.toNat (((l20000_1.length : Nat) : Int) - 1)) dS_stripe_Extent).N) + (if ((a1 + a2) - v1_1) < (a0.Unit - (Int.tmod v1_1 a0.Unit)) then ((a1 + a2) - v1_1) else (a0.Unit - (Int.tmod v1_1 a0.Unit))))) : Value).cells.toList.all Value.oneCell' = true]) (fun _ => by kernel_rfl) (fun _ => ⟨rfl, mlen S_stripe_Extent.row l20000_1, g79.eq, g79.2, rfl, (Nat.add_assoc ..), map_at S_stripe_Extent.row dS_stripe_Extent g79.2, I64.w g80, rfl, mlen S_stripe_Extent.row l20000_1, g79.eq, g79.2, rfl, (Nat.add_assoc ..), map_at S_stripe_Extent.row dS_stripe_Extent g79.2, rfl, trivial⟩)) ?_
                intro _
                refine GS.conv (mem' := [(1, .cells ((fr1 0).x) 23 [.int .i64 a0.Unit, .int .i64 a0.Count, .int .i64 a0.Size]), (20000, o44 o20000_1 k20000_1 (l20000_1.set (Int.toNat (((l20000_1.length : Nat) : Int) - 1)) (S_stripe_Extent.mk ((l20000_1.getD (Int.toNat (((l20000_1.length : Nat) : Int) - 1)) dS_stripe_Extent).Object) ((l20000_1.getD (Int.toNat (((l20000_1.length : Nat) : Int) - 1)) dS_stripe_Extent).At) (((l20000_1.getD (Int.toNat (((l20000_1.length : Nat) : Int) - 1)) dS_stripe_Extent).N) + (if ((a1 + a2) - v1_1) < (a0.Unit - (Int.tmod v1_1 a0.Unit)) then ((a1 + a2) - v1_1) else (a0.Unit - (Int.tmod v1_1 a0.Unit)))))))]) rfl (congrArg (fun rr : List (List Value) => ([(1, .cells ((fr1 0).x) 23 [.int .i64 a0.Unit, .int .i64 a0.Count, .int .i64 a0.Size]), (20000, .osl o20000_1 k20000_1 44 3 rr)] : List (Nat × Ent))) (show (List.map S_stripe_Extent.row l20000_1).set (Int.toNat (((l20000_1.length : Nat) : Int) - 1)) [.int .i64 ((l20000_1.getD (Int.toNat (((l20000_1.length : Nat) : Int) - 1)) dS_stripe_Extent).Object), .int .i64 ((l20000_1.getD (Int.toNat (((l20000_1.length : Nat) : Int) - 1)) dS_stripe_Extent).At), .int .i64 (((l20000_1.getD (Int.toNat (((l20000_1.length : Nat) : Int) - 1)) dS_stripe_Extent).N) + (if ((a1 + a2) - v1_1) < (a0.Unit - (Int.tmod v1_1 a0.Unit)) then ((a1 + a2) - v1_1) else (a0.Unit - (Int.tmod v1_1 a0.Unit))))] = List.map S_stripe_Extent.row (l20000_1.set (Int.toNat (((l20000_1.length : Nat) : Int) - 1)) (S_stripe_Extent.mk ((l20000_1.getD (Int.toNat (((l20000_1.length : Nat) : Int) - 1)) dS_stripe_Extent).Object) ((l20000_1.getD (Int.toNat (((l20000_1.length : Nat) : Int) - 1)) dS_stripe_Extent).At) (((l20000_1.getD (Int.toNat (((l20000_1.length : Nat) : Int) - 1)) dS_stripe_Extent).N) + (if ((a1 + a2) - v1_1) < (a0.Unit - (Int.tmod v1_1 a0.Unit)) then ((a1 + a2) - v1_1) else (a0.Unit - (Int.tmod v1_1 a0.Unit)))))) from mset S_stripe_Extent.row l20000_1 (Int.toNat (((l20000_1.length : Nat) : Int) - 1)) (S_stripe_Extent.mk ((l20000_1.getD (Int.toNat (((l20000_1.length : Nat) : Int) - 1)) dS_stripe_Extent).Object) ((l20000_1.getD (Int.toNat (((l20000_1.length : Nat) : Int) - 1)) dS_stripe_Extent).At) (((l20000_1.getD (Int.toNat (((l20000_1.length : Nat) : Int) - 1)) dS_stripe_Extent).N) + (if ((a1 + a2) - v1_1) < (a0.Unit - (Int.tmod v1_1 a0.Unit)) then ((a1 + a2) - v1_1) else (a0.Unit - (Int.tmod v1_1 a0.Unit))))))) ?_
                refine GS.conv (env' := [(1, .int .i64 v1_1), (3, .pointer (some ⟨(fr1 0).x, 0, none⟩)), (7, .slice o20000_1 ((l20000_1.set (Int.toNat (((l20000_1.length : Nat) : Int) - 1)) (S_stripe_Extent.mk ((l20000_1.getD (Int.toNat (((l20000_1.length : Nat) : Int) - 1)) dS_stripe_Extent).Object) ((l20000_1.getD (Int.toNat (((l20000_1.length : Nat) : Int) - 1)) dS_stripe_Extent).At) (((l20000_1.getD (Int.toNat (((l20000_1.length : Nat) : Int) - 1)) dS_stripe_Extent).N) + (if ((a1 + a2) - v1_1) < (a0.Unit - (Int.tmod v1_1 a0.Unit)) then ((a1 + a2) - v1_1) else (a0.Unit - (Int.tmod v1_1 a0.Unit)))))).length) k20000_1), (8, .int .i64 (a1 + a2)), (11, .int .i64 (if ((a1 + a2) - v1_1) < (a0.Unit - (Int.tmod v1_1 a0.Unit)) then ((a1 + a2) - v1_1) else (a0.Unit - (Int.tmod v1_1 a0.Unit))))]) (congrArg (fun vhole : Value => [(1, .int .i64 v1_1), (3, .pointer (some ⟨(fr1 0).x, 0, none⟩)), (7, vhole), (8, .int .i64 (a1 + a2)), (11, .int .i64 (if ((a1 + a2) - v1_1) < (a0.Unit - (Int.tmod v1_1 a0.Unit)) then ((a1 + a2) - v1_1) else (a0.Unit - (Int.tmod v1_1 a0.Unit))))]) (show ((.slice o20000_1 l20000_1.length k20000_1 : Value) = .slice o20000_1 ((l20000_1.set (Int.toNat (((l20000_1.length : Nat) : Int) - 1)) (S_stripe_Extent.mk ((l20000_1.getD (Int.toNat (((l20000_1.length : Nat) : Int) - 1)) dS_stripe_Extent).Object) ((l20000_1.getD (Int.toNat (((l20000_1.length : Nat) : Int) - 1)) dS_stripe_Extent).At) (((l20000_1.getD (Int.toNat (((l20000_1.length : Nat) : Int) - 1)) dS_stripe_Extent).N) + (if ((a1 + a2) - v1_1) < (a0.Unit - (Int.tmod v1_1 a0.Unit)) then ((a1 + a2) - v1_1) else (a0.Unit - (Int.tmod v1_1 a0.Unit)))))).length) k20000_1) from (by simp []))) rfl ?_
                refine GS.rekey (env' := [(1, .int .i64 v1_1), (3, .pointer (some ⟨(fr1 0).x, 0, none⟩)), (7, .slice o20000_1 ((l20000_1.set (Int.toNat (((l20000_1.length : Nat) : Int) - 1)) (S_stripe_Extent.mk ((l20000_1.getD (Int.toNat (((l20000_1.length : Nat) : Int) - 1)) dS_stripe_Extent).Object) ((l20000_1.getD (Int.toNat (((l20000_1.length : Nat) : Int) - 1)) dS_stripe_Extent).At) (((l20000_1.getD (Int.toNat (((l20000_1.length : Nat) : Int) - 1)) dS_stripe_Extent).N) + (if ((a1 + a2) - v1_1) < (a0.Unit - (Int.tmod v1_1 a0.Unit)) then ((a1 + a2) - v1_1) else (a0.Unit - (Int.tmod v1_1 a0.Unit)))))).length) k20000_1), (8, .int .i64 (a1 + a2)), (11, .int .i64 (if ((a1 + a2) - v1_1) < (a0.Unit - (Int.tmod v1_1 a0.Unit)) then ((a1 + a2) - v1_1) else (a0.Unit - (Int.tmod v1_1 a0.Unit))))]) (mem' := [(1, .cells ((fr1 0).x) 23 [.int .i64 a0.Unit, .int .i64 a0.Count, .int .i64 a0.Size]), (20000, o44 o20000_1 k20000_1 (l20000_1.set (Int.toNat (((l20000_1.length : Nat) : Int) - 1)) (S_stripe_Extent.mk ((l20000_1.getD (Int.toNat (((l20000_1.length : Nat) : Int) - 1)) dS_stripe_Extent).Object) ((l20000_1.getD (Int.toNat (((l20000_1.length : Nat) : Int) - 1)) dS_stripe_Extent).At) (((l20000_1.getD (Int.toNat (((l20000_1.length : Nat) : Int) - 1)) dS_stripe_Extent).N) + (if ((a1 + a2) - v1_1) < (a0.Unit - (Int.tmod v1_1 a0.Unit)) then ((a1 + a2) - v1_1) else (a0.Unit - (Int.tmod v1_1 a0.Unit)))))))]) [1, 3, 7, 8, 11] [(1, 1), (20000, 20000)] (by kernel_rfl) (by kernel_rfl) rfl ?_
                exact H84 ⟨(l20000_1.set (Int.toNat (((l20000_1.length : Nat) : Int) - 1)) (S_stripe_Extent.mk ((l20000_1.getD (Int.toNat (((l20000_1.length : Nat) : Int) - 1)) dS_stripe_Extent).Object) ((l20000_1.getD (Int.toNat (((l20000_1.length : Nat) : Int) - 1)) dS_stripe_Extent).At) (((l20000_1.getD (Int.toNat (((l20000_1.length : Nat) : Int) - 1)) dS_stripe_Extent).N) + (if ((a1 + a2) - v1_1) < (a0.Unit - (Int.tmod v1_1 a0.Unit)) then ((a1 + a2) - v1_1) else (a0.Unit - (Int.tmod v1_1 a0.Unit)))))), o20000_1, k20000_1⟩ hm
              · replace hm := br_f h77 hm
                refine grd_elim hm (fun g82 hm => ?_)
                refine GS.region (env' := fun fr81 => [(1, .int .i64 v1_1), (3, .pointer (some ⟨(fr1 0).x, 0, none⟩)), (7, .slice ((fr81 6).ob) ((l20000_1 ++ [(S_stripe_Extent.mk y64.1 y64.2 (if ((a1 + a2) - v1_1) < (a0.Unit - (Int.tmod v1_1 a0.Unit)) then ((a1 + a2) - v1_1) else (a0.Unit - (Int.tmod v1_1 a0.Unit))))]).length) ((fr81 6).cap)), (8, .int .i64 (a1 + a2)), (11, .int .i64 (if ((a1 + a2) - v1_1) < (a0.Unit - (Int.tmod v1_1 a0.Unit)) then ((a1 + a2) - v1_1) else (a0.Unit - (Int.tmod v1_1 a0.Unit))))]) (mem' := fun fr81 => [(1, .cells ((fr1 0).x) 23 [.int .i64 a0.Unit, .int .i64 a0.Count, .int .i64 a0.Size]), (20000, .osl ((fr81 6).ob) ((fr81 6).cap) 44 3 ((List.map S_stripe_Extent.row l20000_1) ++ ([[.int .i64 y64.1, .int .i64 y64.2, .int .i64 (if ((a1 + a2) - v1_1) < (a0.Unit - (Int.tmod v1_1 a0.Unit)) then ((a1 + a2) - v1_1) else (a0.Unit - (Int.tmod v1_1 a0.Unit)))]] : List (List Value))))]) (RunsTo.mk [(5, { act := .new (.row 1 3), key := some 20001, spf := some (fun f => .slice (some (Addr.mk f.x 0 none)) ([(S_stripe_Extent.mk y64.1 y64.2 (if ((a1 + a2) - v1_1) < (a0.Unit - (Int.tmod v1_1 a0.Unit)) then ((a1 + a2) - v1_1) else (a0.Unit - (Int.tmod v1_1 a0.Unit))))].length) 1) }), (6, { act := .app (some 20001), key := some 20000, spf := some (fun f => .slice (f.ob) ((l20000_1 ++ [(S_stripe_Extent.mk y64.1 y64.2 (if ((a1 + a2) - v1_1) < (a0.Unit - (Int.tmod v1_1 a0.Unit)) then ((a1 + a2) - v1_1) else (a0.Unit - (Int.tmod v1_1 a0.Unit))))]).length) (f.cap)) })] [1, 3, 7, 8, 11] [1, 20000] (fun fr81 => [((.slice (some (Addr.mk (fr81 5).x 0 none)) 1 1) : Value) = .slice (some (Addr.mk (fr81 5).x 0 none)) ([(S_stripe_Extent.mk y64.1 y64.2 (if ((a1 + a2) - v1_1) < (a0.Unit - (Int.tmod v1_1 a0.Unit)) then ((a1 + a2) - v1_1) else (a0.Unit - (Int.tmod v1_1 a0.Unit))))].length) 1, (some (Addr.mk (fr81 5).x 0 none)) = (some (Addr.mk (fr81 5).x 0 none)), [(S_stripe_Extent.mk y64.1 y64.2 (if ((a1 + a2) - v1_1) < (a0.Unit - (Int.tmod v1_1 a0.Unit)) then ((a1 + a2) - v1_1) else (a0.Unit - (Int.tmod v1_1 a0.Unit))))].length = ([[.int .i64 y64.1, .int .i64 y64.2, .int .i64 (if ((a1 + a2) - v1_1) < (a0.Unit - (Int.tmod v1_1 a0.Unit)) then ((a1 + a2) - v1_1) else (a0.Unit - (Int.tmod v1_1 a0.Unit)))]] : List (List Value)).length, o20000_1 = o20000_1, k20000_1 = k20000_1, l20000_1.length = (List.map S_stripe_Extent.row l20000_1).length, ((List.map S_stripe_Extent.row l20000_1).length + ([[.int .i64 y64.1, .int .i64 y64.2, .int .i64 (if ((a1 + a2) - v1_1) < (a0.Unit - (Int.tmod v1_1 a0.Unit)) then ((a1 + a2) - v1_1) else (a0.Unit - (Int.tmod v1_1 a0.Unit)))]] : List (List Value)).length) * (24 + 1) ≤ 70368744177664, ([[.int .i64 y64.1, .int .i64 y64.2, .int .i64 (if ((a1 + a2) - v1_1) < (a0.Unit - (Int.tmod v1_1 a0.Unit)) then ((a1 + a2) - v1_1) else (a0.Unit - (Int.tmod v1_1 a0.Unit)))]] : List (List Value)).flatten.all Value.oneCell' = true, ((.slice ((fr81 6).ob) (l20000_1.length + ([[.int .i64 y64.1, .int .i64 y64.2, .int .i64 (if ((a1 + a2) - v1_1) < (a0.Unit - (Int.tmod v1_1 a0.Unit)) then ((a1 + a2) - v1_1) else (a0.Unit - (Int.tmod v1_1 a0.Unit)))]] : List (List Value)).length) ((fr81 6).cap)) : Value) = .slice ((fr81 6).ob) ((l20000_1 ++ [(S_stripe_Extent.mk y64.1 y64.2 (if ((a1 + a2) - v1_1) < (a0.Unit - (Int.tmod v1_1 a0.Unit)) then ((a1 + a2) - v1_1) else (a0.Unit - (Int.tmod v1_1 a0.Unit))))]).length) ((fr81 6).cap)]) (fun fr81 => by kernel_rfl) (fun fr81 => ⟨rfl, rfl, (by rw [show ([[.int .i64 y64.1, .int .i64 y64.2, .int .i64 (if ((a1 + a2) - v1_1) < (a0.Unit - (Int.tmod v1_1 a0.Unit)) then ((a1 + a2) - v1_1) else (a0.Unit - (Int.tmod v1_1 a0.Unit)))]] : List (List Value)) = List.map S_stripe_Extent.row [(S_stripe_Extent.mk y64.1 y64.2 (if ((a1 + a2) - v1_1) < (a0.Unit - (Int.tmod v1_1 a0.Unit)) then ((a1 + a2) - v1_1) else (a0.Unit - (Int.tmod v1_1 a0.Unit))))] from rfl]; exact mlen S_stripe_Extent.row [(S_stripe_Extent.mk y64.1 y64.2 (if ((a1 + a2) - v1_1) < (a0.Unit - (Int.tmod v1_1 a0.Unit)) then ((a1 + a2) - v1_1) else (a0.Unit - (Int.tmod v1_1 a0.Unit))))]), rfl, rfl, mlen S_stripe_Extent.row l20000_1, appb g82 (mlen S_stripe_Extent.row l20000_1).symm (by rw [show ([[.int .i64 y64.1, .int .i64 y64.2, .int .i64 (if ((a1 + a2) - v1_1) < (a0.Unit - (Int.tmod v1_1 a0.Unit)) then ((a1 + a2) - v1_1) else (a0.Unit - (Int.tmod v1_1 a0.Unit)))]] : List (List Value)) = List.map S_stripe_Extent.row [(S_stripe_Extent.mk y64.1 y64.2 (if ((a1 + a2) - v1_1) < (a0.Unit - (Int.tmod v1_1 a0.Unit)) then ((a1 + a2) - v1_1) else (a0.Unit - (Int.tmod v1_1 a0.Unit))))] from rfl]; exact (mlen S_stripe_Extent.row [(S_stripe_Extent.mk y64.1 y64.2 (if ((a1 + a2) - v1_1) < (a0.Unit - (Int.tmod v1_1 a0.Unit)) then ((a1 + a2) - v1_1) else (a0.Unit - (Int.tmod v1_1 a0.Unit))))]).symm), (by rw [show ([[.int .i64 y64.1, .int .i64 y64.2, .int .i64 (if ((a1 + a2) - v1_1) < (a0.Unit - (Int.tmod v1_1 a0.Unit)) then ((a1 + a2) - v1_1) else (a0.Unit - (Int.tmod v1_1 a0.Unit)))]] : List (List Value)) = List.map S_stripe_Extent.row [(S_stripe_Extent.mk y64.1 y64.2 (if ((a1 + a2) - v1_1) < (a0.Unit - (Int.tmod v1_1 a0.Unit)) then ((a1 + a2) - v1_1) else (a0.Unit - (Int.tmod v1_1 a0.Unit))))] from (show ([[.int .i64 y64.1, .int .i64 y64.2, .int .i64 (if ((a1 + a2) - v1_1) < (a0.Unit - (Int.tmod v1_1 a0.Unit)) then ((a1 + a2) - v1_1) else (a0.Unit - (Int.tmod v1_1 a0.Unit)))]] : List (List Value)) = List.map S_stripe_Extent.row [(S_stripe_Extent.mk y64.1 y64.2 (if ((a1 + a2) - v1_1) < (a0.Unit - (Int.tmod v1_1 a0.Unit)) then ((a1 + a2) - v1_1) else (a0.Unit - (Int.tmod v1_1 a0.Unit))))] from rfl)]; exact all_one S_stripe_Extent.row _ (fun _ => rfl)), slen (by simp), trivial⟩)) ?_
                intro fr81
                refine GS.conv (mem' := [(1, .cells ((fr1 0).x) 23 [.int .i64 a0.Unit, .int .i64 a0.Count, .int .i64 a0.Size]), (20000, o44 ((fr81 6).ob) ((fr81 6).cap) (l20000_1 ++ [(S_stripe_Extent.mk y64.1 y64.2 (if ((a1 + a2) - v1_1) < (a0.Unit - (Int.tmod v1_1 a0.Unit)) then ((a1 + a2) - v1_1) else (a0.Unit - (Int.tmod v1_1 a0.Unit))))]))]) rfl (congrArg (fun rr : List (List Value) => ([(1, .cells ((fr1 0).x) 23 [.int .i64 a0.Unit, .int .i64 a0.Count, .int .i64 a0.Size]), (20000, .osl ((fr81 6).ob) ((fr81 6).cap) 44 3 rr)] : List (Nat × Ent))) (show (List.map S_stripe_Extent.row l20000_1) ++ ([[.int .i64 y64.1, .int .i64 y64.2, .int .i64 (if ((a1 + a2) - v1_1) < (a0.Unit - (Int.tmod v1_1 a0.Unit)) then ((a1 + a2) - v1_1) else (a0.Unit - (Int.tmod v1_1 a0.Unit)))]] : List (List Value)) = List.map S_stripe_Extent.row (l20000_1 ++ [(S_stripe_Extent.mk y64.1 y64.2 (if ((a1 + a2) - v1_1) < (a0.Unit - (Int.tmod v1_1 a0.Unit)) then ((a1 + a2) - v1_1) else (a0.Unit - (Int.tmod v1_1 a0.Unit))))]) from (by rw [show List.map S_stripe_Extent.row l20000_1 = List.map S_stripe_Extent.row l20000_1 from rfl, show ([[.int .i64 y64.1, .int .i64 y64.2, .int .i64 (if ((a1 + a2) - v1_1) < (a0.Unit - (Int.tmod v1_1 a0.Unit)) then ((a1 + a2) - v1_1) else (a0.Unit - (Int.tmod v1_1 a0.Unit)))]] : List (List Value)) = List.map S_stripe_Extent.row [(S_stripe_Extent.mk y64.1 y64.2 (if ((a1 + a2) - v1_1) < (a0.Unit - (Int.tmod v1_1 a0.Unit)) then ((a1 + a2) - v1_1) else (a0.Unit - (Int.tmod v1_1 a0.Unit))))] from (show ([[.int .i64 y64.1, .int .i64 y64.2, .int .i64 (if ((a1 + a2) - v1_1) < (a0.Unit - (Int.tmod v1_1 a0.Unit)) then ((a1 + a2) - v1_1) else (a0.Unit - (Int.tmod v1_1 a0.Unit)))]] : List (List Value)) = List.map S_stripe_Extent.row [(S_stripe_Extent.mk y64.1 y64.2 (if ((a1 + a2) - v1_1) < (a0.Unit - (Int.tmod v1_1 a0.Unit)) then ((a1 + a2) - v1_1) else (a0.Unit - (Int.tmod v1_1 a0.Unit))))] from rfl)]; exact mapp S_stripe_Extent.row _ _))) ?_
                refine GS.rekey (env' := [(1, .int .i64 v1_1), (3, .pointer (some ⟨(fr1 0).x, 0, none⟩)), (7, .slice ((fr81 6).ob) ((l20000_1 ++ [(S_stripe_Extent.mk y64.1 y64.2 (if ((a1 + a2) - v1_1) < (a0.Unit - (Int.tmod v1_1 a0.Unit)) then ((a1 + a2) - v1_1) else (a0.Unit - (Int.tmod v1_1 a0.Unit))))]).length) ((fr81 6).cap)), (8, .int .i64 (a1 + a2)), (11, .int .i64 (if ((a1 + a2) - v1_1) < (a0.Unit - (Int.tmod v1_1 a0.Unit)) then ((a1 + a2) - v1_1) else (a0.Unit - (Int.tmod v1_1 a0.Unit))))]) (mem' := [(1, .cells ((fr1 0).x) 23 [.int .i64 a0.Unit, .int .i64 a0.Count, .int .i64 a0.Size]), (20000, o44 ((fr81 6).ob) ((fr81 6).cap) (l20000_1 ++ [(S_stripe_Extent.mk y64.1 y64.2 (if ((a1 + a2) - v1_1) < (a0.Unit - (Int.tmod v1_1 a0.Unit)) then ((a1 + a2) - v1_1) else (a0.Unit - (Int.tmod v1_1 a0.Unit))))]))]) [1, 3, 7, 8, 11] [(1, 1), (20000, 20000)] (by kernel_rfl) (by kernel_rfl) rfl ?_
                exact H84 ⟨(l20000_1 ++ [(S_stripe_Extent.mk y64.1 y64.2 (if ((a1 + a2) - v1_1) < (a0.Unit - (Int.tmod v1_1 a0.Unit)) then ((a1 + a2) - v1_1) else (a0.Unit - (Int.tmod v1_1 a0.Unit))))]), (fr81 6).ob, (fr81 6).cap⟩ hm
            · rintro ⟨l20000_3, o20000_3, k20000_3⟩ hm
              replace hm := (hJ85 _).symm.trans hm
              try dsimp only at hm
              refine grd_elim hm (fun g87 hm => ?_)
              refine GS.region (env' := fun _ => [(1, .int .i64 (v1_1 + (if ((a1 + a2) - v1_1) < (a0.Unit - (Int.tmod v1_1 a0.Unit)) then ((a1 + a2) - v1_1) else (a0.Unit - (Int.tmod v1_1 a0.Unit))))), (3, .pointer (some ⟨(fr1 0).x, 0, none⟩)), (7, .slice o20000_3 l20000_3.length k20000_3), (8, .int .i64 (a1 + a2))]) (mem' := fun _ => [(1, .cells ((fr1 0).x) 23 [.int .i64 a0.Unit, .int .i64 a0.Count, .int .i64 a0.Size]), (20000, o44 o20000_3 k20000_3 l20000_3)]) (RunsTo.mk [(2, { sp := some (.int .i64 (v1_1 + (if ((a1 + a2) - v1_1) < (a0.Unit - (Int.tmod v1_1 a0.Unit)) then ((a1 + a2) - v1_1) else (a0.Unit - (Int.tmod v1_1 a0.Unit))))) })] [1, 3, 7, 8] [1, 20000] (fun _ => [((.int .i64 (IntKind.i64.wrap (v1_1 + (if ((a1 + a2) - v1_1) < (a0.Unit - (Int.tmod v1_1 a0.Unit)) then ((a1 + a2) - v1_1) else (a0.Unit - (Int.tmod v1_1 a0.Unit)))))) : Value) = .int .i64 (v1_1 + (if ((a1 + a2) - v1_1) < (a0.Unit - (Int.tmod v1_1 a0.Unit)) then ((a1 + a2) - v1_1) else (a0.Unit - (Int.tmod v1_1 a0.Unit))))]) (fun _ => by kernel_rfl) (fun _ => ⟨I64.w g87, trivial⟩)) ?_
              intro _
              refine GS.inBlock ?_
              refine GS.inLoop ?_
              refine GS.rekey (env' := [(1, .int .i64 (v1_1 + (if ((a1 + a2) - v1_1) < (a0.Unit - (Int.tmod v1_1 a0.Unit)) then ((a1 + a2) - v1_1) else (a0.Unit - (Int.tmod v1_1 a0.Unit))))), (3, .pointer (some ⟨(fr1 0).x, 0, none⟩)), (7, .slice o20000_3 l20000_3.length k20000_3), (8, .int .i64 (a1 + a2))]) (mem' := [(1, .cells ((fr1 0).x) 23 [.int .i64 a0.Unit, .int .i64 a0.Count, .int .i64 a0.Size]), (20000, o44 o20000_3 k20000_3 l20000_3)]) [1, 3, 7, 8] [(1, 1), (20000, 20000)] (by kernel_rfl) (by kernel_rfl) rfl ?_
              exact ih90 ⟨rs89, (v1_1 + (if ((a1 + a2) - v1_1) < (a0.Unit - (Int.tmod v1_1 a0.Unit)) then ((a1 + a2) - v1_1) else (a0.Unit - (Int.tmod v1_1 a0.Unit)))), l20000_3, o20000_3, k20000_3⟩ hm (Nat.lt_succ_self _)
        · replace hm := br_f h62 hm
          refine GS.exit rfl ?_
          refine GS.seq ?_
          refine GS.region (env' := fun _ => [(6, .slice o20000_1 l20000_1.length k20000_1)]) (mem' := fun _ => [(20000, o44 o20000_1 k20000_1 l20000_1)]) (RunsTo.mk [] [6] [20000] (fun _ => []) (fun _ => by kernel_rfl) (fun _ => trivial)) ?_
          intro _
          have hy := Option.some.inj hm
          subst hy
          refine GS.ret (fn := Tryd.f21) [0] [.slice o20000_1 l20000_1.length k20000_1] [] rfl Tryd.func21 (by kernel_rfl) trivial (fun w' hs => ?_)
          exact ⟨⟨o20000_1, k20000_1⟩, rfl, hs.turnedG (ks := [20000]) rfl rfl⟩

end Go.Proofs.YtfdojammchbboaaDoor
