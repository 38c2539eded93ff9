/-
  CHAPTER 05x: the functions do what their models say (1).
-/
import Derived.Test.YtmdfkklldbfocaaM05x
set_option linter.unusedVariables false
set_option linter.unusedSimpArgs false
set_option maxRecDepth 100000
set_option maxHeartbeats 8000000
namespace Go.Proofs.Ytmdfkklldbfocaa
open Go Go.RowKit Sx

theorem w_extent_New (F : Nat) {y : Int} (hm : m_extent_New F = some y) : CallG Try.prog 8 #[] (X := Nat) (fun (x0 : Nat) => .pointer (some ⟨x0, 0, none⟩)) [] [] (fun (x0 : Nat) => [.cells x0 56 [.bool true, .pointer none, .int .i64 y]]) := by
  intro w hg
  rw [m_extent_New] at hm
  refine GS.start (S := mayT [] []) (mem := []) Try.func8 rfl Try.ntmps8 (Nat.le_of_ble_eq_true rfl) (hg.start rfl) ?_
  refine GS.conv (env' := []) rfl rfl ?_
  refine GS.seq ?_
  refine GS.region (env' := fun _ => []) (mem' := fun _ => []) (RunsTo.mk [] [] [] (fun _ => []) (fun _ => by kernel_rfl) (fun _ => trivial)) ?_
  intro _
  refine GS.seq ?_
  refine GS.region (env' := fun fr2 => [(0, .pointer (some ⟨(fr2 1).x, 0, none⟩))]) (mem' := fun fr2 => [(1, .cells ((fr2 1).x) 56 [.bool true, .pointer none, .int .i64 0])]) (RunsTo.mk [(1, { act := .new .var, key := some 1 })] [0] [1] (fun fr2 => []) (fun fr2 => by kernel_rfl) (fun fr2 => trivial)) ?_
  intro fr2
  have hy := Option.some.inj hm
  subst hy
  refine GS.ret (fn := Try.f8) [0] [.pointer (some ⟨(fr2 1).x, 0, none⟩)] [] rfl Try.func8 (by kernel_rfl) trivial (fun w' hs => ?_)
  exact ⟨((fr2 1).x), rfl, hs.turnedG (ks := [1]) rfl rfl⟩

theorem w___extent_Map__is (F : Nat) (a0b : Nat) (a0_first_v : Value) (a0_size : Int) {y : Unit} (hm : m___extent_Map__is F a0_size = some y) : CallG Try.prog 25 #[.pointer (some ⟨a0b, 0, none⟩)] (X := Unit) (fun (_ : Unit) => .bool true) [] [.rd (some ⟨a0b, 0, none⟩) 3 ([[.bool true, a0_first_v, .int .i64 a0_size]] : List (List Value))] (fun (_ : Unit) => []) := by
  intro w hg
  rw [m___extent_Map__is] at hm
  refine GS.start (S := mayT [] [.rd (some ⟨a0b, 0, none⟩) 3 ([[.bool true, a0_first_v, .int .i64 a0_size]] : List (List Value))]) (mem := [(1, .rd (some ⟨a0b, 0, none⟩) 3 ([[.bool true, a0_first_v, .int .i64 a0_size]] : List (List Value)))]) Try.func25 rfl Try.ntmps25 (Nat.le_of_ble_eq_true rfl) (hg.start rfl) ?_
  refine GS.conv (env' := [(0, .pointer (some ⟨a0b, 0, none⟩))]) rfl rfl ?_
  refine GS.seq ?_
  refine GS.region (env' := fun _ => [(0, .pointer (some ⟨a0b, 0, none⟩))]) (mem' := fun _ => [(1, .rd (some ⟨a0b, 0, none⟩) 3 ([[.bool true, a0_first_v, .int .i64 a0_size]] : List (List Value)))]) (RunsTo.mk [] [0] [1] (fun _ => []) (fun _ => by kernel_rfl) (fun _ => trivial)) ?_
  intro _
  refine GS.seq ?_
  refine GS.region (env' := fun _ => [(2, .bool true)]) (mem' := fun _ => []) (RunsTo.mk [(6, { act := .load 1 0 0 [.bool true, a0_first_v, .int .i64 a0_size] })] [2] [] (fun _ => [a0b = blk (some ⟨a0b, 0, none⟩), 0 = offs (some ⟨a0b, 0, none⟩) + (0 * 3 + 0), ([[.bool true, a0_first_v, .int .i64 a0_size]] : List (List Value))[0]? = some [.bool true, a0_first_v, .int .i64 a0_size]]) (fun _ => by kernel_rfl) (fun _ => ⟨rfl, rfl, rfl, trivial⟩)) ?_
  intro _
  have hy := Option.some.inj hm
  subst hy
  refine GS.ret (fn := Try.f25) [0] [.bool true] [] rfl Try.func25 (by kernel_rfl) trivial (fun w' hs => ?_)
  exact ⟨(), rfl, hs.turnedG (ks := []) rfl rfl⟩

theorem w___extent_Map__may (F : Nat) (a0b : Nat) (a0_first_v : Value) (a0_size : Int) (a1 : Int) (a2 : Int) {y : Int} (hm : m___extent_Map__may F a0_size a1 a2 = some y) : CallG Try.prog 22 #[.pointer (some ⟨a0b, 0, none⟩), .int .i64 a1, .int .i64 a2] (X := Unit) (fun (_ : Unit) => .int .i64 y) [] [.rd (some ⟨a0b, 0, none⟩) 3 ([[.bool true, a0_first_v, .int .i64 a0_size]] : List (List Value))] (fun (_ : Unit) => []) := by
  intro w hg
  rw [m___extent_Map__may] at hm
  refine GS.start (S := mayT [] [.rd (some ⟨a0b, 0, none⟩) 3 ([[.bool true, a0_first_v, .int .i64 a0_size]] : List (List Value))]) (mem := [(1, .rd (some ⟨a0b, 0, none⟩) 3 ([[.bool true, a0_first_v, .int .i64 a0_size]] : List (List Value)))]) Try.func22 rfl Try.ntmps22 (Nat.le_of_ble_eq_true rfl) (hg.start rfl) ?_
  refine GS.conv (env' := [(0, .pointer (some ⟨a0b, 0, none⟩)), (1, .int .i64 a1), (2, .int .i64 a2)]) rfl rfl ?_
  refine GS.seq ?_
  refine GS.region (env' := fun _ => [(0, .pointer (some ⟨a0b, 0, none⟩)), (1, .int .i64 a1), (2, .int .i64 a2)]) (mem' := fun _ => [(1, .rd (some ⟨a0b, 0, none⟩) 3 ([[.bool true, a0_first_v, .int .i64 a0_size]] : List (List Value)))]) (RunsTo.mk [] [0, 1, 2] [1] (fun _ => []) (fun _ => by kernel_rfl) (fun _ => trivial)) ?_
  intro _
  refine GS.seq ?_
  refine GS.block ?_
  refine GS.seq ?_
  refine bnd_elim hm (fun y3 e4 hm => ?_)
  refine GS.region (env' := fun _ => [(1, .int .i64 a1), (2, .int .i64 a2), (7, .bool false)]) (mem' := fun _ => []) (RunsTo.mk [(1, { act := .call [1] (.bool true) })] [1, 2, 7] [] (fun _ => [CallOK Try.prog 25 #[.pointer (some ⟨a0b, 0, none⟩)] (.bool true) [some (.rd (some ⟨a0b, 0, none⟩) 3 ([[.bool true, a0_first_v, .int .i64 a0_size]] : List (List Value)))]]) (fun _ => by kernel_rfl) (fun _ => ⟨(by have h1 := w___extent_Map__is F a0b a0_first_v a0_size e4; exact h1.ok ⟨(.inl ⟨.rd (some ⟨a0b, 0, none⟩) 3 ([[.bool true, a0_first_v, .int .i64 a0_size]] : List (List Value)), .head _, Cov.refl _⟩), trivial⟩), trivial⟩)) ?_
  intro _
  refine GS.cond (t := false) rfl rfl (fun hf => by cases hf) (fun _ => ?_)
  refine GS.seq ?_
  refine jn_elim hm (fun J7 hJ9 hm => ?_)
  refine GS.cut (ι := Bool) (I := fun (v11_1 : Bool) => J7 v11_1 = some y) (E := fun (v11_1 : Bool) => [(1, .int .i64 a1), (2, .int .i64 a2), (11, .bool v11_1)]) (M := fun (v11_1 : Bool) => []) ?_ ?_
  rotate_left
  · intro H8
    refine br_elim hm (fun h6 hm => ?_) (fun h6 hm => ?_)
    · skip
      refine GS.region (env' := fun _ => [(1, .int .i64 a1), (2, .int .i64 a2), (11, .bool true)]) (mem' := fun _ => []) (RunsTo.mk [(2, { sp := some (.bool true) })] [1, 2, 11] [] (fun _ => [((.bool (decide (a1 < 0))) : Value) = .bool true]) (fun _ => by kernel_rfl) (fun _ => ⟨bool_eq h6, trivial⟩)) ?_
      intro _
      refine GS.rekey (env' := [(1, .int .i64 a1), (2, .int .i64 a2), (11, .bool true)]) (mem' := []) [1, 2, 11] [] (by kernel_rfl) (by kernel_rfl) rfl ?_
      exact H8 true hm
    · skip
      refine GS.region (env' := fun _ => [(1, .int .i64 a1), (2, .int .i64 a2), (11, .bool (decide (a2 < 0)))]) (mem' := fun _ => []) (RunsTo.mk [(2, { sp := some (.bool false) })] [1, 2, 11] [] (fun _ => [((.bool (decide (a1 < 0))) : Value) = .bool false]) (fun _ => by kernel_rfl) (fun _ => ⟨bool_eq h6, trivial⟩)) ?_
      intro _
      refine GS.rekey (env' := [(1, .int .i64 a1), (2, .int .i64 a2), (11, .bool (decide (a2 < 0)))]) (mem' := []) [1, 2, 11] [] (by kernel_rfl) (by kernel_rfl) rfl ?_
      exact H8 (decide (a2 < 0)) hm
  · rintro v11_1 hm
    replace hm := (hJ9 _).symm.trans hm
    try dsimp only at hm
    refine GS.cond (t := v11_1) rfl rfl (fun h10 => ?_) (fun h10 => ?_)
    · replace hm := br_t h10 hm
      refine GS.seq ?_
      refine GS.region (env' := fun _ => [(6, .int .i64 22)]) (mem' := fun _ => []) (RunsTo.mk [] [6] [] (fun _ => []) (fun _ => by kernel_rfl) (fun _ => trivial)) ?_
      intro _
      have hy := Option.some.inj hm
      subst hy
      refine GS.ret (fn := Try.f22) [0] [.int .i64 22] [] rfl Try.func22 (by kernel_rfl) trivial (fun w' hs => ?_)
      exact ⟨(), rfl, hs.turnedG (ks := []) rfl rfl⟩
    · replace hm := br_f h10 hm
      refine GS.seq ?_
      refine jn_elim hm (fun J15 hJ17 hm => ?_)
      refine GS.cut (ι := Bool) (I := fun (v18_2 : Bool) => J15 v18_2 = some y) (E := fun (v18_2 : Bool) => [(18, .bool v18_2)]) (M := fun (v18_2 : Bool) => []) ?_ ?_
      rotate_left
      · intro H16
        refine br_elim hm (fun h13 hm => ?_) (fun h13 hm => ?_)
        · skip
          refine GS.region (env' := fun _ => [(18, .bool true)]) (mem' := fun _ => []) (RunsTo.mk [(2, { sp := some (.bool true) })] [18] [] (fun _ => [((.bool (decide (a1 > 4096))) : Value) = .bool true]) (fun _ => by kernel_rfl) (fun _ => ⟨bool_eq h13, trivial⟩)) ?_
          intro _
          refine GS.rekey (env' := [(18, .bool true)]) (mem' := []) [18] [] (by kernel_rfl) (by kernel_rfl) rfl ?_
          exact H16 true hm
        · skip
          refine grd_elim hm (fun g14 hm => ?_)
          refine GS.region (env' := fun _ => [(18, .bool (decide (a2 > (4096 - a1))))]) (mem' := fun _ => []) (RunsTo.mk [(2, { sp := some (.bool false) }), (5, { sp := some (.int .i64 (4096 - a1)) })] [18] [] (fun _ => [((.bool (decide (a1 > 4096))) : Value) = .bool false, ((.int .i64 (IntKind.i64.wrap (4096 - a1))) : Value) = .int .i64 (4096 - a1)]) (fun _ => by kernel_rfl) (fun _ => ⟨bool_eq h13, I64.w g14, trivial⟩)) ?_
          intro _
          refine GS.rekey (env' := [(18, .bool (decide (a2 > (4096 - a1))))]) (mem' := []) [18] [] (by kernel_rfl) (by kernel_rfl) rfl ?_
          exact H16 (decide (a2 > (4096 - a1))) hm
      · rintro v18_2 hm
        replace hm := (hJ17 _).symm.trans hm
        try dsimp only at hm
        refine GS.cond (t := v18_2) rfl rfl (fun h18 => ?_) (fun h18 => ?_)
        · replace hm := br_t h18 hm
          refine GS.seq ?_
          refine GS.region (env' := fun _ => [(6, .int .i64 27)]) (mem' := fun _ => []) (RunsTo.mk [] [6] [] (fun _ => []) (fun _ => by kernel_rfl) (fun _ => trivial)) ?_
          intro _
          have hy := Option.some.inj hm
          subst hy
          refine GS.ret (fn := Try.f22) [0] [.int .i64 27] [] rfl Try.func22 (by kernel_rfl) trivial (fun w' hs => ?_)
          exact ⟨(), rfl, hs.turnedG (ks := []) rfl rfl⟩
        · replace hm := br_f h18 hm
          refine GS.skip ?_
          refine GS.inBlock ?_
          refine GS.seq ?_
          refine GS.region (env' := fun _ => [(6, .int .i64 0)]) (mem' := fun _ => []) (RunsTo.mk [] [6] [] (fun _ => []) (fun _ => by kernel_rfl) (fun _ => trivial)) ?_
          intro _
          have hy := Option.some.inj hm
          subst hy
          refine GS.ret (fn := Try.f22) [0] [.int .i64 0] [] rfl Try.func22 (by kernel_rfl) trivial (fun w' hs => ?_)
          exact ⟨(), rfl, hs.turnedG (ks := []) rfl rfl⟩

theorem w___extent_run__end (F : Nat) (a0b : Nat) (a0_at_ : Int) (a0_b_o : Option Addr) (a0_b_c : Nat) (a0_b : List UInt8) (a0_next__v : Value) {y : Int} (hm : m___extent_run__end F a0_at_ a0_b = some y) : CallG Try.prog 24 #[.pointer (some ⟨a0b, 0, none⟩)] (X := Unit) (fun (_ : Unit) => .int .i64 y) [] [r5 a0_b_o a0_b, .rd (some ⟨a0b, 0, none⟩) 3 ([[.int .i64 a0_at_, .slice a0_b_o a0_b.length a0_b_c, a0_next__v]] : List (List Value))] (fun (_ : Unit) => []) := by
  intro w hg
  rw [m___extent_run__end] at hm
  refine GS.start (S := mayT [] [r5 a0_b_o a0_b, .rd (some ⟨a0b, 0, none⟩) 3 ([[.int .i64 a0_at_, .slice a0_b_o a0_b.length a0_b_c, a0_next__v]] : List (List Value))]) (mem := [(1, r5 a0_b_o a0_b), (2, .rd (some ⟨a0b, 0, none⟩) 3 ([[.int .i64 a0_at_, .slice a0_b_o a0_b.length a0_b_c, a0_next__v]] : List (List Value)))]) Try.func24 rfl Try.ntmps24 (Nat.le_of_ble_eq_true rfl) (hg.start rfl) ?_
  refine GS.conv (env' := [(0, .pointer (some ⟨a0b, 0, none⟩))]) rfl rfl ?_
  refine GS.seq ?_
  refine GS.region (env' := fun _ => [(0, .pointer (some ⟨a0b, 0, none⟩))]) (mem' := fun _ => [(1, r5 a0_b_o a0_b), (2, .rd (some ⟨a0b, 0, none⟩) 3 ([[.int .i64 a0_at_, .slice a0_b_o a0_b.length a0_b_c, a0_next__v]] : List (List Value)))]) (RunsTo.mk [] [0] [1, 2] (fun _ => []) (fun _ => by kernel_rfl) (fun _ => trivial)) ?_
  intro _
  refine GS.seq ?_
  refine grd_elim hm (fun g3 hm => ?_)
  refine GS.region (env' := fun _ => [(2, .int .i64 (a0_at_ + ((a0_b.length : Nat) : Int)))]) (mem' := fun _ => []) (RunsTo.mkd [(3, { act := .load 2 0 0 [.int .i64 a0_at_, .slice a0_b_o a0_b.length a0_b_c, a0_next__v] }), (7, { act := .load 2 0 1 [.int .i64 a0_at_, .slice a0_b_o a0_b.length a0_b_c, a0_next__v] }), (9, { sp := some (.int .i64 (a0_at_ + ((a0_b.length : Nat) : Int))) })] [2] [] (fun _ => [a0b = blk (some ⟨a0b, 0, none⟩), 0 = offs (some ⟨a0b, 0, none⟩) + (0 * 3 + 0), ([[.int .i64 a0_at_, .slice a0_b_o a0_b.length a0_b_c, a0_next__v]] : List (List Value))[0]? = some [.int .i64 a0_at_, .slice a0_b_o a0_b.length a0_b_c, a0_next__v], a0b = blk (some ⟨a0b, 0, none⟩), 1 = offs (some ⟨a0b, 0, none⟩) + (0 * 3 + 1), ([[.int .i64 a0_at_, .slice a0_b_o a0_b.length a0_b_c, a0_next__v]] : List (List Value))[0]? = some [.int .i64 a0_at_, .slice a0_b_o a0_b.length a0_b_c, a0_next__v], ((.int .i64 (IntKind.i64.wrap (a0_at_ + ((a0_b.length : Nat) : Int)))) : Value) = .int .i64 (a0_at_ + ((a0_b.length : Nat) : Int))]) (by kernel_rfl) (by kernel_rfl) (fun _ => by kernel_rfl) (fun _ => ⟨rfl, rfl, rfl, rfl, rfl, rfl, I64.w g3, trivial⟩)) ?_
  intro _
  have hy := Option.some.inj hm
  subst hy
  refine GS.ret (fn := Try.f24) [0] [.int .i64 (a0_at_ + ((a0_b.length : Nat) : Int))] [] rfl Try.func24 (by kernel_rfl) trivial (fun w' hs => ?_)
  exact ⟨(), rfl, hs.turnedG (ks := []) rfl rfl⟩

theorem w___extent_Map__clear_1 (F : Nat) (a0 : Int) (a1_o : Option Addr) (a1_c : Nat) (a1 : List UInt8) (a2b : Nat) (a2_0b : Nat) (a2_0_2 : Int) {y : Int × Int} (hm : m___extent_Map__clear_1 F a0 a1 a2_0_2 = some y) : CallG Try.prog 34 #[.int .i64 a0, .slice a1_o a1.length a1_c, .pointer (some ⟨a2b, 0, none⟩)] (X := Nat) (fun (x0 : Nat) => .tuple #[]) [.cells a2_0b 56 [.bool true, .pointer none, .int .i64 a2_0_2], .cells a2b 60 [.pointer (some ⟨a2_0b, 1, none⟩)]] [r5 a1_o a1] (fun (x0 : Nat) => [.cells a2_0b 56 [.bool true, .pointer (some ⟨x0, 0, none⟩), .int .i64 y.2], .cells a2b 60 [.pointer (some ⟨x0, 2, none⟩)], .cells x0 59 [.int .i64 y.1, .slice a1_o a1.length a1_c, .pointer none]]) := by
  intro w hg
  rw [m___extent_Map__clear_1] at hm
  refine GS.start (S := mayT [.cells a2_0b 56 [.bool true, .pointer none, .int .i64 a2_0_2], .cells a2b 60 [.pointer (some ⟨a2_0b, 1, none⟩)]] [r5 a1_o a1]) (mem := [(1, .cells a2_0b 56 [.bool true, .pointer none, .int .i64 a2_0_2]), (2, .cells a2b 60 [.pointer (some ⟨a2_0b, 1, none⟩)]), (3, r5 a1_o a1)]) Try.func34 rfl Try.ntmps34 (Nat.le_of_ble_eq_true rfl) (hg.start rfl) ?_
  refine GS.conv (env' := [(0, .int .i64 a0), (1, .slice a1_o a1.length a1_c), (2, .pointer (some ⟨a2b, 0, none⟩))]) rfl rfl ?_
  refine GS.seq ?_
  refine GS.region (env' := fun _ => [(0, .int .i64 a0), (1, .slice a1_o a1.length a1_c), (2, .pointer (some ⟨a2b, 0, none⟩)), (7, .bool (decide (((a1.length : Nat) : Int) > 0)))]) (mem' := fun _ => [(1, .cells a2_0b 56 [.bool true, .pointer none, .int .i64 a2_0_2]), (2, .cells a2b 60 [.pointer (some ⟨a2_0b, 1, none⟩)]), (3, r5 a1_o a1)]) (RunsTo.mk [] [0, 1, 2, 7] [1, 2, 3] (fun _ => []) (fun _ => by kernel_rfl) (fun _ => trivial)) ?_
  intro _
  refine grd_elim hm (fun g2 hm => ?_)
  refine GS.cond (t := decide (((a1.length : Nat) : Int) > 0)) rfl rfl (fun _ => ?_) (fun h3 => absb (g2) h3)
  refine GS.seq ?_
  refine GS.region (env' := fun fr4 => [(2, .pointer (some ⟨a2b, 0, none⟩))]) (mem' := fun fr4 => [(1, .cells a2_0b 56 [.bool true, .pointer (some ⟨(fr4 4).x, 0, none⟩), .int .i64 a2_0_2]), (2, .cells a2b 60 [.pointer (some ⟨a2_0b, 1, none⟩)]), (3, r5 a1_o a1), (4, .cells ((fr4 4).x) 59 [.int .i64 a0, .slice a1_o a1.length a1_c, .pointer none])]) (RunsTo.mk [(0, { act := .load 2 0 0 [] }), (4, { act := .new .var, key := some 4 }), (6, { act := .store 0 0 [], key := some 1 })] [2] [1, 2, 3, 4] (fun fr4 => [a2b = a2b, a2_0b = a2_0b, ((.pointer (some ⟨(fr4 4).x, 0, none⟩)) : Value).cells.toList.all Value.oneCell' = true]) (fun fr4 => by kernel_rfl) (fun fr4 => ⟨rfl, rfl, rfl, trivial⟩)) ?_
  intro fr4
  refine GS.region (env' := fun _ => []) (mem' := fun _ => [(1, .cells a2_0b 56 [.bool true, .pointer (some ⟨(fr4 4).x, 0, none⟩), .int .i64 a2_0_2]), (2, .cells a2b 60 [.pointer (some ⟨(fr4 4).x, 2, none⟩)]), (3, r5 a1_o a1), (4, .cells ((fr4 4).x) 59 [.int .i64 a0, .slice a1_o a1.length a1_c, .pointer none])]) (RunsTo.mk [(0, { act := .load 2 0 0 [] }), (2, { act := .load 1 0 0 [] }), (5, { act := .store 0 0 [], key := some 2 })] [] [1, 2, 3, 4] (fun _ => [a2b = a2b, a2_0b = a2_0b, a2b = a2b, ((.pointer (some ⟨(fr4 4).x, 2, none⟩)) : Value).cells.toList.all Value.oneCell' = true]) (fun _ => by kernel_rfl) (fun _ => ⟨rfl, rfl, rfl, rfl, trivial⟩)) ?_
  intro _
  have hy := Option.some.inj hm
  subst hy
  refine GS.end_ (fn := Try.f34) [] [] [] rfl Try.func34 (by kernel_rfl) trivial (fun w' hs => ?_)
  exact ⟨((fr4 4).x), rfl, hs.turnedG (ks := [1, 2, 4]) rfl rfl⟩

theorem w___extent_Map__clear_1_2 (F : Nat) (a0 : Int) (a1_o : Option Addr) (a1_c : Nat) (a1 : List UInt8) (a2b : Nat) (a2_0b : Nat) (a2_0_0 : Int) (a2_0_1_o : Option Addr) (a2_0_1_c : Nat) (a2_0_1 : List UInt8) {y : Int × Int} (hm : m___extent_Map__clear_1_2 F a0 a1 a2_0_0 a2_0_1 = some y) : CallG Try.prog 34 #[.int .i64 a0, .slice a1_o a1.length a1_c, .pointer (some ⟨a2b, 0, none⟩)] (X := Nat) (fun (x0 : Nat) => .tuple #[]) [.cells a2_0b 59 [.int .i64 a2_0_0, .slice a2_0_1_o a2_0_1.length a2_0_1_c, .pointer none], .cells a2b 60 [.pointer (some ⟨a2_0b, 2, none⟩)]] [r5 a1_o a1, r5 a2_0_1_o a2_0_1] (fun (x0 : Nat) => [.cells a2_0b 59 [.int .i64 y.1, .slice a2_0_1_o a2_0_1.length a2_0_1_c, .pointer (some ⟨x0, 0, none⟩)], .cells a2b 60 [.pointer (some ⟨x0, 2, none⟩)], .cells x0 59 [.int .i64 y.2, .slice a1_o a1.length a1_c, .pointer none]]) := by
  intro w hg
  rw [m___extent_Map__clear_1_2] at hm
  refine GS.start (S := mayT [.cells a2_0b 59 [.int .i64 a2_0_0, .slice a2_0_1_o a2_0_1.length a2_0_1_c, .pointer none], .cells a2b 60 [.pointer (some ⟨a2_0b, 2, none⟩)]] [r5 a1_o a1, r5 a2_0_1_o a2_0_1]) (mem := [(1, .cells a2_0b 59 [.int .i64 a2_0_0, .slice a2_0_1_o a2_0_1.length a2_0_1_c, .pointer none]), (2, .cells a2b 60 [.pointer (some ⟨a2_0b, 2, none⟩)]), (3, r5 a1_o a1), (4, r5 a2_0_1_o a2_0_1)]) Try.func34 rfl Try.ntmps34 (Nat.le_of_ble_eq_true rfl) (hg.start rfl) ?_
  refine GS.conv (env' := [(0, .int .i64 a0), (1, .slice a1_o a1.length a1_c), (2, .pointer (some ⟨a2b, 0, none⟩))]) rfl rfl ?_
  refine GS.seq ?_
  refine GS.region (env' := fun _ => [(0, .int .i64 a0), (1, .slice a1_o a1.length a1_c), (2, .pointer (some ⟨a2b, 0, none⟩)), (7, .bool (decide (((a1.length : Nat) : Int) > 0)))]) (mem' := fun _ => [(1, .cells a2_0b 59 [.int .i64 a2_0_0, .slice a2_0_1_o a2_0_1.length a2_0_1_c, .pointer none]), (2, .cells a2b 60 [.pointer (some ⟨a2_0b, 2, none⟩)]), (3, r5 a1_o a1), (4, r5 a2_0_1_o a2_0_1)]) (RunsTo.mk [] [0, 1, 2, 7] [1, 2, 3, 4] (fun _ => []) (fun _ => by kernel_rfl) (fun _ => trivial)) ?_
  intro _
  refine grd_elim hm (fun g2 hm => ?_)
  refine GS.cond (t := decide (((a1.length : Nat) : Int) > 0)) rfl rfl (fun _ => ?_) (fun h3 => absb (g2) h3)
  refine GS.seq ?_
  refine GS.region (env' := fun fr4 => [(2, .pointer (some ⟨a2b, 0, none⟩))]) (mem' := fun fr4 => [(1, .cells a2_0b 59 [.int .i64 a2_0_0, .slice a2_0_1_o a2_0_1.length a2_0_1_c, .pointer (some ⟨(fr4 4).x, 0, none⟩)]), (2, .cells a2b 60 [.pointer (some ⟨a2_0b, 2, none⟩)]), (3, r5 a1_o a1), (4, r5 a2_0_1_o a2_0_1), (5, .cells ((fr4 4).x) 59 [.int .i64 a0, .slice a1_o a1.length a1_c, .pointer none])]) (RunsTo.mk [(0, { act := .load 2 0 0 [] }), (4, { act := .new .var, key := some 5 }), (6, { act := .store 0 0 [], key := some 1 })] [2] [1, 2, 3, 4, 5] (fun fr4 => [a2b = a2b, a2_0b = a2_0b, ((.pointer (some ⟨(fr4 4).x, 0, none⟩)) : Value).cells.toList.all Value.oneCell' = true]) (fun fr4 => by kernel_rfl) (fun fr4 => ⟨rfl, rfl, rfl, trivial⟩)) ?_
  intro fr4
  refine GS.region (env' := fun _ => []) (mem' := fun _ => [(1, .cells a2_0b 59 [.int .i64 a2_0_0, .slice a2_0_1_o a2_0_1.length a2_0_1_c, .pointer (some ⟨(fr4 4).x, 0, none⟩)]), (2, .cells a2b 60 [.pointer (some ⟨(fr4 4).x, 2, none⟩)]), (3, r5 a1_o a1), (4, r5 a2_0_1_o a2_0_1), (5, .cells ((fr4 4).x) 59 [.int .i64 a0, .slice a1_o a1.length a1_c, .pointer none])]) (RunsTo.mk [(0, { act := .load 2 0 0 [] }), (2, { act := .load 1 0 0 [] }), (5, { act := .store 0 0 [], key := some 2 })] [] [1, 2, 3, 4, 5] (fun _ => [a2b = a2b, a2_0b = a2_0b, a2b = a2b, ((.pointer (some ⟨(fr4 4).x, 2, none⟩)) : Value).cells.toList.all Value.oneCell' = true]) (fun _ => by kernel_rfl) (fun _ => ⟨rfl, rfl, rfl, rfl, trivial⟩)) ?_
  intro _
  have hy := Option.some.inj hm
  subst hy
  refine GS.end_ (fn := Try.f34) [] [] [] rfl Try.func34 (by kernel_rfl) trivial (fun w' hs => ?_)
  exact ⟨((fr4 4).x), rfl, hs.turnedG (ks := [1, 2, 5]) rfl rfl⟩

end Go.Proofs.Ytmdfkklldbfocaa
