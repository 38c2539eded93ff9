/-
  CHAPTER 24s: the functions do what their models say (3).
-/
import Derived.Test.YtfdojammchbboaaDoorM24s
import Derived.Test.YtfdojammchbboaaDoorW24sa
import Derived.Test.YtfdojammchbboaaDoorW24sb
set_option linter.unusedVariables false
set_option linter.unusedSimpArgs false
set_option maxRecDepth 100000
namespace Go.Proofs.YtfdojammchbboaaDoor
open Go Go.RowKit Sx

theorem w_tholelaw24_lives (F : Nat) {y : Bool} (hm : m_tholelaw24_lives F = some y) : CallG Tryd.prog 16 #[] (X := Unit) (fun (_ : Unit) => .bool y) [] [] (fun (_ : Unit) => []) := by
  intro w hg
  rw [m_tholelaw24_lives] at hm
  refine GS.start (S := mayT [] []) (mem := []) Tryd.func16 rfl Tryd.ntmps16 (Nat.le_of_ble_eq_true rfl) (hg.start rfl) ?_
  refine GS.conv (env' := []) rfl rfl ?_
  refine GS.seq ?_
  refine GS.region (env' := fun _ => []) (mem' := fun _ => []) (RunsTo.mk [] [] [] (fun _ => []) (fun _ => by kernel_rfl) (fun _ => trivial)) ?_
  intro _
  refine GS.seq ?_
  refine GS.region (env' := fun fr2 => [(1, .pointer (some ⟨(fr2 1).x, 0, none⟩))]) (mem' := fun fr2 => [(1, .cells ((fr2 1).x) 23 [.int .i64 2, .int .i64 2, .int .i64 4])]) (RunsTo.mk [(1, { act := .new .var, key := some 1 }), (2, { act := .store 0 0 [], key := some 1 })] [1] [1] (fun fr2 => [(fr2 1).x = (fr2 1).x, ((.agg #[.int .i64 2, .int .i64 2, .int .i64 4]) : Value).cells.toList.all Value.oneCell' = true]) (fun fr2 => by kernel_rfl) (fun fr2 => ⟨rfl, rfl, trivial⟩)) ?_
  intro fr2
  refine GS.seq ?_
  refine bnd_elim hm (fun y4 e5 hm => ?_)
  refine GS.region (env' := fun _ => [(1, .pointer (some ⟨(fr2 1).x, 0, none⟩)), (2, .int .i64 y4.1), (3, .int .i64 y4.2)]) (mem' := fun _ => [(1, .cells ((fr2 1).x) 23 [.int .i64 2, .int .i64 2, .int .i64 4])]) (RunsTo.mk [(0, { act := .load 1 0 0 [] }), (1, { act := .call [] (.tuple #[.int .i64 y4.1, .int .i64 y4.2]) })] [1, 2, 3] [1] (fun _ => [(fr2 1).x = (fr2 1).x, CallOK Tryd.prog 10 #[.agg #[.int .i64 2, .int .i64 2, .int .i64 4], .int .i64 8] (.tuple #[.int .i64 y4.1, .int .i64 y4.2]) []]) (fun _ => by kernel_rfl) (fun _ => ⟨rfl, (w_stripe_Place F (S_stripe_Layout.mk 2 2 4) 8 e5).ok trivial, trivial⟩)) ?_
  intro _
  refine GS.seq ?_
  refine bnd_elim hm (fun y7 e8 hm => ?_)
  refine GS.region (env' := fun _ => [(1, .pointer (some ⟨(fr2 1).x, 0, none⟩)), (2, .int .i64 y4.1), (3, .int .i64 y4.2), (6, .bool y7.2.2)]) (mem' := fun _ => [(1, .cells ((fr2 1).x) 23 [.int .i64 2, .int .i64 2, .int .i64 4])]) (RunsTo.mk [(0, { act := .call [] (.tuple #[.string y7.1, .int .i64 y7.2.1, .bool y7.2.2]) })] [1, 2, 3, 6] [1] (fun _ => [CallOK Tryd.prog 17 #[.string (ByteArray.mk #[97, 46, 48, 49])] (.tuple #[.string y7.1, .int .i64 y7.2.1, .bool y7.2.2]) []]) (fun _ => by kernel_rfl) (fun _ => ⟨(w_stripe_Parse F (ByteArray.mk #[97, 46, 48, 49]) e8).ok trivial, trivial⟩)) ?_
  intro _
  refine GS.seq ?_
  refine br_elim hm (fun h10 hm => ?_) (fun h10 hm => ?_)
  · skip
    refine br_elim hm (fun h11 hm => ?_) (fun h11 hm => ?_)
    · skip
      refine bnd_elim hm (fun y12 e13 hm => ?_)
      refine GS.open_ ?_
      refine GR.run (i := 0) 8 (env' := fun _ => [(1, .pointer (some ⟨(fr2 1).x, 0, none⟩)), (6, .bool y7.2.2), (24, .bool true), (25, .agg #[.int .i64 2, .int .i64 2, .int .i64 4])]) (mem' := fun _ => [(1, .cells ((fr2 1).x) 23 [.int .i64 2, .int .i64 2, .int .i64 4])]) (Nat.le_of_ble_eq_true (by kernel_rfl)) (RunsTo.mk [(2, { sp := some (.bool true) }), (6, { sp := some (.bool true) }), (7, { act := .load 1 0 0 [] })] [1, 6, 24, 25] [1] (fun _ => [((.bool (y4.1 == 2)) : Value) = .bool true, ((.bool (y4.2 == 0)) : Value) = .bool true, (fr2 1).x = (fr2 1).x]) (fun _ => by kernel_rfl) (fun _ => ⟨bool_eq h10, bool_eq h11, rfl, trivial⟩)) ?_
      intro _
      refine GR.callG (X := Option Addr × Nat) (i := 8) (g := 26) (args := #[.agg #[.int .i64 2, .int .i64 2, .int .i64 4], .int .i64 9]) (v := fun ⟨x14, x15⟩ => .slice x14 y12.length x15) (own := []) (ro := []) (es' := fun ⟨x14, x15⟩ => [o3 x14 x15 y12]) (mem' := fun ⟨x14, x15⟩ => [(1, .cells ((fr2 1).x) 23 [.int .i64 2, .int .i64 2, .int .i64 4]), (2, o3 x14 x15 y12)]) (env' := fun ⟨x14, x15⟩ => [(1, .pointer (some ⟨(fr2 1).x, 0, none⟩)), (6, .bool y7.2.2), (24, .bool true), (26, .slice x14 y12.length x15)]) [] [2] [1, 6, 24, 26] [1, 2] false (by kernel_rfl) (by kernel_rfl) (by kernel_rfl) (by kernel_rfl) (by kernel_rfl) (fun _ => rfl) (fun _ _ => rfl) trivial (by rintro ⟨x14, x15⟩; kernel_rfl) (by rintro ⟨x14, x15⟩; kernel_rfl) (w_stripe_Sizes F (S_stripe_Layout.mk 2 2 4) 9 e13) ?_
      rintro ⟨x14, x15⟩
      refine bnd_elim hm (fun y17 e18 hm => ?_)
      refine br_elim hm (fun h19 hm => ?_) (fun h19 hm => ?_)
      · skip
        refine bnd_elim hm (fun y20 e21 hm => ?_)
        refine br_elim hm (fun h22 hm => ?_) (fun h22 hm => ?_)
        · skip
          refine br_elim hm (fun h23 hm => ?_) (fun h23 hm => ?_)
          · skip
            refine bnd_elim hm (fun y24 e25 hm => ?_)
            refine GR.run (i := 9) 17 (env' := fun fr16 => [(0, .bool (y24.toList == (ByteArray.mk #[97, 46, 51]).toList))]) (mem' := fun fr16 => []) (Nat.le_of_ble_eq_true (by kernel_rfl)) (RunsTo.mk [(9, { act := .new (.row 3 1), key := some 3, spf := some (fun f => .slice (some (Addr.mk f.x 0 none)) ([4, 4, 1].length) 3) }), (10, { act := .call [2, 3] (.bool y17) }), (12, { sp := some (.bool true) }), (13, { act := .load 1 0 0 [] }), (14, { act := .call [] (.int .i64 y20) }), (17, { sp := some (.bool true) }), (21, { sp := some (.bool true) }), (22, { act := .call [] (.string y24) })] [0] [] (fun fr16 => [((.slice (some (Addr.mk (fr16 9).x 0 none)) 3 3) : Value) = .slice (some (Addr.mk (fr16 9).x 0 none)) ([4, 4, 1].length) 3, CallOK Tryd.prog 25 #[.slice x14 y12.length x15, .slice (some (Addr.mk (fr16 9).x 0 none)) ([4, 4, 1].length) 3] (.bool y17) [some (o3 x14 x15 y12), some (.osl (some (Addr.mk (fr16 9).x 0 none)) 3 3 1 ([[.int .i64 4], [.int .i64 4], [.int .i64 1]] : List (List Value)))], ((.bool y17) : Value) = .bool true, (fr2 1).x = (fr2 1).x, CallOK Tryd.prog 14 #[.agg #[.int .i64 2, .int .i64 2, .int .i64 4], .int .i64 1, .int .i64 1] (.int .i64 y20) [], ((.bool (y20 == 3)) : Value) = .bool true, ((.bool (!y7.2.2)) : Value) = .bool true, CallOK Tryd.prog 19 #[.string (ByteArray.mk #[97]), .int .i64 3] (.string y24) []]) (fun fr16 => by kernel_rfl) (fun fr16 => ⟨rfl, (w_tholeref01_Ints F x14 x15 y12 (some (Addr.mk (fr16 9).x 0 none)) 3 [4, 4, 1] e18).ok ⟨(.inl ⟨o3 x14 x15 y12, .head _, Cov.osl_rd⟩), (.inl ⟨.osl (some (Addr.mk (fr16 9).x 0 none)) 3 3 1 ([[.int .i64 4], [.int .i64 4], [.int .i64 1]] : List (List Value)), (.tail _ (.head _)), (by rw [show ([[.int .i64 4], [.int .i64 4], [.int .i64 1]] : List (List Value)) = List.map rI [4, 4, 1] from rfl]; exact Cov.osl_rd)⟩), trivial⟩, bool_eq h19, rfl, (w_stripe_Back F (S_stripe_Layout.mk 2 2 4) 1 1 e21).ok trivial, bool_eq h22, bool_eq h23, (w_stripe_Name F (ByteArray.mk #[97]) 3 e25).ok trivial, trivial⟩)) ?_
            intro fr16
            refine GR.done (Nat.le_of_ble_eq_true (by kernel_rfl)) ?_
            have hy := Option.some.inj hm
            subst hy
            refine GS.ret (fn := Tryd.f16) [0] [.bool (y24.toList == (ByteArray.mk #[97, 46, 51]).toList)] [] rfl Tryd.func16 (by kernel_rfl) trivial (fun w' hs => ?_)
            exact ⟨(), rfl, hs.turnedG (ks := []) rfl rfl⟩
          · skip
            refine GR.run (i := 9) 17 (env' := fun fr16 => [(0, .bool false)]) (mem' := fun fr16 => []) (Nat.le_of_ble_eq_true (by kernel_rfl)) (RunsTo.mk [(9, { act := .new (.row 3 1), key := some 3, spf := some (fun f => .slice (some (Addr.mk f.x 0 none)) ([4, 4, 1].length) 3) }), (10, { act := .call [2, 3] (.bool y17) }), (12, { sp := some (.bool true) }), (13, { act := .load 1 0 0 [] }), (14, { act := .call [] (.int .i64 y20) }), (17, { sp := some (.bool true) }), (21, { sp := some (.bool false) })] [0] [] (fun fr16 => [((.slice (some (Addr.mk (fr16 9).x 0 none)) 3 3) : Value) = .slice (some (Addr.mk (fr16 9).x 0 none)) ([4, 4, 1].length) 3, CallOK Tryd.prog 25 #[.slice x14 y12.length x15, .slice (some (Addr.mk (fr16 9).x 0 none)) ([4, 4, 1].length) 3] (.bool y17) [some (o3 x14 x15 y12), some (.osl (some (Addr.mk (fr16 9).x 0 none)) 3 3 1 ([[.int .i64 4], [.int .i64 4], [.int .i64 1]] : List (List Value)))], ((.bool y17) : Value) = .bool true, (fr2 1).x = (fr2 1).x, CallOK Tryd.prog 14 #[.agg #[.int .i64 2, .int .i64 2, .int .i64 4], .int .i64 1, .int .i64 1] (.int .i64 y20) [], ((.bool (y20 == 3)) : Value) = .bool true, ((.bool (!y7.2.2)) : Value) = .bool false]) (fun fr16 => by kernel_rfl) (fun fr16 => ⟨rfl, (w_tholeref01_Ints F x14 x15 y12 (some (Addr.mk (fr16 9).x 0 none)) 3 [4, 4, 1] e18).ok ⟨(.inl ⟨o3 x14 x15 y12, .head _, Cov.osl_rd⟩), (.inl ⟨.osl (some (Addr.mk (fr16 9).x 0 none)) 3 3 1 ([[.int .i64 4], [.int .i64 4], [.int .i64 1]] : List (List Value)), (.tail _ (.head _)), (by rw [show ([[.int .i64 4], [.int .i64 4], [.int .i64 1]] : List (List Value)) = List.map rI [4, 4, 1] from rfl]; exact Cov.osl_rd)⟩), trivial⟩, bool_eq h19, rfl, (w_stripe_Back F (S_stripe_Layout.mk 2 2 4) 1 1 e21).ok trivial, bool_eq h22, bool_eq h23, trivial⟩)) ?_
            intro fr16
            refine GR.done (Nat.le_of_ble_eq_true (by kernel_rfl)) ?_
            have hy := Option.some.inj hm
            subst hy
            refine GS.ret (fn := Tryd.f16) [0] [.bool false] [] rfl Tryd.func16 (by kernel_rfl) trivial (fun w' hs => ?_)
            exact ⟨(), rfl, hs.turnedG (ks := []) rfl rfl⟩
        · skip
          refine GR.run (i := 9) 17 (env' := fun fr16 => [(0, .bool false)]) (mem' := fun fr16 => []) (Nat.le_of_ble_eq_true (by kernel_rfl)) (RunsTo.mk [(9, { act := .new (.row 3 1), key := some 3, spf := some (fun f => .slice (some (Addr.mk f.x 0 none)) ([4, 4, 1].length) 3) }), (10, { act := .call [2, 3] (.bool y17) }), (12, { sp := some (.bool true) }), (13, { act := .load 1 0 0 [] }), (14, { act := .call [] (.int .i64 y20) }), (17, { sp := some (.bool false) })] [0] [] (fun fr16 => [((.slice (some (Addr.mk (fr16 9).x 0 none)) 3 3) : Value) = .slice (some (Addr.mk (fr16 9).x 0 none)) ([4, 4, 1].length) 3, CallOK Tryd.prog 25 #[.slice x14 y12.length x15, .slice (some (Addr.mk (fr16 9).x 0 none)) ([4, 4, 1].length) 3] (.bool y17) [some (o3 x14 x15 y12), some (.osl (some (Addr.mk (fr16 9).x 0 none)) 3 3 1 ([[.int .i64 4], [.int .i64 4], [.int .i64 1]] : List (List Value)))], ((.bool y17) : Value) = .bool true, (fr2 1).x = (fr2 1).x, CallOK Tryd.prog 14 #[.agg #[.int .i64 2, .int .i64 2, .int .i64 4], .int .i64 1, .int .i64 1] (.int .i64 y20) [], ((.bool (y20 == 3)) : Value) = .bool false]) (fun fr16 => by kernel_rfl) (fun fr16 => ⟨rfl, (w_tholeref01_Ints F x14 x15 y12 (some (Addr.mk (fr16 9).x 0 none)) 3 [4, 4, 1] e18).ok ⟨(.inl ⟨o3 x14 x15 y12, .head _, Cov.osl_rd⟩), (.inl ⟨.osl (some (Addr.mk (fr16 9).x 0 none)) 3 3 1 ([[.int .i64 4], [.int .i64 4], [.int .i64 1]] : List (List Value)), (.tail _ (.head _)), (by rw [show ([[.int .i64 4], [.int .i64 4], [.int .i64 1]] : List (List Value)) = List.map rI [4, 4, 1] from rfl]; exact Cov.osl_rd)⟩), trivial⟩, bool_eq h19, rfl, (w_stripe_Back F (S_stripe_Layout.mk 2 2 4) 1 1 e21).ok trivial, bool_eq h22, trivial⟩)) ?_
          intro fr16
          refine GR.done (Nat.le_of_ble_eq_true (by kernel_rfl)) ?_
          have hy := Option.some.inj hm
          subst hy
          refine GS.ret (fn := Tryd.f16) [0] [.bool false] [] rfl Tryd.func16 (by kernel_rfl) trivial (fun w' hs => ?_)
          exact ⟨(), rfl, hs.turnedG (ks := []) rfl rfl⟩
      · skip
        refine GR.run (i := 9) 17 (env' := fun fr16 => [(0, .bool false)]) (mem' := fun fr16 => []) (Nat.le_of_ble_eq_true (by kernel_rfl)) (RunsTo.mk [(9, { act := .new (.row 3 1), key := some 3, spf := some (fun f => .slice (some (Addr.mk f.x 0 none)) ([4, 4, 1].length) 3) }), (10, { act := .call [2, 3] (.bool y17) }), (12, { sp := some (.bool false) })] [0] [] (fun fr16 => [((.slice (some (Addr.mk (fr16 9).x 0 none)) 3 3) : Value) = .slice (some (Addr.mk (fr16 9).x 0 none)) ([4, 4, 1].length) 3, CallOK Tryd.prog 25 #[.slice x14 y12.length x15, .slice (some (Addr.mk (fr16 9).x 0 none)) ([4, 4, 1].length) 3] (.bool y17) [some (o3 x14 x15 y12), some (.osl (some (Addr.mk (fr16 9).x 0 none)) 3 3 1 ([[.int .i64 4], [.int .i64 4], [.int .i64 1]] : List (List Value)))], ((.bool y17) : Value) = .bool false]) (fun fr16 => by kernel_rfl) (fun fr16 => ⟨rfl, (w_tholeref01_Ints F x14 x15 y12 (some (Addr.mk (fr16 9).x 0 none)) 3 [4, 4, 1] e18).ok ⟨(.inl ⟨o3 x14 x15 y12, .head _, Cov.osl_rd⟩), (.inl ⟨.osl (some (Addr.mk (fr16 9).x 0 none)) 3 3 1 ([[.int .i64 4], [.int .i64 4], [.int .i64 1]] : List (List Value)), (.tail _ (.head _)), (by rw [show ([[.int .i64 4], [.int .i64 4], [.int .i64 1]] : List (List Value)) = List.map rI [4, 4, 1] from rfl]; exact Cov.osl_rd)⟩), trivial⟩, bool_eq h19, trivial⟩)) ?_
        intro fr16
        refine GR.done (Nat.le_of_ble_eq_true (by kernel_rfl)) ?_
        have hy := Option.some.inj hm
        subst hy
        refine GS.ret (fn := Tryd.f16) [0] [.bool false] [] rfl Tryd.func16 (by kernel_rfl) trivial (fun w' hs => ?_)
        exact ⟨(), rfl, hs.turnedG (ks := []) rfl rfl⟩
    · skip
      refine GS.region (env' := fun _ => [(0, .bool false)]) (mem' := fun _ => []) (RunsTo.mk [(2, { sp := some (.bool true) }), (6, { sp := some (.bool false) })] [0] [] (fun _ => [((.bool (y4.1 == 2)) : Value) = .bool true, ((.bool (y4.2 == 0)) : Value) = .bool false]) (fun _ => by kernel_rfl) (fun _ => ⟨bool_eq h10, bool_eq h11, trivial⟩)) ?_
      intro _
      have hy := Option.some.inj hm
      subst hy
      refine GS.ret (fn := Tryd.f16) [0] [.bool false] [] rfl Tryd.func16 (by kernel_rfl) trivial (fun w' hs => ?_)
      exact ⟨(), rfl, hs.turnedG (ks := []) rfl rfl⟩
  · skip
    refine GS.region (env' := fun _ => [(0, .bool false)]) (mem' := fun _ => []) (RunsTo.mk [(2, { sp := some (.bool false) })] [0] [] (fun _ => [((.bool (y4.1 == 2)) : Value) = .bool false]) (fun _ => by kernel_rfl) (fun _ => ⟨bool_eq h10, trivial⟩)) ?_
    intro _
    have hy := Option.some.inj hm
    subst hy
    refine GS.ret (fn := Tryd.f16) [0] [.bool false] [] rfl Tryd.func16 (by kernel_rfl) trivial (fun w' hs => ?_)
    exact ⟨(), rfl, hs.turnedG (ks := []) rfl rfl⟩

theorem w_tholelaw24_plain (F : Nat) (a0 : S_stripe_Layout) {y : S_tholeref24_Layout} (hm : m_tholelaw24_plain F a0 = some y) : CallG Tryd.prog 9 #[.agg #[.int .i64 a0.Unit, .int .i64 a0.Count, .int .i64 a0.Size]] (X := Unit) (fun (_ : Unit) => .agg #[.int .i64 y.Unit, .int .i64 y.Count, .int .i64 y.Size]) [] [] (fun (_ : Unit) => []) := by
  intro w hg
  rw [m_tholelaw24_plain] at hm
  refine GS.start (S := mayT [] []) (mem := []) Tryd.func9 rfl Tryd.ntmps9 (Nat.le_of_ble_eq_true rfl) (hg.start rfl) ?_
  refine GS.conv (env' := [(0, .agg #[.int .i64 a0.Unit, .int .i64 a0.Count, .int .i64 a0.Size])]) rfl rfl ?_
  refine GS.seq ?_
  refine GS.region (env' := fun fr1 => [(1, .pointer (some ⟨(fr1 0).x, 0, none⟩)), (2, .pointer (some ⟨(fr1 1).x, 0, none⟩))]) (mem' := fun fr1 => [(1, .cells ((fr1 0).x) 23 [.int .i64 a0.Unit, .int .i64 a0.Count, .int .i64 a0.Size]), (2, .cells ((fr1 1).x) 24 [.int .i64 0, .int .i64 0, .int .i64 0])]) (RunsTo.mk [(0, { act := .new .var, key := some 1 }), (1, { act := .new .var, key := some 2 })] [1, 2] [1, 2] (fun fr1 => []) (fun fr1 => by kernel_rfl) (fun fr1 => trivial)) ?_
  intro fr1
  refine GS.seq ?_
  refine GS.region (env' := fun _ => [(2, .pointer (some ⟨(fr1 1).x, 0, none⟩))]) (mem' := fun _ => [(2, .cells ((fr1 1).x) 24 [.int .i64 a0.Unit, .int .i64 a0.Count, .int .i64 a0.Size])]) (RunsTo.mk [(1, { act := .load 1 0 0 [] }), (3, { act := .load 1 0 0 [] }), (5, { act := .load 1 0 0 [] }), (7, { act := .store 0 0 [], key := some 2 })] [2] [2] (fun _ => [(fr1 0).x = (fr1 0).x, (fr1 0).x = (fr1 0).x, (fr1 0).x = (fr1 0).x, (fr1 1).x = (fr1 1).x, ((.agg #[.int .i64 a0.Unit, .int .i64 a0.Count, .int .i64 a0.Size]) : Value).cells.toList.all Value.oneCell' = true]) (fun _ => by kernel_rfl) (fun _ => ⟨rfl, rfl, rfl, rfl, rfl, trivial⟩)) ?_
  intro _
  have hy := Option.some.inj hm
  subst hy
  refine GS.ret (fn := Tryd.f9) [2] [.agg #[.int .i64 a0.Unit, .int .i64 a0.Count, .int .i64 a0.Size]] [(fr1 1).x = (fr1 1).x] rfl Tryd.func9 (by kernel_rfl) ⟨rfl, trivial⟩ (fun w' hs => ?_)
  exact ⟨(), rfl, hs.turnedG (ks := []) rfl rfl⟩

theorem w_stripe_Objects (F : Nat) (a0 : S_stripe_Layout) (a1 : Int) {y : Int} (hm : m_stripe_Objects F a0 a1 = some y) : CallG Tryd.prog 23 #[.agg #[.int .i64 a0.Unit, .int .i64 a0.Count, .int .i64 a0.Size], .int .i64 a1] (X := Unit) (fun (_ : Unit) => .int .i64 y) [] [] (fun (_ : Unit) => []) := by
  intro w hg
  rw [m_stripe_Objects] at hm
  refine GS.start (S := mayT [] []) (mem := []) Tryd.func23 rfl Tryd.ntmps23 (Nat.le_of_ble_eq_true rfl) (hg.start rfl) ?_
  refine GS.conv (env' := [(0, .agg #[.int .i64 a0.Unit, .int .i64 a0.Count, .int .i64 a0.Size]), (1, .int .i64 a1)]) rfl rfl ?_
  refine GS.seq ?_
  refine GS.region (env' := fun fr1 => [(1, .int .i64 a1), (2, .pointer (some ⟨(fr1 0).x, 0, none⟩))]) (mem' := fun fr1 => [(1, .cells ((fr1 0).x) 23 [.int .i64 a0.Unit, .int .i64 a0.Count, .int .i64 a0.Size])]) (RunsTo.mk [(0, { act := .new .var, key := some 1 })] [1, 2] [1] (fun fr1 => []) (fun fr1 => by kernel_rfl) (fun fr1 => trivial)) ?_
  intro fr1
  refine GS.seq ?_
  refine bnd_elim hm (fun y3 e4 hm => ?_)
  refine GS.open_ ?_
  refine GR.run (i := 0) 2 (env' := fun _ => [(5, .agg #[.int .i64 a0.Unit, .int .i64 a0.Count, .int .i64 a0.Size]), (6, .int .i64 a1)]) (mem' := fun _ => []) (Nat.le_of_ble_eq_true (by kernel_rfl)) (RunsTo.mk [(0, { act := .load 1 0 0 [] })] [5, 6] [] (fun _ => [(fr1 0).x = (fr1 0).x]) (fun _ => by kernel_rfl) (fun _ => ⟨rfl, trivial⟩)) ?_
  intro _
  refine GR.callG (X := Option Addr × Nat) (i := 2) (g := 26) (args := #[.agg #[.int .i64 a0.Unit, .int .i64 a0.Count, .int .i64 a0.Size], .int .i64 a1]) (v := fun ⟨x5, x6⟩ => .slice x5 y3.length x6) (own := []) (ro := []) (es' := fun ⟨x5, x6⟩ => [o3 x5 x6 y3]) (mem' := fun ⟨x5, x6⟩ => [(2, o3 x5 x6 y3)]) (env' := fun ⟨x5, x6⟩ => [(7, .slice x5 y3.length x6)]) [] [2] [7] [2] false (by kernel_rfl) (by kernel_rfl) (by kernel_rfl) (by kernel_rfl) (by kernel_rfl) (fun _ => rfl) (fun _ _ => rfl) trivial (by rintro ⟨x5, x6⟩; kernel_rfl) (by rintro ⟨x5, x6⟩; kernel_rfl) (w_stripe_Sizes F a0 a1 e4) ?_
  rintro ⟨x5, x6⟩
  refine GR.run (i := 3) 2 (env' := fun _ => [(4, .int .i64 ((y3.length : Nat) : Int))]) (mem' := fun _ => []) (Nat.le_of_ble_eq_true (by kernel_rfl)) (RunsTo.mk [] [4] [] (fun _ => []) (fun _ => by kernel_rfl) (fun _ => trivial)) ?_
  intro _
  refine GR.done (Nat.le_of_ble_eq_true (by kernel_rfl)) ?_
  have hy := Option.some.inj hm
  subst hy
  refine GS.ret (fn := Tryd.f23) [0] [.int .i64 ((y3.length : Nat) : Int)] [] rfl Tryd.func23 (by kernel_rfl) trivial (fun w' hs => ?_)
  exact ⟨(), rfl, hs.turnedG (ks := []) rfl rfl⟩

theorem w_stripe_Split (F : Nat) (a0 : S_stripe_Layout) (a1_o : Option Addr) (a1_c : Nat) (a1 : List UInt8) (a1_ch : a1.length ≤ a1_c) {y : List (List UInt8)} (hm : m_stripe_Split F a0 a1 = some y) : CallG Tryd.prog 29 #[.agg #[.int .i64 a0.Unit, .int .i64 a0.Count, .int .i64 a0.Size], .slice a1_o a1.length a1_c] (X := Option Addr × Nat × Hds) (fun ⟨x0, x1, x2⟩ => .slice x0 y.length x1) [] [r5 a1_o a1] (fun ⟨x0, x1, x2⟩ => [.osl x0 x1 54 1 (nrows nR54 x2 y), bag (nins nI54 x2 y)]) := by
  intro w hg
  rw [m_stripe_Split] at hm
  refine GS.start (S := mayT [] [r5 a1_o a1]) (mem := [(1, r5 a1_o a1)]) Tryd.func29 rfl Tryd.ntmps29 (Nat.le_of_ble_eq_true rfl) (hg.start rfl) ?_
  refine GS.conv (env' := [(0, .agg #[.int .i64 a0.Unit, .int .i64 a0.Count, .int .i64 a0.Size]), (1, .slice a1_o a1.length a1_c)]) rfl rfl ?_
  refine GS.seq ?_
  refine GS.region (env' := fun fr1 => [(1, .slice a1_o a1.length a1_c), (2, .pointer (some ⟨(fr1 0).x, 0, none⟩))]) (mem' := fun fr1 => [(1, r5 a1_o a1), (2, .cells ((fr1 0).x) 23 [.int .i64 a0.Unit, .int .i64 a0.Count, .int .i64 a0.Size])]) (RunsTo.mk [(0, { act := .new .var, key := some 2 })] [1, 2] [1, 2] (fun fr1 => []) (fun fr1 => by kernel_rfl) (fun fr1 => trivial)) ?_
  intro fr1
  refine GS.seq ?_
  refine GS.seq ?_
  refine GS.region (env' := fun _ => [(1, .slice a1_o a1.length a1_c), (2, .pointer (some ⟨(fr1 0).x, 0, none⟩)), (11, .bool (decide (((a1.length : Nat) : Int) > 65536)))]) (mem' := fun _ => [(1, r5 a1_o a1), (2, .cells ((fr1 0).x) 23 [.int .i64 a0.Unit, .int .i64 a0.Count, .int .i64 a0.Size])]) (RunsTo.mk [] [1, 2, 11] [1, 2] (fun _ => []) (fun _ => by kernel_rfl) (fun _ => trivial)) ?_
  intro _
  refine GS.cond (t := decide (((a1.length : Nat) : Int) > 65536)) rfl rfl (fun h3 => ?_) (fun h3 => ?_)
  · replace hm := br_t h3 hm
    refine GS.seq ?_
    refine GS.region (env' := fun _ => [(4, .slice none 0 0)]) (mem' := fun _ => []) (RunsTo.mk [] [4] [] (fun _ => []) (fun _ => by kernel_rfl) (fun _ => trivial)) ?_
    intro _
    refine GS.setMem (mem' := [(3, .osl none 0 54 1 (nrows nR54 (fun _ => nilH) ([] : List (List UInt8))))]) (fun w hw => Sat.addNil hw rfl) ?_
    refine GS.setMem (mem' := [(3, .osl none 0 54 1 (nrows nR54 (fun _ => nilH) ([] : List (List UInt8)))), (4, bag (nins nI54 (fun _ => nilH) ([] : List (List UInt8))))]) (fun w hw => Sat.addEmp hw (emp_bag (fun e he => by cases he)) rfl) ?_
    have hy := Option.some.inj hm
    subst hy
    refine GS.ret (fn := Tryd.f29) [0] [.slice none 0 0] [] rfl Tryd.func29 (by kernel_rfl) trivial (fun w' hs => ?_)
    exact ⟨⟨none, 0, (fun _ => nilH)⟩, rfl, hs.turnedG (ks := [3, 4]) rfl rfl⟩
  · replace hm := br_f h3 hm
    refine GS.skip ?_
    refine GS.seq ?_
    refine bnd_elim hm (fun y6 e7 hm => ?_)
    refine grd_elim hm (fun g8 hm => ?_)
    refine grd_elim hm (fun g9 hm => ?_)
    refine grd_elim hm (fun g10 hm => ?_)
    refine GS.region (env' := fun fr5 => [(1, .slice a1_o a1.length a1_c), (2, .pointer (some ⟨(fr1 0).x, 0, none⟩)), (5, .slice (some (Addr.mk (fr5 4).x 0 none)) ((List.replicate (Int.toNat y6) ([] : List UInt8)).length) (Int.toNat y6))]) (mem' := fun fr5 => [(1, r5 a1_o a1), (2, .cells ((fr1 0).x) 23 [.int .i64 a0.Unit, .int .i64 a0.Count, .int .i64 a0.Size]), (3, .osl (some (Addr.mk (fr5 4).x 0 none)) (Int.toNat y6) 54 1 (List.replicate (Int.toNat y6) [.slice none 0 0]))]) (RunsTo.mk [(0, { act := .load 2 0 0 [] }), (3, { act := .call [] (.int .i64 y6) }), (4, { act := .makeSlice (Int.toNat y6) (Int.toNat y6), key := some 3, spf := some (fun f => .slice (some (Addr.mk f.x 0 none)) ((List.replicate (Int.toNat y6) ([] : List UInt8)).length) (Int.toNat y6)) })] [1, 2, 5] [1, 2, 3] (fun fr5 => [(fr1 0).x = (fr1 0).x, CallOK Tryd.prog 23 #[.agg #[.int .i64 a0.Unit, .int .i64 a0.Count, .int .i64 a0.Size], .int .i64 ((a1.length : Nat) : Int)] (.int .i64 y6) [], y6 = (((Int.toNat y6) : Nat) : Int), y6 = (((Int.toNat y6) : Nat) : Int), (Int.toNat y6) ≤ (Int.toNat y6), (Int.toNat y6) * 24 ≤ 281474976710656, (Int.toNat y6) ≤ 9223372036854775807, ((.slice (some (Addr.mk (fr5 4).x 0 none)) (Int.toNat y6) (Int.toNat y6)) : Value) = .slice (some (Addr.mk (fr5 4).x 0 none)) ((List.replicate (Int.toNat y6) ([] : List UInt8)).length) (Int.toNat y6)]) (fun fr5 => by kernel_rfl) (fun fr5 => ⟨rfl, (w_stripe_Objects F a0 ((a1.length : Nat) : Int) e7).ok trivial, (Int.toNat_of_nonneg g8).symm, (Int.toNat_of_nonneg g8).symm, (Nat.le_refl _), g9, g10, slen (List.length_replicate ..).symm, trivial⟩)) ?_
    intro fr5
    refine GS.conv (mem' := [(1, r5 a1_o a1), (2, .cells ((fr1 0).x) 23 [.int .i64 a0.Unit, .int .i64 a0.Count, .int .i64 a0.Size]), (3, .osl (some (Addr.mk (fr5 4).x 0 none)) (Int.toNat y6) 54 1 (nrows nR54 (fun _ => nilH) (List.replicate (Int.toNat y6) ([] : List UInt8))))]) rfl (congrArg (fun rr : List (List Value) => ([(1, r5 a1_o a1), (2, .cells ((fr1 0).x) 23 [.int .i64 a0.Unit, .int .i64 a0.Count, .int .i64 a0.Size]), (3, .osl (some (Addr.mk (fr5 4).x 0 none)) (Int.toNat y6) 54 1 rr)] : List (Nat × Ent))) (show List.replicate (Int.toNat y6) [.slice none 0 0] = nrows nR54 (fun _ => nilH) (List.replicate (Int.toNat y6) ([] : List UInt8)) from nrows_rep nR54 ([] : List UInt8) (Int.toNat y6) nilH)) ?_
    refine GS.setMem (mem' := [(1, r5 a1_o a1), (2, .cells ((fr1 0).x) 23 [.int .i64 a0.Unit, .int .i64 a0.Count, .int .i64 a0.Size]), (3, .osl (some (Addr.mk (fr5 4).x 0 none)) (Int.toNat y6) 54 1 (nrows nR54 (fun _ => nilH) (List.replicate (Int.toNat y6) ([] : List UInt8)))), (4, bag (nins nI54 (fun _ => nilH) (List.replicate (Int.toNat y6) ([] : List UInt8))))]) (fun w hw => Sat.addEmp hw (emp_bag (nins_emp nE54 _)) rfl) ?_
    refine GS.seq ?_
    refine GS.region (env' := fun _ => [(1, .slice a1_o a1.length a1_c), (2, .pointer (some ⟨(fr1 0).x, 0, none⟩)), (5, .slice (some (Addr.mk (fr5 4).x 0 none)) ((List.replicate (Int.toNat y6) ([] : List UInt8)).length) (Int.toNat y6)), (6, .int .i64 0)]) (mem' := fun _ => [(1, r5 a1_o a1), (2, .cells ((fr1 0).x) 23 [.int .i64 a0.Unit, .int .i64 a0.Count, .int .i64 a0.Size]), (3, .osl (some (Addr.mk (fr5 4).x 0 none)) (Int.toNat y6) 54 1 (nrows nR54 (fun _ => nilH) (List.replicate (Int.toNat y6) ([] : List UInt8)))), (4, bag (nins nI54 (fun _ => nilH) (List.replicate (Int.toNat y6) ([] : List UInt8))))]) (RunsTo.mk [] [1, 2, 5, 6] [1, 2, 3, 4] (fun _ => []) (fun _ => by kernel_rfl) (fun _ => trivial)) ?_
    intro _
    refine GS.seq ?_
    refine GS.seq ?_
    refine bnd_elim hm (fun y13 e14 hm => ?_)
    refine GS.open_ ?_
    refine GR.run (i := 0) 3 (env' := fun _ => [(1, .slice a1_o a1.length a1_c), (5, .slice (some (Addr.mk (fr5 4).x 0 none)) ((List.replicate (Int.toNat y6) ([] : List UInt8)).length) (Int.toNat y6)), (6, .int .i64 0), (17, .agg #[.int .i64 a0.Unit, .int .i64 a0.Count, .int .i64 a0.Size]), (19, .int .i64 ((a1.length : Nat) : Int))]) (mem' := fun _ => [(1, r5 a1_o a1), (3, .osl (some (Addr.mk (fr5 4).x 0 none)) (Int.toNat y6) 54 1 (nrows nR54 (fun _ => nilH) (List.replicate (Int.toNat y6) ([] : List UInt8)))), (4, bag (nins nI54 (fun _ => nilH) (List.replicate (Int.toNat y6) ([] : List UInt8))))]) (Nat.le_of_ble_eq_true (by kernel_rfl)) (RunsTo.mk [(0, { act := .load 2 0 0 [] })] [1, 5, 6, 17, 19] [1, 3, 4] (fun _ => [(fr1 0).x = (fr1 0).x]) (fun _ => by kernel_rfl) (fun _ => ⟨rfl, trivial⟩)) ?_
    intro _
    refine GR.callG (X := Option Addr × Nat) (i := 3) (g := 21) (args := #[.agg #[.int .i64 a0.Unit, .int .i64 a0.Count, .int .i64 a0.Size], .int .i64 0, .int .i64 ((a1.length : Nat) : Int)]) (v := fun ⟨x15, x16⟩ => .slice x15 y13.length x16) (own := []) (ro := []) (es' := fun ⟨x15, x16⟩ => [o44 x15 x16 y13]) (mem' := fun ⟨x15, x16⟩ => [(1, r5 a1_o a1), (3, .osl (some (Addr.mk (fr5 4).x 0 none)) (Int.toNat y6) 54 1 (nrows nR54 (fun _ => nilH) (List.replicate (Int.toNat y6) ([] : List UInt8)))), (4, bag (nins nI54 (fun _ => nilH) (List.replicate (Int.toNat y6) ([] : List UInt8)))), (5, o44 x15 x16 y13)]) (env' := fun ⟨x15, x16⟩ => [(1, .slice a1_o a1.length a1_c), (5, .slice (some (Addr.mk (fr5 4).x 0 none)) ((List.replicate (Int.toNat y6) ([] : List UInt8)).length) (Int.toNat y6)), (6, .int .i64 0), (20, .slice x15 y13.length x16)]) [] [5] [1, 5, 6, 20] [1, 3, 4, 5] false (by kernel_rfl) (by kernel_rfl) (by kernel_rfl) (by kernel_rfl) (by kernel_rfl) (fun _ => rfl) (fun _ _ => rfl) trivial (by rintro ⟨x15, x16⟩; kernel_rfl) (by rintro ⟨x15, x16⟩; kernel_rfl) (w_stripe_Extents F a0 0 ((a1.length : Nat) : Int) e14) ?_
    rintro ⟨x15, x16⟩
    refine GR.run (i := 4) 2 (env' := fun _ => [(1, .slice a1_o a1.length a1_c), (5, .slice (some (Addr.mk (fr5 4).x 0 none)) ((List.replicate (Int.toNat y6) ([] : List UInt8)).length) (Int.toNat y6)), (6, .int .i64 0), (20, .slice x15 y13.length x16), (21, .int .i64 ((y13.length : Nat) : Int)), (22, .int .i64 0)]) (mem' := fun _ => [(1, r5 a1_o a1), (3, .osl (some (Addr.mk (fr5 4).x 0 none)) (Int.toNat y6) 54 1 (nrows nR54 (fun _ => nilH) (List.replicate (Int.toNat y6) ([] : List UInt8)))), (4, bag (nins nI54 (fun _ => nilH) (List.replicate (Int.toNat y6) ([] : List UInt8)))), (5, o44 x15 x16 y13)]) (Nat.le_of_ble_eq_true (by kernel_rfl)) (RunsTo.mk [] [1, 5, 6, 20, 21, 22] [1, 3, 4, 5] (fun _ => []) (fun _ => by kernel_rfl) (fun _ => trivial)) ?_
    intro _
    refine GR.done (Nat.le_of_ble_eq_true (by kernel_rfl)) ?_
    refine GS.block ?_
    refine GS.loop ?_
    refine GS.know (p := (List.replicate (Int.toNat y6) ([] : List UInt8)).length ≤ (Int.toNat y6)) (fun w hw => by first | (have h := (hw.ok 3 _ rfl).1.1; rw [List.length_map] at h; exact h) | (have h := (hw.ok 3 _ rfl).1.1; rw [nrows_len] at h; exact h) | simpa using (hw.ok 3 _ rfl).1.1) (fun k18 => ?_)
    refine GS.know (p := y13.length ≤ x16) (fun w hw => by first | (have h := (hw.ok 5 _ rfl).1.1; rw [List.length_map] at h; exact h) | (have h := (hw.ok 5 _ rfl).1.1; rw [nrows_len] at h; exact h) | simpa using (hw.ok 5 _ rfl).1.1) (fun k19 => ?_)
    refine grd_elim hm (fun g47 hm => ?_)
    refine GS.rekey (env' := [(1, .slice a1_o a1.length a1_c), (5, .slice (some (Addr.mk (fr5 4).x 0 none)) ((List.replicate (Int.toNat y6) ([] : List UInt8)).length) (Int.toNat y6)), (6, .int .i64 0), (20, .slice x15 y13.length x16), (21, .int .i64 ((y13.length : Nat) : Int)), (22, .int .i64 0)]) (mem' := [(1, r5 a1_o a1), (3, .osl (some (Addr.mk (fr5 4).x 0 none)) (Int.toNat y6) 54 1 (nrows nR54 (fun _ => nilH) (List.replicate (Int.toNat y6) ([] : List UInt8)))), (4, bag (nins nI54 (fun _ => nilH) (List.replicate (Int.toNat y6) ([] : List UInt8)))), (5, o44 x15 x16 y13)]) [1, 5, 6, 20, 21, 22] [(1, 1), (3, 3), (4, 4), (5, 5)] (by kernel_rfl) (by kernel_rfl) rfl ?_
    refine loopL_elim hm (fun st66 fn67 hst68 hfn69 hm => ?_)
    refine GS.loopInv (ι := List S_stripe_Extent × Int × Nat × List (List UInt8) × Hds) (I := fun ⟨rs64, v6_1, v22_1, l3_1, h3_1⟩ => y13.drop v22_1 = rs64 ∧ loopL st66 fn67 rs64 v22_1 (v6_1, l3_1) = some y) (μ := fun ⟨rs64, v6_1, v22_1, l3_1, h3_1⟩ => rs64.length) (E := fun ⟨rs64, v6_1, v22_1, l3_1, h3_1⟩ => [(1, .slice a1_o a1.length a1_c), (5, .slice (some (Addr.mk (fr5 4).x 0 none)) l3_1.length (Int.toNat y6)), (6, .int .i64 v6_1), (20, .slice x15 y13.length x16), (21, .int .i64 ((y13.length : Nat) : Int)), (22, .int .i64 ((v22_1 : Nat) : Int))]) (M := fun ⟨rs64, v6_1, v22_1, l3_1, h3_1⟩ => [(1, r5 a1_o a1), (3, .osl (some (Addr.mk (fr5 4).x 0 none)) (Int.toNat y6) 54 1 (nrows nR54 h3_1 l3_1)), (4, bag (nins nI54 h3_1 l3_1)), (5, o44 x15 x16 y13)]) ?_ ⟨y13, 0, 0, (List.replicate (Int.toNat y6) ([] : List UInt8)), (fun _ => nilH)⟩ ⟨List.drop_zero .., hm⟩
    rintro ⟨rs64, v6_1, v22_1, l3_1, h3_1⟩ ⟨hd46, hm⟩ ih65
    cases rs64 with
    | nil =>
      replace hm := (hfn69 _ _).symm.trans hm
      try dsimp only at hm
      refine GS.seq ?_
      refine GS.region (env' := fun _ => [(1, .slice a1_o a1.length a1_c), (5, .slice (some (Addr.mk (fr5 4).x 0 none)) l3_1.length (Int.toNat y6)), (6, .int .i64 v6_1), (20, .slice x15 y13.length x16), (21, .int .i64 ((y13.length : Nat) : Int)), (22, .int .i64 ((v22_1 : Nat) : Int)), (23, .bool (decide (((v22_1 : Nat) : Int) < ((y13.length : Nat) : Int))))]) (mem' := fun _ => [(1, r5 a1_o a1), (3, .osl (some (Addr.mk (fr5 4).x 0 none)) (Int.toNat y6) 54 1 (nrows nR54 h3_1 l3_1)), (4, bag (nins nI54 h3_1 l3_1)), (5, o44 x15 x16 y13)]) (RunsTo.mk [] [1, 5, 6, 20, 21, 22, 23] [1, 3, 4, 5] (fun _ => []) (fun _ => by kernel_rfl) (fun _ => trivial)) ?_
      intro _
      refine GS.seq ?_
      refine GS.cond (t := decide (((v22_1 : Nat) : Int) < ((y13.length : Nat) : Int))) rfl rfl (fun h62 => absb h62 (drop_dec0 hd46)) (fun _ => ?_)
      refine GS.exit rfl ?_
      refine GS.seq ?_
      refine GS.region (env' := fun _ => [(4, .slice (some (Addr.mk (fr5 4).x 0 none)) l3_1.length (Int.toNat y6))]) (mem' := fun _ => [(3, .osl (some (Addr.mk (fr5 4).x 0 none)) (Int.toNat y6) 54 1 (nrows nR54 h3_1 l3_1)), (4, bag (nins nI54 h3_1 l3_1))]) (RunsTo.mk [] [4] [3, 4] (fun _ => []) (fun _ => by kernel_rfl) (fun _ => trivial)) ?_
      intro _
      have hy := Option.some.inj hm
      subst hy
      refine GS.ret (fn := Tryd.f29) [0] [.slice (some (Addr.mk (fr5 4).x 0 none)) l3_1.length (Int.toNat y6)] [] rfl Tryd.func29 (by kernel_rfl) trivial (fun w' hs => ?_)
      exact ⟨⟨some (Addr.mk (fr5 4).x 0 none), (Int.toNat y6), h3_1⟩, rfl, hs.turnedG (ks := [3, 4]) rfl rfl⟩
    | cons x48 rs64 =>
      replace hm := (hst68 _ _ _ _).symm.trans hm
      try dsimp only at hm
      refine GS.seq ?_
      refine GS.region (env' := fun _ => [(1, .slice a1_o a1.length a1_c), (5, .slice (some (Addr.mk (fr5 4).x 0 none)) l3_1.length (Int.toNat y6)), (6, .int .i64 v6_1), (20, .slice x15 y13.length x16), (21, .int .i64 ((y13.length : Nat) : Int)), (22, .int .i64 ((v22_1 : Nat) : Int)), (23, .bool (decide (((v22_1 : Nat) : Int) < ((y13.length : Nat) : Int))))]) (mem' := fun _ => [(1, r5 a1_o a1), (3, .osl (some (Addr.mk (fr5 4).x 0 none)) (Int.toNat y6) 54 1 (nrows nR54 h3_1 l3_1)), (4, bag (nins nI54 h3_1 l3_1)), (5, o44 x15 x16 y13)]) (RunsTo.mk [] [1, 5, 6, 20, 21, 22, 23] [1, 3, 4, 5] (fun _ => []) (fun _ => by kernel_rfl) (fun _ => trivial)) ?_
      intro _
      refine GS.seq ?_
      refine GS.cond (t := decide (((v22_1 : Nat) : Int) < ((y13.length : Nat) : Int))) rfl rfl (fun _ => ?_) (fun h50 => absb (drop_dec hd46) h50)
      refine GS.skip ?_
      refine GS.seq ?_
      refine GS.block ?_
      refine GS.seq ?_
      refine GS.region (env' := fun fr51 => [(1, .slice a1_o a1.length a1_c), (5, .slice (some (Addr.mk (fr5 4).x 0 none)) l3_1.length (Int.toNat y6)), (6, .int .i64 v6_1), (8, .pointer (some ⟨(fr51 2).x, 0, none⟩)), (20, .slice x15 y13.length x16), (21, .int .i64 ((y13.length : Nat) : Int)), (22, .int .i64 ((v22_1 : Nat) : Int))]) (mem' := fun fr51 => [(1, r5 a1_o a1), (3, .osl (some (Addr.mk (fr5 4).x 0 none)) (Int.toNat y6) 54 1 (nrows nR54 h3_1 l3_1)), (4, bag (nins nI54 h3_1 l3_1)), (5, o44 x15 x16 y13), (6, .cells ((fr51 2).x) 44 [.int .i64 x48.Object, .int .i64 x48.At, .int .i64 x48.N])]) (RunsTo.mk [(0, { act := .idx 5 v22_1 }), (1, { act := .load 5 v22_1 0 [.int .i64 x48.Object, .int .i64 x48.At, .int .i64 x48.N] }), (2, { act := .new .var, key := some 6 }), (3, { act := .store 0 0 [], key := some 6 })] [1, 5, 6, 8, 20, 21, 22] [1, 3, 4, 5, 6] (fun fr51 => [x15 = x15, y13.length = (List.map S_stripe_Extent.row y13).length, (((v22_1 : Nat) : Int) : Int) = ((v22_1 : Nat) : Int), v22_1 < y13.length, blk x15 = blk x15, offs x15 + v22_1 * 3 = offs x15 + (v22_1 * 3 + 0), (List.map S_stripe_Extent.row y13)[v22_1]? = some [.int .i64 x48.Object, .int .i64 x48.At, .int .i64 x48.N], (fr51 2).x = (fr51 2).x, ((.agg #[.int .i64 x48.Object, .int .i64 x48.At, .int .i64 x48.N]) : Value).cells.toList.all Value.oneCell' = true]) (fun fr51 => by kernel_rfl) (fun fr51 => ⟨rfl, mlen S_stripe_Extent.row y13, rfl, (drop_lt hd46), rfl, rfl, map_drop S_stripe_Extent.row hd46, rfl, rfl, trivial⟩)) ?_
      intro fr51
      refine GS.seq ?_
      refine grd_elim hm (fun g52 hm => ?_)
      refine GS.setMem (mem' := [(1, r5 a1_o a1), (3, .osl (some (Addr.mk (fr5 4).x 0 none)) (Int.toNat y6) 54 1 (nrows nR54 h3_1 l3_1)), (4, bag (nins nI54 (updH h3_1 (Int.toNat x48.Object) nilH) (l3_1.set (Int.toNat x48.Object) ([] : List UInt8)))), (5, o44 x15 x16 y13), (6, .cells ((fr51 2).x) 44 [.int .i64 x48.Object, .int .i64 x48.At, .int .i64 x48.N]), (7, o5 (((h3_1 (Int.toNat x48.Object)) 0).1) (((h3_1 (Int.toNat x48.Object)) 0).2) (l3_1.getD (Int.toNat x48.Object) ([] : List UInt8)))]) (fun w hw => nest_out (K := 4) (nk := [7]) (d := ([] : List UInt8)) [1, 3, 4, 5, 6, 7] nilH ([] : List UInt8) hw rfl g52 nE54 rfl rfl (by kernel_rfl)) ?_
      refine grd_elim hm (fun g53 hm => ?_)
      refine grd_elim hm (fun g54 hm => ?_)
      refine GS.setMem (mem' := [(1, r5 a1_o a1), (3, .osl (some (Addr.mk (fr5 4).x 0 none)) (Int.toNat y6) 54 1 (nrows nR54 h3_1 l3_1)), (4, bag (nins nI54 (updH h3_1 (Int.toNat x48.Object) nilH) (l3_1.set (Int.toNat x48.Object) ([] : List UInt8)))), (5, o44 x15 x16 y13), (6, .cells ((fr51 2).x) 44 [.int .i64 x48.Object, .int .i64 x48.At, .int .i64 x48.N]), (7, o5 (((h3_1 (Int.toNat x48.Object)) 0).1) (((h3_1 (Int.toNat x48.Object)) 0).2) (l3_1.getD (Int.toNat x48.Object) ([] : List UInt8))), (8, .rd (cutOb a1_o (Int.toNat v6_1) a1_c 1) 1 (((List.map rB a1).drop (Int.toNat v6_1)).take ((Int.toNat (v6_1 + x48.N)) - (Int.toNat v6_1))))]) (fun w hw => Sat.addCov (k0 := 1) hw rfl rfl rfl (rd_cut g54.2 (Nat.le_trans g53.2 a1_ch)) rfl) ?_
      refine GS.conv (mem' := [(1, r5 a1_o a1), (3, .osl (some (Addr.mk (fr5 4).x 0 none)) (Int.toNat y6) 54 1 (nrows nR54 h3_1 l3_1)), (4, bag (nins nI54 (updH h3_1 (Int.toNat x48.Object) nilH) (l3_1.set (Int.toNat x48.Object) ([] : List UInt8)))), (5, o44 x15 x16 y13), (6, .cells ((fr51 2).x) 44 [.int .i64 x48.Object, .int .i64 x48.At, .int .i64 x48.N]), (7, o5 (((h3_1 (Int.toNat x48.Object)) 0).1) (((h3_1 (Int.toNat x48.Object)) 0).2) (l3_1.getD (Int.toNat x48.Object) ([] : List UInt8))), (8, r5 (cutOb a1_o (Int.toNat v6_1) a1_c 1) ((a1.drop (Int.toNat v6_1)).take ((Int.toNat (v6_1 + x48.N)) - (Int.toNat v6_1))))]) rfl (congrArg (fun rr : List (List Value) => ([(1, r5 a1_o a1), (3, .osl (some (Addr.mk (fr5 4).x 0 none)) (Int.toNat y6) 54 1 (nrows nR54 h3_1 l3_1)), (4, bag (nins nI54 (updH h3_1 (Int.toNat x48.Object) nilH) (l3_1.set (Int.toNat x48.Object) ([] : List UInt8)))), (5, o44 x15 x16 y13), (6, .cells ((fr51 2).x) 44 [.int .i64 x48.Object, .int .i64 x48.At, .int .i64 x48.N]), (7, o5 (((h3_1 (Int.toNat x48.Object)) 0).1) (((h3_1 (Int.toNat x48.Object)) 0).2) (l3_1.getD (Int.toNat x48.Object) ([] : List UInt8))), (8, .rd (cutOb a1_o (Int.toNat v6_1) a1_c 1) 1 rr)] : List (Nat × Ent))) (show ((List.map rB a1).drop (Int.toNat v6_1)).take ((Int.toNat (v6_1 + x48.N)) - (Int.toNat v6_1)) = List.map rB ((a1.drop (Int.toNat v6_1)).take ((Int.toNat (v6_1 + x48.N)) - (Int.toNat v6_1))) from (by simp only [List.drop_zero, Nat.sub_zero, List.map_take, List.map_drop]))) ?_
      refine grd_elim hm (fun g56 hm => ?_)
      refine grd_elim hm (fun g57 hm => ?_)
      refine grd_elim hm (fun g58 hm => ?_)
      refine GS.region (env' := fun fr55 => [(1, .slice a1_o a1.length a1_c), (5, .slice (some (Addr.mk (fr5 4).x 0 none)) l3_1.length (Int.toNat y6)), (6, .int .i64 v6_1), (8, .pointer (some ⟨(fr51 2).x, 0, none⟩)), (20, .slice x15 y13.length x16), (21, .int .i64 ((y13.length : Nat) : Int)), (22, .int .i64 ((v22_1 : Nat) : Int))]) (mem' := fun fr55 => [(1, r5 a1_o a1), (3, .osl (some (Addr.mk (fr5 4).x 0 none)) (Int.toNat y6) 54 1 ((nrows nR54 h3_1 l3_1).set (Int.toNat x48.Object) [.slice ((fr55 15).ob) (((l3_1.getD (Int.toNat x48.Object) ([] : List UInt8)) ++ ((a1.drop (Int.toNat v6_1)).take ((Int.toNat (v6_1 + x48.N)) - (Int.toNat v6_1)))).length) ((fr55 15).cap)])), (4, bag (nins nI54 (updH h3_1 (Int.toNat x48.Object) nilH) (l3_1.set (Int.toNat x48.Object) ([] : List UInt8)))), (5, o44 x15 x16 y13), (6, .cells ((fr51 2).x) 44 [.int .i64 x48.Object, .int .i64 x48.At, .int .i64 x48.N]), (7, .osl ((fr55 15).ob) ((fr55 15).cap) 5 1 ((List.map rB (l3_1.getD (Int.toNat x48.Object) ([] : List UInt8))) ++ (List.map rB ((a1.drop (Int.toNat v6_1)).take ((Int.toNat (v6_1 + x48.N)) - (Int.toNat v6_1))))))]) (RunsTo.mkd [(2, { act := .load 6 0 0 [] }), (5, { act := .load 6 0 0 [] }), (6, { act := .idx 3 (Int.toNat x48.Object) }), (7, { act := .load 3 (Int.toNat x48.Object) 0 [.slice (((h3_1 (Int.toNat x48.Object)) 0).1) ((l3_1.getD (Int.toNat x48.Object) ([] : List UInt8)).length) (((h3_1 (Int.toNat x48.Object)) 0).2)] }), (12, { act := .load 6 0 0 [] }), (13, { sp := some (.int .i64 (v6_1 + x48.N)) }), (14, { act := .cut (Int.toNat v6_1) (Int.toNat (v6_1 + x48.N)) a1_c, sp := some (.slice (cutOb a1_o (Int.toNat v6_1) a1_c 1) (((a1.drop (Int.toNat v6_1)).take ((Int.toNat (v6_1 + x48.N)) - (Int.toNat v6_1))).length) (a1_c - (Int.toNat v6_1))) }), (15, { act := .app (some 8), key := some 7, spf := some (fun f => .slice (f.ob) (((l3_1.getD (Int.toNat x48.Object) ([] : List UInt8)) ++ ((a1.drop (Int.toNat v6_1)).take ((Int.toNat (v6_1 + x48.N)) - (Int.toNat v6_1)))).length) (f.cap)) }), (16, { act := .idx 3 (Int.toNat x48.Object) }), (17, { act := .store (Int.toNat x48.Object) 0 [.slice (((h3_1 (Int.toNat x48.Object)) 0).1) ((l3_1.getD (Int.toNat x48.Object) ([] : List UInt8)).length) (((h3_1 (Int.toNat x48.Object)) 0).2)], key := some 3 })] [1, 5, 6, 8, 20, 21, 22] [1, 3, 4, 5, 6, 7] (fun fr55 => [(fr51 2).x = (fr51 2).x, (fr51 2).x = (fr51 2).x, some (Addr.mk (fr5 4).x 0 none) = some (Addr.mk (fr5 4).x 0 none), l3_1.length = (nrows nR54 h3_1 l3_1).length, (x48.Object : Int) = (((Int.toNat x48.Object) : Nat) : Int), (Int.toNat x48.Object) < l3_1.length, blk (some (Addr.mk (fr5 4).x 0 none)) = blk (some (Addr.mk (fr5 4).x 0 none)), offs (some (Addr.mk (fr5 4).x 0 none)) + (Int.toNat x48.Object) * 1 = offs (some (Addr.mk (fr5 4).x 0 none)) + ((Int.toNat x48.Object) * 1 + 0), (nrows nR54 h3_1 l3_1)[(Int.toNat x48.Object)]? = some [.slice (((h3_1 (Int.toNat x48.Object)) 0).1) ((l3_1.getD (Int.toNat x48.Object) ([] : List UInt8)).length) (((h3_1 (Int.toNat x48.Object)) 0).2)], (fr51 2).x = (fr51 2).x, ((.int .i64 (IntKind.i64.wrap (v6_1 + x48.N))) : Value) = .int .i64 (v6_1 + x48.N), v6_1 = (((Int.toNat v6_1) : Nat) : Int), (v6_1 + x48.N) = (((Int.toNat (v6_1 + x48.N)) : Nat) : Int), a1_c = a1_c, (Int.toNat v6_1) ≤ (Int.toNat (v6_1 + x48.N)), (Int.toNat (v6_1 + x48.N)) ≤ a1_c, a1_c ≤ a1_c, (some (Operand.tmp 39) : Option Operand) = none → (none : Option Operand) = none, ((.slice (if a1_c = (Int.toNat v6_1) then a1_o else (a1_o).map (fun a => a.add ((Int.toNat v6_1) * 1))) ((Int.toNat (v6_1 + x48.N)) - (Int.toNat v6_1)) (a1_c - (Int.toNat v6_1))) : Value) = .slice (cutOb a1_o (Int.toNat v6_1) a1_c 1) (((a1.drop (Int.toNat v6_1)).take ((Int.toNat (v6_1 + x48.N)) - (Int.toNat v6_1))).length) (a1_c - (Int.toNat v6_1)), (cutOb a1_o (Int.toNat v6_1) a1_c 1) = (cutOb a1_o (Int.toNat v6_1) a1_c 1), ((a1.drop (Int.toNat v6_1)).take ((Int.toNat (v6_1 + x48.N)) - (Int.toNat v6_1))).length = (List.map rB ((a1.drop (Int.toNat v6_1)).take ((Int.toNat (v6_1 + x48.N)) - (Int.toNat v6_1)))).length, (((h3_1 (Int.toNat x48.Object)) 0).1) = (((h3_1 (Int.toNat x48.Object)) 0).1), ((h3_1 (Int.toNat x48.Object)) 0).2 = (((h3_1 (Int.toNat x48.Object)) 0).2), (l3_1.getD (Int.toNat x48.Object) ([] : List UInt8)).length = (List.map rB (l3_1.getD (Int.toNat x48.Object) ([] : List UInt8))).length, ((List.map rB (l3_1.getD (Int.toNat x48.Object) ([] : List UInt8))).length + (List.map rB ((a1.drop (Int.toNat v6_1)).take ((Int.toNat (v6_1 + x48.N)) - (Int.toNat v6_1)))).length) * (1 + 1) ≤ 70368744177664, (List.map rB ((a1.drop (Int.toNat v6_1)).take ((Int.toNat (v6_1 + x48.N)) - (Int.toNat v6_1)))).flatten.all Value.oneCell' = true, ((.slice ((fr55 15).ob) (((l3_1.getD (Int.toNat x48.Object) ([] : List UInt8)).length) + (List.map rB ((a1.drop (Int.toNat v6_1)).take ((Int.toNat (v6_1 + x48.N)) - (Int.toNat v6_1)))).length) ((fr55 15).cap)) : Value) = .slice ((fr55 15).ob) (((l3_1.getD (Int.toNat x48.Object) ([] : List UInt8)) ++ ((a1.drop (Int.toNat v6_1)).take ((Int.toNat (v6_1 + x48.N)) - (Int.toNat v6_1)))).length) ((fr55 15).cap), some (Addr.mk (fr5 4).x 0 none) = some (Addr.mk (fr5 4).x 0 none), l3_1.length = (nrows nR54 h3_1 l3_1).length, (x48.Object : Int) = (((Int.toNat x48.Object) : Nat) : Int), (Int.toNat x48.Object) < l3_1.length, blk (some (Addr.mk (fr5 4).x 0 none)) = blk (some (Addr.mk (fr5 4).x 0 none)), offs (some (Addr.mk (fr5 4).x 0 none)) + (Int.toNat x48.Object) * 1 = offs (some (Addr.mk (fr5 4).x 0 none)) + ((Int.toNat x48.Object) * 1 + 0), (nrows nR54 h3_1 l3_1)[(Int.toNat x48.Object)]? = some [.slice (((h3_1 (Int.toNat x48.Object)) 0).1) ((l3_1.getD (Int.toNat x48.Object) ([] : List UInt8)).length) (((h3_1 (Int.toNat x48.Object)) 0).2)], ((.slice ((fr55 15).ob) (((l3_1.getD (Int.toNat x48.Object) ([] : List UInt8)) ++ ((a1.drop (Int.toNat v6_1)).take ((Int.toNat (v6_1 + x48.N)) - (Int.toNat v6_1)))).length) ((fr55 15).cap)) : Value).cells.toList.all Value.oneCell' = true]) (by kernel_rfl) (by kernel_rfl) (fun fr55 => by kernel_rfl) (fun fr55 => ⟨rfl, rfl, rfl, (nrows_len nR54 h3_1 l3_1).symm, g56.eq, g56.2, rfl, rfl, nrows_at nR54 ([] : List UInt8) h3_1 l3_1 g56.2, rfl, I64.w g57, g54.eq, g53.eq, rfl, g54.2, (Nat.le_trans g53.2 a1_ch), (Nat.le_refl _), (by intro h; first | rfl | cases h), slen (by simp only [List.length_take, List.length_drop]; have h1 : (Int.toNat (v6_1 + x48.N)) ≤ a1.length := g53.2; have h2 : (Int.toNat v6_1) ≤ (Int.toNat (v6_1 + x48.N)) := g54.2; omega), rfl, mlen rB ((a1.drop (Int.toNat v6_1)).take ((Int.toNat (v6_1 + x48.N)) - (Int.toNat v6_1))), rfl, rfl, mlen rB (l3_1.getD (Int.toNat x48.Object) ([] : List UInt8)), appb g58 (mlen rB (l3_1.getD (Int.toNat x48.Object) ([] : List UInt8))).symm (mlen rB ((a1.drop (Int.toNat v6_1)).take ((Int.toNat (v6_1 + x48.N)) - (Int.toNat v6_1)))).symm, (by rw [show List.map rB ((a1.drop (Int.toNat v6_1)).take ((Int.toNat (v6_1 + x48.N)) - (Int.toNat v6_1))) = List.map rB ((a1.drop (Int.toNat v6_1)).take ((Int.toNat (v6_1 + x48.N)) - (Int.toNat v6_1))) from rfl]; exact all_one rB _ (fun _ => rfl)), slen (by simp), rfl, (nrows_len nR54 h3_1 l3_1).symm, g56.eq, g56.2, rfl, rfl, nrows_at nR54 ([] : List UInt8) h3_1 l3_1 g56.2, rfl, trivial⟩)) ?_
      intro fr55
      refine GS.conv (mem' := [(1, r5 a1_o a1), (3, .osl (some (Addr.mk (fr5 4).x 0 none)) (Int.toNat y6) 54 1 (nrows nR54 (updH h3_1 (Int.toNat x48.Object) (fun _ => ((fr55 15).ob, (fr55 15).cap))) (l3_1.set (Int.toNat x48.Object) ((l3_1.getD (Int.toNat x48.Object) ([] : List UInt8)) ++ ((a1.drop (Int.toNat v6_1)).take ((Int.toNat (v6_1 + x48.N)) - (Int.toNat v6_1))))))), (4, bag (nins nI54 (updH h3_1 (Int.toNat x48.Object) nilH) (l3_1.set (Int.toNat x48.Object) ([] : List UInt8)))), (5, o44 x15 x16 y13), (6, .cells ((fr51 2).x) 44 [.int .i64 x48.Object, .int .i64 x48.At, .int .i64 x48.N]), (7, .osl ((fr55 15).ob) ((fr55 15).cap) 5 1 ((List.map rB (l3_1.getD (Int.toNat x48.Object) ([] : List UInt8))) ++ (List.map rB ((a1.drop (Int.toNat v6_1)).take ((Int.toNat (v6_1 + x48.N)) - (Int.toNat v6_1))))))]) rfl (congrArg (fun rr : List (List Value) => ([(1, r5 a1_o a1), (3, .osl (some (Addr.mk (fr5 4).x 0 none)) (Int.toNat y6) 54 1 rr), (4, bag (nins nI54 (updH h3_1 (Int.toNat x48.Object) nilH) (l3_1.set (Int.toNat x48.Object) ([] : List UInt8)))), (5, o44 x15 x16 y13), (6, .cells ((fr51 2).x) 44 [.int .i64 x48.Object, .int .i64 x48.At, .int .i64 x48.N]), (7, .osl ((fr55 15).ob) ((fr55 15).cap) 5 1 ((List.map rB (l3_1.getD (Int.toNat x48.Object) ([] : List UInt8))) ++ (List.map rB ((a1.drop (Int.toNat v6_1)).take ((Int.toNat (v6_1 + x48.N)) - (Int.toNat v6_1))))))] : List (Nat × Ent))) (show (nrows nR54 h3_1 l3_1).set (Int.toNat x48.Object) [.slice ((fr55 15).ob) (((l3_1.getD (Int.toNat x48.Object) ([] : List UInt8)) ++ ((a1.drop (Int.toNat v6_1)).take ((Int.toNat (v6_1 + x48.N)) - (Int.toNat v6_1)))).length) ((fr55 15).cap)] = nrows nR54 (updH h3_1 (Int.toNat x48.Object) (fun _ => ((fr55 15).ob, (fr55 15).cap))) (l3_1.set (Int.toNat x48.Object) ((l3_1.getD (Int.toNat x48.Object) ([] : List UInt8)) ++ ((a1.drop (Int.toNat v6_1)).take ((Int.toNat (v6_1 + x48.N)) - (Int.toNat v6_1))))) from nrows_set nR54 h3_1 l3_1 (Int.toNat x48.Object) (fun _ => ((fr55 15).ob, (fr55 15).cap)) ((l3_1.getD (Int.toNat x48.Object) ([] : List UInt8)) ++ ((a1.drop (Int.toNat v6_1)).take ((Int.toNat (v6_1 + x48.N)) - (Int.toNat v6_1)))))) ?_
      refine GS.conv (mem' := [(1, r5 a1_o a1), (3, .osl (some (Addr.mk (fr5 4).x 0 none)) (Int.toNat y6) 54 1 (nrows nR54 (updH h3_1 (Int.toNat x48.Object) (fun _ => ((fr55 15).ob, (fr55 15).cap))) (l3_1.set (Int.toNat x48.Object) ((l3_1.getD (Int.toNat x48.Object) ([] : List UInt8)) ++ ((a1.drop (Int.toNat v6_1)).take ((Int.toNat (v6_1 + x48.N)) - (Int.toNat v6_1))))))), (4, bag (nins nI54 (updH h3_1 (Int.toNat x48.Object) nilH) (l3_1.set (Int.toNat x48.Object) ([] : List UInt8)))), (5, o44 x15 x16 y13), (6, .cells ((fr51 2).x) 44 [.int .i64 x48.Object, .int .i64 x48.At, .int .i64 x48.N]), (7, o5 ((fr55 15).ob) ((fr55 15).cap) ((l3_1.getD (Int.toNat x48.Object) ([] : List UInt8)) ++ ((a1.drop (Int.toNat v6_1)).take ((Int.toNat (v6_1 + x48.N)) - (Int.toNat v6_1)))))]) rfl (congrArg (fun rr : List (List Value) => ([(1, r5 a1_o a1), (3, .osl (some (Addr.mk (fr5 4).x 0 none)) (Int.toNat y6) 54 1 (nrows nR54 (updH h3_1 (Int.toNat x48.Object) (fun _ => ((fr55 15).ob, (fr55 15).cap))) (l3_1.set (Int.toNat x48.Object) ((l3_1.getD (Int.toNat x48.Object) ([] : List UInt8)) ++ ((a1.drop (Int.toNat v6_1)).take ((Int.toNat (v6_1 + x48.N)) - (Int.toNat v6_1))))))), (4, bag (nins nI54 (updH h3_1 (Int.toNat x48.Object) nilH) (l3_1.set (Int.toNat x48.Object) ([] : List UInt8)))), (5, o44 x15 x16 y13), (6, .cells ((fr51 2).x) 44 [.int .i64 x48.Object, .int .i64 x48.At, .int .i64 x48.N]), (7, .osl ((fr55 15).ob) ((fr55 15).cap) 5 1 rr)] : List (Nat × Ent))) (show (List.map rB (l3_1.getD (Int.toNat x48.Object) ([] : List UInt8))) ++ (List.map rB ((a1.drop (Int.toNat v6_1)).take ((Int.toNat (v6_1 + x48.N)) - (Int.toNat v6_1)))) = List.map rB ((l3_1.getD (Int.toNat x48.Object) ([] : List UInt8)) ++ ((a1.drop (Int.toNat v6_1)).take ((Int.toNat (v6_1 + x48.N)) - (Int.toNat v6_1)))) from (by rw [show List.map rB (l3_1.getD (Int.toNat x48.Object) ([] : List UInt8)) = List.map rB (l3_1.getD (Int.toNat x48.Object) ([] : List UInt8)) from rfl, show List.map rB ((a1.drop (Int.toNat v6_1)).take ((Int.toNat (v6_1 + x48.N)) - (Int.toNat v6_1))) = List.map rB ((a1.drop (Int.toNat v6_1)).take ((Int.toNat (v6_1 + x48.N)) - (Int.toNat v6_1))) from rfl]; exact mapp rB _ _))) ?_
      refine GS.setMem (mem' := [(1, r5 a1_o a1), (3, .osl (some (Addr.mk (fr5 4).x 0 none)) (Int.toNat y6) 54 1 (nrows nR54 (updH h3_1 (Int.toNat x48.Object) (fun _ => ((fr55 15).ob, (fr55 15).cap))) (l3_1.set (Int.toNat x48.Object) ((l3_1.getD (Int.toNat x48.Object) ([] : List UInt8)) ++ ((a1.drop (Int.toNat v6_1)).take ((Int.toNat (v6_1 + x48.N)) - (Int.toNat v6_1))))))), (4, bag (nins nI54 (updH h3_1 (Int.toNat x48.Object) (fun _ => ((fr55 15).ob, (fr55 15).cap))) (l3_1.set (Int.toNat x48.Object) ((l3_1.getD (Int.toNat x48.Object) ([] : List UInt8)) ++ ((a1.drop (Int.toNat v6_1)).take ((Int.toNat (v6_1 + x48.N)) - (Int.toNat v6_1))))))), (5, o44 x15 x16 y13), (6, .cells ((fr51 2).x) 44 [.int .i64 x48.Object, .int .i64 x48.At, .int .i64 x48.N])]) (fun w hw => nest_in (K := 4) (nk := [7]) [1, 3, 4, 5, 6] (fun _ => ((fr55 15).ob, (fr55 15).cap)) ((l3_1.getD (Int.toNat x48.Object) ([] : List UInt8)) ++ ((a1.drop (Int.toNat v6_1)).take ((Int.toNat (v6_1 + x48.N)) - (Int.toNat v6_1)))) ([] : List UInt8) hw rfl (g56.2) rfl rfl rfl (by kernel_rfl)) ?_
      refine GS.conv (env' := [(1, .slice a1_o a1.length a1_c), (5, .slice (some (Addr.mk (fr5 4).x 0 none)) ((l3_1.set (Int.toNat x48.Object) ((l3_1.getD (Int.toNat x48.Object) ([] : List UInt8)) ++ ((a1.drop (Int.toNat v6_1)).take ((Int.toNat (v6_1 + x48.N)) - (Int.toNat v6_1))))).length) (Int.toNat y6)), (6, .int .i64 v6_1), (8, .pointer (some ⟨(fr51 2).x, 0, none⟩)), (20, .slice x15 y13.length x16), (21, .int .i64 ((y13.length : Nat) : Int)), (22, .int .i64 ((v22_1 : Nat) : Int))]) (congrArg (fun vhole : Value => [(1, .slice a1_o a1.length a1_c), (5, vhole), (6, .int .i64 v6_1), (8, .pointer (some ⟨(fr51 2).x, 0, none⟩)), (20, .slice x15 y13.length x16), (21, .int .i64 ((y13.length : Nat) : Int)), (22, .int .i64 ((v22_1 : Nat) : Int))]) (show ((.slice (some (Addr.mk (fr5 4).x 0 none)) l3_1.length (Int.toNat y6)) : Value) = .slice (some (Addr.mk (fr5 4).x 0 none)) ((l3_1.set (Int.toNat x48.Object) ((l3_1.getD (Int.toNat x48.Object) ([] : List UInt8)) ++ ((a1.drop (Int.toNat v6_1)).take ((Int.toNat (v6_1 + x48.N)) - (Int.toNat v6_1))))).length) (Int.toNat y6) from (by simp []))) rfl ?_
      refine GS.region (env' := fun _ => [(1, .slice a1_o a1.length a1_c), (5, .slice (some (Addr.mk (fr5 4).x 0 none)) ((l3_1.set (Int.toNat x48.Object) ((l3_1.getD (Int.toNat x48.Object) ([] : List UInt8)) ++ ((a1.drop (Int.toNat v6_1)).take ((Int.toNat (v6_1 + x48.N)) - (Int.toNat v6_1))))).length) (Int.toNat y6)), (6, .int .i64 (v6_1 + x48.N)), (20, .slice x15 y13.length x16), (21, .int .i64 ((y13.length : Nat) : Int)), (22, .int .i64 ((v22_1 : Nat) : Int))]) (mem' := fun _ => [(1, r5 a1_o a1), (3, .osl (some (Addr.mk (fr5 4).x 0 none)) (Int.toNat y6) 54 1 (nrows nR54 (updH h3_1 (Int.toNat x48.Object) (fun _ => ((fr55 15).ob, (fr55 15).cap))) (l3_1.set (Int.toNat x48.Object) ((l3_1.getD (Int.toNat x48.Object) ([] : List UInt8)) ++ ((a1.drop (Int.toNat v6_1)).take ((Int.toNat (v6_1 + x48.N)) - (Int.toNat v6_1))))))), (4, bag (nins nI54 (updH h3_1 (Int.toNat x48.Object) (fun _ => ((fr55 15).ob, (fr55 15).cap))) (l3_1.set (Int.toNat x48.Object) ((l3_1.getD (Int.toNat x48.Object) ([] : List UInt8)) ++ ((a1.drop (Int.toNat v6_1)).take ((Int.toNat (v6_1 + x48.N)) - (Int.toNat v6_1))))))), (5, o44 x15 x16 y13)]) (RunsTo.mk [(2, { act := .load 6 0 0 [] }), (3, { sp := some (.int .i64 (v6_1 + x48.N)) })] [1, 5, 6, 20, 21, 22] [1, 3, 4, 5] (fun _ => [(fr51 2).x = (fr51 2).x, ((.int .i64 (IntKind.i64.wrap (v6_1 + x48.N))) : Value) = .int .i64 (v6_1 + x48.N)]) (fun _ => by kernel_rfl) (fun _ => ⟨rfl, I64.w g57, trivial⟩)) ?_
      intro _
      refine GS.inBlock ?_
      refine GS.region (env' := fun _ => [(1, .slice a1_o a1.length a1_c), (5, .slice (some (Addr.mk (fr5 4).x 0 none)) ((l3_1.set (Int.toNat x48.Object) ((l3_1.getD (Int.toNat x48.Object) ([] : List UInt8)) ++ ((a1.drop (Int.toNat v6_1)).take ((Int.toNat (v6_1 + x48.N)) - (Int.toNat v6_1))))).length) (Int.toNat y6)), (6, .int .i64 (v6_1 + x48.N)), (20, .slice x15 y13.length x16), (21, .int .i64 ((y13.length : Nat) : Int)), (22, .int .i64 ((v22_1 + 1 : Nat) : Int))]) (mem' := fun _ => [(1, r5 a1_o a1), (3, .osl (some (Addr.mk (fr5 4).x 0 none)) (Int.toNat y6) 54 1 (nrows nR54 (updH h3_1 (Int.toNat x48.Object) (fun _ => ((fr55 15).ob, (fr55 15).cap))) (l3_1.set (Int.toNat x48.Object) ((l3_1.getD (Int.toNat x48.Object) ([] : List UInt8)) ++ ((a1.drop (Int.toNat v6_1)).take ((Int.toNat (v6_1 + x48.N)) - (Int.toNat v6_1))))))), (4, bag (nins nI54 (updH h3_1 (Int.toNat x48.Object) (fun _ => ((fr55 15).ob, (fr55 15).cap))) (l3_1.set (Int.toNat x48.Object) ((l3_1.getD (Int.toNat x48.Object) ([] : List UInt8)) ++ ((a1.drop (Int.toNat v6_1)).take ((Int.toNat (v6_1 + x48.N)) - (Int.toNat v6_1))))))), (5, o44 x15 x16 y13)]) (RunsTo.mk [(0, { sp := some (.int .i64 ((v22_1 + 1 : Nat) : Int)) })] [1, 5, 6, 20, 21, 22] [1, 3, 4, 5] (fun _ => [((.int .i64 (IntKind.i64.wrap (((v22_1 : Nat) : Int) + 1))) : Value) = .int .i64 ((v22_1 + 1 : Nat) : Int)]) (fun _ => by kernel_rfl) (fun _ => ⟨natw (drop_lt hd46) g47, trivial⟩)) ?_
      intro _
      refine GS.inLoop ?_
      refine GS.rekey (env' := [(1, .slice a1_o a1.length a1_c), (5, .slice (some (Addr.mk (fr5 4).x 0 none)) ((l3_1.set (Int.toNat x48.Object) ((l3_1.getD (Int.toNat x48.Object) ([] : List UInt8)) ++ ((a1.drop (Int.toNat v6_1)).take ((Int.toNat (v6_1 + x48.N)) - (Int.toNat v6_1))))).length) (Int.toNat y6)), (6, .int .i64 (v6_1 + x48.N)), (20, .slice x15 y13.length x16), (21, .int .i64 ((y13.length : Nat) : Int)), (22, .int .i64 ((v22_1 + 1 : Nat) : Int))]) (mem' := [(1, r5 a1_o a1), (3, .osl (some (Addr.mk (fr5 4).x 0 none)) (Int.toNat y6) 54 1 (nrows nR54 (updH h3_1 (Int.toNat x48.Object) (fun _ => ((fr55 15).ob, (fr55 15).cap))) (l3_1.set (Int.toNat x48.Object) ((l3_1.getD (Int.toNat x48.Object) ([] : List UInt8)) ++ ((a1.drop (Int.toNat v6_1)).take ((Int.toNat (v6_1 + x48.N)) - (Int.toNat v6_1))))))), (4, bag (nins nI54 (updH h3_1 (Int.toNat x48.Object) (fun _ => ((fr55 15).ob, (fr55 15).cap))) (l3_1.set (Int.toNat x48.Object) ((l3_1.getD (Int.toNat x48.Object) ([] : List UInt8)) ++ ((a1.drop (Int.toNat v6_1)).take ((Int.toNat (v6_1 + x48.N)) - (Int.toNat v6_1))))))), (5, o44 x15 x16 y13)]) [1, 5, 6, 20, 21, 22] [(1, 1), (3, 3), (4, 4), (5, 5)] (by kernel_rfl) (by kernel_rfl) rfl ?_
      exact ih65 ⟨rs64, (v6_1 + x48.N), v22_1 + 1, (l3_1.set (Int.toNat x48.Object) ((l3_1.getD (Int.toNat x48.Object) ([] : List UInt8)) ++ ((a1.drop (Int.toNat v6_1)).take ((Int.toNat (v6_1 + x48.N)) - (Int.toNat v6_1))))), (updH h3_1 (Int.toNat x48.Object) (fun _ => ((fr55 15).ob, (fr55 15).cap)))⟩ ⟨drop_next hd46, hm⟩ (Nat.lt_succ_self _)

theorem w_tholeref24_Good (F : Nat) (a0 : S_tholeref24_Layout) {y : Bool} (hm : m_tholeref24_Good F a0 = some y) : CallG Tryd.prog 13 #[.agg #[.int .i64 a0.Unit, .int .i64 a0.Count, .int .i64 a0.Size]] (X := Unit) (fun (_ : Unit) => .bool y) [] [] (fun (_ : Unit) => []) := by
  intro w hg
  rw [m_tholeref24_Good] at hm
  refine GS.start (S := mayT [] []) (mem := []) Tryd.func13 rfl Tryd.ntmps13 (Nat.le_of_ble_eq_true rfl) (hg.start rfl) ?_
  refine GS.conv (env' := [(0, .agg #[.int .i64 a0.Unit, .int .i64 a0.Count, .int .i64 a0.Size])]) rfl rfl ?_
  refine GS.seq ?_
  refine GS.region (env' := fun fr1 => [(1, .pointer (some ⟨(fr1 0).x, 0, none⟩))]) (mem' := fun fr1 => [(1, .cells ((fr1 0).x) 24 [.int .i64 a0.Unit, .int .i64 a0.Count, .int .i64 a0.Size])]) (RunsTo.mk [(0, { act := .new .var, key := some 1 })] [1] [1] (fun fr1 => []) (fun fr1 => by kernel_rfl) (fun fr1 => trivial)) ?_
  intro fr1
  refine GS.seq ?_
  refine br_elim hm (fun h3 hm => ?_) (fun h3 hm => ?_)
  · skip
    refine br_elim hm (fun h4 hm => ?_) (fun h4 hm => ?_)
    · skip
      refine br_elim hm (fun h5 hm => ?_) (fun h5 hm => ?_)
      · skip
        refine br_elim hm (fun h6 hm => ?_) (fun h6 hm => ?_)
        · skip
          refine br_elim hm (fun h7 hm => ?_) (fun h7 hm => ?_)
          · skip
            refine br_elim hm (fun h8 hm => ?_) (fun h8 hm => ?_)
            · skip
              refine grd_elim hm (fun g9 hm => ?_)
              refine GS.region (env' := fun _ => [(2, .bool ((Int.tmod a0.Size a0.Unit) == 0))]) (mem' := fun _ => []) (RunsTo.mk [(1, { act := .load 1 0 0 [] }), (3, { sp := some (.bool true) }), (5, { act := .load 1 0 0 [] }), (8, { sp := some (.bool true) }), (10, { act := .load 1 0 0 [] }), (13, { sp := some (.bool true) }), (15, { act := .load 1 0 0 [] }), (18, { sp := some (.bool true) }), (20, { act := .load 1 0 0 [] }), (22, { act := .load 1 0 0 [] }), (25, { sp := some (.bool true) }), (27, { act := .load 1 0 0 [] }), (30, { sp := some (.bool true) }), (32, { act := .load 1 0 0 [] }), (34, { act := .load 1 0 0 [] }), (35, { act := .div })] [2] [] (fun _ => [(fr1 0).x = (fr1 0).x, ((.bool (decide (a0.Unit ≥ 1))) : Value) = .bool true, (fr1 0).x = (fr1 0).x, ((.bool (decide (a0.Unit ≤ 4096))) : Value) = .bool true, (fr1 0).x = (fr1 0).x, ((.bool (decide (a0.Count ≥ 1))) : Value) = .bool true, (fr1 0).x = (fr1 0).x, ((.bool (decide (a0.Count ≤ 16))) : Value) = .bool true, (fr1 0).x = (fr1 0).x, (fr1 0).x = (fr1 0).x, ((.bool (decide (a0.Size ≥ a0.Unit))) : Value) = .bool true, (fr1 0).x = (fr1 0).x, ((.bool (decide (a0.Size ≤ 4096))) : Value) = .bool true, (fr1 0).x = (fr1 0).x, (fr1 0).x = (fr1 0).x, a0.Unit ≠ 0]) (fun _ => by kernel_rfl) (fun _ => ⟨rfl, bool_eq h3, rfl, bool_eq h4, rfl, bool_eq h5, rfl, bool_eq h6, rfl, rfl, bool_eq h7, rfl, bool_eq h8, rfl, rfl, g9, trivial⟩)) ?_
              intro _
              have hy := Option.some.inj hm
              subst hy
              refine GS.ret (fn := Tryd.f13) [0] [.bool ((Int.tmod a0.Size a0.Unit) == 0)] [] rfl Tryd.func13 (by kernel_rfl) trivial (fun w' hs => ?_)
              exact ⟨(), rfl, hs.turnedG (ks := []) rfl rfl⟩
            · skip
              refine GS.region (env' := fun _ => [(2, .bool false)]) (mem' := fun _ => []) (RunsTo.mk [(1, { act := .load 1 0 0 [] }), (3, { sp := some (.bool true) }), (5, { act := .load 1 0 0 [] }), (8, { sp := some (.bool true) }), (10, { act := .load 1 0 0 [] }), (13, { sp := some (.bool true) }), (15, { act := .load 1 0 0 [] }), (18, { sp := some (.bool true) }), (20, { act := .load 1 0 0 [] }), (22, { act := .load 1 0 0 [] }), (25, { sp := some (.bool true) }), (27, { act := .load 1 0 0 [] }), (30, { sp := some (.bool false) })] [2] [] (fun _ => [(fr1 0).x = (fr1 0).x, ((.bool (decide (a0.Unit ≥ 1))) : Value) = .bool true, (fr1 0).x = (fr1 0).x, ((.bool (decide (a0.Unit ≤ 4096))) : Value) = .bool true, (fr1 0).x = (fr1 0).x, ((.bool (decide (a0.Count ≥ 1))) : Value) = .bool true, (fr1 0).x = (fr1 0).x, ((.bool (decide (a0.Count ≤ 16))) : Value) = .bool true, (fr1 0).x = (fr1 0).x, (fr1 0).x = (fr1 0).x, ((.bool (decide (a0.Size ≥ a0.Unit))) : Value) = .bool true, (fr1 0).x = (fr1 0).x, ((.bool (decide (a0.Size ≤ 4096))) : Value) = .bool false]) (fun _ => by kernel_rfl) (fun _ => ⟨rfl, bool_eq h3, rfl, bool_eq h4, rfl, bool_eq h5, rfl, bool_eq h6, rfl, rfl, bool_eq h7, rfl, bool_eq h8, trivial⟩)) ?_
              intro _
              have hy := Option.some.inj hm
              subst hy
              refine GS.ret (fn := Tryd.f13) [0] [.bool false] [] rfl Tryd.func13 (by kernel_rfl) trivial (fun w' hs => ?_)
              exact ⟨(), rfl, hs.turnedG (ks := []) rfl rfl⟩
          · skip
            refine GS.region (env' := fun _ => [(2, .bool false)]) (mem' := fun _ => []) (RunsTo.mk [(1, { act := .load 1 0 0 [] }), (3, { sp := some (.bool true) }), (5, { act := .load 1 0 0 [] }), (8, { sp := some (.bool true) }), (10, { act := .load 1 0 0 [] }), (13, { sp := some (.bool true) }), (15, { act := .load 1 0 0 [] }), (18, { sp := some (.bool true) }), (20, { act := .load 1 0 0 [] }), (22, { act := .load 1 0 0 [] }), (25, { sp := some (.bool false) })] [2] [] (fun _ => [(fr1 0).x = (fr1 0).x, ((.bool (decide (a0.Unit ≥ 1))) : Value) = .bool true, (fr1 0).x = (fr1 0).x, ((.bool (decide (a0.Unit ≤ 4096))) : Value) = .bool true, (fr1 0).x = (fr1 0).x, ((.bool (decide (a0.Count ≥ 1))) : Value) = .bool true, (fr1 0).x = (fr1 0).x, ((.bool (decide (a0.Count ≤ 16))) : Value) = .bool true, (fr1 0).x = (fr1 0).x, (fr1 0).x = (fr1 0).x, ((.bool (decide (a0.Size ≥ a0.Unit))) : Value) = .bool false]) (fun _ => by kernel_rfl) (fun _ => ⟨rfl, bool_eq h3, rfl, bool_eq h4, rfl, bool_eq h5, rfl, bool_eq h6, rfl, rfl, bool_eq h7, trivial⟩)) ?_
            intro _
            have hy := Option.some.inj hm
            subst hy
            refine GS.ret (fn := Tryd.f13) [0] [.bool false] [] rfl Tryd.func13 (by kernel_rfl) trivial (fun w' hs => ?_)
            exact ⟨(), rfl, hs.turnedG (ks := []) rfl rfl⟩
        · skip
          refine GS.region (env' := fun _ => [(2, .bool false)]) (mem' := fun _ => []) (RunsTo.mk [(1, { act := .load 1 0 0 [] }), (3, { sp := some (.bool true) }), (5, { act := .load 1 0 0 [] }), (8, { sp := some (.bool true) }), (10, { act := .load 1 0 0 [] }), (13, { sp := some (.bool true) }), (15, { act := .load 1 0 0 [] }), (18, { sp := some (.bool false) })] [2] [] (fun _ => [(fr1 0).x = (fr1 0).x, ((.bool (decide (a0.Unit ≥ 1))) : Value) = .bool true, (fr1 0).x = (fr1 0).x, ((.bool (decide (a0.Unit ≤ 4096))) : Value) = .bool true, (fr1 0).x = (fr1 0).x, ((.bool (decide (a0.Count ≥ 1))) : Value) = .bool true, (fr1 0).x = (fr1 0).x, ((.bool (decide (a0.Count ≤ 16))) : Value) = .bool false]) (fun _ => by kernel_rfl) (fun _ => ⟨rfl, bool_eq h3, rfl, bool_eq h4, rfl, bool_eq h5, rfl, bool_eq h6, trivial⟩)) ?_
          intro _
          have hy := Option.some.inj hm
          subst hy
          refine GS.ret (fn := Tryd.f13) [0] [.bool false] [] rfl Tryd.func13 (by kernel_rfl) trivial (fun w' hs => ?_)
          exact ⟨(), rfl, hs.turnedG (ks := []) rfl rfl⟩
      · skip
        refine GS.region (env' := fun _ => [(2, .bool false)]) (mem' := fun _ => []) (RunsTo.mk [(1, { act := .load 1 0 0 [] }), (3, { sp := some (.bool true) }), (5, { act := .load 1 0 0 [] }), (8, { sp := some (.bool true) }), (10, { act := .load 1 0 0 [] }), (13, { sp := some (.bool false) })] [2] [] (fun _ => [(fr1 0).x = (fr1 0).x, ((.bool (decide (a0.Unit ≥ 1))) : Value) = .bool true, (fr1 0).x = (fr1 0).x, ((.bool (decide (a0.Unit ≤ 4096))) : Value) = .bool true, (fr1 0).x = (fr1 0).x, ((.bool (decide (a0.Count ≥ 1))) : Value) = .bool false]) (fun _ => by kernel_rfl) (fun _ => ⟨rfl, bool_eq h3, rfl, bool_eq h4, rfl, bool_eq h5, trivial⟩)) ?_
        intro _
        have hy := Option.some.inj hm
        subst hy
        refine GS.ret (fn := Tryd.f13) [0] [.bool false] [] rfl Tryd.func13 (by kernel_rfl) trivial (fun w' hs => ?_)
        exact ⟨(), rfl, hs.turnedG (ks := []) rfl rfl⟩
    · skip
      refine GS.region (env' := fun _ => [(2, .bool false)]) (mem' := fun _ => []) (RunsTo.mk [(1, { act := .load 1 0 0 [] }), (3, { sp := some (.bool true) }), (5, { act := .load 1 0 0 [] }), (8, { sp := some (.bool false) })] [2] [] (fun _ => [(fr1 0).x = (fr1 0).x, ((.bool (decide (a0.Unit ≥ 1))) : Value) = .bool true, (fr1 0).x = (fr1 0).x, ((.bool (decide (a0.Unit ≤ 4096))) : Value) = .bool false]) (fun _ => by kernel_rfl) (fun _ => ⟨rfl, bool_eq h3, rfl, bool_eq h4, trivial⟩)) ?_
      intro _
      have hy := Option.some.inj hm
      subst hy
      refine GS.ret (fn := Tryd.f13) [0] [.bool false] [] rfl Tryd.func13 (by kernel_rfl) trivial (fun w' hs => ?_)
      exact ⟨(), rfl, hs.turnedG (ks := []) rfl rfl⟩
  · skip
    refine GS.region (env' := fun _ => [(2, .bool false)]) (mem' := fun _ => []) (RunsTo.mk [(1, { act := .load 1 0 0 [] }), (3, { sp := some (.bool false) })] [2] [] (fun _ => [(fr1 0).x = (fr1 0).x, ((.bool (decide (a0.Unit ≥ 1))) : Value) = .bool false]) (fun _ => by kernel_rfl) (fun _ => ⟨rfl, bool_eq h3, trivial⟩)) ?_
    intro _
    have hy := Option.some.inj hm
    subst hy
    refine GS.ret (fn := Tryd.f13) [0] [.bool false] [] rfl Tryd.func13 (by kernel_rfl) trivial (fun w' hs => ?_)
    exact ⟨(), rfl, hs.turnedG (ks := []) rfl rfl⟩

theorem w_tholeref01_Same (F : Nat) (a0_o : Option Addr) (a0_c : Nat) (a0 : List UInt8) (a1_o : Option Addr) (a1_c : Nat) (a1 : List UInt8) {y : Bool} (hm : m_tholeref01_Same F a0 a1 = some y) : CallG Tryd.prog 35 #[.slice a0_o a0.length a0_c, .slice a1_o a1.length a1_c] (X := Unit) (fun (_ : Unit) => .bool y) [] [r5 a0_o a0, r5 a1_o a1] (fun (_ : Unit) => []) := by
  intro w hg
  rw [m_tholeref01_Same] at hm
  refine GS.start (S := mayT [] [r5 a0_o a0, r5 a1_o a1]) (mem := [(1, r5 a0_o a0), (2, r5 a1_o a1)]) Tryd.func35 rfl Tryd.ntmps35 (Nat.le_of_ble_eq_true rfl) (hg.start rfl) ?_
  refine GS.conv (env' := [(0, .slice a0_o a0.length a0_c), (1, .slice a1_o a1.length a1_c)]) rfl rfl ?_
  refine GS.seq ?_
  refine GS.region (env' := fun _ => [(0, .slice a0_o a0.length a0_c), (1, .slice a1_o a1.length a1_c)]) (mem' := fun _ => [(1, r5 a0_o a0), (2, r5 a1_o a1)]) (RunsTo.mk [] [0, 1] [1, 2] (fun _ => []) (fun _ => by kernel_rfl) (fun _ => trivial)) ?_
  intro _
  refine GS.seq ?_
  refine GS.region (env' := fun _ => [(4, .bool ((ByteArray.mk a0.toArray).toList == (ByteArray.mk a1.toArray).toList))]) (mem' := fun _ => []) (RunsTo.mk [(1, { act := .text 1 a0 }), (3, { act := .text 2 a1 })] [4] [] (fun _ => [a0_o = a0_o, a0.length = (List.map rB a0).length, List.map rB a0 = encB a0, a1_o = a1_o, a1.length = (List.map rB a1).length, List.map rB a1 = encB a1]) (fun _ => by kernel_rfl) (fun _ => ⟨rfl, mlen rB a0, rfl, rfl, mlen rB a1, rfl, trivial⟩)) ?_
  intro _
  have hy := Option.some.inj hm
  subst hy
  refine GS.ret (fn := Tryd.f35) [0] [.bool ((ByteArray.mk a0.toArray).toList == (ByteArray.mk a1.toArray).toList)] [] rfl Tryd.func35 (by kernel_rfl) trivial (fun w' hs => ?_)
  exact ⟨(), rfl, hs.turnedG (ks := []) rfl rfl⟩

end Go.Proofs.YtfdojammchbboaaDoor
