/-
  CHAPTER 24n: the functions do what their models say (3).
-/
import Derived.Test.YtfdojammchbboaaDoorM24n
import Derived.Test.YtfdojammchbboaaDoorW24na
import Derived.Test.YtfdojammchbboaaDoorW24nb
import Derived.Test.YtfdojammchbboaaDoorE24
set_option linter.unusedVariables false
set_option linter.unusedSimpArgs false
set_option maxRecDepth 100000
namespace Go.Proofs.YtfdojammchbboaaDoor
open Go Go.RowKit Sx

theorem w_tholelaw24_lives (F : Nat) {y : Bool} (hm : m_tholelaw24_lives F = some y) : CallG Tryd.prog 16 #[] (X := Unit) (fun (_ : Unit) => .bool y) [] [glob24] (fun (_ : Unit) => []) := by
  intro w hg
  rw [m_tholelaw24_lives] at hm
  refine GS.start (S := mayT [] [glob24]) (mem := [(1, glob24)]) Tryd.func16 rfl Tryd.ntmps16 (Nat.le_of_ble_eq_true rfl) (hg.start rfl) ?_
  refine GS.conv (env' := []) rfl rfl ?_
  refine GS.seq ?_
  refine GS.region (env' := fun _ => []) (mem' := fun _ => [(1, glob24)]) (RunsTo.mk [] [] [1] (fun _ => []) (fun _ => by kernel_rfl) (fun _ => trivial)) ?_
  intro _
  refine GS.seq ?_
  refine GS.region (env' := fun fr2 => [(1, .pointer (some ⟨(fr2 1).x, 0, none⟩))]) (mem' := fun fr2 => [(1, glob24), (2, .cells ((fr2 1).x) 23 [.int .i64 2, .int .i64 2, .int .i64 4])]) (RunsTo.mk [(1, { act := .new .var, key := some 2 }), (2, { act := .store 0 0 [], key := some 2 })] [1] [1, 2] (fun fr2 => [(fr2 1).x = (fr2 1).x, ((.agg #[.int .i64 2, .int .i64 2, .int .i64 4]) : Value).cells.toList.all Value.oneCell' = true]) (fun fr2 => by kernel_rfl) (fun fr2 => ⟨rfl, rfl, trivial⟩)) ?_
  intro fr2
  refine GS.seq ?_
  refine bnd_elim hm (fun y4 e5 hm => ?_)
  refine GS.region (env' := fun _ => [(1, .pointer (some ⟨(fr2 1).x, 0, none⟩)), (2, .int .i64 y4.1), (3, .int .i64 y4.2)]) (mem' := fun _ => [(1, glob24), (2, .cells ((fr2 1).x) 23 [.int .i64 2, .int .i64 2, .int .i64 4])]) (RunsTo.mk [(0, { act := .load 2 0 0 [] }), (1, { act := .call [] (.tuple #[.int .i64 y4.1, .int .i64 y4.2]) })] [1, 2, 3] [1, 2] (fun _ => [(fr2 1).x = (fr2 1).x, CallOK Tryd.prog 10 #[.agg #[.int .i64 2, .int .i64 2, .int .i64 4], .int .i64 8] (.tuple #[.int .i64 y4.1, .int .i64 y4.2]) []]) (fun _ => by kernel_rfl) (fun _ => ⟨rfl, (w_stripe_Place F (S_stripe_Layout.mk 2 2 4) 8 e5).ok trivial, trivial⟩)) ?_
  intro _
  refine GS.seq ?_
  refine bnd_elim hm (fun y7 e8 hm => ?_)
  refine GS.region (env' := fun _ => [(1, .pointer (some ⟨(fr2 1).x, 0, none⟩)), (2, .int .i64 y4.1), (3, .int .i64 y4.2), (6, .bool y7.2.2)]) (mem' := fun _ => [(1, glob24), (2, .cells ((fr2 1).x) 23 [.int .i64 2, .int .i64 2, .int .i64 4])]) (RunsTo.mk [(0, { act := .call [1] (.tuple #[.string y7.1, .int .i64 y7.2.1, .bool y7.2.2]) })] [1, 2, 3, 6] [1, 2] (fun _ => [CallOK Tryd.prog 17 #[.string (ByteArray.mk #[97, 46, 48, 49])] (.tuple #[.string y7.1, .int .i64 y7.2.1, .bool y7.2.2]) [some (glob24)]]) (fun _ => by kernel_rfl) (fun _ => ⟨(w_stripe_Parse F (ByteArray.mk #[97, 46, 48, 49]) e8).ok ⟨(.inl ⟨glob24, .head _, Cov.refl _⟩), trivial⟩, trivial⟩)) ?_
  intro _
  refine GS.seq ?_
  refine br_elim hm (fun h10 hm => ?_) (fun h10 hm => ?_)
  · skip
    refine br_elim hm (fun h11 hm => ?_) (fun h11 hm => ?_)
    · skip
      refine bnd_elim hm (fun y12 e13 hm => ?_)
      refine GS.open_ ?_
      refine GR.run (i := 0) 8 (env' := fun _ => [(1, .pointer (some ⟨(fr2 1).x, 0, none⟩)), (6, .bool y7.2.2), (24, .bool true), (25, .agg #[.int .i64 2, .int .i64 2, .int .i64 4])]) (mem' := fun _ => [(1, glob24), (2, .cells ((fr2 1).x) 23 [.int .i64 2, .int .i64 2, .int .i64 4])]) (Nat.le_of_ble_eq_true (by kernel_rfl)) (RunsTo.mk [(2, { sp := some (.bool true) }), (6, { sp := some (.bool true) }), (7, { act := .load 2 0 0 [] })] [1, 6, 24, 25] [1, 2] (fun _ => [((.bool (y4.1 == 2)) : Value) = .bool true, ((.bool (y4.2 == 0)) : Value) = .bool true, (fr2 1).x = (fr2 1).x]) (fun _ => by kernel_rfl) (fun _ => ⟨bool_eq h10, bool_eq h11, rfl, trivial⟩)) ?_
      intro _
      refine GR.callG (X := Option Addr × Nat) (i := 8) (g := 26) (args := #[.agg #[.int .i64 2, .int .i64 2, .int .i64 4], .int .i64 9]) (v := fun ⟨x14, x15⟩ => .slice x14 y12.length x15) (own := []) (ro := []) (es' := fun ⟨x14, x15⟩ => [o3 x14 x15 y12]) (mem' := fun ⟨x14, x15⟩ => [(1, glob24), (2, .cells ((fr2 1).x) 23 [.int .i64 2, .int .i64 2, .int .i64 4]), (3, o3 x14 x15 y12)]) (env' := fun ⟨x14, x15⟩ => [(1, .pointer (some ⟨(fr2 1).x, 0, none⟩)), (6, .bool y7.2.2), (24, .bool true), (26, .slice x14 y12.length x15)]) [] [3] [1, 6, 24, 26] [1, 2, 3] false (by kernel_rfl) (by kernel_rfl) (by kernel_rfl) (by kernel_rfl) (by kernel_rfl) (fun _ => rfl) (fun _ _ => rfl) trivial (by rintro ⟨x14, x15⟩; kernel_rfl) (by rintro ⟨x14, x15⟩; kernel_rfl) (w_stripe_Sizes F (S_stripe_Layout.mk 2 2 4) 9 e13) ?_
      rintro ⟨x14, x15⟩
      refine bnd_elim hm (fun y17 e18 hm => ?_)
      refine br_elim hm (fun h19 hm => ?_) (fun h19 hm => ?_)
      · skip
        refine bnd_elim hm (fun y20 e21 hm => ?_)
        refine br_elim hm (fun h22 hm => ?_) (fun h22 hm => ?_)
        · skip
          refine br_elim hm (fun h23 hm => ?_) (fun h23 hm => ?_)
          · skip
            refine bnd_elim hm (fun y24 e25 hm => ?_)
            refine GR.run (i := 9) 17 (env' := fun fr16 => [(0, .bool (y24.toList == (ByteArray.mk #[97, 46, 51]).toList))]) (mem' := fun fr16 => [(1, glob24)]) (Nat.le_of_ble_eq_true (by kernel_rfl)) (RunsTo.mk [(9, { act := .new (.row 3 1), key := some 4, spf := some (fun f => .slice (some (Addr.mk f.x 0 none)) ([4, 4, 1].length) 3) }), (10, { act := .call [3, 4] (.bool y17) }), (12, { sp := some (.bool true) }), (13, { act := .load 2 0 0 [] }), (14, { act := .call [] (.int .i64 y20) }), (17, { sp := some (.bool true) }), (21, { sp := some (.bool true) }), (22, { act := .call [1] (.string y24) })] [0] [1] (fun fr16 => [((.slice (some (Addr.mk (fr16 9).x 0 none)) 3 3) : Value) = .slice (some (Addr.mk (fr16 9).x 0 none)) ([4, 4, 1].length) 3, CallOK Tryd.prog 25 #[.slice x14 y12.length x15, .slice (some (Addr.mk (fr16 9).x 0 none)) ([4, 4, 1].length) 3] (.bool y17) [some (o3 x14 x15 y12), some (.osl (some (Addr.mk (fr16 9).x 0 none)) 3 3 1 ([[.int .i64 4], [.int .i64 4], [.int .i64 1]] : List (List Value)))], ((.bool y17) : Value) = .bool true, (fr2 1).x = (fr2 1).x, CallOK Tryd.prog 14 #[.agg #[.int .i64 2, .int .i64 2, .int .i64 4], .int .i64 1, .int .i64 1] (.int .i64 y20) [], ((.bool (y20 == 3)) : Value) = .bool true, ((.bool (!y7.2.2)) : Value) = .bool true, CallOK Tryd.prog 19 #[.string (ByteArray.mk #[97]), .int .i64 3] (.string y24) [some (glob24)]]) (fun fr16 => by kernel_rfl) (fun fr16 => ⟨rfl, (w_tholeref01_Ints F x14 x15 y12 (some (Addr.mk (fr16 9).x 0 none)) 3 [4, 4, 1] e18).ok ⟨(.inl ⟨o3 x14 x15 y12, .head _, Cov.osl_rd⟩), (.inl ⟨.osl (some (Addr.mk (fr16 9).x 0 none)) 3 3 1 ([[.int .i64 4], [.int .i64 4], [.int .i64 1]] : List (List Value)), (.tail _ (.head _)), (by rw [show ([[.int .i64 4], [.int .i64 4], [.int .i64 1]] : List (List Value)) = List.map rI [4, 4, 1] from rfl]; exact Cov.osl_rd)⟩), trivial⟩, bool_eq h19, rfl, (w_stripe_Back F (S_stripe_Layout.mk 2 2 4) 1 1 e21).ok trivial, bool_eq h22, bool_eq h23, (w_stripe_Name F (ByteArray.mk #[97]) 3 e25).ok ⟨(.inl ⟨glob24, .head _, Cov.refl _⟩), trivial⟩, trivial⟩)) ?_
            intro fr16
            refine GR.done (Nat.le_of_ble_eq_true (by kernel_rfl)) ?_
            have hy := Option.some.inj hm
            subst hy
            refine GS.ret (fn := Tryd.f16) [0] [.bool (y24.toList == (ByteArray.mk #[97, 46, 51]).toList)] [] rfl Tryd.func16 (by kernel_rfl) trivial (fun w' hs => ?_)
            exact ⟨(), rfl, hs.turnedG (ks := []) rfl rfl⟩
          · skip
            refine GR.run (i := 9) 17 (env' := fun fr16 => [(0, .bool false)]) (mem' := fun fr16 => [(1, glob24)]) (Nat.le_of_ble_eq_true (by kernel_rfl)) (RunsTo.mk [(9, { act := .new (.row 3 1), key := some 4, spf := some (fun f => .slice (some (Addr.mk f.x 0 none)) ([4, 4, 1].length) 3) }), (10, { act := .call [3, 4] (.bool y17) }), (12, { sp := some (.bool true) }), (13, { act := .load 2 0 0 [] }), (14, { act := .call [] (.int .i64 y20) }), (17, { sp := some (.bool true) }), (21, { sp := some (.bool false) })] [0] [1] (fun fr16 => [((.slice (some (Addr.mk (fr16 9).x 0 none)) 3 3) : Value) = .slice (some (Addr.mk (fr16 9).x 0 none)) ([4, 4, 1].length) 3, CallOK Tryd.prog 25 #[.slice x14 y12.length x15, .slice (some (Addr.mk (fr16 9).x 0 none)) ([4, 4, 1].length) 3] (.bool y17) [some (o3 x14 x15 y12), some (.osl (some (Addr.mk (fr16 9).x 0 none)) 3 3 1 ([[.int .i64 4], [.int .i64 4], [.int .i64 1]] : List (List Value)))], ((.bool y17) : Value) = .bool true, (fr2 1).x = (fr2 1).x, CallOK Tryd.prog 14 #[.agg #[.int .i64 2, .int .i64 2, .int .i64 4], .int .i64 1, .int .i64 1] (.int .i64 y20) [], ((.bool (y20 == 3)) : Value) = .bool true, ((.bool (!y7.2.2)) : Value) = .bool false]) (fun fr16 => by kernel_rfl) (fun fr16 => ⟨rfl, (w_tholeref01_Ints F x14 x15 y12 (some (Addr.mk (fr16 9).x 0 none)) 3 [4, 4, 1] e18).ok ⟨(.inl ⟨o3 x14 x15 y12, .head _, Cov.osl_rd⟩), (.inl ⟨.osl (some (Addr.mk (fr16 9).x 0 none)) 3 3 1 ([[.int .i64 4], [.int .i64 4], [.int .i64 1]] : List (List Value)), (.tail _ (.head _)), (by rw [show ([[.int .i64 4], [.int .i64 4], [.int .i64 1]] : List (List Value)) = List.map rI [4, 4, 1] from rfl]; exact Cov.osl_rd)⟩), trivial⟩, bool_eq h19, rfl, (w_stripe_Back F (S_stripe_Layout.mk 2 2 4) 1 1 e21).ok trivial, bool_eq h22, bool_eq h23, trivial⟩)) ?_
            intro fr16
            refine GR.done (Nat.le_of_ble_eq_true (by kernel_rfl)) ?_
            have hy := Option.some.inj hm
            subst hy
            refine GS.ret (fn := Tryd.f16) [0] [.bool false] [] rfl Tryd.func16 (by kernel_rfl) trivial (fun w' hs => ?_)
            exact ⟨(), rfl, hs.turnedG (ks := []) rfl rfl⟩
        · skip
          refine GR.run (i := 9) 17 (env' := fun fr16 => [(0, .bool false)]) (mem' := fun fr16 => [(1, glob24)]) (Nat.le_of_ble_eq_true (by kernel_rfl)) (RunsTo.mk [(9, { act := .new (.row 3 1), key := some 4, spf := some (fun f => .slice (some (Addr.mk f.x 0 none)) ([4, 4, 1].length) 3) }), (10, { act := .call [3, 4] (.bool y17) }), (12, { sp := some (.bool true) }), (13, { act := .load 2 0 0 [] }), (14, { act := .call [] (.int .i64 y20) }), (17, { sp := some (.bool false) })] [0] [1] (fun fr16 => [((.slice (some (Addr.mk (fr16 9).x 0 none)) 3 3) : Value) = .slice (some (Addr.mk (fr16 9).x 0 none)) ([4, 4, 1].length) 3, CallOK Tryd.prog 25 #[.slice x14 y12.length x15, .slice (some (Addr.mk (fr16 9).x 0 none)) ([4, 4, 1].length) 3] (.bool y17) [some (o3 x14 x15 y12), some (.osl (some (Addr.mk (fr16 9).x 0 none)) 3 3 1 ([[.int .i64 4], [.int .i64 4], [.int .i64 1]] : List (List Value)))], ((.bool y17) : Value) = .bool true, (fr2 1).x = (fr2 1).x, CallOK Tryd.prog 14 #[.agg #[.int .i64 2, .int .i64 2, .int .i64 4], .int .i64 1, .int .i64 1] (.int .i64 y20) [], ((.bool (y20 == 3)) : Value) = .bool false]) (fun fr16 => by kernel_rfl) (fun fr16 => ⟨rfl, (w_tholeref01_Ints F x14 x15 y12 (some (Addr.mk (fr16 9).x 0 none)) 3 [4, 4, 1] e18).ok ⟨(.inl ⟨o3 x14 x15 y12, .head _, Cov.osl_rd⟩), (.inl ⟨.osl (some (Addr.mk (fr16 9).x 0 none)) 3 3 1 ([[.int .i64 4], [.int .i64 4], [.int .i64 1]] : List (List Value)), (.tail _ (.head _)), (by rw [show ([[.int .i64 4], [.int .i64 4], [.int .i64 1]] : List (List Value)) = List.map rI [4, 4, 1] from rfl]; exact Cov.osl_rd)⟩), trivial⟩, bool_eq h19, rfl, (w_stripe_Back F (S_stripe_Layout.mk 2 2 4) 1 1 e21).ok trivial, bool_eq h22, trivial⟩)) ?_
          intro fr16
          refine GR.done (Nat.le_of_ble_eq_true (by kernel_rfl)) ?_
          have hy := Option.some.inj hm
          subst hy
          refine GS.ret (fn := Tryd.f16) [0] [.bool false] [] rfl Tryd.func16 (by kernel_rfl) trivial (fun w' hs => ?_)
          exact ⟨(), rfl, hs.turnedG (ks := []) rfl rfl⟩
      · skip
        refine GR.run (i := 9) 17 (env' := fun fr16 => [(0, .bool false)]) (mem' := fun fr16 => [(1, glob24)]) (Nat.le_of_ble_eq_true (by kernel_rfl)) (RunsTo.mk [(9, { act := .new (.row 3 1), key := some 4, spf := some (fun f => .slice (some (Addr.mk f.x 0 none)) ([4, 4, 1].length) 3) }), (10, { act := .call [3, 4] (.bool y17) }), (12, { sp := some (.bool false) })] [0] [1] (fun fr16 => [((.slice (some (Addr.mk (fr16 9).x 0 none)) 3 3) : Value) = .slice (some (Addr.mk (fr16 9).x 0 none)) ([4, 4, 1].length) 3, CallOK Tryd.prog 25 #[.slice x14 y12.length x15, .slice (some (Addr.mk (fr16 9).x 0 none)) ([4, 4, 1].length) 3] (.bool y17) [some (o3 x14 x15 y12), some (.osl (some (Addr.mk (fr16 9).x 0 none)) 3 3 1 ([[.int .i64 4], [.int .i64 4], [.int .i64 1]] : List (List Value)))], ((.bool y17) : Value) = .bool false]) (fun fr16 => by kernel_rfl) (fun fr16 => ⟨rfl, (w_tholeref01_Ints F x14 x15 y12 (some (Addr.mk (fr16 9).x 0 none)) 3 [4, 4, 1] e18).ok ⟨(.inl ⟨o3 x14 x15 y12, .head _, Cov.osl_rd⟩), (.inl ⟨.osl (some (Addr.mk (fr16 9).x 0 none)) 3 3 1 ([[.int .i64 4], [.int .i64 4], [.int .i64 1]] : List (List Value)), (.tail _ (.head _)), (by rw [show ([[.int .i64 4], [.int .i64 4], [.int .i64 1]] : List (List Value)) = List.map rI [4, 4, 1] from rfl]; exact Cov.osl_rd)⟩), trivial⟩, bool_eq h19, trivial⟩)) ?_
        intro fr16
        refine GR.done (Nat.le_of_ble_eq_true (by kernel_rfl)) ?_
        have hy := Option.some.inj hm
        subst hy
        refine GS.ret (fn := Tryd.f16) [0] [.bool false] [] rfl Tryd.func16 (by kernel_rfl) trivial (fun w' hs => ?_)
        exact ⟨(), rfl, hs.turnedG (ks := []) rfl rfl⟩
    · skip
      refine GS.region (env' := fun _ => [(0, .bool false)]) (mem' := fun _ => [(1, glob24)]) (RunsTo.mk [(2, { sp := some (.bool true) }), (6, { sp := some (.bool false) })] [0] [1] (fun _ => [((.bool (y4.1 == 2)) : Value) = .bool true, ((.bool (y4.2 == 0)) : Value) = .bool false]) (fun _ => by kernel_rfl) (fun _ => ⟨bool_eq h10, bool_eq h11, trivial⟩)) ?_
      intro _
      have hy := Option.some.inj hm
      subst hy
      refine GS.ret (fn := Tryd.f16) [0] [.bool false] [] rfl Tryd.func16 (by kernel_rfl) trivial (fun w' hs => ?_)
      exact ⟨(), rfl, hs.turnedG (ks := []) rfl rfl⟩
  · skip
    refine GS.region (env' := fun _ => [(0, .bool false)]) (mem' := fun _ => [(1, glob24)]) (RunsTo.mk [(2, { sp := some (.bool false) })] [0] [1] (fun _ => [((.bool (y4.1 == 2)) : Value) = .bool false]) (fun _ => by kernel_rfl) (fun _ => ⟨bool_eq h10, trivial⟩)) ?_
    intro _
    have hy := Option.some.inj hm
    subst hy
    refine GS.ret (fn := Tryd.f16) [0] [.bool false] [] rfl Tryd.func16 (by kernel_rfl) trivial (fun w' hs => ?_)
    exact ⟨(), rfl, hs.turnedG (ks := []) rfl rfl⟩

theorem w_tholelaw24_StripeNames (F : Nat) (a0 : ByteArray) (a1 : Int) (a2 : ByteArray) {y : Bool} (hm : m_tholelaw24_StripeNames F a0 a1 a2 = some y) : CallG Tryd.prog 4 #[.string a0, .int .i64 a1, .string a2] (X := Unit) (fun (_ : Unit) => .bool y) [] [glob24] (fun (_ : Unit) => []) := by
  intro w hg
  rw [m_tholelaw24_StripeNames] at hm
  refine GS.start (S := mayT [] [glob24]) (mem := [(1, glob24)]) Tryd.func4 rfl Tryd.ntmps4 (Nat.le_of_ble_eq_true rfl) (hg.start rfl) ?_
  refine GS.conv (env' := [(0, .string a0), (1, .int .i64 a1), (2, .string a2)]) rfl rfl ?_
  refine GS.seq ?_
  refine GS.region (env' := fun _ => [(0, .string a0), (1, .int .i64 a1), (2, .string a2)]) (mem' := fun _ => [(1, glob24)]) (RunsTo.mk [] [0, 1, 2] [1] (fun _ => []) (fun _ => by kernel_rfl) (fun _ => trivial)) ?_
  intro _
  refine GS.seq ?_
  refine bnd_elim hm (fun y3 e4 hm => ?_)
  refine GS.region (env' := fun _ => [(0, .string a0), (1, .int .i64 a1), (2, .string a2), (7, .string y3.1), (8, .int .i64 y3.2.1), (9, .bool y3.2.2)]) (mem' := fun _ => [(1, glob24)]) (RunsTo.mk [(1, { act := .call [1] (.tuple #[.string y3.1, .int .i64 y3.2.1, .bool y3.2.2]) })] [0, 1, 2, 7, 8, 9] [1] (fun _ => [CallOK Tryd.prog 17 #[.string a2] (.tuple #[.string y3.1, .int .i64 y3.2.1, .bool y3.2.2]) [some (glob24)]]) (fun _ => by kernel_rfl) (fun _ => ⟨(w_stripe_Parse F a2 e4).ok ⟨(.inl ⟨glob24, .head _, Cov.refl _⟩), trivial⟩, trivial⟩)) ?_
  intro _
  refine GS.seq ?_
  refine bnd_elim hm (fun y6 e7 hm => ?_)
  refine GS.region (env' := fun _ => [(0, .string a0), (1, .int .i64 a1), (7, .string y3.1), (8, .int .i64 y3.2.1), (9, .bool y3.2.2), (10, .string y6.1), (11, .int .i64 y6.2.1), (12, .bool y6.2.2)]) (mem' := fun _ => [(1, glob24)]) (RunsTo.mk [(1, { act := .call [] (.tuple #[.string y6.1, .int .i64 y6.2.1, .bool y6.2.2]) })] [0, 1, 7, 8, 9, 10, 11, 12] [1] (fun _ => [CallOK Tryd.prog 18 #[.string a2] (.tuple #[.string y6.1, .int .i64 y6.2.1, .bool y6.2.2]) []]) (fun _ => by kernel_rfl) (fun _ => ⟨(w_tholeref24_Parse F a2 e7).ok trivial, trivial⟩)) ?_
  intro _
  refine GS.seq ?_
  refine bnd_elim hm (fun y9 e10 hm => ?_)
  refine bnd_elim hm (fun y11 e12 hm => ?_)
  refine br_elim hm (fun h13 hm => ?_) (fun h13 hm => ?_)
  · skip
    refine br_elim hm (fun h14 hm => ?_) (fun h14 hm => ?_)
    · skip
      refine br_elim hm (fun h15 hm => ?_) (fun h15 hm => ?_)
      · skip
        refine br_elim hm (fun h16 hm => ?_) (fun h16 hm => ?_)
        · skip
          refine bnd_elim hm (fun y17 e18 hm => ?_)
          refine GS.region (env' := fun _ => [(6, .bool y17)]) (mem' := fun _ => [(1, glob24)]) (RunsTo.mk [(2, { act := .call [1] (.string y9) }), (5, { act := .call [] (.string y11) }), (7, { sp := some (.bool true) }), (12, { sp := some (.bool true) }), (17, { sp := some (.bool true) }), (22, { sp := some (.bool true) }), (23, { act := .call [1] (.bool y17) })] [6] [1] (fun _ => [CallOK Tryd.prog 19 #[.string a0, .int .i64 a1] (.string y9) [some (glob24)], CallOK Tryd.prog 20 #[.string a0, .int .i64 a1] (.string y11) [], ((.bool (y9.toList == y11.toList)) : Value) = .bool true, ((.bool (y3.1.toList == y6.1.toList)) : Value) = .bool true, ((.bool (y3.2.1 == y6.2.1)) : Value) = .bool true, ((.bool (y3.2.2 == y6.2.2)) : Value) = .bool true, CallOK Tryd.prog 16 #[] (.bool y17) [some (glob24)]]) (fun _ => by kernel_rfl) (fun _ => ⟨(w_stripe_Name F a0 a1 e10).ok ⟨(.inl ⟨glob24, .head _, Cov.refl _⟩), trivial⟩, (w_tholeref24_Name F a0 a1 e12).ok trivial, bool_eq h13, bool_eq h14, bool_eq h15, bool_eq h16, (w_tholelaw24_lives F  e18).ok ⟨(.inl ⟨glob24, .head _, Cov.refl _⟩), trivial⟩, trivial⟩)) ?_
          intro _
          have hy := Option.some.inj hm
          subst hy
          refine GS.ret (fn := Tryd.f4) [0] [.bool y17] [] rfl Tryd.func4 (by kernel_rfl) trivial (fun w' hs => ?_)
          exact ⟨(), rfl, hs.turnedG (ks := []) rfl rfl⟩
        · skip
          refine GS.region (env' := fun _ => [(6, .bool false)]) (mem' := fun _ => [(1, glob24)]) (RunsTo.mk [(2, { act := .call [1] (.string y9) }), (5, { act := .call [] (.string y11) }), (7, { sp := some (.bool true) }), (12, { sp := some (.bool true) }), (17, { sp := some (.bool true) }), (22, { sp := some (.bool false) })] [6] [1] (fun _ => [CallOK Tryd.prog 19 #[.string a0, .int .i64 a1] (.string y9) [some (glob24)], CallOK Tryd.prog 20 #[.string a0, .int .i64 a1] (.string y11) [], ((.bool (y9.toList == y11.toList)) : Value) = .bool true, ((.bool (y3.1.toList == y6.1.toList)) : Value) = .bool true, ((.bool (y3.2.1 == y6.2.1)) : Value) = .bool true, ((.bool (y3.2.2 == y6.2.2)) : Value) = .bool false]) (fun _ => by kernel_rfl) (fun _ => ⟨(w_stripe_Name F a0 a1 e10).ok ⟨(.inl ⟨glob24, .head _, Cov.refl _⟩), trivial⟩, (w_tholeref24_Name F a0 a1 e12).ok trivial, bool_eq h13, bool_eq h14, bool_eq h15, bool_eq h16, trivial⟩)) ?_
          intro _
          have hy := Option.some.inj hm
          subst hy
          refine GS.ret (fn := Tryd.f4) [0] [.bool false] [] rfl Tryd.func4 (by kernel_rfl) trivial (fun w' hs => ?_)
          exact ⟨(), rfl, hs.turnedG (ks := []) rfl rfl⟩
      · skip
        refine GS.region (env' := fun _ => [(6, .bool false)]) (mem' := fun _ => [(1, glob24)]) (RunsTo.mk [(2, { act := .call [1] (.string y9) }), (5, { act := .call [] (.string y11) }), (7, { sp := some (.bool true) }), (12, { sp := some (.bool true) }), (17, { sp := some (.bool false) })] [6] [1] (fun _ => [CallOK Tryd.prog 19 #[.string a0, .int .i64 a1] (.string y9) [some (glob24)], CallOK Tryd.prog 20 #[.string a0, .int .i64 a1] (.string y11) [], ((.bool (y9.toList == y11.toList)) : Value) = .bool true, ((.bool (y3.1.toList == y6.1.toList)) : Value) = .bool true, ((.bool (y3.2.1 == y6.2.1)) : Value) = .bool false]) (fun _ => by kernel_rfl) (fun _ => ⟨(w_stripe_Name F a0 a1 e10).ok ⟨(.inl ⟨glob24, .head _, Cov.refl _⟩), trivial⟩, (w_tholeref24_Name F a0 a1 e12).ok trivial, bool_eq h13, bool_eq h14, bool_eq h15, trivial⟩)) ?_
        intro _
        have hy := Option.some.inj hm
        subst hy
        refine GS.ret (fn := Tryd.f4) [0] [.bool false] [] rfl Tryd.func4 (by kernel_rfl) trivial (fun w' hs => ?_)
        exact ⟨(), rfl, hs.turnedG (ks := []) rfl rfl⟩
    · skip
      refine GS.region (env' := fun _ => [(6, .bool false)]) (mem' := fun _ => [(1, glob24)]) (RunsTo.mk [(2, { act := .call [1] (.string y9) }), (5, { act := .call [] (.string y11) }), (7, { sp := some (.bool true) }), (12, { sp := some (.bool false) })] [6] [1] (fun _ => [CallOK Tryd.prog 19 #[.string a0, .int .i64 a1] (.string y9) [some (glob24)], CallOK Tryd.prog 20 #[.string a0, .int .i64 a1] (.string y11) [], ((.bool (y9.toList == y11.toList)) : Value) = .bool true, ((.bool (y3.1.toList == y6.1.toList)) : Value) = .bool false]) (fun _ => by kernel_rfl) (fun _ => ⟨(w_stripe_Name F a0 a1 e10).ok ⟨(.inl ⟨glob24, .head _, Cov.refl _⟩), trivial⟩, (w_tholeref24_Name F a0 a1 e12).ok trivial, bool_eq h13, bool_eq h14, trivial⟩)) ?_
      intro _
      have hy := Option.some.inj hm
      subst hy
      refine GS.ret (fn := Tryd.f4) [0] [.bool false] [] rfl Tryd.func4 (by kernel_rfl) trivial (fun w' hs => ?_)
      exact ⟨(), rfl, hs.turnedG (ks := []) rfl rfl⟩
  · skip
    refine GS.region (env' := fun _ => [(6, .bool false)]) (mem' := fun _ => [(1, glob24)]) (RunsTo.mk [(2, { act := .call [1] (.string y9) }), (5, { act := .call [] (.string y11) }), (7, { sp := some (.bool false) })] [6] [1] (fun _ => [CallOK Tryd.prog 19 #[.string a0, .int .i64 a1] (.string y9) [some (glob24)], CallOK Tryd.prog 20 #[.string a0, .int .i64 a1] (.string y11) [], ((.bool (y9.toList == y11.toList)) : Value) = .bool false]) (fun _ => by kernel_rfl) (fun _ => ⟨(w_stripe_Name F a0 a1 e10).ok ⟨(.inl ⟨glob24, .head _, Cov.refl _⟩), trivial⟩, (w_tholeref24_Name F a0 a1 e12).ok trivial, bool_eq h13, trivial⟩)) ?_
    intro _
    have hy := Option.some.inj hm
    subst hy
    refine GS.ret (fn := Tryd.f4) [0] [.bool false] [] rfl Tryd.func4 (by kernel_rfl) trivial (fun w' hs => ?_)
    exact ⟨(), rfl, hs.turnedG (ks := []) rfl rfl⟩

end Go.Proofs.YtfdojammchbboaaDoor
