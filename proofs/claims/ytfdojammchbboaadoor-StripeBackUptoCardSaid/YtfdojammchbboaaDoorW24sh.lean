/-
  CHAPTER 24s: the functions do what their models say (8).
-/
import Derived.Test.YtfdojammchbboaaDoorM24s
import Derived.Test.YtfdojammchbboaaDoorW24sa
import Derived.Test.YtfdojammchbboaaDoorW24sb
import Derived.Test.YtfdojammchbboaaDoorW24sc
import Derived.Test.YtfdojammchbboaaDoorW24sd
set_option linter.unusedVariables false
set_option linter.unusedSimpArgs false
set_option maxRecDepth 100000
namespace Go.Proofs.YtfdojammchbboaaDoor
open Go Go.RowKit Sx

theorem w_tholelaw24_StripeBack (F : Nat) (a0 : S_stripe_Layout) (a1 : Int) (a2_o : Option Addr) (a2_c : Nat) (a2 : List UInt8) (a2_ch : a2.length ≤ a2_c) {y : Bool} (hm : m_tholelaw24_StripeBack F a0 a1 a2 = some y) : CallG Tryd.prog 8 #[.agg #[.int .i64 a0.Unit, .int .i64 a0.Count, .int .i64 a0.Size], .int .u64 a1, .slice a2_o a2.length a2_c] (X := Unit) (fun (_ : Unit) => .bool y) [] [r5 a2_o a2] (fun (_ : Unit) => []) := by
  intro w hg
  rw [m_tholelaw24_StripeBack] at hm
  refine GS.start (S := mayT [] [r5 a2_o a2]) (mem := [(1, r5 a2_o a2)]) Tryd.func8 rfl Tryd.ntmps8 (Nat.le_of_ble_eq_true rfl) (hg.start rfl) ?_
  refine GS.conv (env' := [(0, .agg #[.int .i64 a0.Unit, .int .i64 a0.Count, .int .i64 a0.Size]), (1, .int .u64 a1), (2, .slice a2_o a2.length a2_c)]) rfl rfl ?_
  refine GS.seq ?_
  refine GS.region (env' := fun fr1 => [(1, .int .u64 a1), (2, .slice a2_o a2.length a2_c), (3, .pointer (some ⟨(fr1 0).x, 0, none⟩))]) (mem' := fun fr1 => [(1, r5 a2_o a2), (2, .cells ((fr1 0).x) 23 [.int .i64 a0.Unit, .int .i64 a0.Count, .int .i64 a0.Size])]) (RunsTo.mk [(0, { act := .new .var, key := some 2 })] [1, 2, 3] [1, 2] (fun fr1 => []) (fun fr1 => by kernel_rfl) (fun fr1 => trivial)) ?_
  intro fr1
  refine GS.seq ?_
  refine GS.seq ?_
  refine jn_elim hm (fun J6 hJ8 hm => ?_)
  refine GS.cut (ι := Bool) (I := fun (v22_1 : Bool) => J6 v22_1 = some y) (E := fun (v22_1 : Bool) => [(1, .int .u64 a1), (2, .slice a2_o a2.length a2_c), (3, .pointer (some ⟨(fr1 0).x, 0, none⟩)), (22, .bool v22_1)]) (M := fun (v22_1 : Bool) => [(1, r5 a2_o a2), (2, .cells ((fr1 0).x) 23 [.int .i64 a0.Unit, .int .i64 a0.Count, .int .i64 a0.Size])]) ?_ ?_
  rotate_left
  · intro H7
    refine bnd_elim hm (fun y3 e4 hm => ?_)
    refine br_elim hm (fun h5 hm => ?_) (fun h5 hm => ?_)
    · skip
      refine GS.region (env' := fun _ => [(1, .int .u64 a1), (2, .slice a2_o a2.length a2_c), (3, .pointer (some ⟨(fr1 0).x, 0, none⟩)), (22, .bool true)]) (mem' := fun _ => [(1, r5 a2_o a2), (2, .cells ((fr1 0).x) 23 [.int .i64 a0.Unit, .int .i64 a0.Count, .int .i64 a0.Size])]) (RunsTo.mk [(0, { act := .load 2 0 0 [] }), (1, { act := .call [] (.bool y3) }), (3, { sp := some (.bool true) })] [1, 2, 3, 22] [1, 2] (fun _ => [(fr1 0).x = (fr1 0).x, CallOK Tryd.prog 12 #[.agg #[.int .i64 a0.Unit, .int .i64 a0.Count, .int .i64 a0.Size]] (.bool y3) [], ((.bool (!y3)) : Value) = .bool true]) (fun _ => by kernel_rfl) (fun _ => ⟨rfl, (w_stripe_Good F a0 e4).ok trivial, bool_eq h5, trivial⟩)) ?_
      intro _
      refine GS.rekey (env' := [(1, .int .u64 a1), (2, .slice a2_o a2.length a2_c), (3, .pointer (some ⟨(fr1 0).x, 0, none⟩)), (22, .bool true)]) (mem' := [(1, r5 a2_o a2), (2, .cells ((fr1 0).x) 23 [.int .i64 a0.Unit, .int .i64 a0.Count, .int .i64 a0.Size])]) [1, 2, 3, 22] [(1, 1), (2, 2)] (by kernel_rfl) (by kernel_rfl) rfl ?_
      exact H7 true hm
    · skip
      refine GS.region (env' := fun _ => [(1, .int .u64 a1), (2, .slice a2_o a2.length a2_c), (3, .pointer (some ⟨(fr1 0).x, 0, none⟩)), (22, .bool (decide (((a2.length : Nat) : Int) > 9000)))]) (mem' := fun _ => [(1, r5 a2_o a2), (2, .cells ((fr1 0).x) 23 [.int .i64 a0.Unit, .int .i64 a0.Count, .int .i64 a0.Size])]) (RunsTo.mk [(0, { act := .load 2 0 0 [] }), (1, { act := .call [] (.bool y3) }), (3, { sp := some (.bool false) })] [1, 2, 3, 22] [1, 2] (fun _ => [(fr1 0).x = (fr1 0).x, CallOK Tryd.prog 12 #[.agg #[.int .i64 a0.Unit, .int .i64 a0.Count, .int .i64 a0.Size]] (.bool y3) [], ((.bool (!y3)) : Value) = .bool false]) (fun _ => by kernel_rfl) (fun _ => ⟨rfl, (w_stripe_Good F a0 e4).ok trivial, bool_eq h5, trivial⟩)) ?_
      intro _
      refine GS.rekey (env' := [(1, .int .u64 a1), (2, .slice a2_o a2.length a2_c), (3, .pointer (some ⟨(fr1 0).x, 0, none⟩)), (22, .bool (decide (((a2.length : Nat) : Int) > 9000)))]) (mem' := [(1, r5 a2_o a2), (2, .cells ((fr1 0).x) 23 [.int .i64 a0.Unit, .int .i64 a0.Count, .int .i64 a0.Size])]) [1, 2, 3, 22] [(1, 1), (2, 2)] (by kernel_rfl) (by kernel_rfl) rfl ?_
      exact H7 (decide (((a2.length : Nat) : Int) > 9000)) hm
  · rintro v22_1 hm
    replace hm := (hJ8 _).symm.trans hm
    try dsimp only at hm
    refine GS.cond (t := v22_1) rfl rfl (fun h9 => ?_) (fun h9 => ?_)
    · replace hm := br_t h9 hm
      refine GS.seq ?_
      refine bnd_elim hm (fun y11 e12 hm => ?_)
      refine bnd_elim hm (fun y13 e14 hm => ?_)
      refine bnd_elim hm (fun y15 e16 hm => ?_)
      refine br_elim hm (fun h17 hm => ?_) (fun h17 hm => ?_)
      · skip
        refine bnd_elim hm (fun y18 e19 hm => ?_)
        refine GS.region (env' := fun _ => [(6, .bool y18)]) (mem' := fun _ => []) (RunsTo.mkd [(0, { act := .load 2 0 0 [] }), (1, { act := .call [] (.bool y11) }), (2, { act := .load 2 0 0 [] }), (3, { act := .call [] (.agg #[.int .i64 y13.Unit, .int .i64 y13.Count, .int .i64 y13.Size]) }), (4, { act := .call [] (.bool y15) }), (6, { sp := some (.bool true) }), (7, { act := .call [] (.bool y18) })] [6] [] (fun _ => [(fr1 0).x = (fr1 0).x, CallOK Tryd.prog 12 #[.agg #[.int .i64 a0.Unit, .int .i64 a0.Count, .int .i64 a0.Size]] (.bool y11) [], (fr1 0).x = (fr1 0).x, CallOK Tryd.prog 9 #[.agg #[.int .i64 a0.Unit, .int .i64 a0.Count, .int .i64 a0.Size]] (.agg #[.int .i64 y13.Unit, .int .i64 y13.Count, .int .i64 y13.Size]) [], CallOK Tryd.prog 13 #[.agg #[.int .i64 y13.Unit, .int .i64 y13.Count, .int .i64 y13.Size]] (.bool y15) [], ((.bool (y11 == y15)) : Value) = .bool true, CallOK Tryd.prog 16 #[] (.bool y18) []]) (by kernel_rfl) (by kernel_rfl) (fun _ => by kernel_rfl) (fun _ => ⟨rfl, (w_stripe_Good F a0 e12).ok trivial, rfl, (w_tholelaw24_plain F a0 e14).ok trivial, (w_tholeref24_Good F y13 e16).ok trivial, bool_eq h17, (w_tholelaw24_lives F  e19).ok trivial, trivial⟩)) ?_
        intro _
        have hy := Option.some.inj hm
        subst hy
        refine GS.ret (fn := Tryd.f8) [0] [.bool y18] [] rfl Tryd.func8 (by kernel_rfl) trivial (fun w' hs => ?_)
        exact ⟨(), rfl, hs.turnedG (ks := []) rfl rfl⟩
      · skip
        refine GS.region (env' := fun _ => [(6, .bool false)]) (mem' := fun _ => []) (RunsTo.mkd [(0, { act := .load 2 0 0 [] }), (1, { act := .call [] (.bool y11) }), (2, { act := .load 2 0 0 [] }), (3, { act := .call [] (.agg #[.int .i64 y13.Unit, .int .i64 y13.Count, .int .i64 y13.Size]) }), (4, { act := .call [] (.bool y15) }), (6, { sp := some (.bool false) })] [6] [] (fun _ => [(fr1 0).x = (fr1 0).x, CallOK Tryd.prog 12 #[.agg #[.int .i64 a0.Unit, .int .i64 a0.Count, .int .i64 a0.Size]] (.bool y11) [], (fr1 0).x = (fr1 0).x, CallOK Tryd.prog 9 #[.agg #[.int .i64 a0.Unit, .int .i64 a0.Count, .int .i64 a0.Size]] (.agg #[.int .i64 y13.Unit, .int .i64 y13.Count, .int .i64 y13.Size]) [], CallOK Tryd.prog 13 #[.agg #[.int .i64 y13.Unit, .int .i64 y13.Count, .int .i64 y13.Size]] (.bool y15) [], ((.bool (y11 == y15)) : Value) = .bool false]) (by kernel_rfl) (by kernel_rfl) (fun _ => by kernel_rfl) (fun _ => ⟨rfl, (w_stripe_Good F a0 e12).ok trivial, rfl, (w_tholelaw24_plain F a0 e14).ok trivial, (w_tholeref24_Good F y13 e16).ok trivial, bool_eq h17, trivial⟩)) ?_
        intro _
        have hy := Option.some.inj hm
        subst hy
        refine GS.ret (fn := Tryd.f8) [0] [.bool false] [] rfl Tryd.func8 (by kernel_rfl) trivial (fun w' hs => ?_)
        exact ⟨(), rfl, hs.turnedG (ks := []) rfl rfl⟩
    · replace hm := br_f h9 hm
      refine GS.skip ?_
      refine GS.seq ?_
      refine GS.region (env' := fun _ => [(2, .slice a2_o a2.length a2_c), (3, .pointer (some ⟨(fr1 0).x, 0, none⟩)), (7, .int .i64 (IntKind.i64.wrap (Int.tmod a1 65536)))]) (mem' := fun _ => [(1, r5 a2_o a2), (2, .cells ((fr1 0).x) 23 [.int .i64 a0.Unit, .int .i64 a0.Count, .int .i64 a0.Size])]) (RunsTo.mk [] [2, 3, 7] [1, 2] (fun _ => []) (fun _ => by kernel_rfl) (fun _ => trivial)) ?_
      intro _
      refine GS.seq ?_
      refine bnd_elim hm (fun y23 e24 hm => ?_)
      refine GS.region (env' := fun _ => [(2, .slice a2_o a2.length a2_c), (3, .pointer (some ⟨(fr1 0).x, 0, none⟩)), (7, .int .i64 (IntKind.i64.wrap (Int.tmod a1 65536))), (8, .int .i64 y23.1), (9, .int .i64 y23.2)]) (mem' := fun _ => [(1, r5 a2_o a2), (2, .cells ((fr1 0).x) 23 [.int .i64 a0.Unit, .int .i64 a0.Count, .int .i64 a0.Size])]) (RunsTo.mk [(0, { act := .load 2 0 0 [] }), (2, { act := .call [] (.tuple #[.int .i64 y23.1, .int .i64 y23.2]) })] [2, 3, 7, 8, 9] [1, 2] (fun _ => [(fr1 0).x = (fr1 0).x, CallOK Tryd.prog 10 #[.agg #[.int .i64 a0.Unit, .int .i64 a0.Count, .int .i64 a0.Size], .int .i64 (IntKind.i64.wrap (Int.tmod a1 65536))] (.tuple #[.int .i64 y23.1, .int .i64 y23.2]) []]) (fun _ => by kernel_rfl) (fun _ => ⟨rfl, (w_stripe_Place F a0 (IntKind.i64.wrap (Int.tmod a1 65536)) e24).ok trivial, trivial⟩)) ?_
      intro _
      refine GS.seq ?_
      refine GS.seq ?_
      refine bnd_elim hm (fun y26 e27 hm => ?_)
      refine GS.region (env' := fun _ => [(2, .slice a2_o a2.length a2_c), (3, .pointer (some ⟨(fr1 0).x, 0, none⟩)), (46, .bool (y26 != (IntKind.i64.wrap (Int.tmod a1 65536))))]) (mem' := fun _ => [(1, r5 a2_o a2), (2, .cells ((fr1 0).x) 23 [.int .i64 a0.Unit, .int .i64 a0.Count, .int .i64 a0.Size])]) (RunsTo.mk [(0, { act := .load 2 0 0 [] }), (3, { act := .call [] (.int .i64 y26) })] [2, 3, 46] [1, 2] (fun _ => [(fr1 0).x = (fr1 0).x, CallOK Tryd.prog 14 #[.agg #[.int .i64 a0.Unit, .int .i64 a0.Count, .int .i64 a0.Size], .int .i64 y23.1, .int .i64 y23.2] (.int .i64 y26) []]) (fun _ => by kernel_rfl) (fun _ => ⟨rfl, (w_stripe_Back F a0 y23.1 y23.2 e27).ok trivial, trivial⟩)) ?_
      intro _
      refine GS.cond (t := y26 != (IntKind.i64.wrap (Int.tmod a1 65536))) rfl rfl (fun h28 => ?_) (fun h28 => ?_)
      · replace hm := br_t h28 hm
        refine GS.seq ?_
        refine GS.region (env' := fun _ => [(6, .bool false)]) (mem' := fun _ => []) (RunsTo.mk [] [6] [] (fun _ => []) (fun _ => by kernel_rfl) (fun _ => trivial)) ?_
        intro _
        have hy := Option.some.inj hm
        subst hy
        refine GS.ret (fn := Tryd.f8) [0] [.bool false] [] rfl Tryd.func8 (by kernel_rfl) trivial (fun w' hs => ?_)
        exact ⟨(), rfl, hs.turnedG (ks := []) rfl rfl⟩
      · replace hm := br_f h28 hm
        refine GS.skip ?_
        refine GS.seq ?_
        refine bnd_elim hm (fun y31 e32 hm => ?_)
        refine bnd_elim hm (fun y36 e37 hm => ?_)
        refine GS.region (env' := fun fr30 => [(2, .slice a2_o a2.length a2_c), (3, .pointer (some ⟨(fr1 0).x, 0, none⟩)), (10, .slice ((fr30 6).ob) y36.1.length ((fr30 6).cap)), (11, .int .i64 y36.2)]) (mem' := fun fr30 => [(1, r5 a2_o a2), (2, .cells ((fr1 0).x) 23 [.int .i64 a0.Unit, .int .i64 a0.Count, .int .i64 a0.Size]), (5, bag [.osl ((fr30 5).ob) ((fr30 5).cap) 54 1 (nrows nR54 ((fr30 5).hs) y31), bag (nins nI54 ((fr30 5).hs) y31)]), (6, o5 ((fr30 6).ob) ((fr30 6).cap) y36.1)]) (RunsTo.mkd [(0, { act := .load 2 0 0 [] }), (3, { act := .load 2 0 0 [] }), (5, { act := .calln [1] (fun f => .slice f.ob y31.length f.cap) (fun f => bag [.osl f.ob f.cap 54 1 (nrows nR54 f.hs y31), bag (nins nI54 f.hs y31)]), key := some 5 }), (6, { act := .calln [5] (fun f => .tuple #[.slice f.ob y36.1.length f.cap, .int .i64 y36.2]) (fun f => o5 f.ob f.cap y36.1), key := some 6 })] [2, 3, 10, 11] [1, 2, 5, 6] (fun fr30 => [(fr1 0).x = (fr1 0).x, (fr1 0).x = (fr1 0).x, CallN Tryd.prog 29 #[.agg #[.int .i64 a0.Unit, .int .i64 a0.Count, .int .i64 a0.Size], .slice a2_o a2.length a2_c] (fun f => .slice f.ob y31.length f.cap) (fun f => bag [.osl f.ob f.cap 54 1 (nrows nR54 f.hs y31), bag (nins nI54 f.hs y31)]) [some (r5 a2_o a2)], CallN Tryd.prog 33 #[.agg #[.int .i64 a0.Unit, .int .i64 a0.Count, .int .i64 a0.Size], .int .i64 ((a2.length : Nat) : Int), .slice ((fr30 5).ob) y31.length ((fr30 5).cap)] (fun f => .tuple #[.slice f.ob y36.1.length f.cap, .int .i64 y36.2]) (fun f => o5 f.ob f.cap y36.1) [some (bag [.osl ((fr30 5).ob) ((fr30 5).cap) 54 1 (nrows nR54 ((fr30 5).hs) y31), bag (nins nI54 ((fr30 5).hs) y31)])]]) (by kernel_rfl) (by kernel_rfl) (fun fr30 => by kernel_rfl) (fun fr30 => ⟨rfl, rfl, CallG.toNB (efs := fun f => [.osl f.ob f.cap 54 1 (nrows nR54 f.hs y31), bag (nins nI54 f.hs y31)]) (w_stripe_Split F a0 a2_o a2_c a2 a2_ch e32) ⟨(.inl ⟨r5 a2_o a2, .head _, Cov.refl _⟩), trivial⟩ (fun x => ⟨0, x.1, x.2.1, [], x.2.2⟩) (fun _ => rfl) (fun _ => rfl) (fun _ => rfl), CallG.toN (w_stripe_Join F a0 ((a2.length : Nat) : Int) ((fr30 5).ob) ((fr30 5).cap) ((fr30 5).hs) y31 e37) ⟨(.inl ⟨bag [.osl ((fr30 5).ob) ((fr30 5).cap) 54 1 (nrows nR54 ((fr30 5).hs) y31), bag (nins nI54 ((fr30 5).hs) y31)], .head _, (Cov.trans (Cov.bag_mem (.head _)) Cov.osl_rd)⟩), (.inl ⟨bag [.osl ((fr30 5).ob) ((fr30 5).cap) 54 1 (nrows nR54 ((fr30 5).hs) y31), bag (nins nI54 ((fr30 5).hs) y31)], .head _, (Cov.trans (Cov.bag_mem ((.tail _ (.head _)))) (Cov.bag_all (nins_cov nC54 _ _)))⟩), trivial⟩, trivial⟩)) ?_
        intro fr30
        refine GS.setMem (mem' := [(1, r5 a2_o a2), (2, .cells ((fr1 0).x) 23 [.int .i64 a0.Unit, .int .i64 a0.Count, .int .i64 a0.Size]), (6, o5 ((fr30 6).ob) ((fr30 6).cap) y36.1), (7, .osl ((fr30 5).ob) ((fr30 5).cap) 54 1 (nrows nR54 ((fr30 5).hs) y31)), (8, bag (nins nI54 ((fr30 5).hs) y31))]) (fun w hw => unbag_mem (k := 5) (nk := [7, 8]) (keys := [1, 2, 6, 7, 8]) hw rfl rfl rfl rfl (by kernel_rfl)) ?_
        refine GS.seq ?_
        refine GS.region (env' := fun _ => [(2, .slice a2_o a2.length a2_c), (3, .pointer (some ⟨(fr1 0).x, 0, none⟩)), (10, .slice ((fr30 6).ob) y36.1.length ((fr30 6).cap)), (11, .int .i64 y36.2), (12, .int .i64 0)]) (mem' := fun _ => [(1, r5 a2_o a2), (2, .cells ((fr1 0).x) 23 [.int .i64 a0.Unit, .int .i64 a0.Count, .int .i64 a0.Size]), (6, o5 ((fr30 6).ob) ((fr30 6).cap) y36.1)]) (RunsTo.mk [] [2, 3, 10, 11, 12] [1, 2, 6] (fun _ => []) (fun _ => by kernel_rfl) (fun _ => trivial)) ?_
        intro _
        refine GS.seq ?_
        refine GS.seq ?_
        refine bnd_elim hm (fun y42 e43 hm => ?_)
        refine GS.open_ ?_
        refine GR.run (i := 0) 3 (env' := fun _ => [(2, .slice a2_o a2.length a2_c), (10, .slice ((fr30 6).ob) y36.1.length ((fr30 6).cap)), (11, .int .i64 y36.2), (12, .int .i64 0), (57, .agg #[.int .i64 a0.Unit, .int .i64 a0.Count, .int .i64 a0.Size]), (59, .int .i64 ((a2.length : Nat) : Int))]) (mem' := fun _ => [(1, r5 a2_o a2), (6, o5 ((fr30 6).ob) ((fr30 6).cap) y36.1)]) (Nat.le_of_ble_eq_true (by kernel_rfl)) (RunsTo.mk [(0, { act := .load 2 0 0 [] })] [2, 10, 11, 12, 57, 59] [1, 6] (fun _ => [(fr1 0).x = (fr1 0).x]) (fun _ => by kernel_rfl) (fun _ => ⟨rfl, trivial⟩)) ?_
        intro _
        refine GR.callG (X := Option Addr × Nat) (i := 3) (g := 21) (args := #[.agg #[.int .i64 a0.Unit, .int .i64 a0.Count, .int .i64 a0.Size], .int .i64 0, .int .i64 ((a2.length : Nat) : Int)]) (v := fun ⟨x44, x45⟩ => .slice x44 y42.length x45) (own := []) (ro := []) (es' := fun ⟨x44, x45⟩ => [o44 x44 x45 y42]) (mem' := fun ⟨x44, x45⟩ => [(1, r5 a2_o a2), (6, o5 ((fr30 6).ob) ((fr30 6).cap) y36.1), (9, o44 x44 x45 y42)]) (env' := fun ⟨x44, x45⟩ => [(2, .slice a2_o a2.length a2_c), (10, .slice ((fr30 6).ob) y36.1.length ((fr30 6).cap)), (11, .int .i64 y36.2), (12, .int .i64 0), (60, .slice x44 y42.length x45)]) [] [9] [2, 10, 11, 12, 60] [1, 6, 9] false (by kernel_rfl) (by kernel_rfl) (by kernel_rfl) (by kernel_rfl) (by kernel_rfl) (fun _ => rfl) (fun _ _ => rfl) trivial (by rintro ⟨x44, x45⟩; kernel_rfl) (by rintro ⟨x44, x45⟩; kernel_rfl) (w_stripe_Extents F a0 0 ((a2.length : Nat) : Int) e43) ?_
        rintro ⟨x44, x45⟩
        refine GR.run (i := 4) 2 (env' := fun _ => [(2, .slice a2_o a2.length a2_c), (10, .slice ((fr30 6).ob) y36.1.length ((fr30 6).cap)), (11, .int .i64 y36.2), (12, .int .i64 0), (60, .slice x44 y42.length x45), (61, .int .i64 ((y42.length : Nat) : Int)), (62, .int .i64 0)]) (mem' := fun _ => [(1, r5 a2_o a2), (6, o5 ((fr30 6).ob) ((fr30 6).cap) y36.1), (9, o44 x44 x45 y42)]) (Nat.le_of_ble_eq_true (by kernel_rfl)) (RunsTo.mk [] [2, 10, 11, 12, 60, 61, 62] [1, 6, 9] (fun _ => []) (fun _ => by kernel_rfl) (fun _ => trivial)) ?_
        intro _
        refine GR.done (Nat.le_of_ble_eq_true (by kernel_rfl)) ?_
        refine GS.block ?_
        refine GS.loop ?_
        refine GS.know (p := y36.1.length ≤ (fr30 6).cap) (fun w hw => by first | (have h := (hw.ok 6 _ rfl).1.1; rw [List.length_map] at h; exact h) | (have h := (hw.ok 6 _ rfl).1.1; rw [nrows_len] at h; exact h) | simpa using (hw.ok 6 _ rfl).1.1) (fun k47 => ?_)
        refine GS.know (p := y42.length ≤ x45) (fun w hw => by first | (have h := (hw.ok 9 _ rfl).1.1; rw [List.length_map] at h; exact h) | (have h := (hw.ok 9 _ rfl).1.1; rw [nrows_len] at h; exact h) | simpa using (hw.ok 9 _ rfl).1.1) (fun k48 => ?_)
        refine grd_elim hm (fun g65 hm => ?_)
        refine GS.rekey (env' := [(2, .slice a2_o a2.length a2_c), (10, .slice ((fr30 6).ob) y36.1.length ((fr30 6).cap)), (11, .int .i64 y36.2), (12, .int .i64 0), (60, .slice x44 y42.length x45), (61, .int .i64 ((y42.length : Nat) : Int)), (62, .int .i64 0)]) (mem' := [(1, r5 a2_o a2), (6, o5 ((fr30 6).ob) ((fr30 6).cap) y36.1), (9, o44 x44 x45 y42)]) [2, 10, 11, 12, 60, 61, 62] [(1, 1), (6, 6), (9, 9)] (by kernel_rfl) (by kernel_rfl) rfl ?_
        refine loopL_elim hm (fun st78 fn79 hst80 hfn81 hm => ?_)
        refine GS.loopInv (ι := List S_stripe_Extent × Int × Nat) (I := fun ⟨rs76, v12_3, v62_3⟩ => y42.drop v62_3 = rs76 ∧ loopL st78 fn79 rs76 v62_3 v12_3 = some y) (μ := fun ⟨rs76, v12_3, v62_3⟩ => rs76.length) (E := fun ⟨rs76, v12_3, v62_3⟩ => [(2, .slice a2_o a2.length a2_c), (10, .slice ((fr30 6).ob) y36.1.length ((fr30 6).cap)), (11, .int .i64 y36.2), (12, .int .i64 v12_3), (60, .slice x44 y42.length x45), (61, .int .i64 ((y42.length : Nat) : Int)), (62, .int .i64 ((v62_3 : Nat) : Int))]) (M := fun ⟨rs76, v12_3, v62_3⟩ => [(1, r5 a2_o a2), (6, o5 ((fr30 6).ob) ((fr30 6).cap) y36.1), (9, o44 x44 x45 y42)]) ?_ ⟨y42, 0, 0⟩ ⟨List.drop_zero .., hm⟩
        rintro ⟨rs76, v12_3, v62_3⟩ ⟨hd64, hm⟩ ih77
        cases rs76 with
        | nil =>
          replace hm := (hfn81 _ _).symm.trans hm
          try dsimp only at hm
          refine GS.seq ?_
          refine GS.region (env' := fun _ => [(2, .slice a2_o a2.length a2_c), (10, .slice ((fr30 6).ob) y36.1.length ((fr30 6).cap)), (11, .int .i64 y36.2), (12, .int .i64 v12_3), (60, .slice x44 y42.length x45), (61, .int .i64 ((y42.length : Nat) : Int)), (62, .int .i64 ((v62_3 : Nat) : Int)), (63, .bool (decide (((v62_3 : Nat) : Int) < ((y42.length : Nat) : Int))))]) (mem' := fun _ => [(1, r5 a2_o a2), (6, o5 ((fr30 6).ob) ((fr30 6).cap) y36.1), (9, o44 x44 x45 y42)]) (RunsTo.mk [] [2, 10, 11, 12, 60, 61, 62, 63] [1, 6, 9] (fun _ => []) (fun _ => by kernel_rfl) (fun _ => trivial)) ?_
          intro _
          refine GS.seq ?_
          refine GS.cond (t := decide (((v62_3 : Nat) : Int) < ((y42.length : Nat) : Int))) rfl rfl (fun h74 => absb h74 (drop_dec0 hd64)) (fun _ => ?_)
          refine GS.exit rfl ?_
          refine GS.seq ?_
          refine br_elim hm (fun h83 hm => ?_) (fun h83 hm => ?_)
          · skip
            refine bnd_elim hm (fun y84 e85 hm => ?_)
            refine br_elim hm (fun h86 hm => ?_) (fun h86 hm => ?_)
            · skip
              refine br_elim hm (fun h87 hm => ?_) (fun h87 hm => ?_)
              · skip
                refine bnd_elim hm (fun y88 e89 hm => ?_)
                refine GS.region (env' := fun _ => [(6, .bool y88)]) (mem' := fun _ => []) (RunsTo.mk [(2, { sp := some (.bool true) }), (5, { act := .call [1, 6] (.bool y84) }), (7, { sp := some (.bool true) }), (13, { sp := some (.bool true) }), (14, { act := .call [] (.bool y88) })] [6] [] (fun _ => [((.bool (y36.2 == 0)) : Value) = .bool true, CallOK Tryd.prog 35 #[.slice ((fr30 6).ob) y36.1.length ((fr30 6).cap), .slice a2_o a2.length a2_c] (.bool y84) [some (r5 a2_o a2), some (o5 ((fr30 6).ob) ((fr30 6).cap) y36.1)], ((.bool y84) : Value) = .bool true, ((.bool (v12_3 == ((a2.length : Nat) : Int))) : Value) = .bool true, CallOK Tryd.prog 16 #[] (.bool y88) []]) (fun _ => by kernel_rfl) (fun _ => ⟨bool_eq h83, (w_tholeref01_Same F ((fr30 6).ob) ((fr30 6).cap) y36.1 a2_o a2_c a2 e85).ok ⟨(.inl ⟨o5 ((fr30 6).ob) ((fr30 6).cap) y36.1, (.tail _ (.head _)), Cov.osl_rd⟩), (.inl ⟨r5 a2_o a2, .head _, Cov.refl _⟩), trivial⟩, bool_eq h86, bool_eq h87, (w_tholelaw24_lives F  e89).ok trivial, trivial⟩)) ?_
                intro _
                have hy := Option.some.inj hm
                subst hy
                refine GS.ret (fn := Tryd.f8) [0] [.bool y88] [] rfl Tryd.func8 (by kernel_rfl) trivial (fun w' hs => ?_)
                exact ⟨(), rfl, hs.turnedG (ks := []) rfl rfl⟩
              · skip
                refine GS.region (env' := fun _ => [(6, .bool false)]) (mem' := fun _ => []) (RunsTo.mk [(2, { sp := some (.bool true) }), (5, { act := .call [1, 6] (.bool y84) }), (7, { sp := some (.bool true) }), (13, { sp := some (.bool false) })] [6] [] (fun _ => [((.bool (y36.2 == 0)) : Value) = .bool true, CallOK Tryd.prog 35 #[.slice ((fr30 6).ob) y36.1.length ((fr30 6).cap), .slice a2_o a2.length a2_c] (.bool y84) [some (r5 a2_o a2), some (o5 ((fr30 6).ob) ((fr30 6).cap) y36.1)], ((.bool y84) : Value) = .bool true, ((.bool (v12_3 == ((a2.length : Nat) : Int))) : Value) = .bool false]) (fun _ => by kernel_rfl) (fun _ => ⟨bool_eq h83, (w_tholeref01_Same F ((fr30 6).ob) ((fr30 6).cap) y36.1 a2_o a2_c a2 e85).ok ⟨(.inl ⟨o5 ((fr30 6).ob) ((fr30 6).cap) y36.1, (.tail _ (.head _)), Cov.osl_rd⟩), (.inl ⟨r5 a2_o a2, .head _, Cov.refl _⟩), trivial⟩, bool_eq h86, bool_eq h87, trivial⟩)) ?_
                intro _
                have hy := Option.some.inj hm
                subst hy
                refine GS.ret (fn := Tryd.f8) [0] [.bool false] [] rfl Tryd.func8 (by kernel_rfl) trivial (fun w' hs => ?_)
                exact ⟨(), rfl, hs.turnedG (ks := []) rfl rfl⟩
            · skip
              refine GS.region (env' := fun _ => [(6, .bool false)]) (mem' := fun _ => []) (RunsTo.mk [(2, { sp := some (.bool true) }), (5, { act := .call [1, 6] (.bool y84) }), (7, { sp := some (.bool false) })] [6] [] (fun _ => [((.bool (y36.2 == 0)) : Value) = .bool true, CallOK Tryd.prog 35 #[.slice ((fr30 6).ob) y36.1.length ((fr30 6).cap), .slice a2_o a2.length a2_c] (.bool y84) [some (r5 a2_o a2), some (o5 ((fr30 6).ob) ((fr30 6).cap) y36.1)], ((.bool y84) : Value) = .bool false]) (fun _ => by kernel_rfl) (fun _ => ⟨bool_eq h83, (w_tholeref01_Same F ((fr30 6).ob) ((fr30 6).cap) y36.1 a2_o a2_c a2 e85).ok ⟨(.inl ⟨o5 ((fr30 6).ob) ((fr30 6).cap) y36.1, (.tail _ (.head _)), Cov.osl_rd⟩), (.inl ⟨r5 a2_o a2, .head _, Cov.refl _⟩), trivial⟩, bool_eq h86, trivial⟩)) ?_
              intro _
              have hy := Option.some.inj hm
              subst hy
              refine GS.ret (fn := Tryd.f8) [0] [.bool false] [] rfl Tryd.func8 (by kernel_rfl) trivial (fun w' hs => ?_)
              exact ⟨(), rfl, hs.turnedG (ks := []) rfl rfl⟩
          · skip
            refine GS.region (env' := fun _ => [(6, .bool false)]) (mem' := fun _ => []) (RunsTo.mk [(2, { sp := some (.bool false) })] [6] [] (fun _ => [((.bool (y36.2 == 0)) : Value) = .bool false]) (fun _ => by kernel_rfl) (fun _ => ⟨bool_eq h83, trivial⟩)) ?_
            intro _
            have hy := Option.some.inj hm
            subst hy
            refine GS.ret (fn := Tryd.f8) [0] [.bool false] [] rfl Tryd.func8 (by kernel_rfl) trivial (fun w' hs => ?_)
            exact ⟨(), rfl, hs.turnedG (ks := []) rfl rfl⟩
        | cons x66 rs76 =>
          replace hm := (hst80 _ _ _ _).symm.trans hm
          try dsimp only at hm
          refine GS.seq ?_
          refine GS.region (env' := fun _ => [(2, .slice a2_o a2.length a2_c), (10, .slice ((fr30 6).ob) y36.1.length ((fr30 6).cap)), (11, .int .i64 y36.2), (12, .int .i64 v12_3), (60, .slice x44 y42.length x45), (61, .int .i64 ((y42.length : Nat) : Int)), (62, .int .i64 ((v62_3 : Nat) : Int)), (63, .bool (decide (((v62_3 : Nat) : Int) < ((y42.length : Nat) : Int))))]) (mem' := fun _ => [(1, r5 a2_o a2), (6, o5 ((fr30 6).ob) ((fr30 6).cap) y36.1), (9, o44 x44 x45 y42)]) (RunsTo.mk [] [2, 10, 11, 12, 60, 61, 62, 63] [1, 6, 9] (fun _ => []) (fun _ => by kernel_rfl) (fun _ => trivial)) ?_
          intro _
          refine GS.seq ?_
          refine GS.cond (t := decide (((v62_3 : Nat) : Int) < ((y42.length : Nat) : Int))) rfl rfl (fun _ => ?_) (fun h68 => absb (drop_dec hd64) h68)
          refine GS.skip ?_
          refine GS.seq ?_
          refine GS.block ?_
          refine GS.seq ?_
          refine GS.region (env' := fun fr69 => [(2, .slice a2_o a2.length a2_c), (10, .slice ((fr30 6).ob) y36.1.length ((fr30 6).cap)), (11, .int .i64 y36.2), (12, .int .i64 v12_3), (14, .pointer (some ⟨(fr69 2).x, 0, none⟩)), (60, .slice x44 y42.length x45), (61, .int .i64 ((y42.length : Nat) : Int)), (62, .int .i64 ((v62_3 : Nat) : Int))]) (mem' := fun fr69 => [(1, r5 a2_o a2), (6, o5 ((fr30 6).ob) ((fr30 6).cap) y36.1), (9, o44 x44 x45 y42), (10, .cells ((fr69 2).x) 44 [.int .i64 x66.Object, .int .i64 x66.At, .int .i64 x66.N])]) (RunsTo.mk [(0, { act := .idx 9 v62_3 }), (1, { act := .load 9 v62_3 0 [.int .i64 x66.Object, .int .i64 x66.At, .int .i64 x66.N] }), (2, { act := .new .var, key := some 10 }), (3, { act := .store 0 0 [], key := some 10 })] [2, 10, 11, 12, 14, 60, 61, 62] [1, 6, 9, 10] (fun fr69 => [x44 = x44, y42.length = (List.map S_stripe_Extent.row y42).length, (((v62_3 : Nat) : Int) : Int) = ((v62_3 : Nat) : Int), v62_3 < y42.length, blk x44 = blk x44, offs x44 + v62_3 * 3 = offs x44 + (v62_3 * 3 + 0), (List.map S_stripe_Extent.row y42)[v62_3]? = some [.int .i64 x66.Object, .int .i64 x66.At, .int .i64 x66.N], (fr69 2).x = (fr69 2).x, ((.agg #[.int .i64 x66.Object, .int .i64 x66.At, .int .i64 x66.N]) : Value).cells.toList.all Value.oneCell' = true]) (fun fr69 => by kernel_rfl) (fun fr69 => ⟨rfl, mlen S_stripe_Extent.row y42, rfl, (drop_lt hd64), rfl, rfl, map_drop S_stripe_Extent.row hd64, rfl, rfl, trivial⟩)) ?_
          intro fr69
          refine grd_elim hm (fun g71 hm => ?_)
          refine GS.region (env' := fun _ => [(2, .slice a2_o a2.length a2_c), (10, .slice ((fr30 6).ob) y36.1.length ((fr30 6).cap)), (11, .int .i64 y36.2), (12, .int .i64 (v12_3 + x66.N)), (60, .slice x44 y42.length x45), (61, .int .i64 ((y42.length : Nat) : Int)), (62, .int .i64 ((v62_3 : Nat) : Int))]) (mem' := fun _ => [(1, r5 a2_o a2), (6, o5 ((fr30 6).ob) ((fr30 6).cap) y36.1), (9, o44 x44 x45 y42)]) (RunsTo.mk [(2, { act := .load 10 0 0 [] }), (3, { sp := some (.int .i64 (v12_3 + x66.N)) })] [2, 10, 11, 12, 60, 61, 62] [1, 6, 9] (fun _ => [(fr69 2).x = (fr69 2).x, ((.int .i64 (IntKind.i64.wrap (v12_3 + x66.N))) : Value) = .int .i64 (v12_3 + x66.N)]) (fun _ => by kernel_rfl) (fun _ => ⟨rfl, I64.w g71, trivial⟩)) ?_
          intro _
          refine GS.inBlock ?_
          refine GS.region (env' := fun _ => [(2, .slice a2_o a2.length a2_c), (10, .slice ((fr30 6).ob) y36.1.length ((fr30 6).cap)), (11, .int .i64 y36.2), (12, .int .i64 (v12_3 + x66.N)), (60, .slice x44 y42.length x45), (61, .int .i64 ((y42.length : Nat) : Int)), (62, .int .i64 ((v62_3 + 1 : Nat) : Int))]) (mem' := fun _ => [(1, r5 a2_o a2), (6, o5 ((fr30 6).ob) ((fr30 6).cap) y36.1), (9, o44 x44 x45 y42)]) (RunsTo.mk [(0, { sp := some (.int .i64 ((v62_3 + 1 : Nat) : Int)) })] [2, 10, 11, 12, 60, 61, 62] [1, 6, 9] (fun _ => [((.int .i64 (IntKind.i64.wrap (((v62_3 : Nat) : Int) + 1))) : Value) = .int .i64 ((v62_3 + 1 : Nat) : Int)]) (fun _ => by kernel_rfl) (fun _ => ⟨natw (drop_lt hd64) g65, trivial⟩)) ?_
          intro _
          refine GS.inLoop ?_
          refine GS.rekey (env' := [(2, .slice a2_o a2.length a2_c), (10, .slice ((fr30 6).ob) y36.1.length ((fr30 6).cap)), (11, .int .i64 y36.2), (12, .int .i64 (v12_3 + x66.N)), (60, .slice x44 y42.length x45), (61, .int .i64 ((y42.length : Nat) : Int)), (62, .int .i64 ((v62_3 + 1 : Nat) : Int))]) (mem' := [(1, r5 a2_o a2), (6, o5 ((fr30 6).ob) ((fr30 6).cap) y36.1), (9, o44 x44 x45 y42)]) [2, 10, 11, 12, 60, 61, 62] [(1, 1), (6, 6), (9, 9)] (by kernel_rfl) (by kernel_rfl) rfl ?_
          exact ih77 ⟨rs76, (v12_3 + x66.N), v62_3 + 1⟩ ⟨drop_next hd64, hm⟩ (Nat.lt_succ_self _)

end Go.Proofs.YtfdojammchbboaaDoor
