/-
  CHAPTER 14b: the functions do what their models say (8).
-/
import Derived.Test.YtdelhcdknglibaaM14b
import Derived.Test.YtdelhcdknglibaaW14bg
set_option linter.unusedVariables false
set_option linter.unusedSimpArgs false
set_option maxRecDepth 100000
namespace Go.Proofs.Ytdelhcdknglibaa
open Go Go.RowKit Sx

theorem w_tholeref14_Put (F : Nat) (a0_o : Option Addr) (a0_c : Nat) (a0 : List ByteArray) (a1 : ByteArray) {y : List ByteArray} (hm : m_tholeref14_Put F a0 a1 = some y) : CallG Try.prog 39 #[.slice a0_o a0.length a0_c, .string a1] (X := Option Addr × Nat) (fun ⟨x0, x1⟩ => .slice x0 y.length x1) [] [r9 a0_o a0] (fun ⟨x0, x1⟩ => [o9 x0 x1 y]) := by
  intro w hg
  rw [m_tholeref14_Put] at hm
  refine GS.start (S := mayT [] [r9 a0_o a0]) (mem := [(1, r9 a0_o a0)]) Try.func39 rfl Try.ntmps39 (Nat.le_of_ble_eq_true rfl) (hg.start rfl) ?_
  refine GS.conv (env' := [(0, .slice a0_o a0.length a0_c), (1, .string a1)]) rfl rfl ?_
  refine GS.seq ?_
  refine GS.region (env' := fun _ => [(0, .slice a0_o a0.length a0_c), (1, .string a1)]) (mem' := fun _ => [(1, r9 a0_o a0)]) (RunsTo.mk [] [0, 1] [1] (fun _ => []) (fun _ => by kernel_rfl) (fun _ => trivial)) ?_
  intro _
  refine GS.seq ?_
  refine GS.region (env' := fun _ => [(0, .slice a0_o a0.length a0_c), (1, .string a1), (5, .slice none 0 0)]) (mem' := fun _ => [(1, r9 a0_o a0)]) (RunsTo.mk [] [0, 1, 5] [1] (fun _ => []) (fun _ => by kernel_rfl) (fun _ => trivial)) ?_
  intro _
  refine GS.seq ?_
  refine GS.region (env' := fun _ => [(0, .slice a0_o a0.length a0_c), (1, .string a1), (5, .slice none 0 0), (6, .bool false)]) (mem' := fun _ => [(1, r9 a0_o a0)]) (RunsTo.mk [] [0, 1, 5, 6] [1] (fun _ => []) (fun _ => by kernel_rfl) (fun _ => trivial)) ?_
  intro _
  refine GS.seq ?_
  refine GS.seq ?_
  refine GS.region (env' := fun _ => [(1, .string a1), (5, .slice none 0 0), (6, .bool false), (9, .slice a0_o a0.length a0_c), (10, .int .i64 ((a0.length : Nat) : Int)), (11, .int .i64 0)]) (mem' := fun _ => [(1, r9 a0_o a0)]) (RunsTo.mk [] [1, 5, 6, 9, 10, 11] [1] (fun _ => []) (fun _ => by kernel_rfl) (fun _ => trivial)) ?_
  intro _
  refine GS.block ?_
  refine GS.loop ?_
  refine grd_elim hm (fun g59 hm => ?_)
  refine GS.setMem (mem' := [(1, r9 a0_o a0), (20001, o9 none 0 ([] : List ByteArray))]) (fun w hw => Sat.addNil hw rfl) ?_
  refine GS.rekey (env' := [(1, .string a1), (5, .slice none 0 0), (6, .bool false), (9, .slice a0_o a0.length a0_c), (10, .int .i64 ((a0.length : Nat) : Int)), (11, .int .i64 0)]) (mem' := [(1, r9 a0_o a0), (20000, o9 none 0 ([] : List ByteArray))]) [1, 5, 6, 9, 10, 11] [(1, 1), (20000, 20001)] (by kernel_rfl) (by kernel_rfl) rfl ?_
  refine loopL_elim hm (fun st94 fn95 hst96 hfn97 hm => ?_)
  refine GS.loopInv (ι := List ByteArray × Bool × Nat × List ByteArray × Option Addr × Nat) (I := fun ⟨rs92, v6_1, v11_1, l20000_1, o20000_1, k20000_1⟩ => a0.drop v11_1 = rs92 ∧ loopL st94 fn95 rs92 v11_1 (v6_1, l20000_1) = some y) (μ := fun ⟨rs92, v6_1, v11_1, l20000_1, o20000_1, k20000_1⟩ => rs92.length) (E := fun ⟨rs92, v6_1, v11_1, l20000_1, o20000_1, k20000_1⟩ => [(1, .string a1), (5, .slice o20000_1 l20000_1.length k20000_1), (6, .bool v6_1), (9, .slice a0_o a0.length a0_c), (10, .int .i64 ((a0.length : Nat) : Int)), (11, .int .i64 ((v11_1 : Nat) : Int))]) (M := fun ⟨rs92, v6_1, v11_1, l20000_1, o20000_1, k20000_1⟩ => [(1, r9 a0_o a0), (20000, o9 o20000_1 k20000_1 l20000_1)]) ?_ ⟨a0, false, 0, ([] : List ByteArray), none, 0⟩ ⟨List.drop_zero .., hm⟩
  rintro ⟨rs92, v6_1, v11_1, l20000_1, o20000_1, k20000_1⟩ ⟨hd58, hm⟩ ih93
  cases rs92 with
  | nil =>
    replace hm := (hfn97 _ _).symm.trans hm
    try dsimp only at hm
    refine GS.seq ?_
    refine GS.region (env' := fun _ => [(1, .string a1), (5, .slice o20000_1 l20000_1.length k20000_1), (6, .bool v6_1), (9, .slice a0_o a0.length a0_c), (10, .int .i64 ((a0.length : Nat) : Int)), (11, .int .i64 ((v11_1 : Nat) : Int)), (12, .bool (decide (((v11_1 : Nat) : Int) < ((a0.length : Nat) : Int))))]) (mem' := fun _ => [(1, r9 a0_o a0), (20000, o9 o20000_1 k20000_1 l20000_1)]) (RunsTo.mk [] [1, 5, 6, 9, 10, 11, 12] [1, 20000] (fun _ => []) (fun _ => by kernel_rfl) (fun _ => trivial)) ?_
    intro _
    refine GS.seq ?_
    refine GS.cond (t := decide (((v11_1 : Nat) : Int) < ((a0.length : Nat) : Int))) rfl rfl (fun h90 => absb h90 (drop_dec0 hd58)) (fun _ => ?_)
    refine GS.exit rfl ?_
    refine GS.seq ?_
    refine GS.seq ?_
    refine GS.region (env' := fun _ => [(1, .string a1), (5, .slice o20000_1 l20000_1.length k20000_1), (35, .bool (!v6_1))]) (mem' := fun _ => [(20000, o9 o20000_1 k20000_1 l20000_1)]) (RunsTo.mk [] [1, 5, 35] [20000] (fun _ => []) (fun _ => by kernel_rfl) (fun _ => trivial)) ?_
    intro _
    refine GS.cond (t := !v6_1) rfl rfl (fun h99 => ?_) (fun h99 => ?_)
    · replace hm := br_t h99 hm
      refine grd_elim hm (fun g101 hm => ?_)
      refine GS.region (env' := fun fr100 => [(5, .slice ((fr100 3).ob) ((l20000_1 ++ [a1]).length) ((fr100 3).cap))]) (mem' := fun fr100 => [(20000, .osl ((fr100 3).ob) ((fr100 3).cap) 9 1 ((List.map rS l20000_1) ++ ([[.string a1]] : List (List Value))))]) (RunsTo.mk [(2, { act := .new (.row 1 1), key := some 20001, spf := some (fun f => .slice (some (Addr.mk f.x 0 none)) ([a1].length) 1) }), (3, { act := .app (some 20001), key := some 20000, spf := some (fun f => .slice (f.ob) ((l20000_1 ++ [a1]).length) (f.cap)) })] [5] [20000] (fun fr100 => [((.slice (some (Addr.mk (fr100 2).x 0 none)) 1 1) : Value) = .slice (some (Addr.mk (fr100 2).x 0 none)) ([a1].length) 1, (some (Addr.mk (fr100 2).x 0 none)) = (some (Addr.mk (fr100 2).x 0 none)), [a1].length = ([[.string a1]] : List (List Value)).length, o20000_1 = o20000_1, k20000_1 = k20000_1, l20000_1.length = (List.map rS l20000_1).length, ((List.map rS l20000_1).length + ([[.string a1]] : List (List Value)).length) * (16 + 1) ≤ 70368744177664, ([[.string a1]] : List (List Value)).flatten.all Value.oneCell' = true, ((.slice ((fr100 3).ob) (l20000_1.length + ([[.string a1]] : List (List Value)).length) ((fr100 3).cap)) : Value) = .slice ((fr100 3).ob) ((l20000_1 ++ [a1]).length) ((fr100 3).cap)]) (fun fr100 => by kernel_rfl) (fun fr100 => ⟨rfl, rfl, (by rw [show ([[.string a1]] : List (List Value)) = List.map rS [a1] from rfl]; exact mlen rS [a1]), rfl, rfl, mlen rS l20000_1, appb g101 (mlen rS l20000_1).symm (by rw [show ([[.string a1]] : List (List Value)) = List.map rS [a1] from rfl]; exact (mlen rS [a1]).symm), (by rw [show ([[.string a1]] : List (List Value)) = List.map rS [a1] from (show ([[.string a1]] : List (List Value)) = List.map rS [a1] from rfl)]; exact all_one rS _ (fun _ => rfl)), slen (by simp), trivial⟩)) ?_
      intro fr100
      refine GS.conv (mem' := [(20000, o9 ((fr100 3).ob) ((fr100 3).cap) (l20000_1 ++ [a1]))]) rfl (congrArg (fun rr : List (List Value) => ([(20000, .osl ((fr100 3).ob) ((fr100 3).cap) 9 1 rr)] : List (Nat × Ent))) (show (List.map rS l20000_1) ++ ([[.string a1]] : List (List Value)) = List.map rS (l20000_1 ++ [a1]) from (by rw [show List.map rS l20000_1 = List.map rS l20000_1 from rfl, show ([[.string a1]] : List (List Value)) = List.map rS [a1] from (show ([[.string a1]] : List (List Value)) = List.map rS [a1] from rfl)]; exact mapp rS _ _))) ?_
      refine GS.seq ?_
      refine GS.region (env' := fun _ => [(4, .slice ((fr100 3).ob) ((l20000_1 ++ [a1]).length) ((fr100 3).cap))]) (mem' := fun _ => [(20000, o9 ((fr100 3).ob) ((fr100 3).cap) (l20000_1 ++ [a1]))]) (RunsTo.mk [] [4] [20000] (fun _ => []) (fun _ => by kernel_rfl) (fun _ => trivial)) ?_
      intro _
      have hy := Option.some.inj hm
      subst hy
      refine GS.ret (fn := Try.f39) [0] [.slice ((fr100 3).ob) ((l20000_1 ++ [a1]).length) ((fr100 3).cap)] [] rfl Try.func39 (by kernel_rfl) trivial (fun w' hs => ?_)
      exact ⟨⟨(fr100 3).ob, (fr100 3).cap⟩, rfl, hs.turnedG (ks := [20000]) rfl rfl⟩
    · replace hm := br_f h99 hm
      refine GS.skip ?_
      refine GS.seq ?_
      refine GS.region (env' := fun _ => [(4, .slice o20000_1 l20000_1.length k20000_1)]) (mem' := fun _ => [(20000, o9 o20000_1 k20000_1 l20000_1)]) (RunsTo.mk [] [4] [20000] (fun _ => []) (fun _ => by kernel_rfl) (fun _ => trivial)) ?_
      intro _
      have hy := Option.some.inj hm
      subst hy
      refine GS.ret (fn := Try.f39) [0] [.slice o20000_1 l20000_1.length k20000_1] [] rfl Try.func39 (by kernel_rfl) trivial (fun w' hs => ?_)
      exact ⟨⟨o20000_1, k20000_1⟩, rfl, hs.turnedG (ks := [20000]) rfl rfl⟩
  | cons x60 rs92 =>
    replace hm := (hst96 _ _ _ _).symm.trans hm
    try dsimp only at hm
    refine GS.seq ?_
    refine GS.region (env' := fun _ => [(1, .string a1), (5, .slice o20000_1 l20000_1.length k20000_1), (6, .bool v6_1), (9, .slice a0_o a0.length a0_c), (10, .int .i64 ((a0.length : Nat) : Int)), (11, .int .i64 ((v11_1 : Nat) : Int)), (12, .bool (decide (((v11_1 : Nat) : Int) < ((a0.length : Nat) : Int))))]) (mem' := fun _ => [(1, r9 a0_o a0), (20000, o9 o20000_1 k20000_1 l20000_1)]) (RunsTo.mk [] [1, 5, 6, 9, 10, 11, 12] [1, 20000] (fun _ => []) (fun _ => by kernel_rfl) (fun _ => trivial)) ?_
    intro _
    refine GS.seq ?_
    refine GS.cond (t := decide (((v11_1 : Nat) : Int) < ((a0.length : Nat) : Int))) rfl rfl (fun _ => ?_) (fun h62 => absb (drop_dec hd58) h62)
    refine GS.skip ?_
    refine GS.seq ?_
    refine GS.block ?_
    refine GS.seq ?_
    refine GS.region (env' := fun _ => [(1, .string a1), (5, .slice o20000_1 l20000_1.length k20000_1), (6, .bool v6_1), (8, .string x60), (9, .slice a0_o a0.length a0_c), (10, .int .i64 ((a0.length : Nat) : Int)), (11, .int .i64 ((v11_1 : Nat) : Int))]) (mem' := fun _ => [(1, r9 a0_o a0), (20000, o9 o20000_1 k20000_1 l20000_1)]) (RunsTo.mk [(0, { act := .idx 1 v11_1 }), (1, { act := .load 1 v11_1 0 [.string x60] })] [1, 5, 6, 8, 9, 10, 11] [1, 20000] (fun _ => [a0_o = a0_o, a0.length = (List.map rS a0).length, (((v11_1 : Nat) : Int) : Int) = ((v11_1 : Nat) : Int), v11_1 < a0.length, blk a0_o = blk a0_o, offs a0_o + v11_1 * 1 = offs a0_o + (v11_1 * 1 + 0), (List.map rS a0)[v11_1]? = some [.string x60]]) (fun _ => by kernel_rfl) (fun _ => ⟨rfl, mlen rS a0, rfl, (drop_lt hd58), rfl, rfl, map_drop rS hd58, trivial⟩)) ?_
    intro _
    refine GS.seq ?_
    refine GS.seq ?_
    refine jn_elim hm (fun J66 hJ68 hm => ?_)
    refine GS.cut (ι := Bool) (I := fun (v21_9 : Bool) => J66 v21_9 = some y) (E := fun (v21_9 : Bool) => [(1, .string a1), (5, .slice o20000_1 l20000_1.length k20000_1), (6, .bool v6_1), (8, .string x60), (9, .slice a0_o a0.length a0_c), (10, .int .i64 ((a0.length : Nat) : Int)), (11, .int .i64 ((v11_1 : Nat) : Int)), (21, .bool v21_9)]) (M := fun (v21_9 : Bool) => [(1, r9 a0_o a0), (20000, o9 o20000_1 k20000_1 l20000_1)]) ?_ ?_
    rotate_left
    · intro H67
      refine br_elim hm (fun h65 hm => ?_) (fun h65 hm => ?_)
      · skip
        refine GS.region (env' := fun _ => [(1, .string a1), (5, .slice o20000_1 l20000_1.length k20000_1), (6, .bool v6_1), (8, .string x60), (9, .slice a0_o a0.length a0_c), (10, .int .i64 ((a0.length : Nat) : Int)), (11, .int .i64 ((v11_1 : Nat) : Int)), (21, .bool (!(Op.bytesLess x60.toList a1.toList)))]) (mem' := fun _ => [(1, r9 a0_o a0), (20000, o9 o20000_1 k20000_1 l20000_1)]) (RunsTo.mk [(2, { sp := some (.bool true) })] [1, 5, 6, 8, 9, 10, 11, 21] [1, 20000] (fun _ => [((.bool (!v6_1)) : Value) = .bool true]) (fun _ => by kernel_rfl) (fun _ => ⟨bool_eq h65, trivial⟩)) ?_
        intro _
        refine GS.rekey (env' := [(1, .string a1), (5, .slice o20000_1 l20000_1.length k20000_1), (6, .bool v6_1), (8, .string x60), (9, .slice a0_o a0.length a0_c), (10, .int .i64 ((a0.length : Nat) : Int)), (11, .int .i64 ((v11_1 : Nat) : Int)), (21, .bool (!(Op.bytesLess x60.toList a1.toList)))]) (mem' := [(1, r9 a0_o a0), (20000, o9 o20000_1 k20000_1 l20000_1)]) [1, 5, 6, 8, 9, 10, 11, 21] [(1, 1), (20000, 20000)] (by kernel_rfl) (by kernel_rfl) rfl ?_
        exact H67 (!(Op.bytesLess x60.toList a1.toList)) hm
      · skip
        refine GS.region (env' := fun _ => [(1, .string a1), (5, .slice o20000_1 l20000_1.length k20000_1), (6, .bool v6_1), (8, .string x60), (9, .slice a0_o a0.length a0_c), (10, .int .i64 ((a0.length : Nat) : Int)), (11, .int .i64 ((v11_1 : Nat) : Int)), (21, .bool false)]) (mem' := fun _ => [(1, r9 a0_o a0), (20000, o9 o20000_1 k20000_1 l20000_1)]) (RunsTo.mk [(2, { sp := some (.bool false) })] [1, 5, 6, 8, 9, 10, 11, 21] [1, 20000] (fun _ => [((.bool (!v6_1)) : Value) = .bool false]) (fun _ => by kernel_rfl) (fun _ => ⟨bool_eq h65, trivial⟩)) ?_
        intro _
        refine GS.rekey (env' := [(1, .string a1), (5, .slice o20000_1 l20000_1.length k20000_1), (6, .bool v6_1), (8, .string x60), (9, .slice a0_o a0.length a0_c), (10, .int .i64 ((a0.length : Nat) : Int)), (11, .int .i64 ((v11_1 : Nat) : Int)), (21, .bool false)]) (mem' := [(1, r9 a0_o a0), (20000, o9 o20000_1 k20000_1 l20000_1)]) [1, 5, 6, 8, 9, 10, 11, 21] [(1, 1), (20000, 20000)] (by kernel_rfl) (by kernel_rfl) rfl ?_
        exact H67 false hm
    · rintro v21_9 hm
      replace hm := (hJ68 _).symm.trans hm
      try dsimp only at hm
      refine jn_elim hm (fun J73 hJ75 hm => ?_)
      refine GS.cut (ι := Bool × List ByteArray × Option Addr × Nat) (I := fun ⟨v6_10, l20000_10, o20000_10, k20000_10⟩ => J73 (v6_10, l20000_10) = some y) (E := fun ⟨v6_10, l20000_10, o20000_10, k20000_10⟩ => [(1, .string a1), (5, .slice o20000_10 l20000_10.length k20000_10), (6, .bool v6_10), (8, .string x60), (9, .slice a0_o a0.length a0_c), (10, .int .i64 ((a0.length : Nat) : Int)), (11, .int .i64 ((v11_1 : Nat) : Int))]) (M := fun ⟨v6_10, l20000_10, o20000_10, k20000_10⟩ => [(1, r9 a0_o a0), (20000, o9 o20000_10 k20000_10 l20000_10)]) ?_ ?_
      rotate_left
      · intro H74
        refine GS.cond (t := v21_9) rfl rfl (fun h69 => ?_) (fun h69 => ?_)
        · replace hm := br_t h69 hm
          refine GS.seq ?_
          refine grd_elim hm (fun g71 hm => ?_)
          refine GS.region (env' := fun fr70 => [(1, .string a1), (5, .slice ((fr70 3).ob) ((l20000_1 ++ [a1]).length) ((fr70 3).cap)), (8, .string x60), (9, .slice a0_o a0.length a0_c), (10, .int .i64 ((a0.length : Nat) : Int)), (11, .int .i64 ((v11_1 : Nat) : Int))]) (mem' := fun fr70 => [(1, r9 a0_o a0), (20000, .osl ((fr70 3).ob) ((fr70 3).cap) 9 1 ((List.map rS l20000_1) ++ ([[.string a1]] : List (List Value))))]) (RunsTo.mk [(2, { act := .new (.row 1 1), key := some 20001, spf := some (fun f => .slice (some (Addr.mk f.x 0 none)) ([a1].length) 1) }), (3, { act := .app (some 20001), key := some 20000, spf := some (fun f => .slice (f.ob) ((l20000_1 ++ [a1]).length) (f.cap)) })] [1, 5, 8, 9, 10, 11] [1, 20000] (fun fr70 => [((.slice (some (Addr.mk (fr70 2).x 0 none)) 1 1) : Value) = .slice (some (Addr.mk (fr70 2).x 0 none)) ([a1].length) 1, (some (Addr.mk (fr70 2).x 0 none)) = (some (Addr.mk (fr70 2).x 0 none)), [a1].length = ([[.string a1]] : List (List Value)).length, o20000_1 = o20000_1, k20000_1 = k20000_1, l20000_1.length = (List.map rS l20000_1).length, ((List.map rS l20000_1).length + ([[.string a1]] : List (List Value)).length) * (16 + 1) ≤ 70368744177664, ([[.string a1]] : List (List Value)).flatten.all Value.oneCell' = true, ((.slice ((fr70 3).ob) (l20000_1.length + ([[.string a1]] : List (List Value)).length) ((fr70 3).cap)) : Value) = .slice ((fr70 3).ob) ((l20000_1 ++ [a1]).length) ((fr70 3).cap)]) (fun fr70 => by kernel_rfl) (fun fr70 => ⟨rfl, rfl, (by rw [show ([[.string a1]] : List (List Value)) = List.map rS [a1] from rfl]; exact mlen rS [a1]), rfl, rfl, mlen rS l20000_1, appb g71 (mlen rS l20000_1).symm (by rw [show ([[.string a1]] : List (List Value)) = List.map rS [a1] from rfl]; exact (mlen rS [a1]).symm), (by rw [show ([[.string a1]] : List (List Value)) = List.map rS [a1] from (show ([[.string a1]] : List (List Value)) = List.map rS [a1] from rfl)]; exact all_one rS _ (fun _ => rfl)), slen (by simp), trivial⟩)) ?_
          intro fr70
          refine GS.conv (mem' := [(1, r9 a0_o a0), (20000, o9 ((fr70 3).ob) ((fr70 3).cap) (l20000_1 ++ [a1]))]) rfl (congrArg (fun rr : List (List Value) => ([(1, r9 a0_o a0), (20000, .osl ((fr70 3).ob) ((fr70 3).cap) 9 1 rr)] : List (Nat × Ent))) (show (List.map rS l20000_1) ++ ([[.string a1]] : List (List Value)) = List.map rS (l20000_1 ++ [a1]) from (by rw [show List.map rS l20000_1 = List.map rS l20000_1 from rfl, show ([[.string a1]] : List (List Value)) = List.map rS [a1] from (show ([[.string a1]] : List (List Value)) = List.map rS [a1] from rfl)]; exact mapp rS _ _))) ?_
          refine GS.region (env' := fun _ => [(1, .string a1), (5, .slice ((fr70 3).ob) ((l20000_1 ++ [a1]).length) ((fr70 3).cap)), (6, .bool true), (8, .string x60), (9, .slice a0_o a0.length a0_c), (10, .int .i64 ((a0.length : Nat) : Int)), (11, .int .i64 ((v11_1 : Nat) : Int))]) (mem' := fun _ => [(1, r9 a0_o a0), (20000, o9 ((fr70 3).ob) ((fr70 3).cap) (l20000_1 ++ [a1]))]) (RunsTo.mk [] [1, 5, 6, 8, 9, 10, 11] [1, 20000] (fun _ => []) (fun _ => by kernel_rfl) (fun _ => trivial)) ?_
          intro _
          refine GS.rekey (env' := [(1, .string a1), (5, .slice ((fr70 3).ob) ((l20000_1 ++ [a1]).length) ((fr70 3).cap)), (6, .bool true), (8, .string x60), (9, .slice a0_o a0.length a0_c), (10, .int .i64 ((a0.length : Nat) : Int)), (11, .int .i64 ((v11_1 : Nat) : Int))]) (mem' := [(1, r9 a0_o a0), (20000, o9 ((fr70 3).ob) ((fr70 3).cap) (l20000_1 ++ [a1]))]) [1, 5, 6, 8, 9, 10, 11] [(1, 1), (20000, 20000)] (by kernel_rfl) (by kernel_rfl) rfl ?_
          exact H74 ⟨true, (l20000_1 ++ [a1]), (fr70 3).ob, (fr70 3).cap⟩ hm
        · replace hm := br_f h69 hm
          refine GS.skip ?_
          refine GS.rekey (env' := [(1, .string a1), (5, .slice o20000_1 l20000_1.length k20000_1), (6, .bool v6_1), (8, .string x60), (9, .slice a0_o a0.length a0_c), (10, .int .i64 ((a0.length : Nat) : Int)), (11, .int .i64 ((v11_1 : Nat) : Int))]) (mem' := [(1, r9 a0_o a0), (20000, o9 o20000_1 k20000_1 l20000_1)]) [1, 5, 6, 8, 9, 10, 11] [(1, 1), (20000, 20000)] (by kernel_rfl) (by kernel_rfl) rfl ?_
          exact H74 ⟨v6_1, l20000_1, o20000_1, k20000_1⟩ hm
      · rintro ⟨v6_10, l20000_10, o20000_10, k20000_10⟩ hm
        replace hm := (hJ75 _).symm.trans hm
        try dsimp only at hm
        refine GS.seq ?_
        refine GS.region (env' := fun _ => [(1, .string a1), (5, .slice o20000_10 l20000_10.length k20000_10), (6, .bool v6_10), (8, .string x60), (9, .slice a0_o a0.length a0_c), (10, .int .i64 ((a0.length : Nat) : Int)), (11, .int .i64 ((v11_1 : Nat) : Int)), (28, .bool (!(x60.toList == a1.toList)))]) (mem' := fun _ => [(1, r9 a0_o a0), (20000, o9 o20000_10 k20000_10 l20000_10)]) (RunsTo.mk [] [1, 5, 6, 8, 9, 10, 11, 28] [1, 20000] (fun _ => []) (fun _ => by kernel_rfl) (fun _ => trivial)) ?_
        intro _
        refine GS.cond (t := !(x60.toList == a1.toList)) rfl rfl (fun h77 => ?_) (fun h77 => ?_)
        · replace hm := br_t h77 hm
          refine grd_elim hm (fun g79 hm => ?_)
          refine GS.region (env' := fun fr78 => [(1, .string a1), (5, .slice ((fr78 3).ob) ((l20000_10 ++ [x60]).length) ((fr78 3).cap)), (6, .bool v6_10), (9, .slice a0_o a0.length a0_c), (10, .int .i64 ((a0.length : Nat) : Int)), (11, .int .i64 ((v11_1 : Nat) : Int))]) (mem' := fun fr78 => [(1, r9 a0_o a0), (20000, .osl ((fr78 3).ob) ((fr78 3).cap) 9 1 ((List.map rS l20000_10) ++ ([[.string x60]] : List (List Value))))]) (RunsTo.mk [(2, { act := .new (.row 1 1), key := some 20001, spf := some (fun f => .slice (some (Addr.mk f.x 0 none)) ([x60].length) 1) }), (3, { act := .app (some 20001), key := some 20000, spf := some (fun f => .slice (f.ob) ((l20000_10 ++ [x60]).length) (f.cap)) })] [1, 5, 6, 9, 10, 11] [1, 20000] (fun fr78 => [((.slice (some (Addr.mk (fr78 2).x 0 none)) 1 1) : Value) = .slice (some (Addr.mk (fr78 2).x 0 none)) ([x60].length) 1, (some (Addr.mk (fr78 2).x 0 none)) = (some (Addr.mk (fr78 2).x 0 none)), [x60].length = ([[.string x60]] : List (List Value)).length, o20000_10 = o20000_10, k20000_10 = k20000_10, l20000_10.length = (List.map rS l20000_10).length, ((List.map rS l20000_10).length + ([[.string x60]] : List (List Value)).length) * (16 + 1) ≤ 70368744177664, ([[.string x60]] : List (List Value)).flatten.all Value.oneCell' = true, ((.slice ((fr78 3).ob) (l20000_10.length + ([[.string x60]] : List (List Value)).length) ((fr78 3).cap)) : Value) = .slice ((fr78 3).ob) ((l20000_10 ++ [x60]).length) ((fr78 3).cap)]) (fun fr78 => by kernel_rfl) (fun fr78 => ⟨rfl, rfl, (by rw [show ([[.string x60]] : List (List Value)) = List.map rS [x60] from rfl]; exact mlen rS [x60]), rfl, rfl, mlen rS l20000_10, appb g79 (mlen rS l20000_10).symm (by rw [show ([[.string x60]] : List (List Value)) = List.map rS [x60] from rfl]; exact (mlen rS [x60]).symm), (by rw [show ([[.string x60]] : List (List Value)) = List.map rS [x60] from (show ([[.string x60]] : List (List Value)) = List.map rS [x60] from rfl)]; exact all_one rS _ (fun _ => rfl)), slen (by simp), trivial⟩)) ?_
          intro fr78
          refine GS.conv (mem' := [(1, r9 a0_o a0), (20000, o9 ((fr78 3).ob) ((fr78 3).cap) (l20000_10 ++ [x60]))]) rfl (congrArg (fun rr : List (List Value) => ([(1, r9 a0_o a0), (20000, .osl ((fr78 3).ob) ((fr78 3).cap) 9 1 rr)] : List (Nat × Ent))) (show (List.map rS l20000_10) ++ ([[.string x60]] : List (List Value)) = List.map rS (l20000_10 ++ [x60]) from (by rw [show List.map rS l20000_10 = List.map rS l20000_10 from rfl, show ([[.string x60]] : List (List Value)) = List.map rS [x60] from (show ([[.string x60]] : List (List Value)) = List.map rS [x60] from rfl)]; exact mapp rS _ _))) ?_
          refine GS.inBlock ?_
          refine GS.region (env' := fun _ => [(1, .string a1), (5, .slice ((fr78 3).ob) ((l20000_10 ++ [x60]).length) ((fr78 3).cap)), (6, .bool v6_10), (9, .slice a0_o a0.length a0_c), (10, .int .i64 ((a0.length : Nat) : Int)), (11, .int .i64 ((v11_1 + 1 : Nat) : Int))]) (mem' := fun _ => [(1, r9 a0_o a0), (20000, o9 ((fr78 3).ob) ((fr78 3).cap) (l20000_10 ++ [x60]))]) (RunsTo.mk [(0, { sp := some (.int .i64 ((v11_1 + 1 : Nat) : Int)) })] [1, 5, 6, 9, 10, 11] [1, 20000] (fun _ => [((.int .i64 (IntKind.i64.wrap (((v11_1 : Nat) : Int) + 1))) : Value) = .int .i64 ((v11_1 + 1 : Nat) : Int)]) (fun _ => by kernel_rfl) (fun _ => ⟨natw (drop_lt hd58) g59, trivial⟩)) ?_
          intro _
          refine GS.inLoop ?_
          refine GS.rekey (env' := [(1, .string a1), (5, .slice ((fr78 3).ob) ((l20000_10 ++ [x60]).length) ((fr78 3).cap)), (6, .bool v6_10), (9, .slice a0_o a0.length a0_c), (10, .int .i64 ((a0.length : Nat) : Int)), (11, .int .i64 ((v11_1 + 1 : Nat) : Int))]) (mem' := [(1, r9 a0_o a0), (20000, o9 ((fr78 3).ob) ((fr78 3).cap) (l20000_10 ++ [x60]))]) [1, 5, 6, 9, 10, 11] [(1, 1), (20000, 20000)] (by kernel_rfl) (by kernel_rfl) rfl ?_
          exact ih93 ⟨rs92, v6_10, v11_1 + 1, (l20000_10 ++ [x60]), (fr78 3).ob, (fr78 3).cap⟩ ⟨drop_next hd58, hm⟩ (Nat.lt_succ_self _)
        · replace hm := br_f h77 hm
          refine GS.skip ?_
          refine GS.inBlock ?_
          refine GS.region (env' := fun _ => [(1, .string a1), (5, .slice o20000_10 l20000_10.length k20000_10), (6, .bool v6_10), (9, .slice a0_o a0.length a0_c), (10, .int .i64 ((a0.length : Nat) : Int)), (11, .int .i64 ((v11_1 + 1 : Nat) : Int))]) (mem' := fun _ => [(1, r9 a0_o a0), (20000, o9 o20000_10 k20000_10 l20000_10)]) (RunsTo.mk [(0, { sp := some (.int .i64 ((v11_1 + 1 : Nat) : Int)) })] [1, 5, 6, 9, 10, 11] [1, 20000] (fun _ => [((.int .i64 (IntKind.i64.wrap (((v11_1 : Nat) : Int) + 1))) : Value) = .int .i64 ((v11_1 + 1 : Nat) : Int)]) (fun _ => by kernel_rfl) (fun _ => ⟨natw (drop_lt hd58) g59, trivial⟩)) ?_
          intro _
          refine GS.inLoop ?_
          refine GS.rekey (env' := [(1, .string a1), (5, .slice o20000_10 l20000_10.length k20000_10), (6, .bool v6_10), (9, .slice a0_o a0.length a0_c), (10, .int .i64 ((a0.length : Nat) : Int)), (11, .int .i64 ((v11_1 + 1 : Nat) : Int))]) (mem' := [(1, r9 a0_o a0), (20000, o9 o20000_10 k20000_10 l20000_10)]) [1, 5, 6, 9, 10, 11] [(1, 1), (20000, 20000)] (by kernel_rfl) (by kernel_rfl) rfl ?_
          exact ih93 ⟨rs92, v6_10, v11_1 + 1, l20000_10, o20000_10, k20000_10⟩ ⟨drop_next hd58, hm⟩ (Nat.lt_succ_self _)

theorem w_tholeref14_Touched (F : Nat) (a0_Les : Int) (a0_Tail : S_api_Version) (a0_Log_o : Option Addr) (a0_Log_c : Nat) (a0_Log : List S_api_Entry) (a0_Lasts_o : Option Addr) (a0_Lasts_c : Nat) (a0_Lasts : List S_api_Last) (a0_Items_o : Option Addr) (a0_Items_c : Nat) (a0_Items : List S_api_Item) (a1_Les : Int) (a1_Tail : S_api_Version) (a1_Log_o : Option Addr) (a1_Log_c : Nat) (a1_Log : List S_api_Entry) (a1_Lasts_o : Option Addr) (a1_Lasts_c : Nat) (a1_Lasts : List S_api_Last) (a1_Items_o : Option Addr) (a1_Items_c : Nat) (a1_Items : List S_api_Item) {y : List ByteArray} (hm : m_tholeref14_Touched F a0_Les a0_Tail a0_Log a0_Lasts a0_Items a1_Les a1_Tail a1_Log a1_Lasts a1_Items = some y) : CallG Try.prog 22 #[.agg #[.int .i64 a0_Les, .int .i64 a0_Tail.Epoch, .int .i64 a0_Tail.N, .slice a0_Log_o a0_Log.length a0_Log_c, .slice a0_Lasts_o a0_Lasts.length a0_Lasts_c, .slice a0_Items_o a0_Items.length a0_Items_c], .agg #[.int .i64 a1_Les, .int .i64 a1_Tail.Epoch, .int .i64 a1_Tail.N, .slice a1_Log_o a1_Log.length a1_Log_c, .slice a1_Lasts_o a1_Lasts.length a1_Lasts_c, .slice a1_Items_o a1_Items.length a1_Items_c]] (X := Option Addr × Nat) (fun ⟨x0, x1⟩ => .slice x0 y.length x1) [] [r53 a0_Log_o a0_Log, r83 a0_Lasts_o a0_Lasts, r45 a0_Items_o a0_Items, r53 a1_Log_o a1_Log, r83 a1_Lasts_o a1_Lasts, r45 a1_Items_o a1_Items] (fun ⟨x0, x1⟩ => [o9 x0 x1 y]) := by
  intro w hg
  rw [m_tholeref14_Touched] at hm
  refine GS.start (S := mayT [] [r53 a0_Log_o a0_Log, r83 a0_Lasts_o a0_Lasts, r45 a0_Items_o a0_Items, r53 a1_Log_o a1_Log, r83 a1_Lasts_o a1_Lasts, r45 a1_Items_o a1_Items]) (mem := [(1, r53 a0_Log_o a0_Log), (2, r83 a0_Lasts_o a0_Lasts), (3, r45 a0_Items_o a0_Items), (4, r53 a1_Log_o a1_Log), (5, r83 a1_Lasts_o a1_Lasts), (6, r45 a1_Items_o a1_Items)]) Try.func22 rfl Try.ntmps22 (Nat.le_of_ble_eq_true rfl) (hg.start rfl) ?_
  refine GS.conv (env' := [(0, .agg #[.int .i64 a0_Les, .int .i64 a0_Tail.Epoch, .int .i64 a0_Tail.N, .slice a0_Log_o a0_Log.length a0_Log_c, .slice a0_Lasts_o a0_Lasts.length a0_Lasts_c, .slice a0_Items_o a0_Items.length a0_Items_c]), (1, .agg #[.int .i64 a1_Les, .int .i64 a1_Tail.Epoch, .int .i64 a1_Tail.N, .slice a1_Log_o a1_Log.length a1_Log_c, .slice a1_Lasts_o a1_Lasts.length a1_Lasts_c, .slice a1_Items_o a1_Items.length a1_Items_c])]) rfl rfl ?_
  refine GS.seq ?_
  refine GS.region (env' := fun fr1 => [(2, .pointer (some ⟨(fr1 0).x, 0, none⟩)), (3, .pointer (some ⟨(fr1 1).x, 0, none⟩))]) (mem' := fun fr1 => [(1, r53 a0_Log_o a0_Log), (2, r83 a0_Lasts_o a0_Lasts), (3, r45 a0_Items_o a0_Items), (4, r53 a1_Log_o a1_Log), (5, r83 a1_Lasts_o a1_Lasts), (6, r45 a1_Items_o a1_Items), (7, .cells ((fr1 0).x) 28 [.int .i64 a0_Les, .int .i64 a0_Tail.Epoch, .int .i64 a0_Tail.N, .slice a0_Log_o a0_Log.length a0_Log_c, .slice a0_Lasts_o a0_Lasts.length a0_Lasts_c, .slice a0_Items_o a0_Items.length a0_Items_c]), (8, .cells ((fr1 1).x) 28 [.int .i64 a1_Les, .int .i64 a1_Tail.Epoch, .int .i64 a1_Tail.N, .slice a1_Log_o a1_Log.length a1_Log_c, .slice a1_Lasts_o a1_Lasts.length a1_Lasts_c, .slice a1_Items_o a1_Items.length a1_Items_c])]) (RunsTo.mk [(0, { act := .new .var, key := some 7 }), (1, { act := .new .var, key := some 8 })] [2, 3] [1, 2, 3, 4, 5, 6, 7, 8] (fun fr1 => []) (fun fr1 => by kernel_rfl) (fun fr1 => trivial)) ?_
  intro fr1
  refine GS.seq ?_
  refine GS.region (env' := fun _ => [(2, .pointer (some ⟨(fr1 0).x, 0, none⟩)), (3, .pointer (some ⟨(fr1 1).x, 0, none⟩)), (5, .slice none 0 0)]) (mem' := fun _ => [(1, r53 a0_Log_o a0_Log), (2, r83 a0_Lasts_o a0_Lasts), (3, r45 a0_Items_o a0_Items), (4, r53 a1_Log_o a1_Log), (5, r83 a1_Lasts_o a1_Lasts), (6, r45 a1_Items_o a1_Items), (7, .cells ((fr1 0).x) 28 [.int .i64 a0_Les, .int .i64 a0_Tail.Epoch, .int .i64 a0_Tail.N, .slice a0_Log_o a0_Log.length a0_Log_c, .slice a0_Lasts_o a0_Lasts.length a0_Lasts_c, .slice a0_Items_o a0_Items.length a0_Items_c]), (8, .cells ((fr1 1).x) 28 [.int .i64 a1_Les, .int .i64 a1_Tail.Epoch, .int .i64 a1_Tail.N, .slice a1_Log_o a1_Log.length a1_Log_c, .slice a1_Lasts_o a1_Lasts.length a1_Lasts_c, .slice a1_Items_o a1_Items.length a1_Items_c])]) (RunsTo.mk [] [2, 3, 5] [1, 2, 3, 4, 5, 6, 7, 8] (fun _ => []) (fun _ => by kernel_rfl) (fun _ => trivial)) ?_
  intro _
  refine GS.seq ?_
  refine GS.seq ?_
  refine bnd_elim hm (fun y4 e5 hm => ?_)
  refine bnd_elim hm (fun y8 e9 hm => ?_)
  refine grd_elim hm (fun g12 hm => ?_)
  refine GS.region (env' := fun fr3 => [(5, .slice none 0 0), (14, .slice ((fr3 6).ob) ((y4 ++ y8).length) ((fr3 6).cap)), (15, .int .i64 (((y4 ++ y8).length : Nat) : Int)), (16, .int .i64 0)]) (mem' := fun fr3 => [(9, .osl ((fr3 6).ob) ((fr3 6).cap) 53 7 ((List.map S_api_Entry.row y4) ++ (List.map S_api_Entry.row y8)))]) (RunsTo.mkd [(0, { act := .load 7 0 0 [] }), (1, { act := .load 8 0 0 [] }), (2, { act := .calln [1, 2, 3, 4, 5, 6] (fun f => .slice f.ob y4.length f.cap) (fun f => o53 f.ob f.cap y4), key := some 9 }), (3, { act := .load 7 0 0 [] }), (4, { act := .load 8 0 0 [] }), (5, { act := .calln [1, 2, 3, 4, 5, 6] (fun f => .slice f.ob y8.length f.cap) (fun f => o53 f.ob f.cap y8), key := some 10 }), (6, { act := .app (some 10), key := some 9, spf := some (fun f => .slice (f.ob) ((y4 ++ y8).length) (f.cap)) })] [5, 14, 15, 16] [9] (fun fr3 => [(fr1 0).x = (fr1 0).x, (fr1 1).x = (fr1 1).x, CallN Try.prog 13 #[.agg #[.int .i64 a0_Les, .int .i64 a0_Tail.Epoch, .int .i64 a0_Tail.N, .slice a0_Log_o a0_Log.length a0_Log_c, .slice a0_Lasts_o a0_Lasts.length a0_Lasts_c, .slice a0_Items_o a0_Items.length a0_Items_c], .agg #[.int .i64 a1_Les, .int .i64 a1_Tail.Epoch, .int .i64 a1_Tail.N, .slice a1_Log_o a1_Log.length a1_Log_c, .slice a1_Lasts_o a1_Lasts.length a1_Lasts_c, .slice a1_Items_o a1_Items.length a1_Items_c]] (fun f => .slice f.ob y4.length f.cap) (fun f => o53 f.ob f.cap y4) [some (r53 a0_Log_o a0_Log), some (r83 a0_Lasts_o a0_Lasts), some (r45 a0_Items_o a0_Items), some (r53 a1_Log_o a1_Log), some (r83 a1_Lasts_o a1_Lasts), some (r45 a1_Items_o a1_Items)], (fr1 0).x = (fr1 0).x, (fr1 1).x = (fr1 1).x, CallN Try.prog 15 #[.agg #[.int .i64 a0_Les, .int .i64 a0_Tail.Epoch, .int .i64 a0_Tail.N, .slice a0_Log_o a0_Log.length a0_Log_c, .slice a0_Lasts_o a0_Lasts.length a0_Lasts_c, .slice a0_Items_o a0_Items.length a0_Items_c], .agg #[.int .i64 a1_Les, .int .i64 a1_Tail.Epoch, .int .i64 a1_Tail.N, .slice a1_Log_o a1_Log.length a1_Log_c, .slice a1_Lasts_o a1_Lasts.length a1_Lasts_c, .slice a1_Items_o a1_Items.length a1_Items_c]] (fun f => .slice f.ob y8.length f.cap) (fun f => o53 f.ob f.cap y8) [some (r53 a0_Log_o a0_Log), some (r83 a0_Lasts_o a0_Lasts), some (r45 a0_Items_o a0_Items), some (r53 a1_Log_o a1_Log), some (r83 a1_Lasts_o a1_Lasts), some (r45 a1_Items_o a1_Items)], ((fr3 5).ob) = ((fr3 5).ob), y8.length = (List.map S_api_Entry.row y8).length, ((fr3 2).ob) = ((fr3 2).ob), (fr3 2).cap = ((fr3 2).cap), y4.length = (List.map S_api_Entry.row y4).length, ((List.map S_api_Entry.row y4).length + (List.map S_api_Entry.row y8).length) * (64 + 1) ≤ 70368744177664, (List.map S_api_Entry.row y8).flatten.all Value.oneCell' = true, ((.slice ((fr3 6).ob) (y4.length + (List.map S_api_Entry.row y8).length) ((fr3 6).cap)) : Value) = .slice ((fr3 6).ob) ((y4 ++ y8).length) ((fr3 6).cap)]) (by kernel_rfl) (by kernel_rfl) (fun fr3 => by kernel_rfl) (fun fr3 => ⟨rfl, rfl, CallG.toN (w_tholeref14_Divergent F a0_Les a0_Tail a0_Log_o a0_Log_c a0_Log a0_Lasts_o a0_Lasts_c a0_Lasts a0_Items_o a0_Items_c a0_Items a1_Les a1_Tail a1_Log_o a1_Log_c a1_Log a1_Lasts_o a1_Lasts_c a1_Lasts a1_Items_o a1_Items_c a1_Items e5) ⟨(.inl ⟨r53 a0_Log_o a0_Log, .head _, Cov.refl _⟩), (.inl ⟨r83 a0_Lasts_o a0_Lasts, (.tail _ (.head _)), Cov.refl _⟩), (.inl ⟨r45 a0_Items_o a0_Items, (.tail _ (.tail _ (.head _))), Cov.refl _⟩), (.inl ⟨r53 a1_Log_o a1_Log, (.tail _ (.tail _ (.tail _ (.head _)))), Cov.refl _⟩), (.inl ⟨r83 a1_Lasts_o a1_Lasts, (.tail _ (.tail _ (.tail _ (.tail _ (.head _))))), Cov.refl _⟩), (.inl ⟨r45 a1_Items_o a1_Items, (.tail _ (.tail _ (.tail _ (.tail _ (.tail _ (.head _)))))), Cov.refl _⟩), trivial⟩, rfl, rfl, CallG.toN (w_tholeref14_Lacking F a0_Les a0_Tail a0_Log_o a0_Log_c a0_Log a0_Lasts_o a0_Lasts_c a0_Lasts a0_Items_o a0_Items_c a0_Items a1_Les a1_Tail a1_Log_o a1_Log_c a1_Log a1_Lasts_o a1_Lasts_c a1_Lasts a1_Items_o a1_Items_c a1_Items e9) ⟨(.inl ⟨r53 a0_Log_o a0_Log, .head _, Cov.refl _⟩), (.inl ⟨r83 a0_Lasts_o a0_Lasts, (.tail _ (.head _)), Cov.refl _⟩), (.inl ⟨r45 a0_Items_o a0_Items, (.tail _ (.tail _ (.head _))), Cov.refl _⟩), (.inl ⟨r53 a1_Log_o a1_Log, (.tail _ (.tail _ (.tail _ (.head _)))), Cov.refl _⟩), (.inl ⟨r83 a1_Lasts_o a1_Lasts, (.tail _ (.tail _ (.tail _ (.tail _ (.head _))))), Cov.refl _⟩), (.inl ⟨r45 a1_Items_o a1_Items, (.tail _ (.tail _ (.tail _ (.tail _ (.tail _ (.head _)))))), Cov.refl _⟩), trivial⟩, rfl, mlen S_api_Entry.row y8, rfl, rfl, mlen S_api_Entry.row y4, appb g12 (mlen S_api_Entry.row y4).symm (mlen S_api_Entry.row y8).symm, (by rw [show List.map S_api_Entry.row y8 = List.map S_api_Entry.row y8 from rfl]; exact all_one S_api_Entry.row _ (fun _ => rfl)), slen (by simp), trivial⟩)) ?_
  intro fr3
  refine GS.conv (mem' := [(9, o53 ((fr3 6).ob) ((fr3 6).cap) (y4 ++ y8))]) rfl (congrArg (fun rr : List (List Value) => ([(9, .osl ((fr3 6).ob) ((fr3 6).cap) 53 7 rr)] : List (Nat × Ent))) (show (List.map S_api_Entry.row y4) ++ (List.map S_api_Entry.row y8) = List.map S_api_Entry.row (y4 ++ y8) from (by rw [show List.map S_api_Entry.row y4 = List.map S_api_Entry.row y4 from rfl, show List.map S_api_Entry.row y8 = List.map S_api_Entry.row y8 from rfl]; exact mapp S_api_Entry.row _ _))) ?_
  refine GS.block ?_
  refine GS.loop ?_
  refine GS.know (p := (y4 ++ y8).length ≤ (fr3 6).cap) (fun w hw => by first | (have h := (hw.ok 9 _ rfl).1.1; rw [List.length_map] at h; exact h) | simpa using (hw.ok 9 _ rfl).1.1) (fun k13 => ?_)
  refine grd_elim hm (fun g56 hm => ?_)
  refine GS.setMem (mem' := [(9, o53 ((fr3 6).ob) ((fr3 6).cap) (y4 ++ y8)), (20001, o9 none 0 ([] : List ByteArray))]) (fun w hw => Sat.addNil hw rfl) ?_
  refine GS.rekey (env' := [(5, .slice none 0 0), (14, .slice ((fr3 6).ob) ((y4 ++ y8).length) ((fr3 6).cap)), (15, .int .i64 (((y4 ++ y8).length : Nat) : Int)), (16, .int .i64 0)]) (mem' := [(9, o53 ((fr3 6).ob) ((fr3 6).cap) (y4 ++ y8)), (20000, o9 none 0 ([] : List ByteArray))]) [5, 14, 15, 16] [(9, 9), (20000, 20001)] (by kernel_rfl) (by kernel_rfl) rfl ?_
  refine loopL_elim hm (fun st83 fn84 hst85 hfn86 hm => ?_)
  refine GS.loopInv (ι := List S_api_Entry × Nat × List ByteArray × Option Addr × Nat) (I := fun ⟨rs81, v16_1, l20000_1, o20000_1, k20000_1⟩ => (y4 ++ y8).drop v16_1 = rs81 ∧ loopL st83 fn84 rs81 v16_1 l20000_1 = some y) (μ := fun ⟨rs81, v16_1, l20000_1, o20000_1, k20000_1⟩ => rs81.length) (E := fun ⟨rs81, v16_1, l20000_1, o20000_1, k20000_1⟩ => [(5, .slice o20000_1 l20000_1.length k20000_1), (14, .slice ((fr3 6).ob) ((y4 ++ y8).length) ((fr3 6).cap)), (15, .int .i64 (((y4 ++ y8).length : Nat) : Int)), (16, .int .i64 ((v16_1 : Nat) : Int))]) (M := fun ⟨rs81, v16_1, l20000_1, o20000_1, k20000_1⟩ => [(9, o53 ((fr3 6).ob) ((fr3 6).cap) (y4 ++ y8)), (20000, o9 o20000_1 k20000_1 l20000_1)]) ?_ ⟨(y4 ++ y8), 0, ([] : List ByteArray), none, 0⟩ ⟨List.drop_zero .., hm⟩
  rintro ⟨rs81, v16_1, l20000_1, o20000_1, k20000_1⟩ ⟨hd55, hm⟩ ih82
  cases rs81 with
  | nil =>
    replace hm := (hfn86 _ _).symm.trans hm
    try dsimp only at hm
    refine GS.seq ?_
    refine GS.region (env' := fun _ => [(5, .slice o20000_1 l20000_1.length k20000_1), (14, .slice ((fr3 6).ob) ((y4 ++ y8).length) ((fr3 6).cap)), (15, .int .i64 (((y4 ++ y8).length : Nat) : Int)), (16, .int .i64 ((v16_1 : Nat) : Int)), (17, .bool (decide (((v16_1 : Nat) : Int) < (((y4 ++ y8).length : Nat) : Int))))]) (mem' := fun _ => [(9, o53 ((fr3 6).ob) ((fr3 6).cap) (y4 ++ y8)), (20000, o9 o20000_1 k20000_1 l20000_1)]) (RunsTo.mk [] [5, 14, 15, 16, 17] [9, 20000] (fun _ => []) (fun _ => by kernel_rfl) (fun _ => trivial)) ?_
    intro _
    refine GS.seq ?_
    refine GS.cond (t := decide (((v16_1 : Nat) : Int) < (((y4 ++ y8).length : Nat) : Int))) rfl rfl (fun h79 => absb h79 (drop_dec0 hd55)) (fun _ => ?_)
    refine GS.exit rfl ?_
    refine GS.seq ?_
    refine GS.region (env' := fun _ => [(4, .slice o20000_1 l20000_1.length k20000_1)]) (mem' := fun _ => [(20000, o9 o20000_1 k20000_1 l20000_1)]) (RunsTo.mk [] [4] [20000] (fun _ => []) (fun _ => by kernel_rfl) (fun _ => trivial)) ?_
    intro _
    have hy := Option.some.inj hm
    subst hy
    refine GS.ret (fn := Try.f22) [0] [.slice o20000_1 l20000_1.length k20000_1] [] rfl Try.func22 (by kernel_rfl) trivial (fun w' hs => ?_)
    exact ⟨⟨o20000_1, k20000_1⟩, rfl, hs.turnedG (ks := [20000]) rfl rfl⟩
  | cons x57 rs81 =>
    replace hm := (hst85 _ _ _ _).symm.trans hm
    try dsimp only at hm
    refine GS.seq ?_
    refine GS.region (env' := fun _ => [(5, .slice o20000_1 l20000_1.length k20000_1), (14, .slice ((fr3 6).ob) ((y4 ++ y8).length) ((fr3 6).cap)), (15, .int .i64 (((y4 ++ y8).length : Nat) : Int)), (16, .int .i64 ((v16_1 : Nat) : Int)), (17, .bool (decide (((v16_1 : Nat) : Int) < (((y4 ++ y8).length : Nat) : Int))))]) (mem' := fun _ => [(9, o53 ((fr3 6).ob) ((fr3 6).cap) (y4 ++ y8)), (20000, o9 o20000_1 k20000_1 l20000_1)]) (RunsTo.mk [] [5, 14, 15, 16, 17] [9, 20000] (fun _ => []) (fun _ => by kernel_rfl) (fun _ => trivial)) ?_
    intro _
    refine GS.seq ?_
    refine GS.cond (t := decide (((v16_1 : Nat) : Int) < (((y4 ++ y8).length : Nat) : Int))) rfl rfl (fun _ => ?_) (fun h59 => absb (drop_dec hd55) h59)
    refine GS.skip ?_
    refine GS.seq ?_
    refine GS.block ?_
    refine GS.seq ?_
    refine GS.region (env' := fun fr60 => [(5, .slice o20000_1 l20000_1.length k20000_1), (7, .pointer (some ⟨(fr60 2).x, 0, none⟩)), (14, .slice ((fr3 6).ob) ((y4 ++ y8).length) ((fr3 6).cap)), (15, .int .i64 (((y4 ++ y8).length : Nat) : Int)), (16, .int .i64 ((v16_1 : Nat) : Int))]) (mem' := fun fr60 => [(9, o53 ((fr3 6).ob) ((fr3 6).cap) (y4 ++ y8)), (20000, o9 o20000_1 k20000_1 l20000_1), (20001, .cells ((fr60 2).x) 53 [.int .i64 x57.Version.Epoch, .int .i64 x57.Version.N, .bool x57.Remove, .int .i64 x57.Errno, .string x57.Name, .int .i64 x57.Client, .int .i64 x57.Number])]) (RunsTo.mk [(0, { act := .idx 9 v16_1 }), (1, { act := .load 9 v16_1 0 [.int .i64 x57.Version.Epoch, .int .i64 x57.Version.N, .bool x57.Remove, .int .i64 x57.Errno, .string x57.Name, .int .i64 x57.Client, .int .i64 x57.Number] }), (2, { act := .new .var, key := some 20001 }), (3, { act := .store 0 0 [], key := some 20001 })] [5, 7, 14, 15, 16] [9, 20000, 20001] (fun fr60 => [(fr3 6).ob = (fr3 6).ob, (y4 ++ y8).length = (List.map S_api_Entry.row (y4 ++ y8)).length, (((v16_1 : Nat) : Int) : Int) = ((v16_1 : Nat) : Int), v16_1 < (y4 ++ y8).length, blk ((fr3 6).ob) = blk ((fr3 6).ob), offs ((fr3 6).ob) + v16_1 * 7 = offs ((fr3 6).ob) + (v16_1 * 7 + 0), (List.map S_api_Entry.row (y4 ++ y8))[v16_1]? = some [.int .i64 x57.Version.Epoch, .int .i64 x57.Version.N, .bool x57.Remove, .int .i64 x57.Errno, .string x57.Name, .int .i64 x57.Client, .int .i64 x57.Number], (fr60 2).x = (fr60 2).x, ((.agg #[.int .i64 x57.Version.Epoch, .int .i64 x57.Version.N, .bool x57.Remove, .int .i64 x57.Errno, .string x57.Name, .int .i64 x57.Client, .int .i64 x57.Number]) : Value).cells.toList.all Value.oneCell' = true]) (fun fr60 => by kernel_rfl) (fun fr60 => ⟨rfl, mlen S_api_Entry.row (y4 ++ y8), rfl, (drop_lt hd55), rfl, rfl, map_drop S_api_Entry.row hd55, rfl, rfl, trivial⟩)) ?_
    intro fr60
    refine GS.seq ?_
    refine GS.region (env' := fun _ => [(5, .slice o20000_1 l20000_1.length k20000_1), (7, .pointer (some ⟨(fr60 2).x, 0, none⟩)), (14, .slice ((fr3 6).ob) ((y4 ++ y8).length) ((fr3 6).cap)), (15, .int .i64 (((y4 ++ y8).length : Nat) : Int)), (16, .int .i64 ((v16_1 : Nat) : Int)), (22, .bool (x57.Errno == 0))]) (mem' := fun _ => [(9, o53 ((fr3 6).ob) ((fr3 6).cap) (y4 ++ y8)), (20000, o9 o20000_1 k20000_1 l20000_1), (20001, .cells ((fr60 2).x) 53 [.int .i64 x57.Version.Epoch, .int .i64 x57.Version.N, .bool x57.Remove, .int .i64 x57.Errno, .string x57.Name, .int .i64 x57.Client, .int .i64 x57.Number])]) (RunsTo.mk [(1, { act := .load 20001 0 0 [] })] [5, 7, 14, 15, 16, 22] [9, 20000, 20001] (fun _ => [(fr60 2).x = (fr60 2).x]) (fun _ => by kernel_rfl) (fun _ => ⟨rfl, trivial⟩)) ?_
    intro _
    refine GS.cond (t := x57.Errno == 0) rfl rfl (fun h62 => ?_) (fun h62 => ?_)
    · replace hm := br_t h62 hm
      refine bnd_elim hm (fun y64 e65 hm => ?_)
      refine GS.open_ ?_
      refine GR.run (i := 0) 3 (env' := fun _ => [(5, .slice o20000_1 l20000_1.length k20000_1), (14, .slice ((fr3 6).ob) ((y4 ++ y8).length) ((fr3 6).cap)), (15, .int .i64 (((y4 ++ y8).length : Nat) : Int)), (16, .int .i64 ((v16_1 : Nat) : Int)), (23, .slice o20000_1 l20000_1.length k20000_1), (25, .string x57.Name)]) (mem' := fun _ => [(9, o53 ((fr3 6).ob) ((fr3 6).cap) (y4 ++ y8)), (20000, o9 o20000_1 k20000_1 l20000_1)]) (Nat.le_of_ble_eq_true (by kernel_rfl)) (RunsTo.mk [(2, { act := .load 20001 0 0 [] })] [5, 14, 15, 16, 23, 25] [9, 20000] (fun _ => [(fr60 2).x = (fr60 2).x]) (fun _ => by kernel_rfl) (fun _ => ⟨rfl, trivial⟩)) ?_
      intro _
      refine GR.callG (X := Option Addr × Nat) (i := 3) (g := 39) (args := #[.slice o20000_1 l20000_1.length k20000_1, .string x57.Name]) (v := fun ⟨x66, x67⟩ => .slice x66 y64.length x67) (own := []) (ro := [r9 o20000_1 l20000_1]) (es' := fun ⟨x66, x67⟩ => [o9 x66 x67 y64]) (mem' := fun ⟨x66, x67⟩ => [(9, o53 ((fr3 6).ob) ((fr3 6).cap) (y4 ++ y8)), (20000, o9 o20000_1 k20000_1 l20000_1), (20002, o9 x66 x67 y64)]) (env' := fun ⟨x66, x67⟩ => [(5, .slice o20000_1 l20000_1.length k20000_1), (14, .slice ((fr3 6).ob) ((y4 ++ y8).length) ((fr3 6).cap)), (15, .int .i64 (((y4 ++ y8).length : Nat) : Int)), (16, .int .i64 ((v16_1 : Nat) : Int)), (26, .slice x66 y64.length x67)]) [] [20002] [5, 14, 15, 16, 26] [9, 20000, 20002] false (by kernel_rfl) (by kernel_rfl) (by kernel_rfl) (by kernel_rfl) (by kernel_rfl) (fun _ => rfl) (fun _ _ => rfl) ⟨(.inl ⟨20000, _, rfl, rfl, Cov.osl_rd, fun h => by cases h⟩), trivial⟩ (by rintro ⟨x66, x67⟩; kernel_rfl) (by rintro ⟨x66, x67⟩; kernel_rfl) (w_tholeref14_Put F o20000_1 k20000_1 l20000_1 x57.Name e65) ?_
      rintro ⟨x66, x67⟩
      refine GR.run (i := 4) 1 (env' := fun _ => [(5, .slice x66 y64.length x67), (14, .slice ((fr3 6).ob) ((y4 ++ y8).length) ((fr3 6).cap)), (15, .int .i64 (((y4 ++ y8).length : Nat) : Int)), (16, .int .i64 ((v16_1 : Nat) : Int))]) (mem' := fun _ => [(9, o53 ((fr3 6).ob) ((fr3 6).cap) (y4 ++ y8)), (20002, o9 x66 x67 y64)]) (Nat.le_of_ble_eq_true (by kernel_rfl)) (RunsTo.mk [] [5, 14, 15, 16] [9, 20002] (fun _ => []) (fun _ => by kernel_rfl) (fun _ => trivial)) ?_
      intro _
      refine GR.done (Nat.le_of_ble_eq_true (by kernel_rfl)) ?_
      refine GS.inBlock ?_
      refine GS.region (env' := fun _ => [(5, .slice x66 y64.length x67), (14, .slice ((fr3 6).ob) ((y4 ++ y8).length) ((fr3 6).cap)), (15, .int .i64 (((y4 ++ y8).length : Nat) : Int)), (16, .int .i64 ((v16_1 + 1 : Nat) : Int))]) (mem' := fun _ => [(9, o53 ((fr3 6).ob) ((fr3 6).cap) (y4 ++ y8)), (20002, o9 x66 x67 y64)]) (RunsTo.mk [(0, { sp := some (.int .i64 ((v16_1 + 1 : Nat) : Int)) })] [5, 14, 15, 16] [9, 20002] (fun _ => [((.int .i64 (IntKind.i64.wrap (((v16_1 : Nat) : Int) + 1))) : Value) = .int .i64 ((v16_1 + 1 : Nat) : Int)]) (fun _ => by kernel_rfl) (fun _ => ⟨natw (drop_lt hd55) g56, trivial⟩)) ?_
      intro _
      refine GS.inLoop ?_
      refine GS.rekey (env' := [(5, .slice x66 y64.length x67), (14, .slice ((fr3 6).ob) ((y4 ++ y8).length) ((fr3 6).cap)), (15, .int .i64 (((y4 ++ y8).length : Nat) : Int)), (16, .int .i64 ((v16_1 + 1 : Nat) : Int))]) (mem' := [(9, o53 ((fr3 6).ob) ((fr3 6).cap) (y4 ++ y8)), (20000, o9 x66 x67 y64)]) [5, 14, 15, 16] [(9, 9), (20000, 20002)] (by kernel_rfl) (by kernel_rfl) rfl ?_
      exact ih82 ⟨rs81, v16_1 + 1, y64, x66, x67⟩ ⟨drop_next hd55, hm⟩ (Nat.lt_succ_self _)
    · replace hm := br_f h62 hm
      refine GS.skip ?_
      refine GS.inBlock ?_
      refine GS.region (env' := fun _ => [(5, .slice o20000_1 l20000_1.length k20000_1), (14, .slice ((fr3 6).ob) ((y4 ++ y8).length) ((fr3 6).cap)), (15, .int .i64 (((y4 ++ y8).length : Nat) : Int)), (16, .int .i64 ((v16_1 + 1 : Nat) : Int))]) (mem' := fun _ => [(9, o53 ((fr3 6).ob) ((fr3 6).cap) (y4 ++ y8)), (20000, o9 o20000_1 k20000_1 l20000_1)]) (RunsTo.mk [(0, { sp := some (.int .i64 ((v16_1 + 1 : Nat) : Int)) })] [5, 14, 15, 16] [9, 20000] (fun _ => [((.int .i64 (IntKind.i64.wrap (((v16_1 : Nat) : Int) + 1))) : Value) = .int .i64 ((v16_1 + 1 : Nat) : Int)]) (fun _ => by kernel_rfl) (fun _ => ⟨natw (drop_lt hd55) g56, trivial⟩)) ?_
      intro _
      refine GS.inLoop ?_
      refine GS.rekey (env' := [(5, .slice o20000_1 l20000_1.length k20000_1), (14, .slice ((fr3 6).ob) ((y4 ++ y8).length) ((fr3 6).cap)), (15, .int .i64 (((y4 ++ y8).length : Nat) : Int)), (16, .int .i64 ((v16_1 + 1 : Nat) : Int))]) (mem' := [(9, o53 ((fr3 6).ob) ((fr3 6).cap) (y4 ++ y8)), (20000, o9 o20000_1 k20000_1 l20000_1)]) [5, 14, 15, 16] [(9, 9), (20000, 20000)] (by kernel_rfl) (by kernel_rfl) rfl ?_
      exact ih82 ⟨rs81, v16_1 + 1, l20000_1, o20000_1, k20000_1⟩ ⟨drop_next hd55, hm⟩ (Nat.lt_succ_self _)

end Go.Proofs.Ytdelhcdknglibaa
