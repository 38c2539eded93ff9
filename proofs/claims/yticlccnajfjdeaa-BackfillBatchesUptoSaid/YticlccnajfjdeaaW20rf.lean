/-
  CHAPTER 20r: the functions do what their models say (6).
-/
import Derived.Test.YticlccnajfjdeaaM20r
set_option linter.unusedVariables false
set_option linter.unusedSimpArgs false
set_option maxRecDepth 100000
namespace Go.Proofs.Yticlccnajfjdeaa
open Go Go.RowKit Sx

theorem w_tholeref20_sorted (F : Nat) (a0_o : Option Addr) (a0_c : Nat) (a0 : List S_api_Item) {y : List S_api_Item} (hm : m_tholeref20_sorted F a0 = some y) : CallG Try.prog 30 #[.slice a0_o a0.length a0_c] (X := Option Addr × Nat) (fun ⟨x0, x1⟩ => .slice x0 y.length x1) [] [r48 a0_o a0] (fun ⟨x0, x1⟩ => [o48 x0 x1 y]) := by
  intro w hg
  rw [m_tholeref20_sorted] at hm
  refine GS.start (S := mayT [] [r48 a0_o a0]) (mem := [(1, r48 a0_o a0)]) Try.func30 rfl Try.ntmps30 (Nat.le_of_ble_eq_true rfl) (hg.start rfl) ?_
  refine GS.conv (env' := [(0, .slice a0_o a0.length a0_c)]) rfl rfl ?_
  refine GS.seq ?_
  refine GS.region (env' := fun _ => [(0, .slice a0_o a0.length a0_c)]) (mem' := fun _ => [(1, r48 a0_o a0)]) (RunsTo.mk [] [0] [1] (fun _ => []) (fun _ => by kernel_rfl) (fun _ => trivial)) ?_
  intro _
  refine GS.seq ?_
  refine GS.region (env' := fun _ => [(0, .slice a0_o a0.length a0_c), (3, .slice none 0 0)]) (mem' := fun _ => [(1, r48 a0_o a0)]) (RunsTo.mk [] [0, 3] [1] (fun _ => []) (fun _ => by kernel_rfl) (fun _ => trivial)) ?_
  intro _
  refine GS.seq ?_
  refine GS.seq ?_
  refine GS.region (env' := fun _ => [(3, .slice none 0 0), (7, .slice a0_o a0.length a0_c), (8, .int .i64 ((a0.length : Nat) : Int)), (9, .int .i64 0)]) (mem' := fun _ => [(1, r48 a0_o a0)]) (RunsTo.mk [] [3, 7, 8, 9] [1] (fun _ => []) (fun _ => by kernel_rfl) (fun _ => trivial)) ?_
  intro _
  refine GS.block ?_
  refine GS.loop ?_
  refine grd_elim hm (fun g70 hm => ?_)
  refine GS.setMem (mem' := [(1, r48 a0_o a0), (20001, o48 none 0 ([] : List S_api_Item))]) (fun w hw => Sat.addNil hw rfl) ?_
  refine GS.rekey (env' := [(3, .slice none 0 0), (7, .slice a0_o a0.length a0_c), (8, .int .i64 ((a0.length : Nat) : Int)), (9, .int .i64 0)]) (mem' := [(1, r48 a0_o a0), (20000, o48 none 0 ([] : List S_api_Item))]) [3, 7, 8, 9] [(1, 1), (20000, 20001)] (by kernel_rfl) (by kernel_rfl) rfl ?_
  refine loopL_elim hm (fun st128 fn129 hst130 hfn131 hm => ?_)
  refine GS.loopInv (ι := List S_api_Item × Nat × List S_api_Item × Option Addr × Nat) (I := fun ⟨rs126, v9_1, l20000_1, o20000_1, k20000_1⟩ => a0.drop v9_1 = rs126 ∧ loopL st128 fn129 rs126 v9_1 l20000_1 = some y) (μ := fun ⟨rs126, v9_1, l20000_1, o20000_1, k20000_1⟩ => rs126.length) (E := fun ⟨rs126, v9_1, l20000_1, o20000_1, k20000_1⟩ => [(3, .slice o20000_1 l20000_1.length k20000_1), (7, .slice a0_o a0.length a0_c), (8, .int .i64 ((a0.length : Nat) : Int)), (9, .int .i64 ((v9_1 : Nat) : Int))]) (M := fun ⟨rs126, v9_1, l20000_1, o20000_1, k20000_1⟩ => [(1, r48 a0_o a0), (20000, o48 o20000_1 k20000_1 l20000_1)]) ?_ ⟨a0, 0, ([] : List S_api_Item), none, 0⟩ ⟨List.drop_zero .., hm⟩
  rintro ⟨rs126, v9_1, l20000_1, o20000_1, k20000_1⟩ ⟨hd69, hm⟩ ih127
  cases rs126 with
  | nil =>
    replace hm := (hfn131 _ _).symm.trans hm
    try dsimp only at hm
    refine GS.seq ?_
    refine GS.region (env' := fun _ => [(3, .slice o20000_1 l20000_1.length k20000_1), (7, .slice a0_o a0.length a0_c), (8, .int .i64 ((a0.length : Nat) : Int)), (9, .int .i64 ((v9_1 : Nat) : Int)), (10, .bool (decide (((v9_1 : Nat) : Int) < ((a0.length : Nat) : Int))))]) (mem' := fun _ => [(1, r48 a0_o a0), (20000, o48 o20000_1 k20000_1 l20000_1)]) (RunsTo.mk [] [3, 7, 8, 9, 10] [1, 20000] (fun _ => []) (fun _ => by kernel_rfl) (fun _ => trivial)) ?_
    intro _
    refine GS.seq ?_
    refine GS.cond (t := decide (((v9_1 : Nat) : Int) < ((a0.length : Nat) : Int))) rfl rfl (fun h124 => absb h124 (drop_dec0 hd69)) (fun _ => ?_)
    refine GS.exit rfl ?_
    refine GS.seq ?_
    refine GS.region (env' := fun _ => [(2, .slice o20000_1 l20000_1.length k20000_1)]) (mem' := fun _ => [(20000, o48 o20000_1 k20000_1 l20000_1)]) (RunsTo.mk [] [2] [20000] (fun _ => []) (fun _ => by kernel_rfl) (fun _ => trivial)) ?_
    intro _
    have hy := Option.some.inj hm
    subst hy
    refine GS.ret (fn := Try.f30) [0] [.slice o20000_1 l20000_1.length k20000_1] [] rfl Try.func30 (by kernel_rfl) trivial (fun w' hs => ?_)
    exact ⟨⟨o20000_1, k20000_1⟩, rfl, hs.turnedG (ks := [20000]) rfl rfl⟩
  | cons x71 rs126 =>
    replace hm := (hst130 _ _ _ _).symm.trans hm
    try dsimp only at hm
    refine GS.seq ?_
    refine GS.region (env' := fun _ => [(3, .slice o20000_1 l20000_1.length k20000_1), (7, .slice a0_o a0.length a0_c), (8, .int .i64 ((a0.length : Nat) : Int)), (9, .int .i64 ((v9_1 : Nat) : Int)), (10, .bool (decide (((v9_1 : Nat) : Int) < ((a0.length : Nat) : Int))))]) (mem' := fun _ => [(1, r48 a0_o a0), (20000, o48 o20000_1 k20000_1 l20000_1)]) (RunsTo.mk [] [3, 7, 8, 9, 10] [1, 20000] (fun _ => []) (fun _ => by kernel_rfl) (fun _ => trivial)) ?_
    intro _
    refine GS.seq ?_
    refine GS.cond (t := decide (((v9_1 : Nat) : Int) < ((a0.length : Nat) : Int))) rfl rfl (fun _ => ?_) (fun h73 => absb (drop_dec hd69) h73)
    refine GS.skip ?_
    refine GS.seq ?_
    refine GS.block ?_
    refine GS.seq ?_
    refine GS.region (env' := fun fr74 => [(3, .slice o20000_1 l20000_1.length k20000_1), (5, .pointer (some ⟨(fr74 2).x, 0, none⟩)), (7, .slice a0_o a0.length a0_c), (8, .int .i64 ((a0.length : Nat) : Int)), (9, .int .i64 ((v9_1 : Nat) : Int))]) (mem' := fun fr74 => [(1, r48 a0_o a0), (20000, o48 o20000_1 k20000_1 l20000_1), (20001, .cells ((fr74 2).x) 48 [.string x71.Name, .int .i64 x71.Version.Epoch, .int .i64 x71.Version.N, .int .u32 x71.Crc])]) (RunsTo.mk [(0, { act := .idx 1 v9_1 }), (1, { act := .load 1 v9_1 0 [.string x71.Name, .int .i64 x71.Version.Epoch, .int .i64 x71.Version.N, .int .u32 x71.Crc] }), (2, { act := .new .var, key := some 20001 }), (3, { act := .store 0 0 [], key := some 20001 })] [3, 5, 7, 8, 9] [1, 20000, 20001] (fun fr74 => [a0_o = a0_o, a0.length = (List.map S_api_Item.row a0).length, (((v9_1 : Nat) : Int) : Int) = ((v9_1 : Nat) : Int), v9_1 < a0.length, blk a0_o = blk a0_o, offs a0_o + v9_1 * 4 = offs a0_o + (v9_1 * 4 + 0), (List.map S_api_Item.row a0)[v9_1]? = some [.string x71.Name, .int .i64 x71.Version.Epoch, .int .i64 x71.Version.N, .int .u32 x71.Crc], (fr74 2).x = (fr74 2).x, ((.agg #[.string x71.Name, .int .i64 x71.Version.Epoch, .int .i64 x71.Version.N, .int .u32 x71.Crc]) : Value).cells.toList.all Value.oneCell' = true]) (fun fr74 => by kernel_rfl) (fun fr74 => ⟨rfl, mlen S_api_Item.row a0, rfl, (drop_lt hd69), rfl, rfl, map_drop S_api_Item.row hd69, rfl, rfl, trivial⟩)) ?_
    intro fr74
    refine GS.seq ?_
    refine GS.region (env' := fun _ => [(3, .slice o20000_1 l20000_1.length k20000_1), (5, .pointer (some ⟨(fr74 2).x, 0, none⟩)), (6, .int .i64 ((l20000_1.length : Nat) : Int)), (7, .slice a0_o a0.length a0_c), (8, .int .i64 ((a0.length : Nat) : Int)), (9, .int .i64 ((v9_1 : Nat) : Int))]) (mem' := fun _ => [(1, r48 a0_o a0), (20000, o48 o20000_1 k20000_1 l20000_1), (20001, .cells ((fr74 2).x) 48 [.string x71.Name, .int .i64 x71.Version.Epoch, .int .i64 x71.Version.N, .int .u32 x71.Crc])]) (RunsTo.mk [] [3, 5, 6, 7, 8, 9] [1, 20000, 20001] (fun _ => []) (fun _ => by kernel_rfl) (fun _ => trivial)) ?_
    intro _
    refine GS.seq ?_
    refine grd_elim hm (fun g77 hm => ?_)
    refine GS.region (env' := fun fr76 => [(3, .slice ((fr76 3).ob) ((l20000_1 ++ [x71]).length) ((fr76 3).cap)), (5, .pointer (some ⟨(fr74 2).x, 0, none⟩)), (6, .int .i64 ((l20000_1.length : Nat) : Int)), (7, .slice a0_o a0.length a0_c), (8, .int .i64 ((a0.length : Nat) : Int)), (9, .int .i64 ((v9_1 : Nat) : Int))]) (mem' := fun fr76 => [(1, r48 a0_o a0), (20000, .osl ((fr76 3).ob) ((fr76 3).cap) 48 4 ((List.map S_api_Item.row l20000_1) ++ ([[.string x71.Name, .int .i64 x71.Version.Epoch, .int .i64 x71.Version.N, .int .u32 x71.Crc]] : List (List Value)))), (20001, .cells ((fr74 2).x) 48 [.string x71.Name, .int .i64 x71.Version.Epoch, .int .i64 x71.Version.N, .int .u32 x71.Crc])]) (RunsTo.mk [(1, { act := .load 20001 0 0 [] }), (2, { act := .new (.row 1 4), key := some 20002, spf := some (fun f => .slice (some (Addr.mk f.x 0 none)) ([x71].length) 1) }), (3, { act := .app (some 20002), key := some 20000, spf := some (fun f => .slice (f.ob) ((l20000_1 ++ [x71]).length) (f.cap)) })] [3, 5, 6, 7, 8, 9] [1, 20000, 20001] (fun fr76 => [(fr74 2).x = (fr74 2).x, ((.slice (some (Addr.mk (fr76 2).x 0 none)) 1 1) : Value) = .slice (some (Addr.mk (fr76 2).x 0 none)) ([x71].length) 1, (some (Addr.mk (fr76 2).x 0 none)) = (some (Addr.mk (fr76 2).x 0 none)), [x71].length = ([[.string x71.Name, .int .i64 x71.Version.Epoch, .int .i64 x71.Version.N, .int .u32 x71.Crc]] : List (List Value)).length, o20000_1 = o20000_1, k20000_1 = k20000_1, l20000_1.length = (List.map S_api_Item.row l20000_1).length, ((List.map S_api_Item.row l20000_1).length + ([[.string x71.Name, .int .i64 x71.Version.Epoch, .int .i64 x71.Version.N, .int .u32 x71.Crc]] : List (List Value)).length) * (40 + 1) ≤ 70368744177664, ([[.string x71.Name, .int .i64 x71.Version.Epoch, .int .i64 x71.Version.N, .int .u32 x71.Crc]] : List (List Value)).flatten.all Value.oneCell' = true, ((.slice ((fr76 3).ob) (l20000_1.length + ([[.string x71.Name, .int .i64 x71.Version.Epoch, .int .i64 x71.Version.N, .int .u32 x71.Crc]] : List (List Value)).length) ((fr76 3).cap)) : Value) = .slice ((fr76 3).ob) ((l20000_1 ++ [x71]).length) ((fr76 3).cap)]) (fun fr76 => by kernel_rfl) (fun fr76 => ⟨rfl, rfl, rfl, (by rw [show ([[.string x71.Name, .int .i64 x71.Version.Epoch, .int .i64 x71.Version.N, .int .u32 x71.Crc]] : List (List Value)) = List.map S_api_Item.row [x71] from rfl]; exact mlen S_api_Item.row [x71]), rfl, rfl, mlen S_api_Item.row l20000_1, appb g77 (mlen S_api_Item.row l20000_1).symm (by rw [show ([[.string x71.Name, .int .i64 x71.Version.Epoch, .int .i64 x71.Version.N, .int .u32 x71.Crc]] : List (List Value)) = List.map S_api_Item.row [x71] from rfl]; exact (mlen S_api_Item.row [x71]).symm), (by rw [show ([[.string x71.Name, .int .i64 x71.Version.Epoch, .int .i64 x71.Version.N, .int .u32 x71.Crc]] : List (List Value)) = List.map S_api_Item.row [x71] from (show ([[.string x71.Name, .int .i64 x71.Version.Epoch, .int .i64 x71.Version.N, .int .u32 x71.Crc]] : List (List Value)) = List.map S_api_Item.row [x71] from rfl)]; exact all_one S_api_Item.row _ (fun _ => rfl)), slen (by simp), trivial⟩)) ?_
    intro fr76
    refine GS.conv (mem' := [(1, r48 a0_o a0), (20000, o48 ((fr76 3).ob) ((fr76 3).cap) (l20000_1 ++ [x71])), (20001, .cells ((fr74 2).x) 48 [.string x71.Name, .int .i64 x71.Version.Epoch, .int .i64 x71.Version.N, .int .u32 x71.Crc])]) rfl (congrArg (fun rr : List (List Value) => ([(1, r48 a0_o a0), (20000, .osl ((fr76 3).ob) ((fr76 3).cap) 48 4 rr), (20001, .cells ((fr74 2).x) 48 [.string x71.Name, .int .i64 x71.Version.Epoch, .int .i64 x71.Version.N, .int .u32 x71.Crc])] : List (Nat × Ent))) (show (List.map S_api_Item.row l20000_1) ++ ([[.string x71.Name, .int .i64 x71.Version.Epoch, .int .i64 x71.Version.N, .int .u32 x71.Crc]] : List (List Value)) = List.map S_api_Item.row (l20000_1 ++ [x71]) from (by rw [show List.map S_api_Item.row l20000_1 = List.map S_api_Item.row l20000_1 from rfl, show ([[.string x71.Name, .int .i64 x71.Version.Epoch, .int .i64 x71.Version.N, .int .u32 x71.Crc]] : List (List Value)) = List.map S_api_Item.row [x71] from (show ([[.string x71.Name, .int .i64 x71.Version.Epoch, .int .i64 x71.Version.N, .int .u32 x71.Crc]] : List (List Value)) = List.map S_api_Item.row [x71] from rfl)]; exact mapp S_api_Item.row _ _))) ?_
    refine GS.seq ?_
    refine GS.block ?_
    refine GS.loop ?_
    refine GS.know (p := (l20000_1 ++ [x71]).length ≤ (fr76 3).cap) (fun w hw => by first | (have h := (hw.ok 20000 _ rfl).1.1; rw [List.length_map] at h; exact h) | simpa using (hw.ok 20000 _ rfl).1.1) (fun k78 => ?_)
    refine GS.rekey (env' := [(3, .slice ((fr76 3).ob) ((l20000_1 ++ [x71]).length) ((fr76 3).cap)), (5, .pointer (some ⟨(fr74 2).x, 0, none⟩)), (6, .int .i64 ((l20000_1.length : Nat) : Int)), (7, .slice a0_o a0.length a0_c), (8, .int .i64 ((a0.length : Nat) : Int)), (9, .int .i64 ((v9_1 : Nat) : Int))]) (mem' := [(1, r48 a0_o a0), (20000, o48 ((fr76 3).ob) ((fr76 3).cap) (l20000_1 ++ [x71])), (20001, .cells ((fr74 2).x) 48 [.string x71.Name, .int .i64 x71.Version.Epoch, .int .i64 x71.Version.N, .int .u32 x71.Crc])]) [3, 5, 6, 7, 8, 9] [(1, 1), (20000, 20000), (20001, 20001)] (by kernel_rfl) (by kernel_rfl) rfl ?_
    refine loopW_elim hm (fun st116 hst118 hm => ?_)
    refine GS.loopInv (ι := Nat × Int × List S_api_Item) (I := fun ⟨rs114, v6_7, l20000_7⟩ => loopW st116 rs114 (v6_7, l20000_7) = some y) (μ := fun ⟨rs114, v6_7, l20000_7⟩ => rs114) (E := fun ⟨rs114, v6_7, l20000_7⟩ => [(3, .slice ((fr76 3).ob) l20000_7.length ((fr76 3).cap)), (5, .pointer (some ⟨(fr74 2).x, 0, none⟩)), (6, .int .i64 v6_7), (7, .slice a0_o a0.length a0_c), (8, .int .i64 ((a0.length : Nat) : Int)), (9, .int .i64 ((v9_1 : Nat) : Int))]) (M := fun ⟨rs114, v6_7, l20000_7⟩ => [(1, r48 a0_o a0), (20000, o48 ((fr76 3).ob) ((fr76 3).cap) l20000_7), (20001, .cells ((fr74 2).x) 48 [.string x71.Name, .int .i64 x71.Version.Epoch, .int .i64 x71.Version.N, .int .u32 x71.Crc])]) ?_ ⟨F, ((l20000_1.length : Nat) : Int), (l20000_1 ++ [x71])⟩ hm
    rintro ⟨rs114, v6_7, l20000_7⟩ hm ih115
    cases rs114 with
    | zero => cases hm
    | succ rs114 =>
      replace hm := (hst118 _ _).symm.trans hm
      try dsimp only at hm
      refine GS.seq ?_
      refine GS.seq ?_
      refine jn_elim hm (fun J104 hJ106 hm => ?_)
      refine GS.cut (ι := Bool) (I := fun (v31_10 : Bool) => J104 v31_10 = some y) (E := fun (v31_10 : Bool) => [(3, .slice ((fr76 3).ob) l20000_7.length ((fr76 3).cap)), (5, .pointer (some ⟨(fr74 2).x, 0, none⟩)), (6, .int .i64 v6_7), (7, .slice a0_o a0.length a0_c), (8, .int .i64 ((a0.length : Nat) : Int)), (9, .int .i64 ((v9_1 : Nat) : Int)), (31, .bool v31_10)]) (M := fun (v31_10 : Bool) => [(1, r48 a0_o a0), (20000, o48 ((fr76 3).ob) ((fr76 3).cap) l20000_7), (20001, .cells ((fr74 2).x) 48 [.string x71.Name, .int .i64 x71.Version.Epoch, .int .i64 x71.Version.N, .int .u32 x71.Crc])]) ?_ ?_
      rotate_left
      · intro H105
        refine br_elim hm (fun h103 hm => ?_) (fun h103 hm => ?_)
        · skip
          refine grd_elim hm (fun g104 hm => ?_)
          refine grd_elim hm (fun g105 hm => ?_)
          refine GS.region (env' := fun _ => [(3, .slice ((fr76 3).ob) l20000_7.length ((fr76 3).cap)), (5, .pointer (some ⟨(fr74 2).x, 0, none⟩)), (6, .int .i64 v6_7), (7, .slice a0_o a0.length a0_c), (8, .int .i64 ((a0.length : Nat) : Int)), (9, .int .i64 ((v9_1 : Nat) : Int)), (31, .bool (!(Op.bytesLess ((l20000_7.getD (Int.toNat (v6_7 - 1)) dS_api_Item).Name).toList x71.Name.toList || ((l20000_7.getD (Int.toNat (v6_7 - 1)) dS_api_Item).Name).toList == x71.Name.toList)))]) (mem' := fun _ => [(1, r48 a0_o a0), (20000, o48 ((fr76 3).ob) ((fr76 3).cap) l20000_7), (20001, .cells ((fr74 2).x) 48 [.string x71.Name, .int .i64 x71.Version.Epoch, .int .i64 x71.Version.N, .int .u32 x71.Crc])]) (RunsTo.mkd [(2, { sp := some (.bool true) }), (5, { sp := some (.int .i64 (v6_7 - 1)) }), (6, { act := .idx 20000 (Int.toNat (v6_7 - 1)) }), (8, { act := .load 20000 (Int.toNat (v6_7 - 1)) 0 [.string ((l20000_7.getD (Int.toNat (v6_7 - 1)) dS_api_Item).Name), .int .i64 (((l20000_7.getD (Int.toNat (v6_7 - 1)) dS_api_Item).Version).Epoch), .int .i64 (((l20000_7.getD (Int.toNat (v6_7 - 1)) dS_api_Item).Version).N), .int .u32 ((l20000_7.getD (Int.toNat (v6_7 - 1)) dS_api_Item).Crc)] }), (10, { act := .load 20001 0 0 [] })] [3, 5, 6, 7, 8, 9, 31] [1, 20000, 20001] (fun _ => [((.bool (decide (v6_7 > 0))) : Value) = .bool true, ((.int .i64 (IntKind.i64.wrap (v6_7 - 1))) : Value) = .int .i64 (v6_7 - 1), (fr76 3).ob = (fr76 3).ob, l20000_7.length = (List.map S_api_Item.row l20000_7).length, ((v6_7 - 1) : Int) = (((Int.toNat (v6_7 - 1)) : Nat) : Int), (Int.toNat (v6_7 - 1)) < l20000_7.length, blk ((fr76 3).ob) = blk ((fr76 3).ob), offs ((fr76 3).ob) + (Int.toNat (v6_7 - 1)) * 4 = offs ((fr76 3).ob) + ((Int.toNat (v6_7 - 1)) * 4 + 0), (List.map S_api_Item.row l20000_7)[(Int.toNat (v6_7 - 1))]? = some [.string ((l20000_7.getD (Int.toNat (v6_7 - 1)) dS_api_Item).Name), .int .i64 (((l20000_7.getD (Int.toNat (v6_7 - 1)) dS_api_Item).Version).Epoch), .int .i64 (((l20000_7.getD (Int.toNat (v6_7 - 1)) dS_api_Item).Version).N), .int .u32 ((l20000_7.getD (Int.toNat (v6_7 - 1)) dS_api_Item).Crc)], (fr74 2).x = (fr74 2).x]) (by kernel_rfl) (by kernel_rfl) (fun _ => by kernel_rfl) (fun _ => ⟨bool_eq h103, I64.w g104, rfl, mlen S_api_Item.row l20000_7, g105.eq, g105.2, rfl, rfl, map_at S_api_Item.row dS_api_Item g105.2, rfl, trivial⟩)) ?_
          intro _
          refine GS.rekey (env' := [(3, .slice ((fr76 3).ob) l20000_7.length ((fr76 3).cap)), (5, .pointer (some ⟨(fr74 2).x, 0, none⟩)), (6, .int .i64 v6_7), (7, .slice a0_o a0.length a0_c), (8, .int .i64 ((a0.length : Nat) : Int)), (9, .int .i64 ((v9_1 : Nat) : Int)), (31, .bool (!(Op.bytesLess ((l20000_7.getD (Int.toNat (v6_7 - 1)) dS_api_Item).Name).toList x71.Name.toList || ((l20000_7.getD (Int.toNat (v6_7 - 1)) dS_api_Item).Name).toList == x71.Name.toList)))]) (mem' := [(1, r48 a0_o a0), (20000, o48 ((fr76 3).ob) ((fr76 3).cap) l20000_7), (20001, .cells ((fr74 2).x) 48 [.string x71.Name, .int .i64 x71.Version.Epoch, .int .i64 x71.Version.N, .int .u32 x71.Crc])]) [3, 5, 6, 7, 8, 9, 31] [(1, 1), (20000, 20000), (20001, 20001)] (by kernel_rfl) (by kernel_rfl) rfl ?_
          exact H105 (!(Op.bytesLess ((l20000_7.getD (Int.toNat (v6_7 - 1)) dS_api_Item).Name).toList x71.Name.toList || ((l20000_7.getD (Int.toNat (v6_7 - 1)) dS_api_Item).Name).toList == x71.Name.toList)) hm
        · skip
          refine GS.region (env' := fun _ => [(3, .slice ((fr76 3).ob) l20000_7.length ((fr76 3).cap)), (5, .pointer (some ⟨(fr74 2).x, 0, none⟩)), (6, .int .i64 v6_7), (7, .slice a0_o a0.length a0_c), (8, .int .i64 ((a0.length : Nat) : Int)), (9, .int .i64 ((v9_1 : Nat) : Int)), (31, .bool false)]) (mem' := fun _ => [(1, r48 a0_o a0), (20000, o48 ((fr76 3).ob) ((fr76 3).cap) l20000_7), (20001, .cells ((fr74 2).x) 48 [.string x71.Name, .int .i64 x71.Version.Epoch, .int .i64 x71.Version.N, .int .u32 x71.Crc])]) (RunsTo.mkd [(2, { sp := some (.bool false) })] [3, 5, 6, 7, 8, 9, 31] [1, 20000, 20001] (fun _ => [((.bool (decide (v6_7 > 0))) : Value) = .bool false]) (by kernel_rfl) (by kernel_rfl) (fun _ => by kernel_rfl) (fun _ => ⟨bool_eq h103, trivial⟩)) ?_
          intro _
          refine GS.rekey (env' := [(3, .slice ((fr76 3).ob) l20000_7.length ((fr76 3).cap)), (5, .pointer (some ⟨(fr74 2).x, 0, none⟩)), (6, .int .i64 v6_7), (7, .slice a0_o a0.length a0_c), (8, .int .i64 ((a0.length : Nat) : Int)), (9, .int .i64 ((v9_1 : Nat) : Int)), (31, .bool false)]) (mem' := [(1, r48 a0_o a0), (20000, o48 ((fr76 3).ob) ((fr76 3).cap) l20000_7), (20001, .cells ((fr74 2).x) 48 [.string x71.Name, .int .i64 x71.Version.Epoch, .int .i64 x71.Version.N, .int .u32 x71.Crc])]) [3, 5, 6, 7, 8, 9, 31] [(1, 1), (20000, 20000), (20001, 20001)] (by kernel_rfl) (by kernel_rfl) rfl ?_
          exact H105 false hm
      · rintro v31_10 hm
        replace hm := (hJ106 _).symm.trans hm
        try dsimp only at hm
        refine GS.cond (t := v31_10) rfl rfl (fun h107 => ?_) (fun h107 => ?_)
        · replace hm := br_t h107 hm
          refine GS.skip ?_
          refine GS.block ?_
          refine GS.seq ?_
          refine grd_elim hm (fun g109 hm => ?_)
          refine grd_elim hm (fun g110 hm => ?_)
          refine grd_elim hm (fun g111 hm => ?_)
          refine GS.region (env' := fun _ => [(3, .slice ((fr76 3).ob) l20000_7.length ((fr76 3).cap)), (5, .pointer (some ⟨(fr74 2).x, 0, none⟩)), (6, .int .i64 v6_7), (7, .slice a0_o a0.length a0_c), (8, .int .i64 ((a0.length : Nat) : Int)), (9, .int .i64 ((v9_1 : Nat) : Int))]) (mem' := fun _ => [(1, r48 a0_o a0), (20000, .osl ((fr76 3).ob) ((fr76 3).cap) 48 4 ((List.map S_api_Item.row l20000_7).set (Int.toNat v6_7) [.string ((l20000_7.getD (Int.toNat (v6_7 - 1)) dS_api_Item).Name), .int .i64 (((l20000_7.getD (Int.toNat (v6_7 - 1)) dS_api_Item).Version).Epoch), .int .i64 (((l20000_7.getD (Int.toNat (v6_7 - 1)) dS_api_Item).Version).N), .int .u32 ((l20000_7.getD (Int.toNat (v6_7 - 1)) dS_api_Item).Crc)])), (20001, .cells ((fr74 2).x) 48 [.string x71.Name, .int .i64 x71.Version.Epoch, .int .i64 x71.Version.N, .int .u32 x71.Crc])]) (RunsTo.mk [(4, { sp := some (.int .i64 (v6_7 - 1)) }), (5, { act := .idx 20000 (Int.toNat (v6_7 - 1)) }), (6, { act := .load 20000 (Int.toNat (v6_7 - 1)) 0 [.string ((l20000_7.getD (Int.toNat (v6_7 - 1)) dS_api_Item).Name), .int .i64 (((l20000_7.getD (Int.toNat (v6_7 - 1)) dS_api_Item).Version).Epoch), .int .i64 (((l20000_7.getD (Int.toNat (v6_7 - 1)) dS_api_Item).Version).N), .int .u32 ((l20000_7.getD (Int.toNat (v6_7 - 1)) dS_api_Item).Crc)] }), (7, { act := .idx 20000 (Int.toNat v6_7) }), (8, { act := .store (Int.toNat v6_7) 0 [.string ((l20000_7.getD (Int.toNat v6_7) dS_api_Item).Name), .int .i64 (((l20000_7.getD (Int.toNat v6_7) dS_api_Item).Version).Epoch), .int .i64 (((l20000_7.getD (Int.toNat v6_7) dS_api_Item).Version).N), .int .u32 ((l20000_7.getD (Int.toNat v6_7) dS_api_Item).Crc)], key := some 20000 })] [3, 5, 6, 7, 8, 9] [1, 20000, 20001] (fun _ => [((.int .i64 (IntKind.i64.wrap (v6_7 - 1))) : Value) = .int .i64 (v6_7 - 1), (fr76 3).ob = (fr76 3).ob, l20000_7.length = (List.map S_api_Item.row l20000_7).length, ((v6_7 - 1) : Int) = (((Int.toNat (v6_7 - 1)) : Nat) : Int), (Int.toNat (v6_7 - 1)) < l20000_7.length, blk ((fr76 3).ob) = blk ((fr76 3).ob), offs ((fr76 3).ob) + (Int.toNat (v6_7 - 1)) * 4 = offs ((fr76 3).ob) + ((Int.toNat (v6_7 - 1)) * 4 + 0), (List.map S_api_Item.row l20000_7)[(Int.toNat (v6_7 - 1))]? = some [.string ((l20000_7.getD (Int.toNat (v6_7 - 1)) dS_api_Item).Name), .int .i64 (((l20000_7.getD (Int.toNat (v6_7 - 1)) dS_api_Item).Version).Epoch), .int .i64 (((l20000_7.getD (Int.toNat (v6_7 - 1)) dS_api_Item).Version).N), .int .u32 ((l20000_7.getD (Int.toNat (v6_7 - 1)) dS_api_Item).Crc)], (fr76 3).ob = (fr76 3).ob, l20000_7.length = (List.map S_api_Item.row l20000_7).length, (v6_7 : Int) = (((Int.toNat v6_7) : Nat) : Int), (Int.toNat v6_7) < l20000_7.length, blk ((fr76 3).ob) = blk ((fr76 3).ob), offs ((fr76 3).ob) + (Int.toNat v6_7) * 4 = offs ((fr76 3).ob) + ((Int.toNat v6_7) * 4 + 0), (List.map S_api_Item.row l20000_7)[(Int.toNat v6_7)]? = some [.string ((l20000_7.getD (Int.toNat v6_7) dS_api_Item).Name), .int .i64 (((l20000_7.getD (Int.toNat v6_7) dS_api_Item).Version).Epoch), .int .i64 (((l20000_7.getD (Int.toNat v6_7) dS_api_Item).Version).N), .int .u32 ((l20000_7.getD (Int.toNat v6_7) dS_api_Item).Crc)], ((.agg #[.string ((l20000_7.getD (Int.toNat (v6_7 - 1)) dS_api_Item).Name), .int .i64 (((l20000_7.getD (Int.toNat (v6_7 - 1)) dS_api_Item).Version).Epoch), .int .i64 (((l20000_7.getD (Int.toNat (v6_7 - 1)) dS_api_Item).Version).N), .int .u32 ((l20000_7.getD (Int.toNat (v6_7 - 1)) dS_api_Item).Crc)]) : Value).cells.toList.all Value.oneCell' = true]) (fun _ => by kernel_rfl) (fun _ => ⟨I64.w g109, rfl, mlen S_api_Item.row l20000_7, g110.eq, g110.2, rfl, rfl, map_at S_api_Item.row dS_api_Item g110.2, rfl, mlen S_api_Item.row l20000_7, g111.eq, g111.2, rfl, rfl, map_at S_api_Item.row dS_api_Item g111.2, rfl, trivial⟩)) ?_
          intro _
          refine GS.conv (mem' := [(1, r48 a0_o a0), (20000, o48 ((fr76 3).ob) ((fr76 3).cap) (l20000_7.set (Int.toNat v6_7) (l20000_7.getD (Int.toNat (v6_7 - 1)) dS_api_Item))), (20001, .cells ((fr74 2).x) 48 [.string x71.Name, .int .i64 x71.Version.Epoch, .int .i64 x71.Version.N, .int .u32 x71.Crc])]) rfl (congrArg (fun rr : List (List Value) => ([(1, r48 a0_o a0), (20000, .osl ((fr76 3).ob) ((fr76 3).cap) 48 4 rr), (20001, .cells ((fr74 2).x) 48 [.string x71.Name, .int .i64 x71.Version.Epoch, .int .i64 x71.Version.N, .int .u32 x71.Crc])] : List (Nat × Ent))) (show (List.map S_api_Item.row l20000_7).set (Int.toNat v6_7) [.string ((l20000_7.getD (Int.toNat (v6_7 - 1)) dS_api_Item).Name), .int .i64 (((l20000_7.getD (Int.toNat (v6_7 - 1)) dS_api_Item).Version).Epoch), .int .i64 (((l20000_7.getD (Int.toNat (v6_7 - 1)) dS_api_Item).Version).N), .int .u32 ((l20000_7.getD (Int.toNat (v6_7 - 1)) dS_api_Item).Crc)] = List.map S_api_Item.row (l20000_7.set (Int.toNat v6_7) (l20000_7.getD (Int.toNat (v6_7 - 1)) dS_api_Item)) from mset S_api_Item.row l20000_7 (Int.toNat v6_7) (l20000_7.getD (Int.toNat (v6_7 - 1)) dS_api_Item))) ?_
          refine GS.conv (env' := [(3, .slice ((fr76 3).ob) ((l20000_7.set (Int.toNat v6_7) (l20000_7.getD (Int.toNat (v6_7 - 1)) dS_api_Item)).length) ((fr76 3).cap)), (5, .pointer (some ⟨(fr74 2).x, 0, none⟩)), (6, .int .i64 v6_7), (7, .slice a0_o a0.length a0_c), (8, .int .i64 ((a0.length : Nat) : Int)), (9, .int .i64 ((v9_1 : Nat) : Int))]) (congrArg (fun vhole : Value => [(3, vhole), (5, .pointer (some ⟨(fr74 2).x, 0, none⟩)), (6, .int .i64 v6_7), (7, .slice a0_o a0.length a0_c), (8, .int .i64 ((a0.length : Nat) : Int)), (9, .int .i64 ((v9_1 : Nat) : Int))]) (show ((.slice ((fr76 3).ob) l20000_7.length ((fr76 3).cap)) : Value) = .slice ((fr76 3).ob) ((l20000_7.set (Int.toNat v6_7) (l20000_7.getD (Int.toNat (v6_7 - 1)) dS_api_Item)).length) ((fr76 3).cap) from (by simp []))) rfl ?_
          refine GS.region (env' := fun _ => [(3, .slice ((fr76 3).ob) ((l20000_7.set (Int.toNat v6_7) (l20000_7.getD (Int.toNat (v6_7 - 1)) dS_api_Item)).length) ((fr76 3).cap)), (5, .pointer (some ⟨(fr74 2).x, 0, none⟩)), (6, .int .i64 (v6_7 - 1)), (7, .slice a0_o a0.length a0_c), (8, .int .i64 ((a0.length : Nat) : Int)), (9, .int .i64 ((v9_1 : Nat) : Int))]) (mem' := fun _ => [(1, r48 a0_o a0), (20000, o48 ((fr76 3).ob) ((fr76 3).cap) (l20000_7.set (Int.toNat v6_7) (l20000_7.getD (Int.toNat (v6_7 - 1)) dS_api_Item))), (20001, .cells ((fr74 2).x) 48 [.string x71.Name, .int .i64 x71.Version.Epoch, .int .i64 x71.Version.N, .int .u32 x71.Crc])]) (RunsTo.mk [(1, { sp := some (.int .i64 (v6_7 - 1)) })] [3, 5, 6, 7, 8, 9] [1, 20000, 20001] (fun _ => [((.int .i64 (IntKind.i64.wrap (v6_7 - 1))) : Value) = .int .i64 (v6_7 - 1)]) (fun _ => by kernel_rfl) (fun _ => ⟨I64.w g109, trivial⟩)) ?_
          intro _
          refine GS.inBlock ?_
          refine GS.inLoop ?_
          refine GS.rekey (env' := [(3, .slice ((fr76 3).ob) ((l20000_7.set (Int.toNat v6_7) (l20000_7.getD (Int.toNat (v6_7 - 1)) dS_api_Item)).length) ((fr76 3).cap)), (5, .pointer (some ⟨(fr74 2).x, 0, none⟩)), (6, .int .i64 (v6_7 - 1)), (7, .slice a0_o a0.length a0_c), (8, .int .i64 ((a0.length : Nat) : Int)), (9, .int .i64 ((v9_1 : Nat) : Int))]) (mem' := [(1, r48 a0_o a0), (20000, o48 ((fr76 3).ob) ((fr76 3).cap) (l20000_7.set (Int.toNat v6_7) (l20000_7.getD (Int.toNat (v6_7 - 1)) dS_api_Item))), (20001, .cells ((fr74 2).x) 48 [.string x71.Name, .int .i64 x71.Version.Epoch, .int .i64 x71.Version.N, .int .u32 x71.Crc])]) [3, 5, 6, 7, 8, 9] [(1, 1), (20000, 20000), (20001, 20001)] (by kernel_rfl) (by kernel_rfl) rfl ?_
          exact ih115 ⟨rs114, (v6_7 - 1), (l20000_7.set (Int.toNat v6_7) (l20000_7.getD (Int.toNat (v6_7 - 1)) dS_api_Item))⟩ hm (Nat.lt_succ_self _)
        · replace hm := br_f h107 hm
          refine GS.exit rfl ?_
          refine grd_elim hm (fun g121 hm => ?_)
          refine GS.region (env' := fun _ => [(3, .slice ((fr76 3).ob) l20000_7.length ((fr76 3).cap)), (7, .slice a0_o a0.length a0_c), (8, .int .i64 ((a0.length : Nat) : Int)), (9, .int .i64 ((v9_1 : Nat) : Int))]) (mem' := fun _ => [(1, r48 a0_o a0), (20000, .osl ((fr76 3).ob) ((fr76 3).cap) 48 4 ((List.map S_api_Item.row l20000_7).set (Int.toNat v6_7) [.string x71.Name, .int .i64 x71.Version.Epoch, .int .i64 x71.Version.N, .int .u32 x71.Crc]))]) (RunsTo.mk [(2, { act := .load 20001 0 0 [] }), (3, { act := .idx 20000 (Int.toNat v6_7) }), (4, { act := .store (Int.toNat v6_7) 0 [.string ((l20000_7.getD (Int.toNat v6_7) dS_api_Item).Name), .int .i64 (((l20000_7.getD (Int.toNat v6_7) dS_api_Item).Version).Epoch), .int .i64 (((l20000_7.getD (Int.toNat v6_7) dS_api_Item).Version).N), .int .u32 ((l20000_7.getD (Int.toNat v6_7) dS_api_Item).Crc)], key := some 20000 })] [3, 7, 8, 9] [1, 20000] (fun _ => [(fr74 2).x = (fr74 2).x, (fr76 3).ob = (fr76 3).ob, l20000_7.length = (List.map S_api_Item.row l20000_7).length, (v6_7 : Int) = (((Int.toNat v6_7) : Nat) : Int), (Int.toNat v6_7) < l20000_7.length, blk ((fr76 3).ob) = blk ((fr76 3).ob), offs ((fr76 3).ob) + (Int.toNat v6_7) * 4 = offs ((fr76 3).ob) + ((Int.toNat v6_7) * 4 + 0), (List.map S_api_Item.row l20000_7)[(Int.toNat v6_7)]? = some [.string ((l20000_7.getD (Int.toNat v6_7) dS_api_Item).Name), .int .i64 (((l20000_7.getD (Int.toNat v6_7) dS_api_Item).Version).Epoch), .int .i64 (((l20000_7.getD (Int.toNat v6_7) dS_api_Item).Version).N), .int .u32 ((l20000_7.getD (Int.toNat v6_7) dS_api_Item).Crc)], ((.agg #[.string x71.Name, .int .i64 x71.Version.Epoch, .int .i64 x71.Version.N, .int .u32 x71.Crc]) : Value).cells.toList.all Value.oneCell' = true]) (fun _ => by kernel_rfl) (fun _ => ⟨rfl, rfl, mlen S_api_Item.row l20000_7, g121.eq, g121.2, rfl, rfl, map_at S_api_Item.row dS_api_Item g121.2, rfl, trivial⟩)) ?_
          intro _
          refine GS.conv (mem' := [(1, r48 a0_o a0), (20000, o48 ((fr76 3).ob) ((fr76 3).cap) (l20000_7.set (Int.toNat v6_7) x71))]) rfl (congrArg (fun rr : List (List Value) => ([(1, r48 a0_o a0), (20000, .osl ((fr76 3).ob) ((fr76 3).cap) 48 4 rr)] : List (Nat × Ent))) (show (List.map S_api_Item.row l20000_7).set (Int.toNat v6_7) [.string x71.Name, .int .i64 x71.Version.Epoch, .int .i64 x71.Version.N, .int .u32 x71.Crc] = List.map S_api_Item.row (l20000_7.set (Int.toNat v6_7) x71) from mset S_api_Item.row l20000_7 (Int.toNat v6_7) x71)) ?_
          refine GS.inBlock ?_
          refine GS.conv (env' := [(3, .slice ((fr76 3).ob) ((l20000_7.set (Int.toNat v6_7) x71).length) ((fr76 3).cap)), (7, .slice a0_o a0.length a0_c), (8, .int .i64 ((a0.length : Nat) : Int)), (9, .int .i64 ((v9_1 : Nat) : Int))]) (congrArg (fun vhole : Value => [(3, vhole), (7, .slice a0_o a0.length a0_c), (8, .int .i64 ((a0.length : Nat) : Int)), (9, .int .i64 ((v9_1 : Nat) : Int))]) (show ((.slice ((fr76 3).ob) l20000_7.length ((fr76 3).cap)) : Value) = .slice ((fr76 3).ob) ((l20000_7.set (Int.toNat v6_7) x71).length) ((fr76 3).cap) from (by simp []))) rfl ?_
          refine GS.region (env' := fun _ => [(3, .slice ((fr76 3).ob) ((l20000_7.set (Int.toNat v6_7) x71).length) ((fr76 3).cap)), (7, .slice a0_o a0.length a0_c), (8, .int .i64 ((a0.length : Nat) : Int)), (9, .int .i64 ((v9_1 + 1 : Nat) : Int))]) (mem' := fun _ => [(1, r48 a0_o a0), (20000, o48 ((fr76 3).ob) ((fr76 3).cap) (l20000_7.set (Int.toNat v6_7) x71))]) (RunsTo.mk [(0, { sp := some (.int .i64 ((v9_1 + 1 : Nat) : Int)) })] [3, 7, 8, 9] [1, 20000] (fun _ => [((.int .i64 (IntKind.i64.wrap (((v9_1 : Nat) : Int) + 1))) : Value) = .int .i64 ((v9_1 + 1 : Nat) : Int)]) (fun _ => by kernel_rfl) (fun _ => ⟨natw (drop_lt hd69) g70, trivial⟩)) ?_
          intro _
          refine GS.inLoop ?_
          refine GS.rekey (env' := [(3, .slice ((fr76 3).ob) ((l20000_7.set (Int.toNat v6_7) x71).length) ((fr76 3).cap)), (7, .slice a0_o a0.length a0_c), (8, .int .i64 ((a0.length : Nat) : Int)), (9, .int .i64 ((v9_1 + 1 : Nat) : Int))]) (mem' := [(1, r48 a0_o a0), (20000, o48 ((fr76 3).ob) ((fr76 3).cap) (l20000_7.set (Int.toNat v6_7) x71))]) [3, 7, 8, 9] [(1, 1), (20000, 20000)] (by kernel_rfl) (by kernel_rfl) rfl ?_
          exact ih127 ⟨rs126, v9_1 + 1, (l20000_7.set (Int.toNat v6_7) x71), (fr76 3).ob, (fr76 3).cap⟩ ⟨drop_next hd69, hm⟩ (Nat.lt_succ_self _)

theorem w_tholeref20_Batch (F : Nat) (a0_o : Option Addr) (a0_c : Nat) (a0 : List S_api_Item) (a1 : ByteArray) (a2 : Int) {y : List S_api_Item × Bool} (hm : m_tholeref20_Batch F a0 a1 a2 = some y) : CallG Try.prog 15 #[.slice a0_o a0.length a0_c, .string a1, .int .i64 a2] (X := Option Addr × Nat) (fun ⟨x0, x1⟩ => .tuple #[.slice x0 y.1.length x1, .bool y.2]) [] [r48 a0_o a0] (fun ⟨x0, x1⟩ => [o48 x0 x1 y.1]) := by
  intro w hg
  rw [m_tholeref20_Batch] at hm
  refine GS.start (S := mayT [] [r48 a0_o a0]) (mem := [(1, r48 a0_o a0)]) Try.func15 rfl Try.ntmps15 (Nat.le_of_ble_eq_true rfl) (hg.start rfl) ?_
  refine GS.conv (env' := [(0, .slice a0_o a0.length a0_c), (1, .string a1), (2, .int .i64 a2)]) rfl rfl ?_
  refine GS.seq ?_
  refine GS.region (env' := fun _ => [(0, .slice a0_o a0.length a0_c), (1, .string a1), (2, .int .i64 a2)]) (mem' := fun _ => [(1, r48 a0_o a0)]) (RunsTo.mk [] [0, 1, 2] [1] (fun _ => []) (fun _ => by kernel_rfl) (fun _ => trivial)) ?_
  intro _
  refine GS.seq ?_
  refine GS.seq ?_
  refine GS.region (env' := fun _ => [(0, .slice a0_o a0.length a0_c), (1, .string a1), (2, .int .i64 a2), (12, .bool (decide (a2 < 1)))]) (mem' := fun _ => [(1, r48 a0_o a0)]) (RunsTo.mk [] [0, 1, 2, 12] [1] (fun _ => []) (fun _ => by kernel_rfl) (fun _ => trivial)) ?_
  intro _
  refine jn_elim hm (fun J5 hJ7 hm => ?_)
  refine GS.cut (ι := Int) (I := fun (v2_1 : Int) => J5 v2_1 = some y) (E := fun (v2_1 : Int) => [(0, .slice a0_o a0.length a0_c), (1, .string a1), (2, .int .i64 v2_1)]) (M := fun (v2_1 : Int) => [(1, r48 a0_o a0)]) ?_ ?_
  rotate_left
  · intro H6
    refine GS.cond (t := decide (a2 < 1)) rfl rfl (fun h3 => ?_) (fun h3 => ?_)
    · replace hm := br_t h3 hm
      refine GS.region (env' := fun _ => [(0, .slice a0_o a0.length a0_c), (1, .string a1), (2, .int .i64 1)]) (mem' := fun _ => [(1, r48 a0_o a0)]) (RunsTo.mk [] [0, 1, 2] [1] (fun _ => []) (fun _ => by kernel_rfl) (fun _ => trivial)) ?_
      intro _
      refine GS.rekey (env' := [(0, .slice a0_o a0.length a0_c), (1, .string a1), (2, .int .i64 1)]) (mem' := [(1, r48 a0_o a0)]) [0, 1, 2] [(1, 1)] (by kernel_rfl) (by kernel_rfl) rfl ?_
      exact H6 1 hm
    · replace hm := br_f h3 hm
      refine GS.skip ?_
      refine GS.rekey (env' := [(0, .slice a0_o a0.length a0_c), (1, .string a1), (2, .int .i64 a2)]) (mem' := [(1, r48 a0_o a0)]) [0, 1, 2] [(1, 1)] (by kernel_rfl) (by kernel_rfl) rfl ?_
      exact H6 a2 hm
  · rintro v2_1 hm
    replace hm := (hJ7 _).symm.trans hm
    try dsimp only at hm
    refine GS.seq ?_
    refine GS.region (env' := fun _ => [(0, .slice a0_o a0.length a0_c), (1, .string a1), (2, .int .i64 v2_1), (8, .slice none 0 0)]) (mem' := fun _ => [(1, r48 a0_o a0)]) (RunsTo.mk [] [0, 1, 2, 8] [1] (fun _ => []) (fun _ => by kernel_rfl) (fun _ => trivial)) ?_
    intro _
    refine GS.seq ?_
    refine GS.seq ?_
    refine bnd_elim hm (fun y10 e11 hm => ?_)
    refine GS.open_ ?_
    refine GR.run (i := 0) 1 (env' := fun _ => [(1, .string a1), (2, .int .i64 v2_1), (8, .slice none 0 0), (13, .slice a0_o a0.length a0_c)]) (mem' := fun _ => [(1, r48 a0_o a0)]) (Nat.le_of_ble_eq_true (by kernel_rfl)) (RunsTo.mk [] [1, 2, 8, 13] [1] (fun _ => []) (fun _ => by kernel_rfl) (fun _ => trivial)) ?_
    intro _
    refine GR.callG (X := Option Addr × Nat) (i := 1) (g := 30) (args := #[.slice a0_o a0.length a0_c]) (v := fun ⟨x12, x13⟩ => .slice x12 y10.length x13) (own := []) (ro := [r48 a0_o a0]) (es' := fun ⟨x12, x13⟩ => [o48 x12 x13 y10]) (mem' := fun ⟨x12, x13⟩ => [(1, r48 a0_o a0), (2, o48 x12 x13 y10)]) (env' := fun ⟨x12, x13⟩ => [(1, .string a1), (2, .int .i64 v2_1), (8, .slice none 0 0), (14, .slice x12 y10.length x13)]) [] [2] [1, 2, 8, 14] [1, 2] false (by kernel_rfl) (by kernel_rfl) (by kernel_rfl) (by kernel_rfl) (by kernel_rfl) (fun _ => rfl) (fun _ _ => rfl) ⟨(.inl ⟨1, _, rfl, rfl, Cov.refl _, fun h => by cases h⟩), trivial⟩ (by rintro ⟨x12, x13⟩; kernel_rfl) (by rintro ⟨x12, x13⟩; kernel_rfl) (w_tholeref20_sorted F a0_o a0_c a0 e11) ?_
    rintro ⟨x12, x13⟩
    refine GR.run (i := 2) 2 (env' := fun _ => [(1, .string a1), (2, .int .i64 v2_1), (8, .slice none 0 0), (14, .slice x12 y10.length x13), (15, .int .i64 ((y10.length : Nat) : Int)), (16, .int .i64 0)]) (mem' := fun _ => [(2, o48 x12 x13 y10)]) (Nat.le_of_ble_eq_true (by kernel_rfl)) (RunsTo.mk [] [1, 2, 8, 14, 15, 16] [2] (fun _ => []) (fun _ => by kernel_rfl) (fun _ => trivial)) ?_
    intro _
    refine GR.done (Nat.le_of_ble_eq_true (by kernel_rfl)) ?_
    refine GS.block ?_
    refine GS.loop ?_
    refine GS.know (p := y10.length ≤ x13) (fun w hw => by first | (have h := (hw.ok 2 _ rfl).1.1; rw [List.length_map] at h; exact h) | simpa using (hw.ok 2 _ rfl).1.1) (fun k15 => ?_)
    refine grd_elim hm (fun g50 hm => ?_)
    refine GS.setMem (mem' := [(2, o48 x12 x13 y10), (20001, o48 none 0 ([] : List S_api_Item))]) (fun w hw => Sat.addNil hw rfl) ?_
    refine GS.rekey (env' := [(1, .string a1), (2, .int .i64 v2_1), (8, .slice none 0 0), (14, .slice x12 y10.length x13), (15, .int .i64 ((y10.length : Nat) : Int)), (16, .int .i64 0)]) (mem' := [(2, o48 x12 x13 y10), (20000, o48 none 0 ([] : List S_api_Item))]) [1, 2, 8, 14, 15, 16] [(2, 2), (20000, 20001)] (by kernel_rfl) (by kernel_rfl) rfl ?_
    refine loopL_elim hm (fun st73 fn74 hst75 hfn76 hm => ?_)
    refine GS.loopInv (ι := List S_api_Item × Nat × List S_api_Item × Option Addr × Nat) (I := fun ⟨rs71, v16_2, l20000_2, o20000_2, k20000_2⟩ => y10.drop v16_2 = rs71 ∧ loopL st73 fn74 rs71 v16_2 l20000_2 = some y) (μ := fun ⟨rs71, v16_2, l20000_2, o20000_2, k20000_2⟩ => rs71.length) (E := fun ⟨rs71, v16_2, l20000_2, o20000_2, k20000_2⟩ => [(1, .string a1), (2, .int .i64 v2_1), (8, .slice o20000_2 l20000_2.length k20000_2), (14, .slice x12 y10.length x13), (15, .int .i64 ((y10.length : Nat) : Int)), (16, .int .i64 ((v16_2 : Nat) : Int))]) (M := fun ⟨rs71, v16_2, l20000_2, o20000_2, k20000_2⟩ => [(2, o48 x12 x13 y10), (20000, o48 o20000_2 k20000_2 l20000_2)]) ?_ ⟨y10, 0, ([] : List S_api_Item), none, 0⟩ ⟨List.drop_zero .., hm⟩
    rintro ⟨rs71, v16_2, l20000_2, o20000_2, k20000_2⟩ ⟨hd49, hm⟩ ih72
    cases rs71 with
    | nil =>
      replace hm := (hfn76 _ _).symm.trans hm
      try dsimp only at hm
      refine GS.seq ?_
      refine GS.region (env' := fun _ => [(1, .string a1), (2, .int .i64 v2_1), (8, .slice o20000_2 l20000_2.length k20000_2), (14, .slice x12 y10.length x13), (15, .int .i64 ((y10.length : Nat) : Int)), (16, .int .i64 ((v16_2 : Nat) : Int)), (17, .bool (decide (((v16_2 : Nat) : Int) < ((y10.length : Nat) : Int))))]) (mem' := fun _ => [(2, o48 x12 x13 y10), (20000, o48 o20000_2 k20000_2 l20000_2)]) (RunsTo.mk [] [1, 2, 8, 14, 15, 16, 17] [2, 20000] (fun _ => []) (fun _ => by kernel_rfl) (fun _ => trivial)) ?_
      intro _
      refine GS.seq ?_
      refine GS.cond (t := decide (((v16_2 : Nat) : Int) < ((y10.length : Nat) : Int))) rfl rfl (fun h69 => absb h69 (drop_dec0 hd49)) (fun _ => ?_)
      refine GS.exit rfl ?_
      refine GS.seq ?_
      refine GS.region (env' := fun _ => [(6, .slice o20000_2 l20000_2.length k20000_2), (7, .bool false)]) (mem' := fun _ => [(20000, o48 o20000_2 k20000_2 l20000_2)]) (RunsTo.mk [] [6, 7] [20000] (fun _ => []) (fun _ => by kernel_rfl) (fun _ => trivial)) ?_
      intro _
      have hy := Option.some.inj hm
      subst hy
      refine GS.ret (fn := Try.f15) [0, 0] [.slice o20000_2 l20000_2.length k20000_2, .bool false] [] rfl Try.func15 (by kernel_rfl) trivial (fun w' hs => ?_)
      exact ⟨⟨o20000_2, k20000_2⟩, rfl, hs.turnedG (ks := [20000]) rfl rfl⟩
    | cons x51 rs71 =>
      replace hm := (hst75 _ _ _ _).symm.trans hm
      try dsimp only at hm
      refine GS.seq ?_
      refine GS.region (env' := fun _ => [(1, .string a1), (2, .int .i64 v2_1), (8, .slice o20000_2 l20000_2.length k20000_2), (14, .slice x12 y10.length x13), (15, .int .i64 ((y10.length : Nat) : Int)), (16, .int .i64 ((v16_2 : Nat) : Int)), (17, .bool (decide (((v16_2 : Nat) : Int) < ((y10.length : Nat) : Int))))]) (mem' := fun _ => [(2, o48 x12 x13 y10), (20000, o48 o20000_2 k20000_2 l20000_2)]) (RunsTo.mk [] [1, 2, 8, 14, 15, 16, 17] [2, 20000] (fun _ => []) (fun _ => by kernel_rfl) (fun _ => trivial)) ?_
      intro _
      refine GS.seq ?_
      refine GS.cond (t := decide (((v16_2 : Nat) : Int) < ((y10.length : Nat) : Int))) rfl rfl (fun _ => ?_) (fun h53 => absb (drop_dec hd49) h53)
      refine GS.skip ?_
      refine GS.seq ?_
      refine GS.block ?_
      refine GS.seq ?_
      refine GS.region (env' := fun fr54 => [(1, .string a1), (2, .int .i64 v2_1), (8, .slice o20000_2 l20000_2.length k20000_2), (10, .pointer (some ⟨(fr54 2).x, 0, none⟩)), (14, .slice x12 y10.length x13), (15, .int .i64 ((y10.length : Nat) : Int)), (16, .int .i64 ((v16_2 : Nat) : Int))]) (mem' := fun fr54 => [(2, o48 x12 x13 y10), (20000, o48 o20000_2 k20000_2 l20000_2), (20001, .cells ((fr54 2).x) 48 [.string x51.Name, .int .i64 x51.Version.Epoch, .int .i64 x51.Version.N, .int .u32 x51.Crc])]) (RunsTo.mk [(0, { act := .idx 2 v16_2 }), (1, { act := .load 2 v16_2 0 [.string x51.Name, .int .i64 x51.Version.Epoch, .int .i64 x51.Version.N, .int .u32 x51.Crc] }), (2, { act := .new .var, key := some 20001 }), (3, { act := .store 0 0 [], key := some 20001 })] [1, 2, 8, 10, 14, 15, 16] [2, 20000, 20001] (fun fr54 => [x12 = x12, y10.length = (List.map S_api_Item.row y10).length, (((v16_2 : Nat) : Int) : Int) = ((v16_2 : Nat) : Int), v16_2 < y10.length, blk x12 = blk x12, offs x12 + v16_2 * 4 = offs x12 + (v16_2 * 4 + 0), (List.map S_api_Item.row y10)[v16_2]? = some [.string x51.Name, .int .i64 x51.Version.Epoch, .int .i64 x51.Version.N, .int .u32 x51.Crc], (fr54 2).x = (fr54 2).x, ((.agg #[.string x51.Name, .int .i64 x51.Version.Epoch, .int .i64 x51.Version.N, .int .u32 x51.Crc]) : Value).cells.toList.all Value.oneCell' = true]) (fun fr54 => by kernel_rfl) (fun fr54 => ⟨rfl, mlen S_api_Item.row y10, rfl, (drop_lt hd49), rfl, rfl, map_drop S_api_Item.row hd49, rfl, rfl, trivial⟩)) ?_
      intro fr54
      refine GS.seq ?_
      refine GS.seq ?_
      refine GS.region (env' := fun _ => [(1, .string a1), (2, .int .i64 v2_1), (8, .slice o20000_2 l20000_2.length k20000_2), (10, .pointer (some ⟨(fr54 2).x, 0, none⟩)), (14, .slice x12 y10.length x13), (15, .int .i64 ((y10.length : Nat) : Int)), (16, .int .i64 ((v16_2 : Nat) : Int)), (23, .bool (Op.bytesLess x51.Name.toList a1.toList || x51.Name.toList == a1.toList))]) (mem' := fun _ => [(2, o48 x12 x13 y10), (20000, o48 o20000_2 k20000_2 l20000_2), (20001, .cells ((fr54 2).x) 48 [.string x51.Name, .int .i64 x51.Version.Epoch, .int .i64 x51.Version.N, .int .u32 x51.Crc])]) (RunsTo.mk [(1, { act := .load 20001 0 0 [] })] [1, 2, 8, 10, 14, 15, 16, 23] [2, 20000, 20001] (fun _ => [(fr54 2).x = (fr54 2).x]) (fun _ => by kernel_rfl) (fun _ => ⟨rfl, trivial⟩)) ?_
      intro _
      refine GS.cond (t := Op.bytesLess x51.Name.toList a1.toList || x51.Name.toList == a1.toList) rfl rfl (fun h56 => ?_) (fun h56 => ?_)
      · replace hm := br_t h56 hm
        refine GS.exit rfl ?_
        refine GS.region (env' := fun _ => [(1, .string a1), (2, .int .i64 v2_1), (8, .slice o20000_2 l20000_2.length k20000_2), (14, .slice x12 y10.length x13), (15, .int .i64 ((y10.length : Nat) : Int)), (16, .int .i64 ((v16_2 + 1 : Nat) : Int))]) (mem' := fun _ => [(2, o48 x12 x13 y10), (20000, o48 o20000_2 k20000_2 l20000_2)]) (RunsTo.mk [(0, { sp := some (.int .i64 ((v16_2 + 1 : Nat) : Int)) })] [1, 2, 8, 14, 15, 16] [2, 20000] (fun _ => [((.int .i64 (IntKind.i64.wrap (((v16_2 : Nat) : Int) + 1))) : Value) = .int .i64 ((v16_2 + 1 : Nat) : Int)]) (fun _ => by kernel_rfl) (fun _ => ⟨natw (drop_lt hd49) g50, trivial⟩)) ?_
        intro _
        refine GS.inLoop ?_
        refine GS.rekey (env' := [(1, .string a1), (2, .int .i64 v2_1), (8, .slice o20000_2 l20000_2.length k20000_2), (14, .slice x12 y10.length x13), (15, .int .i64 ((y10.length : Nat) : Int)), (16, .int .i64 ((v16_2 + 1 : Nat) : Int))]) (mem' := [(2, o48 x12 x13 y10), (20000, o48 o20000_2 k20000_2 l20000_2)]) [1, 2, 8, 14, 15, 16] [(2, 2), (20000, 20000)] (by kernel_rfl) (by kernel_rfl) rfl ?_
        exact ih72 ⟨rs71, v16_2 + 1, l20000_2, o20000_2, k20000_2⟩ ⟨drop_next hd49, hm⟩ (Nat.lt_succ_self _)
      · replace hm := br_f h56 hm
        refine GS.skip ?_
        refine GS.seq ?_
        refine GS.seq ?_
        refine GS.region (env' := fun _ => [(1, .string a1), (2, .int .i64 v2_1), (8, .slice o20000_2 l20000_2.length k20000_2), (10, .pointer (some ⟨(fr54 2).x, 0, none⟩)), (14, .slice x12 y10.length x13), (15, .int .i64 ((y10.length : Nat) : Int)), (16, .int .i64 ((v16_2 : Nat) : Int)), (27, .bool (((l20000_2.length : Nat) : Int) == v2_1))]) (mem' := fun _ => [(2, o48 x12 x13 y10), (20000, o48 o20000_2 k20000_2 l20000_2), (20001, .cells ((fr54 2).x) 48 [.string x51.Name, .int .i64 x51.Version.Epoch, .int .i64 x51.Version.N, .int .u32 x51.Crc])]) (RunsTo.mk [] [1, 2, 8, 10, 14, 15, 16, 27] [2, 20000, 20001] (fun _ => []) (fun _ => by kernel_rfl) (fun _ => trivial)) ?_
        intro _
        refine GS.cond (t := ((l20000_2.length : Nat) : Int) == v2_1) rfl rfl (fun h58 => ?_) (fun h58 => ?_)
        · replace hm := br_t h58 hm
          refine GS.seq ?_
          refine GS.region (env' := fun _ => [(6, .slice o20000_2 l20000_2.length k20000_2), (7, .bool true)]) (mem' := fun _ => [(20000, o48 o20000_2 k20000_2 l20000_2)]) (RunsTo.mk [] [6, 7] [20000] (fun _ => []) (fun _ => by kernel_rfl) (fun _ => trivial)) ?_
          intro _
          have hy := Option.some.inj hm
          subst hy
          refine GS.ret (fn := Try.f15) [0, 0] [.slice o20000_2 l20000_2.length k20000_2, .bool true] [] rfl Try.func15 (by kernel_rfl) trivial (fun w' hs => ?_)
          exact ⟨⟨o20000_2, k20000_2⟩, rfl, hs.turnedG (ks := [20000]) rfl rfl⟩
        · replace hm := br_f h58 hm
          refine GS.skip ?_
          refine grd_elim hm (fun g61 hm => ?_)
          refine GS.region (env' := fun fr60 => [(1, .string a1), (2, .int .i64 v2_1), (8, .slice ((fr60 3).ob) ((l20000_2 ++ [x51]).length) ((fr60 3).cap)), (14, .slice x12 y10.length x13), (15, .int .i64 ((y10.length : Nat) : Int)), (16, .int .i64 ((v16_2 : Nat) : Int))]) (mem' := fun fr60 => [(2, o48 x12 x13 y10), (20000, .osl ((fr60 3).ob) ((fr60 3).cap) 48 4 ((List.map S_api_Item.row l20000_2) ++ ([[.string x51.Name, .int .i64 x51.Version.Epoch, .int .i64 x51.Version.N, .int .u32 x51.Crc]] : List (List Value))))]) (RunsTo.mk [(1, { act := .load 20001 0 0 [] }), (2, { act := .new (.row 1 4), key := some 20002, spf := some (fun f => .slice (some (Addr.mk f.x 0 none)) ([x51].length) 1) }), (3, { act := .app (some 20002), key := some 20000, spf := some (fun f => .slice (f.ob) ((l20000_2 ++ [x51]).length) (f.cap)) })] [1, 2, 8, 14, 15, 16] [2, 20000] (fun fr60 => [(fr54 2).x = (fr54 2).x, ((.slice (some (Addr.mk (fr60 2).x 0 none)) 1 1) : Value) = .slice (some (Addr.mk (fr60 2).x 0 none)) ([x51].length) 1, (some (Addr.mk (fr60 2).x 0 none)) = (some (Addr.mk (fr60 2).x 0 none)), [x51].length = ([[.string x51.Name, .int .i64 x51.Version.Epoch, .int .i64 x51.Version.N, .int .u32 x51.Crc]] : List (List Value)).length, o20000_2 = o20000_2, k20000_2 = k20000_2, l20000_2.length = (List.map S_api_Item.row l20000_2).length, ((List.map S_api_Item.row l20000_2).length + ([[.string x51.Name, .int .i64 x51.Version.Epoch, .int .i64 x51.Version.N, .int .u32 x51.Crc]] : List (List Value)).length) * (40 + 1) ≤ 70368744177664, ([[.string x51.Name, .int .i64 x51.Version.Epoch, .int .i64 x51.Version.N, .int .u32 x51.Crc]] : List (List Value)).flatten.all Value.oneCell' = true, ((.slice ((fr60 3).ob) (l20000_2.length + ([[.string x51.Name, .int .i64 x51.Version.Epoch, .int .i64 x51.Version.N, .int .u32 x51.Crc]] : List (List Value)).length) ((fr60 3).cap)) : Value) = .slice ((fr60 3).ob) ((l20000_2 ++ [x51]).length) ((fr60 3).cap)]) (fun fr60 => by kernel_rfl) (fun fr60 => ⟨rfl, rfl, rfl, (by rw [show ([[.string x51.Name, .int .i64 x51.Version.Epoch, .int .i64 x51.Version.N, .int .u32 x51.Crc]] : List (List Value)) = List.map S_api_Item.row [x51] from rfl]; exact mlen S_api_Item.row [x51]), rfl, rfl, mlen S_api_Item.row l20000_2, appb g61 (mlen S_api_Item.row l20000_2).symm (by rw [show ([[.string x51.Name, .int .i64 x51.Version.Epoch, .int .i64 x51.Version.N, .int .u32 x51.Crc]] : List (List Value)) = List.map S_api_Item.row [x51] from rfl]; exact (mlen S_api_Item.row [x51]).symm), (by rw [show ([[.string x51.Name, .int .i64 x51.Version.Epoch, .int .i64 x51.Version.N, .int .u32 x51.Crc]] : List (List Value)) = List.map S_api_Item.row [x51] from (show ([[.string x51.Name, .int .i64 x51.Version.Epoch, .int .i64 x51.Version.N, .int .u32 x51.Crc]] : List (List Value)) = List.map S_api_Item.row [x51] from rfl)]; exact all_one S_api_Item.row _ (fun _ => rfl)), slen (by simp), trivial⟩)) ?_
          intro fr60
          refine GS.conv (mem' := [(2, o48 x12 x13 y10), (20000, o48 ((fr60 3).ob) ((fr60 3).cap) (l20000_2 ++ [x51]))]) rfl (congrArg (fun rr : List (List Value) => ([(2, o48 x12 x13 y10), (20000, .osl ((fr60 3).ob) ((fr60 3).cap) 48 4 rr)] : List (Nat × Ent))) (show (List.map S_api_Item.row l20000_2) ++ ([[.string x51.Name, .int .i64 x51.Version.Epoch, .int .i64 x51.Version.N, .int .u32 x51.Crc]] : List (List Value)) = List.map S_api_Item.row (l20000_2 ++ [x51]) from (by rw [show List.map S_api_Item.row l20000_2 = List.map S_api_Item.row l20000_2 from rfl, show ([[.string x51.Name, .int .i64 x51.Version.Epoch, .int .i64 x51.Version.N, .int .u32 x51.Crc]] : List (List Value)) = List.map S_api_Item.row [x51] from (show ([[.string x51.Name, .int .i64 x51.Version.Epoch, .int .i64 x51.Version.N, .int .u32 x51.Crc]] : List (List Value)) = List.map S_api_Item.row [x51] from rfl)]; exact mapp S_api_Item.row _ _))) ?_
          refine GS.inBlock ?_
          refine GS.region (env' := fun _ => [(1, .string a1), (2, .int .i64 v2_1), (8, .slice ((fr60 3).ob) ((l20000_2 ++ [x51]).length) ((fr60 3).cap)), (14, .slice x12 y10.length x13), (15, .int .i64 ((y10.length : Nat) : Int)), (16, .int .i64 ((v16_2 + 1 : Nat) : Int))]) (mem' := fun _ => [(2, o48 x12 x13 y10), (20000, o48 ((fr60 3).ob) ((fr60 3).cap) (l20000_2 ++ [x51]))]) (RunsTo.mk [(0, { sp := some (.int .i64 ((v16_2 + 1 : Nat) : Int)) })] [1, 2, 8, 14, 15, 16] [2, 20000] (fun _ => [((.int .i64 (IntKind.i64.wrap (((v16_2 : Nat) : Int) + 1))) : Value) = .int .i64 ((v16_2 + 1 : Nat) : Int)]) (fun _ => by kernel_rfl) (fun _ => ⟨natw (drop_lt hd49) g50, trivial⟩)) ?_
          intro _
          refine GS.inLoop ?_
          refine GS.rekey (env' := [(1, .string a1), (2, .int .i64 v2_1), (8, .slice ((fr60 3).ob) ((l20000_2 ++ [x51]).length) ((fr60 3).cap)), (14, .slice x12 y10.length x13), (15, .int .i64 ((y10.length : Nat) : Int)), (16, .int .i64 ((v16_2 + 1 : Nat) : Int))]) (mem' := [(2, o48 x12 x13 y10), (20000, o48 ((fr60 3).ob) ((fr60 3).cap) (l20000_2 ++ [x51]))]) [1, 2, 8, 14, 15, 16] [(2, 2), (20000, 20000)] (by kernel_rfl) (by kernel_rfl) rfl ?_
          exact ih72 ⟨rs71, v16_2 + 1, (l20000_2 ++ [x51]), (fr60 3).ob, (fr60 3).cap⟩ ⟨drop_next hd49, hm⟩ (Nat.lt_succ_self _)

end Go.Proofs.Yticlccnajfjdeaa
