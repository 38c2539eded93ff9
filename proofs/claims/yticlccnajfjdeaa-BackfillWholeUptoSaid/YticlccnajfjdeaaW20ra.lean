/-
  CHAPTER 20r: the functions do what their models say (1).
-/
import Derived.Test.YticlccnajfjdeaaM20r
set_option linter.unusedVariables false
set_option linter.unusedSimpArgs false
set_option maxRecDepth 100000
namespace Go.Proofs.Yticlccnajfjdeaa
open Go Go.RowKit Sx

theorem w_tholelaw20_far (F : Nat) (a0 : Int) {y : Bool} (hm : m_tholelaw20_far F a0 = some y) : CallG Try.prog 7 #[.int .i64 a0] (X := Unit) (fun (_ : Unit) => .bool y) [] [] (fun (_ : Unit) => []) := by
  intro w hg
  rw [m_tholelaw20_far] at hm
  refine GS.start (S := mayT [] []) (mem := []) Try.func7 rfl Try.ntmps7 (Nat.le_of_ble_eq_true rfl) (hg.start rfl) ?_
  refine GS.conv (env' := [(0, .int .i64 a0)]) rfl rfl ?_
  refine GS.seq ?_
  refine GS.region (env' := fun _ => [(0, .int .i64 a0)]) (mem' := fun _ => []) (RunsTo.mk [] [0] [] (fun _ => []) (fun _ => by kernel_rfl) (fun _ => trivial)) ?_
  intro _
  refine GS.seq ?_
  refine GS.region (env' := fun _ => [(2, .bool (decide (a0 > 400)))]) (mem' := fun _ => []) (RunsTo.mk [] [2] [] (fun _ => []) (fun _ => by kernel_rfl) (fun _ => trivial)) ?_
  intro _
  have hy := Option.some.inj hm
  subst hy
  refine GS.ret (fn := Try.f7) [0] [.bool (decide (a0 > 400))] [] rfl Try.func7 (by kernel_rfl) trivial (fun w' hs => ?_)
  exact ⟨(), rfl, hs.turnedG (ks := []) rfl rfl⟩

theorem w_slices_Clone___api_Item_api_Item_ (F : Nat) (a0_o : Option Addr) (a0_c : Nat) (a0 : List S_api_Item) {y : List S_api_Item} (hm : m_slices_Clone___api_Item_api_Item_ F a0 = some y) : CallG Try.prog 32 #[.slice a0_o a0.length a0_c] (X := Option Addr × Nat) (fun ⟨x0, x1⟩ => .slice x0 y.length x1) [] [r48 a0_o a0] (fun ⟨x0, x1⟩ => [o48 x0 x1 y]) := by
  intro w hg
  rw [m_slices_Clone___api_Item_api_Item_] at hm
  refine GS.start (S := mayT [] [r48 a0_o a0]) (mem := [(1, r48 a0_o a0)]) Try.func32 rfl Try.ntmps32 (Nat.le_of_ble_eq_true rfl) (hg.start rfl) ?_
  refine GS.conv (env' := [(0, .slice a0_o a0.length a0_c)]) rfl rfl ?_
  refine GS.seq ?_
  refine GS.region (env' := fun _ => [(0, .slice a0_o a0.length a0_c)]) (mem' := fun _ => [(1, r48 a0_o a0)]) (RunsTo.mk [] [0] [1] (fun _ => []) (fun _ => by kernel_rfl) (fun _ => trivial)) ?_
  intro _
  refine GS.seq ?_
  refine GS.seq ?_
  refine GS.region (env' := fun _ => [(0, .slice a0_o a0.length a0_c), (4, .bool a0_o.isNone)]) (mem' := fun _ => [(1, r48 a0_o a0)]) (RunsTo.mk [(1, { act := .nilq })] [0, 4] [1] (fun _ => []) (fun _ => by kernel_rfl) (fun _ => trivial)) ?_
  intro _
  refine GS.cond (t := a0_o.isNone) rfl rfl (fun h3 => ?_) (fun h3 => ?_)
  · skip
    refine GS.know (p := a0 = []) (fun w hw => nil_rd (hw.ok 1 _ rfl) h3) (fun hl7 => ?_)
    replace hm : some ([] : List S_api_Item) = some y := by rw [hl7] at hm; exact hm
    refine GS.seq ?_
    refine GS.region (env' := fun _ => [(2, .slice none 0 0)]) (mem' := fun _ => []) (RunsTo.mk [] [2] [] (fun _ => []) (fun _ => by kernel_rfl) (fun _ => trivial)) ?_
    intro _
    refine GS.setMem (mem' := [(2, o48 none 0 ([] : List S_api_Item))]) (fun w hw => Sat.addNil hw rfl) ?_
    have hy := Option.some.inj hm
    subst hy
    refine GS.ret (fn := Try.f32) [0] [.slice none 0 0] [] rfl Try.func32 (by kernel_rfl) trivial (fun w' hs => ?_)
    exact ⟨⟨none, 0⟩, rfl, hs.turnedG (ks := [2]) rfl rfl⟩
  · skip
    refine GS.skip ?_
    refine GS.seq ?_
    refine grd_elim hm (fun g6 hm => ?_)
    refine GS.region (env' := fun fr5 => [(2, .slice ((fr5 2).ob) ((([] : List S_api_Item) ++ a0).length) ((fr5 2).cap))]) (mem' := fun fr5 => [(2, .osl ((fr5 2).ob) ((fr5 2).cap) 48 4 (([] : List (List Value)) ++ (List.map S_api_Item.row a0)))]) (RunsTo.mk [(0, { act := .new (.row 0 4), key := some 2, spf := some (fun f => .slice (some (Addr.mk f.x 0 none)) ((([] : List S_api_Item) : List S_api_Item).length) 0) }), (2, { act := .app (some 1), key := some 2, spf := some (fun f => .slice (f.ob) ((([] : List S_api_Item) ++ a0).length) (f.cap)) })] [2] [2] (fun fr5 => [((.slice (some (Addr.mk (fr5 0).x 0 none)) 0 0) : Value) = .slice (some (Addr.mk (fr5 0).x 0 none)) ((([] : List S_api_Item) : List S_api_Item).length) 0, a0_o = a0_o, a0.length = (List.map S_api_Item.row a0).length, (some (Addr.mk (fr5 0).x 0 none)) = (some (Addr.mk (fr5 0).x 0 none)), 0 = 0, (([] : List S_api_Item) : List S_api_Item).length = ([] : List (List Value)).length, (([] : List (List Value)).length + (List.map S_api_Item.row a0).length) * (40 + 1) ≤ 70368744177664, (List.map S_api_Item.row a0).flatten.all Value.oneCell' = true, ((.slice ((fr5 2).ob) (((([] : List S_api_Item) : List S_api_Item).length) + (List.map S_api_Item.row a0).length) ((fr5 2).cap)) : Value) = .slice ((fr5 2).ob) ((([] : List S_api_Item) ++ a0).length) ((fr5 2).cap)]) (fun fr5 => by kernel_rfl) (fun fr5 => ⟨rfl, rfl, mlen S_api_Item.row a0, rfl, rfl, (by rw [show ([] : List (List Value)) = List.map S_api_Item.row ([] : List S_api_Item) from rfl]; exact mlen S_api_Item.row ([] : List S_api_Item)), appb g6 (by rw [show ([] : List (List Value)) = List.map S_api_Item.row ([] : List S_api_Item) from rfl]; exact (mlen S_api_Item.row ([] : List S_api_Item)).symm) (mlen S_api_Item.row a0).symm, (by rw [show List.map S_api_Item.row a0 = List.map S_api_Item.row a0 from rfl]; exact all_one S_api_Item.row _ (fun _ => rfl)), slen (by simp), trivial⟩)) ?_
    intro fr5
    refine GS.conv (mem' := [(2, o48 ((fr5 2).ob) ((fr5 2).cap) (([] : List S_api_Item) ++ a0))]) rfl (congrArg (fun rr : List (List Value) => ([(2, .osl ((fr5 2).ob) ((fr5 2).cap) 48 4 rr)] : List (Nat × Ent))) (show ([] : List (List Value)) ++ (List.map S_api_Item.row a0) = List.map S_api_Item.row (([] : List S_api_Item) ++ a0) from (by rw [show ([] : List (List Value)) = List.map S_api_Item.row ([] : List S_api_Item) from rfl, show List.map S_api_Item.row a0 = List.map S_api_Item.row a0 from rfl]; exact mapp S_api_Item.row _ _))) ?_
    have hy := Option.some.inj hm
    subst hy
    refine GS.ret (fn := Try.f32) [0] [.slice ((fr5 2).ob) ((([] : List S_api_Item) ++ a0).length) ((fr5 2).cap)] [] rfl Try.func32 (by kernel_rfl) trivial (fun w' hs => ?_)
    exact ⟨⟨(fr5 2).ob, (fr5 2).cap⟩, rfl, hs.turnedG (ks := [2]) rfl rfl⟩

theorem w_internal_bytealg_CompareString (F : Nat) (a0 : ByteArray) (a1 : ByteArray) {y : Int} (hm : m_internal_bytealg_CompareString F a0 a1 = some y) : CallG Try.prog 51 #[.string a0, .string a1] (X := Unit) (fun (_ : Unit) => .int .i64 y) [] [] (fun (_ : Unit) => []) := by
  intro w hg
  rw [m_internal_bytealg_CompareString] at hm
  refine GS.start (S := mayT [] []) (mem := []) Try.func51 rfl Try.ntmps51 (Nat.le_of_ble_eq_true rfl) (hg.start rfl) ?_
  refine GS.conv (env' := [(0, .string a0), (1, .string a1)]) rfl rfl ?_
  refine GS.seq ?_
  refine GS.region (env' := fun _ => [(0, .string a0), (1, .string a1)]) (mem' := fun _ => []) (RunsTo.mk [] [0, 1] [] (fun _ => []) (fun _ => by kernel_rfl) (fun _ => trivial)) ?_
  intro _
  refine GS.seq ?_
  refine GS.region (env' := fun _ => [(4, .int .i64 (Extern.BytealgCompare.cmp a0 a1))]) (mem' := fun _ => []) (RunsTo.mk [] [4] [] (fun _ => []) (fun _ => by kernel_rfl) (fun _ => trivial)) ?_
  intro _
  have hy := Option.some.inj hm
  subst hy
  refine GS.ret (fn := Try.f51) [0] [.int .i64 (Extern.BytealgCompare.cmp a0 a1)] [] rfl Try.func51 (by kernel_rfl) trivial (fun w' hs => ?_)
  exact ⟨(), rfl, hs.turnedG (ks := []) rfl rfl⟩

theorem w_strings_Compare (F : Nat) (a0 : ByteArray) (a1 : ByteArray) {y : Int} (hm : m_strings_Compare F a0 a1 = some y) : CallG Try.prog 47 #[.string a0, .string a1] (X := Unit) (fun (_ : Unit) => .int .i64 y) [] [] (fun (_ : Unit) => []) := by
  intro w hg
  rw [m_strings_Compare] at hm
  refine GS.start (S := mayT [] []) (mem := []) Try.func47 rfl Try.ntmps47 (Nat.le_of_ble_eq_true rfl) (hg.start rfl) ?_
  refine GS.conv (env' := [(0, .string a0), (1, .string a1)]) rfl rfl ?_
  refine GS.seq ?_
  refine GS.region (env' := fun _ => [(0, .string a0), (1, .string a1)]) (mem' := fun _ => []) (RunsTo.mk [] [0, 1] [] (fun _ => []) (fun _ => by kernel_rfl) (fun _ => trivial)) ?_
  intro _
  refine GS.seq ?_
  refine bnd_elim hm (fun y3 e4 hm => ?_)
  refine GS.region (env' := fun _ => [(4, .int .i64 y3)]) (mem' := fun _ => []) (RunsTo.mk [(2, { act := .call [] (.int .i64 y3) })] [4] [] (fun _ => [CallOK Try.prog 51 #[.string a0, .string a1] (.int .i64 y3) []]) (fun _ => by kernel_rfl) (fun _ => ⟨(w_internal_bytealg_CompareString F a0 a1 e4).ok trivial, trivial⟩)) ?_
  intro _
  have hy := Option.some.inj hm
  subst hy
  refine GS.ret (fn := Try.f47) [0] [.int .i64 y3] [] rfl Try.func47 (by kernel_rfl) trivial (fun w' hs => ?_)
  exact ⟨(), rfl, hs.turnedG (ks := []) rfl rfl⟩

theorem w_backfill_byName_1 (F : Nat) (a0 : S_api_Item) (a1 : S_api_Item) {y : Int} (hm : m_backfill_byName_1 F a0 a1 = some y) : CallG Try.prog 46 #[.agg #[.string a0.Name, .int .i64 a0.Version.Epoch, .int .i64 a0.Version.N, .int .u32 a0.Crc], .agg #[.string a1.Name, .int .i64 a1.Version.Epoch, .int .i64 a1.Version.N, .int .u32 a1.Crc]] (X := Unit) (fun (_ : Unit) => .int .i64 y) [] [] (fun (_ : Unit) => []) := by
  intro w hg
  rw [m_backfill_byName_1] at hm
  refine GS.start (S := mayT [] []) (mem := []) Try.func46 rfl Try.ntmps46 (Nat.le_of_ble_eq_true rfl) (hg.start rfl) ?_
  refine GS.conv (env' := [(0, .agg #[.string a0.Name, .int .i64 a0.Version.Epoch, .int .i64 a0.Version.N, .int .u32 a0.Crc]), (1, .agg #[.string a1.Name, .int .i64 a1.Version.Epoch, .int .i64 a1.Version.N, .int .u32 a1.Crc])]) rfl rfl ?_
  refine GS.seq ?_
  refine GS.region (env' := fun fr1 => [(2, .pointer (some ⟨(fr1 0).x, 0, none⟩)), (3, .pointer (some ⟨(fr1 1).x, 0, none⟩))]) (mem' := fun fr1 => [(1, .cells ((fr1 0).x) 48 [.string a0.Name, .int .i64 a0.Version.Epoch, .int .i64 a0.Version.N, .int .u32 a0.Crc]), (2, .cells ((fr1 1).x) 48 [.string a1.Name, .int .i64 a1.Version.Epoch, .int .i64 a1.Version.N, .int .u32 a1.Crc])]) (RunsTo.mk [(0, { act := .new .var, key := some 1 }), (1, { act := .new .var, key := some 2 })] [2, 3] [1, 2] (fun fr1 => []) (fun fr1 => by kernel_rfl) (fun fr1 => trivial)) ?_
  intro fr1
  refine GS.seq ?_
  refine bnd_elim hm (fun y3 e4 hm => ?_)
  refine GS.region (env' := fun _ => [(4, .int .i64 y3)]) (mem' := fun _ => []) (RunsTo.mk [(1, { act := .load 1 0 0 [] }), (3, { act := .load 2 0 0 [] }), (4, { act := .call [] (.int .i64 y3) })] [4] [] (fun _ => [(fr1 0).x = (fr1 0).x, (fr1 1).x = (fr1 1).x, CallOK Try.prog 47 #[.string a0.Name, .string a1.Name] (.int .i64 y3) []]) (fun _ => by kernel_rfl) (fun _ => ⟨rfl, rfl, (w_strings_Compare F a0.Name a1.Name e4).ok trivial, trivial⟩)) ?_
  intro _
  have hy := Option.some.inj hm
  subst hy
  refine GS.ret (fn := Try.f46) [0] [.int .i64 y3] [] rfl Try.func46 (by kernel_rfl) trivial (fun w' hs => ?_)
  exact ⟨(), rfl, hs.turnedG (ks := []) rfl rfl⟩

theorem w_slices_insertionSortCmpFunc_api_Item_ (F : Nat) (a0_o : Option Addr) (a0_c : Nat) (a0 : List S_api_Item) (a1 : Int) (a2 : Int) {y : List S_api_Item} (hm : m_slices_insertionSortCmpFunc_api_Item_ F a0 a1 a2 = some y) : CallG Try.prog 52 #[.slice a0_o a0.length a0_c, .int .i64 a1, .int .i64 a2, .func (.func 46) #[] #[]] (X := Unit) (fun (_ : Unit) => .tuple #[]) [o48 a0_o a0_c a0] [] (fun (_ : Unit) => [o48 a0_o a0_c y]) := by
  intro w hg
  rw [m_slices_insertionSortCmpFunc_api_Item_] at hm
  refine GS.start (S := mayT [o48 a0_o a0_c a0] []) (mem := [(1, o48 a0_o a0_c a0)]) Try.func52 rfl Try.ntmps52 (Nat.le_of_ble_eq_true rfl) (hg.start rfl) ?_
  refine GS.conv (env' := [(0, .slice a0_o a0.length a0_c), (1, .int .i64 a1), (2, .int .i64 a2), (3, .func (.func 46) #[] #[])]) rfl rfl ?_
  refine GS.seq ?_
  refine grd_elim hm (fun g2 hm => ?_)
  refine GS.region (env' := fun _ => [(0, .slice a0_o a0.length a0_c), (1, .int .i64 a1), (2, .int .i64 a2), (3, .func (.func 46) #[] #[]), (8, .int .i64 (a1 + 1))]) (mem' := fun _ => [(1, o48 a0_o a0_c a0)]) (RunsTo.mk [(1, { sp := some (.int .i64 (a1 + 1)) })] [0, 1, 2, 3, 8] [1] (fun _ => [((.int .i64 (IntKind.i64.wrap (a1 + 1))) : Value) = .int .i64 (a1 + 1)]) (fun _ => by kernel_rfl) (fun _ => ⟨I64.w g2, trivial⟩)) ?_
  intro _
  refine GS.block ?_
  refine GS.loop ?_
  refine GS.rekey (env' := [(0, .slice a0_o a0.length a0_c), (1, .int .i64 a1), (2, .int .i64 a2), (3, .func (.func 46) #[] #[]), (8, .int .i64 (a1 + 1))]) (mem' := [(1, o48 a0_o a0_c a0)]) [0, 1, 2, 3, 8] [(1, 1)] (by kernel_rfl) (by kernel_rfl) rfl ?_
  refine loopW_elim hm (fun st154 hst156 hm => ?_)
  refine GS.loopInv (ι := Nat × Int × List S_api_Item) (I := fun ⟨rs152, v8_1, l1_1⟩ => loopW st154 rs152 (v8_1, l1_1) = some y) (μ := fun ⟨rs152, v8_1, l1_1⟩ => rs152) (E := fun ⟨rs152, v8_1, l1_1⟩ => [(0, .slice a0_o l1_1.length a0_c), (1, .int .i64 a1), (2, .int .i64 a2), (3, .func (.func 46) #[] #[]), (8, .int .i64 v8_1)]) (M := fun ⟨rs152, v8_1, l1_1⟩ => [(1, o48 a0_o a0_c l1_1)]) ?_ ⟨F, (a1 + 1), a0⟩ hm
  rintro ⟨rs152, v8_1, l1_1⟩ hm ih153
  cases rs152 with
  | zero => cases hm
  | succ rs152 =>
    replace hm := (hst156 _ _).symm.trans hm
    try dsimp only at hm
    refine GS.seq ?_
    refine GS.seq ?_
    refine GS.region (env' := fun _ => [(0, .slice a0_o l1_1.length a0_c), (1, .int .i64 a1), (2, .int .i64 a2), (3, .func (.func 46) #[] #[]), (8, .int .i64 v8_1), (14, .bool (decide (v8_1 < a2)))]) (mem' := fun _ => [(1, o48 a0_o a0_c l1_1)]) (RunsTo.mk [] [0, 1, 2, 3, 8, 14] [1] (fun _ => []) (fun _ => by kernel_rfl) (fun _ => trivial)) ?_
    intro _
    refine GS.cond (t := decide (v8_1 < a2)) rfl rfl (fun h103 => ?_) (fun h103 => ?_)
    · replace hm := br_t h103 hm
      refine GS.skip ?_
      refine GS.seq ?_
      refine GS.block ?_
      refine GS.seq ?_
      refine GS.region (env' := fun _ => [(0, .slice a0_o l1_1.length a0_c), (1, .int .i64 a1), (2, .int .i64 a2), (3, .func (.func 46) #[] #[]), (8, .int .i64 v8_1), (9, .int .i64 v8_1)]) (mem' := fun _ => [(1, o48 a0_o a0_c l1_1)]) (RunsTo.mk [] [0, 1, 2, 3, 8, 9] [1] (fun _ => []) (fun _ => by kernel_rfl) (fun _ => trivial)) ?_
      intro _
      refine GS.block ?_
      refine GS.loop ?_
      refine GS.rekey (env' := [(0, .slice a0_o l1_1.length a0_c), (1, .int .i64 a1), (2, .int .i64 a2), (3, .func (.func 46) #[] #[]), (8, .int .i64 v8_1), (9, .int .i64 v8_1)]) (mem' := [(1, o48 a0_o a0_c l1_1)]) [0, 1, 2, 3, 8, 9] [(1, 1)] (by kernel_rfl) (by kernel_rfl) rfl ?_
      refine loopW_elim hm (fun st145 hst147 hm => ?_)
      refine GS.loopInv (ι := Nat × Int × List S_api_Item) (I := fun ⟨rs143, v9_10, l1_10⟩ => loopW st145 rs143 (v9_10, l1_10) = some y) (μ := fun ⟨rs143, v9_10, l1_10⟩ => rs143) (E := fun ⟨rs143, v9_10, l1_10⟩ => [(0, .slice a0_o l1_10.length a0_c), (1, .int .i64 a1), (2, .int .i64 a2), (3, .func (.func 46) #[] #[]), (8, .int .i64 v8_1), (9, .int .i64 v9_10)]) (M := fun ⟨rs143, v9_10, l1_10⟩ => [(1, o48 a0_o a0_c l1_10)]) ?_ ⟨F, v8_1, l1_1⟩ hm
      rintro ⟨rs143, v9_10, l1_10⟩ hm ih144
      cases rs143 with
      | zero => cases hm
      | succ rs143 =>
        replace hm := (hst147 _ _).symm.trans hm
        try dsimp only at hm
        refine GS.seq ?_
        refine GS.seq ?_
        refine jn_elim hm (fun J132 hJ134 hm => ?_)
        refine GS.cut (ι := Bool) (I := fun (v34_13 : Bool) => J132 v34_13 = some y) (E := fun (v34_13 : Bool) => [(0, .slice a0_o l1_10.length a0_c), (1, .int .i64 a1), (2, .int .i64 a2), (3, .func (.func 46) #[] #[]), (8, .int .i64 v8_1), (9, .int .i64 v9_10), (34, .bool v34_13)]) (M := fun (v34_13 : Bool) => [(1, o48 a0_o a0_c l1_10)]) ?_ ?_
        rotate_left
        · intro H133
          refine br_elim hm (fun h131 hm => ?_) (fun h131 hm => ?_)
          · skip
            refine grd_elim hm (fun g132 hm => ?_)
            refine grd_elim hm (fun g133 hm => ?_)
            refine grd_elim hm (fun g134 hm => ?_)
            refine bnd_elim hm (fun y135 e136 hm => ?_)
            refine GS.region (env' := fun _ => [(0, .slice a0_o l1_10.length a0_c), (1, .int .i64 a1), (2, .int .i64 a2), (3, .func (.func 46) #[] #[]), (8, .int .i64 v8_1), (9, .int .i64 v9_10), (34, .bool (decide (y135 < 0)))]) (mem' := fun _ => [(1, o48 a0_o a0_c l1_10)]) (RunsTo.mkd [(3, { sp := some (.bool true) }), (7, { act := .idx 1 (Int.toNat v9_10) }), (8, { act := .load 1 (Int.toNat v9_10) 0 [.string ((l1_10.getD (Int.toNat v9_10) dS_api_Item).Name), .int .i64 (((l1_10.getD (Int.toNat v9_10) dS_api_Item).Version).Epoch), .int .i64 (((l1_10.getD (Int.toNat v9_10) dS_api_Item).Version).N), .int .u32 ((l1_10.getD (Int.toNat v9_10) dS_api_Item).Crc)] }), (11, { sp := some (.int .i64 (v9_10 - 1)) }), (12, { act := .idx 1 (Int.toNat (v9_10 - 1)) }), (13, { act := .load 1 (Int.toNat (v9_10 - 1)) 0 [.string ((l1_10.getD (Int.toNat (v9_10 - 1)) dS_api_Item).Name), .int .i64 (((l1_10.getD (Int.toNat (v9_10 - 1)) dS_api_Item).Version).Epoch), .int .i64 (((l1_10.getD (Int.toNat (v9_10 - 1)) dS_api_Item).Version).N), .int .u32 ((l1_10.getD (Int.toNat (v9_10 - 1)) dS_api_Item).Crc)] }), (14, { act := .call [] (.int .i64 y135) })] [0, 1, 2, 3, 8, 9, 34] [1] (fun _ => [((.bool (decide (v9_10 > a1))) : Value) = .bool true, a0_o = a0_o, l1_10.length = (List.map S_api_Item.row l1_10).length, (v9_10 : Int) = (((Int.toNat v9_10) : Nat) : Int), (Int.toNat v9_10) < l1_10.length, blk a0_o = blk a0_o, offs a0_o + (Int.toNat v9_10) * 4 = offs a0_o + ((Int.toNat v9_10) * 4 + 0), (List.map S_api_Item.row l1_10)[(Int.toNat v9_10)]? = some [.string ((l1_10.getD (Int.toNat v9_10) dS_api_Item).Name), .int .i64 (((l1_10.getD (Int.toNat v9_10) dS_api_Item).Version).Epoch), .int .i64 (((l1_10.getD (Int.toNat v9_10) dS_api_Item).Version).N), .int .u32 ((l1_10.getD (Int.toNat v9_10) dS_api_Item).Crc)], ((.int .i64 (IntKind.i64.wrap (v9_10 - 1))) : Value) = .int .i64 (v9_10 - 1), a0_o = a0_o, l1_10.length = (List.map S_api_Item.row l1_10).length, ((v9_10 - 1) : Int) = (((Int.toNat (v9_10 - 1)) : Nat) : Int), (Int.toNat (v9_10 - 1)) < l1_10.length, blk a0_o = blk a0_o, offs a0_o + (Int.toNat (v9_10 - 1)) * 4 = offs a0_o + ((Int.toNat (v9_10 - 1)) * 4 + 0), (List.map S_api_Item.row l1_10)[(Int.toNat (v9_10 - 1))]? = some [.string ((l1_10.getD (Int.toNat (v9_10 - 1)) dS_api_Item).Name), .int .i64 (((l1_10.getD (Int.toNat (v9_10 - 1)) dS_api_Item).Version).Epoch), .int .i64 (((l1_10.getD (Int.toNat (v9_10 - 1)) dS_api_Item).Version).N), .int .u32 ((l1_10.getD (Int.toNat (v9_10 - 1)) dS_api_Item).Crc)], CallOK Try.prog 46 #[.agg #[.string ((l1_10.getD (Int.toNat v9_10) dS_api_Item).Name), .int .i64 (((l1_10.getD (Int.toNat v9_10) dS_api_Item).Version).Epoch), .int .i64 (((l1_10.getD (Int.toNat v9_10) dS_api_Item).Version).N), .int .u32 ((l1_10.getD (Int.toNat v9_10) dS_api_Item).Crc)], .agg #[.string ((l1_10.getD (Int.toNat (v9_10 - 1)) dS_api_Item).Name), .int .i64 (((l1_10.getD (Int.toNat (v9_10 - 1)) dS_api_Item).Version).Epoch), .int .i64 (((l1_10.getD (Int.toNat (v9_10 - 1)) dS_api_Item).Version).N), .int .u32 ((l1_10.getD (Int.toNat (v9_10 - 1)) dS_api_Item).Crc)]] (.int .i64 y135) []]) (by kernel_rfl) (by kernel_rfl) (fun _ => by kernel_rfl) (fun _ => ⟨bool_eq h131, rfl, mlen S_api_Item.row l1_10, g132.eq, g132.2, rfl, rfl, map_at S_api_Item.row dS_api_Item g132.2, I64.w g133, rfl, mlen S_api_Item.row l1_10, g134.eq, g134.2, rfl, rfl, map_at S_api_Item.row dS_api_Item g134.2, (w_backfill_byName_1 F (l1_10.getD (Int.toNat v9_10) dS_api_Item) (l1_10.getD (Int.toNat (v9_10 - 1)) dS_api_Item) e136).ok trivial, trivial⟩)) ?_
            intro _
            refine GS.rekey (env' := [(0, .slice a0_o l1_10.length a0_c), (1, .int .i64 a1), (2, .int .i64 a2), (3, .func (.func 46) #[] #[]), (8, .int .i64 v8_1), (9, .int .i64 v9_10), (34, .bool (decide (y135 < 0)))]) (mem' := [(1, o48 a0_o a0_c l1_10)]) [0, 1, 2, 3, 8, 9, 34] [(1, 1)] (by kernel_rfl) (by kernel_rfl) rfl ?_
            exact H133 (decide (y135 < 0)) hm
          · skip
            refine GS.region (env' := fun _ => [(0, .slice a0_o l1_10.length a0_c), (1, .int .i64 a1), (2, .int .i64 a2), (3, .func (.func 46) #[] #[]), (8, .int .i64 v8_1), (9, .int .i64 v9_10), (34, .bool false)]) (mem' := fun _ => [(1, o48 a0_o a0_c l1_10)]) (RunsTo.mkd [(3, { sp := some (.bool false) })] [0, 1, 2, 3, 8, 9, 34] [1] (fun _ => [((.bool (decide (v9_10 > a1))) : Value) = .bool false]) (by kernel_rfl) (by kernel_rfl) (fun _ => by kernel_rfl) (fun _ => ⟨bool_eq h131, trivial⟩)) ?_
            intro _
            refine GS.rekey (env' := [(0, .slice a0_o l1_10.length a0_c), (1, .int .i64 a1), (2, .int .i64 a2), (3, .func (.func 46) #[] #[]), (8, .int .i64 v8_1), (9, .int .i64 v9_10), (34, .bool false)]) (mem' := [(1, o48 a0_o a0_c l1_10)]) [0, 1, 2, 3, 8, 9, 34] [(1, 1)] (by kernel_rfl) (by kernel_rfl) rfl ?_
            exact H133 false hm
        · rintro v34_13 hm
          replace hm := (hJ134 _).symm.trans hm
          try dsimp only at hm
          refine GS.cond (t := v34_13) rfl rfl (fun h135 => ?_) (fun h135 => ?_)
          · replace hm := br_t h135 hm
            refine GS.skip ?_
            refine GS.seq ?_
            refine GS.block ?_
            refine grd_elim hm (fun g137 hm => ?_)
            refine grd_elim hm (fun g138 hm => ?_)
            refine grd_elim hm (fun g139 hm => ?_)
            refine grd_elim hm (fun g140 hm => ?_)
            refine GS.region (env' := fun _ => [(0, .slice a0_o l1_10.length a0_c), (1, .int .i64 a1), (2, .int .i64 a2), (3, .func (.func 46) #[] #[]), (8, .int .i64 v8_1), (9, .int .i64 v9_10)]) (mem' := fun _ => [(1, .osl a0_o a0_c 48 4 (((List.map S_api_Item.row l1_10).set (Int.toNat v9_10) [.string ((l1_10.getD (Int.toNat (v9_10 - 1)) dS_api_Item).Name), .int .i64 (((l1_10.getD (Int.toNat (v9_10 - 1)) dS_api_Item).Version).Epoch), .int .i64 (((l1_10.getD (Int.toNat (v9_10 - 1)) dS_api_Item).Version).N), .int .u32 ((l1_10.getD (Int.toNat (v9_10 - 1)) dS_api_Item).Crc)]).set (Int.toNat (v9_10 - 1)) [.string ((l1_10.getD (Int.toNat v9_10) dS_api_Item).Name), .int .i64 (((l1_10.getD (Int.toNat v9_10) dS_api_Item).Version).Epoch), .int .i64 (((l1_10.getD (Int.toNat v9_10) dS_api_Item).Version).N), .int .u32 ((l1_10.getD (Int.toNat v9_10) dS_api_Item).Crc)]))]) (RunsTo.mkd [(4, { sp := some (.int .i64 (v9_10 - 1)) }), (7, { sp := some (.int .i64 (v9_10 - 1)) }), (8, { act := .idx 1 (Int.toNat (v9_10 - 1)) }), (9, { act := .load 1 (Int.toNat (v9_10 - 1)) 0 [.string ((l1_10.getD (Int.toNat (v9_10 - 1)) dS_api_Item).Name), .int .i64 (((l1_10.getD (Int.toNat (v9_10 - 1)) dS_api_Item).Version).Epoch), .int .i64 (((l1_10.getD (Int.toNat (v9_10 - 1)) dS_api_Item).Version).N), .int .u32 ((l1_10.getD (Int.toNat (v9_10 - 1)) dS_api_Item).Crc)] }), (12, { act := .idx 1 (Int.toNat v9_10) }), (13, { act := .load 1 (Int.toNat v9_10) 0 [.string ((l1_10.getD (Int.toNat v9_10) dS_api_Item).Name), .int .i64 (((l1_10.getD (Int.toNat v9_10) dS_api_Item).Version).Epoch), .int .i64 (((l1_10.getD (Int.toNat v9_10) dS_api_Item).Version).N), .int .u32 ((l1_10.getD (Int.toNat v9_10) dS_api_Item).Crc)] }), (14, { act := .idx 1 (Int.toNat v9_10) }), (15, { act := .store (Int.toNat v9_10) 0 [.string ((l1_10.getD (Int.toNat v9_10) dS_api_Item).Name), .int .i64 (((l1_10.getD (Int.toNat v9_10) dS_api_Item).Version).Epoch), .int .i64 (((l1_10.getD (Int.toNat v9_10) dS_api_Item).Version).N), .int .u32 ((l1_10.getD (Int.toNat v9_10) dS_api_Item).Crc)], key := some 1 }), (16, { act := .idx 1 (Int.toNat (v9_10 - 1)) }), (17, { act := .store (Int.toNat (v9_10 - 1)) 0 [.string (((l1_10.set (Int.toNat v9_10) (l1_10.getD (Int.toNat (v9_10 - 1)) dS_api_Item)).getD (Int.toNat (v9_10 - 1)) dS_api_Item).Name), .int .i64 ((((l1_10.set (Int.toNat v9_10) (l1_10.getD (Int.toNat (v9_10 - 1)) dS_api_Item)).getD (Int.toNat (v9_10 - 1)) dS_api_Item).Version).Epoch), .int .i64 ((((l1_10.set (Int.toNat v9_10) (l1_10.getD (Int.toNat (v9_10 - 1)) dS_api_Item)).getD (Int.toNat (v9_10 - 1)) dS_api_Item).Version).N), .int .u32 (((l1_10.set (Int.toNat v9_10) (l1_10.getD (Int.toNat (v9_10 - 1)) dS_api_Item)).getD (Int.toNat (v9_10 - 1)) dS_api_Item).Crc)], key := some 1 })] [0, 1, 2, 3, 8, 9] [1] (fun _ => [((.int .i64 (IntKind.i64.wrap (v9_10 - 1))) : Value) = .int .i64 (v9_10 - 1), ((.int .i64 (IntKind.i64.wrap (v9_10 - 1))) : Value) = .int .i64 (v9_10 - 1), a0_o = a0_o, l1_10.length = (List.map S_api_Item.row l1_10).length, ((v9_10 - 1) : Int) = (((Int.toNat (v9_10 - 1)) : Nat) : Int), (Int.toNat (v9_10 - 1)) < l1_10.length, blk a0_o = blk a0_o, offs a0_o + (Int.toNat (v9_10 - 1)) * 4 = offs a0_o + ((Int.toNat (v9_10 - 1)) * 4 + 0), (List.map S_api_Item.row l1_10)[(Int.toNat (v9_10 - 1))]? = some [.string ((l1_10.getD (Int.toNat (v9_10 - 1)) dS_api_Item).Name), .int .i64 (((l1_10.getD (Int.toNat (v9_10 - 1)) dS_api_Item).Version).Epoch), .int .i64 (((l1_10.getD (Int.toNat (v9_10 - 1)) dS_api_Item).Version).N), .int .u32 ((l1_10.getD (Int.toNat (v9_10 - 1)) dS_api_Item).Crc)], a0_o = a0_o, l1_10.length = (List.map S_api_Item.row l1_10).length, (v9_10 : Int) = (((Int.toNat v9_10) : Nat) : Int), (Int.toNat v9_10) < l1_10.length, blk a0_o = blk a0_o, offs a0_o + (Int.toNat v9_10) * 4 = offs a0_o + ((Int.toNat v9_10) * 4 + 0), (List.map S_api_Item.row l1_10)[(Int.toNat v9_10)]? = some [.string ((l1_10.getD (Int.toNat v9_10) dS_api_Item).Name), .int .i64 (((l1_10.getD (Int.toNat v9_10) dS_api_Item).Version).Epoch), .int .i64 (((l1_10.getD (Int.toNat v9_10) dS_api_Item).Version).N), .int .u32 ((l1_10.getD (Int.toNat v9_10) dS_api_Item).Crc)], a0_o = a0_o, l1_10.length = (List.map S_api_Item.row l1_10).length, (v9_10 : Int) = (((Int.toNat v9_10) : Nat) : Int), (Int.toNat v9_10) < l1_10.length, blk a0_o = blk a0_o, offs a0_o + (Int.toNat v9_10) * 4 = offs a0_o + ((Int.toNat v9_10) * 4 + 0), (List.map S_api_Item.row l1_10)[(Int.toNat v9_10)]? = some [.string ((l1_10.getD (Int.toNat v9_10) dS_api_Item).Name), .int .i64 (((l1_10.getD (Int.toNat v9_10) dS_api_Item).Version).Epoch), .int .i64 (((l1_10.getD (Int.toNat v9_10) dS_api_Item).Version).N), .int .u32 ((l1_10.getD (Int.toNat v9_10) dS_api_Item).Crc)], ((.agg #[.string ((l1_10.getD (Int.toNat (v9_10 - 1)) dS_api_Item).Name), .int .i64 (((l1_10.getD (Int.toNat (v9_10 - 1)) dS_api_Item).Version).Epoch), .int .i64 (((l1_10.getD (Int.toNat (v9_10 - 1)) dS_api_Item).Version).N), .int .u32 ((l1_10.getD (Int.toNat (v9_10 - 1)) dS_api_Item).Crc)]) : Value).cells.toList.all Value.oneCell' = true, a0_o = a0_o, l1_10.length = ((List.map S_api_Item.row l1_10).set (Int.toNat v9_10) [.string ((l1_10.getD (Int.toNat (v9_10 - 1)) dS_api_Item).Name), .int .i64 (((l1_10.getD (Int.toNat (v9_10 - 1)) dS_api_Item).Version).Epoch), .int .i64 (((l1_10.getD (Int.toNat (v9_10 - 1)) dS_api_Item).Version).N), .int .u32 ((l1_10.getD (Int.toNat (v9_10 - 1)) dS_api_Item).Crc)]).length, ((v9_10 - 1) : Int) = (((Int.toNat (v9_10 - 1)) : Nat) : Int), (Int.toNat (v9_10 - 1)) < l1_10.length, blk a0_o = blk a0_o, offs a0_o + (Int.toNat (v9_10 - 1)) * 4 = offs a0_o + ((Int.toNat (v9_10 - 1)) * 4 + 0), ((List.map S_api_Item.row l1_10).set (Int.toNat v9_10) [.string ((l1_10.getD (Int.toNat (v9_10 - 1)) dS_api_Item).Name), .int .i64 (((l1_10.getD (Int.toNat (v9_10 - 1)) dS_api_Item).Version).Epoch), .int .i64 (((l1_10.getD (Int.toNat (v9_10 - 1)) dS_api_Item).Version).N), .int .u32 ((l1_10.getD (Int.toNat (v9_10 - 1)) dS_api_Item).Crc)])[(Int.toNat (v9_10 - 1))]? = some [.string (((l1_10.set (Int.toNat v9_10) (l1_10.getD (Int.toNat (v9_10 - 1)) dS_api_Item)).getD (Int.toNat (v9_10 - 1)) dS_api_Item).Name), .int .i64 ((((l1_10.set (Int.toNat v9_10) (l1_10.getD (Int.toNat (v9_10 - 1)) dS_api_Item)).getD (Int.toNat (v9_10 - 1)) dS_api_Item).Version).Epoch), .int .i64 ((((l1_10.set (Int.toNat v9_10) (l1_10.getD (Int.toNat (v9_10 - 1)) dS_api_Item)).getD (Int.toNat (v9_10 - 1)) dS_api_Item).Version).N), .int .u32 (((l1_10.set (Int.toNat v9_10) (l1_10.getD (Int.toNat (v9_10 - 1)) dS_api_Item)).getD (Int.toNat (v9_10 - 1)) dS_api_Item).Crc)], ((.agg #[.string ((l1_10.getD (Int.toNat v9_10) dS_api_Item).Name), .int .i64 (((l1_10.getD (Int.toNat v9_10) dS_api_Item).Version).Epoch), .int .i64 (((l1_10.getD (Int.toNat v9_10) dS_api_Item).Version).N), .int .u32 ((l1_10.getD (Int.toNat v9_10) dS_api_Item).Crc)]) : Value).cells.toList.all Value.oneCell' = true]) (by kernel_rfl) (by kernel_rfl) (fun _ => by kernel_rfl) (fun _ => ⟨I64.w g137, I64.w g137, rfl, mlen S_api_Item.row l1_10, g138.eq, g138.2, rfl, rfl, map_at S_api_Item.row dS_api_Item g138.2, rfl, mlen S_api_Item.row l1_10, g139.eq, g139.2, rfl, rfl, map_at S_api_Item.row dS_api_Item g139.2, rfl, mlen S_api_Item.row l1_10, g139.eq, g139.2, rfl, rfl, map_at S_api_Item.row dS_api_Item g139.2, rfl, rfl, (by simp []), g140.eq, (Nat.lt_of_lt_of_eq g140.2 (show (l1_10.set (Int.toNat v9_10) (l1_10.getD (Int.toNat (v9_10 - 1)) dS_api_Item)).length = l1_10.length from (by simp []))), rfl, rfl, (by rw [show (List.map S_api_Item.row l1_10).set (Int.toNat v9_10) [.string ((l1_10.getD (Int.toNat (v9_10 - 1)) dS_api_Item).Name), .int .i64 (((l1_10.getD (Int.toNat (v9_10 - 1)) dS_api_Item).Version).Epoch), .int .i64 (((l1_10.getD (Int.toNat (v9_10 - 1)) dS_api_Item).Version).N), .int .u32 ((l1_10.getD (Int.toNat (v9_10 - 1)) dS_api_Item).Crc)] = List.map S_api_Item.row (l1_10.set (Int.toNat v9_10) (l1_10.getD (Int.toNat (v9_10 - 1)) dS_api_Item)) from mset S_api_Item.row l1_10 (Int.toNat v9_10) (l1_10.getD (Int.toNat (v9_10 - 1)) dS_api_Item)]; exact map_at S_api_Item.row dS_api_Item g140.2), rfl, trivial⟩)) ?_
            intro _
            refine GS.conv (mem' := [(1, o48 a0_o a0_c ((l1_10.set (Int.toNat v9_10) (l1_10.getD (Int.toNat (v9_10 - 1)) dS_api_Item)).set (Int.toNat (v9_10 - 1)) (l1_10.getD (Int.toNat v9_10) dS_api_Item)))]) rfl (congrArg (fun rr : List (List Value) => ([(1, .osl a0_o a0_c 48 4 rr)] : List (Nat × Ent))) (show ((List.map S_api_Item.row l1_10).set (Int.toNat v9_10) [.string ((l1_10.getD (Int.toNat (v9_10 - 1)) dS_api_Item).Name), .int .i64 (((l1_10.getD (Int.toNat (v9_10 - 1)) dS_api_Item).Version).Epoch), .int .i64 (((l1_10.getD (Int.toNat (v9_10 - 1)) dS_api_Item).Version).N), .int .u32 ((l1_10.getD (Int.toNat (v9_10 - 1)) dS_api_Item).Crc)]).set (Int.toNat (v9_10 - 1)) [.string ((l1_10.getD (Int.toNat v9_10) dS_api_Item).Name), .int .i64 (((l1_10.getD (Int.toNat v9_10) dS_api_Item).Version).Epoch), .int .i64 (((l1_10.getD (Int.toNat v9_10) dS_api_Item).Version).N), .int .u32 ((l1_10.getD (Int.toNat v9_10) dS_api_Item).Crc)] = List.map S_api_Item.row ((l1_10.set (Int.toNat v9_10) (l1_10.getD (Int.toNat (v9_10 - 1)) dS_api_Item)).set (Int.toNat (v9_10 - 1)) (l1_10.getD (Int.toNat v9_10) dS_api_Item)) from (by rw [show (List.map S_api_Item.row l1_10).set (Int.toNat v9_10) [.string ((l1_10.getD (Int.toNat (v9_10 - 1)) dS_api_Item).Name), .int .i64 (((l1_10.getD (Int.toNat (v9_10 - 1)) dS_api_Item).Version).Epoch), .int .i64 (((l1_10.getD (Int.toNat (v9_10 - 1)) dS_api_Item).Version).N), .int .u32 ((l1_10.getD (Int.toNat (v9_10 - 1)) dS_api_Item).Crc)] = List.map S_api_Item.row (l1_10.set (Int.toNat v9_10) (l1_10.getD (Int.toNat (v9_10 - 1)) dS_api_Item)) from mset S_api_Item.row l1_10 (Int.toNat v9_10) (l1_10.getD (Int.toNat (v9_10 - 1)) dS_api_Item)]; exact mset S_api_Item.row (l1_10.set (Int.toNat v9_10) (l1_10.getD (Int.toNat (v9_10 - 1)) dS_api_Item)) (Int.toNat (v9_10 - 1)) (l1_10.getD (Int.toNat v9_10) dS_api_Item)))) ?_
            refine GS.inBlock ?_
            refine GS.conv (env' := [(0, .slice a0_o (((l1_10.set (Int.toNat v9_10) (l1_10.getD (Int.toNat (v9_10 - 1)) dS_api_Item)).set (Int.toNat (v9_10 - 1)) (l1_10.getD (Int.toNat v9_10) dS_api_Item)).length) a0_c), (1, .int .i64 a1), (2, .int .i64 a2), (3, .func (.func 46) #[] #[]), (8, .int .i64 v8_1), (9, .int .i64 v9_10)]) (congrArg (fun vhole : Value => [(0, vhole), (1, .int .i64 a1), (2, .int .i64 a2), (3, .func (.func 46) #[] #[]), (8, .int .i64 v8_1), (9, .int .i64 v9_10)]) (show ((.slice a0_o l1_10.length a0_c) : Value) = .slice a0_o (((l1_10.set (Int.toNat v9_10) (l1_10.getD (Int.toNat (v9_10 - 1)) dS_api_Item)).set (Int.toNat (v9_10 - 1)) (l1_10.getD (Int.toNat v9_10) dS_api_Item)).length) a0_c from (by simp []))) rfl ?_
            refine GS.region (env' := fun _ => [(0, .slice a0_o (((l1_10.set (Int.toNat v9_10) (l1_10.getD (Int.toNat (v9_10 - 1)) dS_api_Item)).set (Int.toNat (v9_10 - 1)) (l1_10.getD (Int.toNat v9_10) dS_api_Item)).length) a0_c), (1, .int .i64 a1), (2, .int .i64 a2), (3, .func (.func 46) #[] #[]), (8, .int .i64 v8_1), (9, .int .i64 (v9_10 - 1))]) (mem' := fun _ => [(1, o48 a0_o a0_c ((l1_10.set (Int.toNat v9_10) (l1_10.getD (Int.toNat (v9_10 - 1)) dS_api_Item)).set (Int.toNat (v9_10 - 1)) (l1_10.getD (Int.toNat v9_10) dS_api_Item)))]) (RunsTo.mk [(1, { sp := some (.int .i64 (v9_10 - 1)) })] [0, 1, 2, 3, 8, 9] [1] (fun _ => [((.int .i64 (IntKind.i64.wrap (v9_10 - 1))) : Value) = .int .i64 (v9_10 - 1)]) (fun _ => by kernel_rfl) (fun _ => ⟨I64.w g137, trivial⟩)) ?_
            intro _
            refine GS.inLoop ?_
            refine GS.rekey (env' := [(0, .slice a0_o (((l1_10.set (Int.toNat v9_10) (l1_10.getD (Int.toNat (v9_10 - 1)) dS_api_Item)).set (Int.toNat (v9_10 - 1)) (l1_10.getD (Int.toNat v9_10) dS_api_Item)).length) a0_c), (1, .int .i64 a1), (2, .int .i64 a2), (3, .func (.func 46) #[] #[]), (8, .int .i64 v8_1), (9, .int .i64 (v9_10 - 1))]) (mem' := [(1, o48 a0_o a0_c ((l1_10.set (Int.toNat v9_10) (l1_10.getD (Int.toNat (v9_10 - 1)) dS_api_Item)).set (Int.toNat (v9_10 - 1)) (l1_10.getD (Int.toNat v9_10) dS_api_Item)))]) [0, 1, 2, 3, 8, 9] [(1, 1)] (by kernel_rfl) (by kernel_rfl) rfl ?_
            exact ih144 ⟨rs143, (v9_10 - 1), ((l1_10.set (Int.toNat v9_10) (l1_10.getD (Int.toNat (v9_10 - 1)) dS_api_Item)).set (Int.toNat (v9_10 - 1)) (l1_10.getD (Int.toNat v9_10) dS_api_Item))⟩ hm (Nat.lt_succ_self _)
          · replace hm := br_f h135 hm
            refine GS.exit rfl ?_
            refine GS.inBlock ?_
            refine grd_elim hm (fun g150 hm => ?_)
            refine GS.region (env' := fun _ => [(0, .slice a0_o l1_10.length a0_c), (1, .int .i64 a1), (2, .int .i64 a2), (3, .func (.func 46) #[] #[]), (8, .int .i64 (v8_1 + 1))]) (mem' := fun _ => [(1, o48 a0_o a0_c l1_10)]) (RunsTo.mk [(1, { sp := some (.int .i64 (v8_1 + 1)) })] [0, 1, 2, 3, 8] [1] (fun _ => [((.int .i64 (IntKind.i64.wrap (v8_1 + 1))) : Value) = .int .i64 (v8_1 + 1)]) (fun _ => by kernel_rfl) (fun _ => ⟨I64.w g150, trivial⟩)) ?_
            intro _
            refine GS.inLoop ?_
            refine GS.rekey (env' := [(0, .slice a0_o l1_10.length a0_c), (1, .int .i64 a1), (2, .int .i64 a2), (3, .func (.func 46) #[] #[]), (8, .int .i64 (v8_1 + 1))]) (mem' := [(1, o48 a0_o a0_c l1_10)]) [0, 1, 2, 3, 8] [(1, 1)] (by kernel_rfl) (by kernel_rfl) rfl ?_
            exact ih153 ⟨rs152, (v8_1 + 1), l1_10⟩ hm (Nat.lt_succ_self _)
    · replace hm := br_f h103 hm
      refine GS.exit rfl ?_
      have hy := Option.some.inj hm
      subst hy
      refine GS.end_ (fn := Try.f52) [] [] [] rfl Try.func52 (by kernel_rfl) trivial (fun w' hs => ?_)
      exact ⟨(), rfl, hs.turnedG (ks := [1]) rfl rfl⟩

theorem w_slices_swapRangeCmpFunc_api_Item_ (F : Nat) (a0_o : Option Addr) (a0_c : Nat) (a0 : List S_api_Item) (a1 : Int) (a2 : Int) (a3 : Int) {y : List S_api_Item} (hm : m_slices_swapRangeCmpFunc_api_Item_ F a0 a1 a2 a3 = some y) : CallG Try.prog 56 #[.slice a0_o a0.length a0_c, .int .i64 a1, .int .i64 a2, .int .i64 a3, .func (.func 46) #[] #[]] (X := Unit) (fun (_ : Unit) => .tuple #[]) [o48 a0_o a0_c a0] [] (fun (_ : Unit) => [o48 a0_o a0_c y]) := by
  intro w hg
  rw [m_slices_swapRangeCmpFunc_api_Item_] at hm
  refine GS.start (S := mayT [o48 a0_o a0_c a0] []) (mem := [(1, o48 a0_o a0_c a0)]) Try.func56 rfl Try.ntmps56 (Nat.le_of_ble_eq_true rfl) (hg.start rfl) ?_
  refine GS.conv (env' := [(0, .slice a0_o a0.length a0_c), (1, .int .i64 a1), (2, .int .i64 a2), (3, .int .i64 a3), (4, .func (.func 46) #[] #[])]) rfl rfl ?_
  refine GS.seq ?_
  refine GS.region (env' := fun _ => [(0, .slice a0_o a0.length a0_c), (1, .int .i64 a1), (2, .int .i64 a2), (3, .int .i64 a3), (10, .int .i64 0)]) (mem' := fun _ => [(1, o48 a0_o a0_c a0)]) (RunsTo.mk [] [0, 1, 2, 3, 10] [1] (fun _ => []) (fun _ => by kernel_rfl) (fun _ => trivial)) ?_
  intro _
  refine GS.block ?_
  refine GS.loop ?_
  refine grd_elim hm (fun g22 hm => ?_)
  refine GS.rekey (env' := [(0, .slice a0_o a0.length a0_c), (1, .int .i64 a1), (2, .int .i64 a2), (3, .int .i64 a3), (10, .int .i64 0)]) (mem' := [(1, o48 a0_o a0_c a0)]) [0, 1, 2, 3, 10] [(1, 1)] (by kernel_rfl) (by kernel_rfl) rfl ?_
  refine loopC_elim hm (fun st37 fn38 hst39 hfn40 hm => ?_)
  refine GS.loopInv (ι := Nat × Nat × List S_api_Item) (I := fun ⟨rs35, v10_1, l1_1⟩ => ((a3) - ((v10_1 : Nat) : Int) : Int).toNat = rs35 ∧ loopC st37 fn38 rs35 v10_1 l1_1 = some y) (μ := fun ⟨rs35, v10_1, l1_1⟩ => rs35) (E := fun ⟨rs35, v10_1, l1_1⟩ => [(0, .slice a0_o l1_1.length a0_c), (1, .int .i64 a1), (2, .int .i64 a2), (3, .int .i64 a3), (10, .int .i64 ((v10_1 : Nat) : Int))]) (M := fun ⟨rs35, v10_1, l1_1⟩ => [(1, o48 a0_o a0_c l1_1)]) ?_ ⟨(Int.toNat (a3 - ((0 : Nat) : Int))), 0, a0⟩ ⟨rfl, hm⟩
  rintro ⟨rs35, v10_1, l1_1⟩ ⟨hd21, hm⟩ ih36
  cases rs35 with
  | zero =>
    replace hm := (hfn40 _ _).symm.trans hm
    try dsimp only at hm
    refine GS.seq ?_
    refine GS.seq ?_
    refine GS.region (env' := fun _ => [(0, .slice a0_o l1_1.length a0_c), (1, .int .i64 a1), (2, .int .i64 a2), (3, .int .i64 a3), (10, .int .i64 ((v10_1 : Nat) : Int)), (13, .bool (decide (((v10_1 : Nat) : Int) < a3)))]) (mem' := fun _ => [(1, o48 a0_o a0_c l1_1)]) (RunsTo.mk [] [0, 1, 2, 3, 10, 13] [1] (fun _ => []) (fun _ => by kernel_rfl) (fun _ => trivial)) ?_
    intro _
    refine GS.cond (t := decide (((v10_1 : Nat) : Int) < a3)) rfl rfl (fun h33 => absb h33 (cnt0 hd21)) (fun _ => ?_)
    refine GS.exit rfl ?_
    have hy := Option.some.inj hm
    subst hy
    refine GS.end_ (fn := Try.f56) [] [] [] rfl Try.func56 (by kernel_rfl) trivial (fun w' hs => ?_)
    exact ⟨(), rfl, hs.turnedG (ks := [1]) rfl rfl⟩
  | succ rs35 =>
    replace hm := (hst39 _ _ _).symm.trans hm
    try dsimp only at hm
    refine GS.seq ?_
    refine GS.seq ?_
    refine GS.region (env' := fun _ => [(0, .slice a0_o l1_1.length a0_c), (1, .int .i64 a1), (2, .int .i64 a2), (3, .int .i64 a3), (10, .int .i64 ((v10_1 : Nat) : Int)), (13, .bool (decide (((v10_1 : Nat) : Int) < a3)))]) (mem' := fun _ => [(1, o48 a0_o a0_c l1_1)]) (RunsTo.mk [] [0, 1, 2, 3, 10, 13] [1] (fun _ => []) (fun _ => by kernel_rfl) (fun _ => trivial)) ?_
    intro _
    refine GS.cond (t := decide (((v10_1 : Nat) : Int) < a3)) rfl rfl (fun _ => ?_) (fun h24 => absb (cnt1 hd21) h24)
    refine GS.skip ?_
    refine GS.seq ?_
    refine GS.block ?_
    refine grd_elim hm (fun g26 hm => ?_)
    refine grd_elim hm (fun g27 hm => ?_)
    refine grd_elim hm (fun g28 hm => ?_)
    refine grd_elim hm (fun g29 hm => ?_)
    refine grd_elim hm (fun g30 hm => ?_)
    refine GS.region (env' := fun _ => [(0, .slice a0_o l1_1.length a0_c), (1, .int .i64 a1), (2, .int .i64 a2), (3, .int .i64 a3), (10, .int .i64 ((v10_1 : Nat) : Int))]) (mem' := fun _ => [(1, .osl a0_o a0_c 48 4 (((List.map S_api_Item.row l1_1).set (Int.toNat (a1 + ((v10_1 : Nat) : Int))) [.string ((l1_1.getD (Int.toNat (a2 + ((v10_1 : Nat) : Int))) dS_api_Item).Name), .int .i64 (((l1_1.getD (Int.toNat (a2 + ((v10_1 : Nat) : Int))) dS_api_Item).Version).Epoch), .int .i64 (((l1_1.getD (Int.toNat (a2 + ((v10_1 : Nat) : Int))) dS_api_Item).Version).N), .int .u32 ((l1_1.getD (Int.toNat (a2 + ((v10_1 : Nat) : Int))) dS_api_Item).Crc)]).set (Int.toNat (a2 + ((v10_1 : Nat) : Int))) [.string ((l1_1.getD (Int.toNat (a1 + ((v10_1 : Nat) : Int))) dS_api_Item).Name), .int .i64 (((l1_1.getD (Int.toNat (a1 + ((v10_1 : Nat) : Int))) dS_api_Item).Version).Epoch), .int .i64 (((l1_1.getD (Int.toNat (a1 + ((v10_1 : Nat) : Int))) dS_api_Item).Version).N), .int .u32 ((l1_1.getD (Int.toNat (a1 + ((v10_1 : Nat) : Int))) dS_api_Item).Crc)]))]) (RunsTo.mkd [(3, { sp := some (.int .i64 (a1 + ((v10_1 : Nat) : Int))) }), (7, { sp := some (.int .i64 (a2 + ((v10_1 : Nat) : Int))) }), (11, { sp := some (.int .i64 (a2 + ((v10_1 : Nat) : Int))) }), (12, { act := .idx 1 (Int.toNat (a2 + ((v10_1 : Nat) : Int))) }), (13, { act := .load 1 (Int.toNat (a2 + ((v10_1 : Nat) : Int))) 0 [.string ((l1_1.getD (Int.toNat (a2 + ((v10_1 : Nat) : Int))) dS_api_Item).Name), .int .i64 (((l1_1.getD (Int.toNat (a2 + ((v10_1 : Nat) : Int))) dS_api_Item).Version).Epoch), .int .i64 (((l1_1.getD (Int.toNat (a2 + ((v10_1 : Nat) : Int))) dS_api_Item).Version).N), .int .u32 ((l1_1.getD (Int.toNat (a2 + ((v10_1 : Nat) : Int))) dS_api_Item).Crc)] }), (17, { sp := some (.int .i64 (a1 + ((v10_1 : Nat) : Int))) }), (18, { act := .idx 1 (Int.toNat (a1 + ((v10_1 : Nat) : Int))) }), (19, { act := .load 1 (Int.toNat (a1 + ((v10_1 : Nat) : Int))) 0 [.string ((l1_1.getD (Int.toNat (a1 + ((v10_1 : Nat) : Int))) dS_api_Item).Name), .int .i64 (((l1_1.getD (Int.toNat (a1 + ((v10_1 : Nat) : Int))) dS_api_Item).Version).Epoch), .int .i64 (((l1_1.getD (Int.toNat (a1 + ((v10_1 : Nat) : Int))) dS_api_Item).Version).N), .int .u32 ((l1_1.getD (Int.toNat (a1 + ((v10_1 : Nat) : Int))) dS_api_Item).Crc)] }), (20, { act := .idx 1 (Int.toNat (a1 + ((v10_1 : Nat) : Int))) }), (21, { act := .store (Int.toNat (a1 + ((v10_1 : Nat) : Int))) 0 [.string ((l1_1.getD (Int.toNat (a1 + ((v10_1 : Nat) : Int))) dS_api_Item).Name), .int .i64 (((l1_1.getD (Int.toNat (a1 + ((v10_1 : Nat) : Int))) dS_api_Item).Version).Epoch), .int .i64 (((l1_1.getD (Int.toNat (a1 + ((v10_1 : Nat) : Int))) dS_api_Item).Version).N), .int .u32 ((l1_1.getD (Int.toNat (a1 + ((v10_1 : Nat) : Int))) dS_api_Item).Crc)], key := some 1 }), (22, { act := .idx 1 (Int.toNat (a2 + ((v10_1 : Nat) : Int))) }), (23, { act := .store (Int.toNat (a2 + ((v10_1 : Nat) : Int))) 0 [.string (((l1_1.set (Int.toNat (a1 + ((v10_1 : Nat) : Int))) (l1_1.getD (Int.toNat (a2 + ((v10_1 : Nat) : Int))) dS_api_Item)).getD (Int.toNat (a2 + ((v10_1 : Nat) : Int))) dS_api_Item).Name), .int .i64 ((((l1_1.set (Int.toNat (a1 + ((v10_1 : Nat) : Int))) (l1_1.getD (Int.toNat (a2 + ((v10_1 : Nat) : Int))) dS_api_Item)).getD (Int.toNat (a2 + ((v10_1 : Nat) : Int))) dS_api_Item).Version).Epoch), .int .i64 ((((l1_1.set (Int.toNat (a1 + ((v10_1 : Nat) : Int))) (l1_1.getD (Int.toNat (a2 + ((v10_1 : Nat) : Int))) dS_api_Item)).getD (Int.toNat (a2 + ((v10_1 : Nat) : Int))) dS_api_Item).Version).N), .int .u32 (((l1_1.set (Int.toNat (a1 + ((v10_1 : Nat) : Int))) (l1_1.getD (Int.toNat (a2 + ((v10_1 : Nat) : Int))) dS_api_Item)).getD (Int.toNat (a2 + ((v10_1 : Nat) : Int))) dS_api_Item).Crc)], key := some 1 })] [0, 1, 2, 3, 10] [1] (fun _ => [((.int .i64 (IntKind.i64.wrap (a1 + ((v10_1 : Nat) : Int)))) : Value) = .int .i64 (a1 + ((v10_1 : Nat) : Int)), ((.int .i64 (IntKind.i64.wrap (a2 + ((v10_1 : Nat) : Int)))) : Value) = .int .i64 (a2 + ((v10_1 : Nat) : Int)), ((.int .i64 (IntKind.i64.wrap (a2 + ((v10_1 : Nat) : Int)))) : Value) = .int .i64 (a2 + ((v10_1 : Nat) : Int)), a0_o = a0_o, l1_1.length = (List.map S_api_Item.row l1_1).length, ((a2 + ((v10_1 : Nat) : Int)) : Int) = (((Int.toNat (a2 + ((v10_1 : Nat) : Int))) : Nat) : Int), (Int.toNat (a2 + ((v10_1 : Nat) : Int))) < l1_1.length, blk a0_o = blk a0_o, offs a0_o + (Int.toNat (a2 + ((v10_1 : Nat) : Int))) * 4 = offs a0_o + ((Int.toNat (a2 + ((v10_1 : Nat) : Int))) * 4 + 0), (List.map S_api_Item.row l1_1)[(Int.toNat (a2 + ((v10_1 : Nat) : Int)))]? = some [.string ((l1_1.getD (Int.toNat (a2 + ((v10_1 : Nat) : Int))) dS_api_Item).Name), .int .i64 (((l1_1.getD (Int.toNat (a2 + ((v10_1 : Nat) : Int))) dS_api_Item).Version).Epoch), .int .i64 (((l1_1.getD (Int.toNat (a2 + ((v10_1 : Nat) : Int))) dS_api_Item).Version).N), .int .u32 ((l1_1.getD (Int.toNat (a2 + ((v10_1 : Nat) : Int))) dS_api_Item).Crc)], ((.int .i64 (IntKind.i64.wrap (a1 + ((v10_1 : Nat) : Int)))) : Value) = .int .i64 (a1 + ((v10_1 : Nat) : Int)), a0_o = a0_o, l1_1.length = (List.map S_api_Item.row l1_1).length, ((a1 + ((v10_1 : Nat) : Int)) : Int) = (((Int.toNat (a1 + ((v10_1 : Nat) : Int))) : Nat) : Int), (Int.toNat (a1 + ((v10_1 : Nat) : Int))) < l1_1.length, blk a0_o = blk a0_o, offs a0_o + (Int.toNat (a1 + ((v10_1 : Nat) : Int))) * 4 = offs a0_o + ((Int.toNat (a1 + ((v10_1 : Nat) : Int))) * 4 + 0), (List.map S_api_Item.row l1_1)[(Int.toNat (a1 + ((v10_1 : Nat) : Int)))]? = some [.string ((l1_1.getD (Int.toNat (a1 + ((v10_1 : Nat) : Int))) dS_api_Item).Name), .int .i64 (((l1_1.getD (Int.toNat (a1 + ((v10_1 : Nat) : Int))) dS_api_Item).Version).Epoch), .int .i64 (((l1_1.getD (Int.toNat (a1 + ((v10_1 : Nat) : Int))) dS_api_Item).Version).N), .int .u32 ((l1_1.getD (Int.toNat (a1 + ((v10_1 : Nat) : Int))) dS_api_Item).Crc)], a0_o = a0_o, l1_1.length = (List.map S_api_Item.row l1_1).length, ((a1 + ((v10_1 : Nat) : Int)) : Int) = (((Int.toNat (a1 + ((v10_1 : Nat) : Int))) : Nat) : Int), (Int.toNat (a1 + ((v10_1 : Nat) : Int))) < l1_1.length, blk a0_o = blk a0_o, offs a0_o + (Int.toNat (a1 + ((v10_1 : Nat) : Int))) * 4 = offs a0_o + ((Int.toNat (a1 + ((v10_1 : Nat) : Int))) * 4 + 0), (List.map S_api_Item.row l1_1)[(Int.toNat (a1 + ((v10_1 : Nat) : Int)))]? = some [.string ((l1_1.getD (Int.toNat (a1 + ((v10_1 : Nat) : Int))) dS_api_Item).Name), .int .i64 (((l1_1.getD (Int.toNat (a1 + ((v10_1 : Nat) : Int))) dS_api_Item).Version).Epoch), .int .i64 (((l1_1.getD (Int.toNat (a1 + ((v10_1 : Nat) : Int))) dS_api_Item).Version).N), .int .u32 ((l1_1.getD (Int.toNat (a1 + ((v10_1 : Nat) : Int))) dS_api_Item).Crc)], ((.agg #[.string ((l1_1.getD (Int.toNat (a2 + ((v10_1 : Nat) : Int))) dS_api_Item).Name), .int .i64 (((l1_1.getD (Int.toNat (a2 + ((v10_1 : Nat) : Int))) dS_api_Item).Version).Epoch), .int .i64 (((l1_1.getD (Int.toNat (a2 + ((v10_1 : Nat) : Int))) dS_api_Item).Version).N), .int .u32 ((l1_1.getD (Int.toNat (a2 + ((v10_1 : Nat) : Int))) dS_api_Item).Crc)]) : Value).cells.toList.all Value.oneCell' = true, a0_o = a0_o, l1_1.length = ((List.map S_api_Item.row l1_1).set (Int.toNat (a1 + ((v10_1 : Nat) : Int))) [.string ((l1_1.getD (Int.toNat (a2 + ((v10_1 : Nat) : Int))) dS_api_Item).Name), .int .i64 (((l1_1.getD (Int.toNat (a2 + ((v10_1 : Nat) : Int))) dS_api_Item).Version).Epoch), .int .i64 (((l1_1.getD (Int.toNat (a2 + ((v10_1 : Nat) : Int))) dS_api_Item).Version).N), .int .u32 ((l1_1.getD (Int.toNat (a2 + ((v10_1 : Nat) : Int))) dS_api_Item).Crc)]).length, ((a2 + ((v10_1 : Nat) : Int)) : Int) = (((Int.toNat (a2 + ((v10_1 : Nat) : Int))) : Nat) : Int), (Int.toNat (a2 + ((v10_1 : Nat) : Int))) < l1_1.length, blk a0_o = blk a0_o, offs a0_o + (Int.toNat (a2 + ((v10_1 : Nat) : Int))) * 4 = offs a0_o + ((Int.toNat (a2 + ((v10_1 : Nat) : Int))) * 4 + 0), ((List.map S_api_Item.row l1_1).set (Int.toNat (a1 + ((v10_1 : Nat) : Int))) [.string ((l1_1.getD (Int.toNat (a2 + ((v10_1 : Nat) : Int))) dS_api_Item).Name), .int .i64 (((l1_1.getD (Int.toNat (a2 + ((v10_1 : Nat) : Int))) dS_api_Item).Version).Epoch), .int .i64 (((l1_1.getD (Int.toNat (a2 + ((v10_1 : Nat) : Int))) dS_api_Item).Version).N), .int .u32 ((l1_1.getD (Int.toNat (a2 + ((v10_1 : Nat) : Int))) dS_api_Item).Crc)])[(Int.toNat (a2 + ((v10_1 : Nat) : Int)))]? = some [.string (((l1_1.set (Int.toNat (a1 + ((v10_1 : Nat) : Int))) (l1_1.getD (Int.toNat (a2 + ((v10_1 : Nat) : Int))) dS_api_Item)).getD (Int.toNat (a2 + ((v10_1 : Nat) : Int))) dS_api_Item).Name), .int .i64 ((((l1_1.set (Int.toNat (a1 + ((v10_1 : Nat) : Int))) (l1_1.getD (Int.toNat (a2 + ((v10_1 : Nat) : Int))) dS_api_Item)).getD (Int.toNat (a2 + ((v10_1 : Nat) : Int))) dS_api_Item).Version).Epoch), .int .i64 ((((l1_1.set (Int.toNat (a1 + ((v10_1 : Nat) : Int))) (l1_1.getD (Int.toNat (a2 + ((v10_1 : Nat) : Int))) dS_api_Item)).getD (Int.toNat (a2 + ((v10_1 : Nat) : Int))) dS_api_Item).Version).N), .int .u32 (((l1_1.set (Int.toNat (a1 + ((v10_1 : Nat) : Int))) (l1_1.getD (Int.toNat (a2 + ((v10_1 : Nat) : Int))) dS_api_Item)).getD (Int.toNat (a2 + ((v10_1 : Nat) : Int))) dS_api_Item).Crc)], ((.agg #[.string ((l1_1.getD (Int.toNat (a1 + ((v10_1 : Nat) : Int))) dS_api_Item).Name), .int .i64 (((l1_1.getD (Int.toNat (a1 + ((v10_1 : Nat) : Int))) dS_api_Item).Version).Epoch), .int .i64 (((l1_1.getD (Int.toNat (a1 + ((v10_1 : Nat) : Int))) dS_api_Item).Version).N), .int .u32 ((l1_1.getD (Int.toNat (a1 + ((v10_1 : Nat) : Int))) dS_api_Item).Crc)]) : Value).cells.toList.all Value.oneCell' = true]) (by kernel_rfl) (by kernel_rfl) (fun _ => by kernel_rfl) (fun _ => ⟨I64.w g26, I64.w g27, I64.w g27, rfl, mlen S_api_Item.row l1_1, g28.eq, g28.2, rfl, rfl, map_at S_api_Item.row dS_api_Item g28.2, I64.w g26, rfl, mlen S_api_Item.row l1_1, g29.eq, g29.2, rfl, rfl, map_at S_api_Item.row dS_api_Item g29.2, rfl, mlen S_api_Item.row l1_1, g29.eq, g29.2, rfl, rfl, map_at S_api_Item.row dS_api_Item g29.2, rfl, rfl, (by simp []), g30.eq, (Nat.lt_of_lt_of_eq g30.2 (show (l1_1.set (Int.toNat (a1 + ((v10_1 : Nat) : Int))) (l1_1.getD (Int.toNat (a2 + ((v10_1 : Nat) : Int))) dS_api_Item)).length = l1_1.length from (by simp []))), rfl, rfl, (by rw [show (List.map S_api_Item.row l1_1).set (Int.toNat (a1 + ((v10_1 : Nat) : Int))) [.string ((l1_1.getD (Int.toNat (a2 + ((v10_1 : Nat) : Int))) dS_api_Item).Name), .int .i64 (((l1_1.getD (Int.toNat (a2 + ((v10_1 : Nat) : Int))) dS_api_Item).Version).Epoch), .int .i64 (((l1_1.getD (Int.toNat (a2 + ((v10_1 : Nat) : Int))) dS_api_Item).Version).N), .int .u32 ((l1_1.getD (Int.toNat (a2 + ((v10_1 : Nat) : Int))) dS_api_Item).Crc)] = List.map S_api_Item.row (l1_1.set (Int.toNat (a1 + ((v10_1 : Nat) : Int))) (l1_1.getD (Int.toNat (a2 + ((v10_1 : Nat) : Int))) dS_api_Item)) from mset S_api_Item.row l1_1 (Int.toNat (a1 + ((v10_1 : Nat) : Int))) (l1_1.getD (Int.toNat (a2 + ((v10_1 : Nat) : Int))) dS_api_Item)]; exact map_at S_api_Item.row dS_api_Item g30.2), rfl, trivial⟩)) ?_
    intro _
    refine GS.conv (mem' := [(1, o48 a0_o a0_c ((l1_1.set (Int.toNat (a1 + ((v10_1 : Nat) : Int))) (l1_1.getD (Int.toNat (a2 + ((v10_1 : Nat) : Int))) dS_api_Item)).set (Int.toNat (a2 + ((v10_1 : Nat) : Int))) (l1_1.getD (Int.toNat (a1 + ((v10_1 : Nat) : Int))) dS_api_Item)))]) rfl (congrArg (fun rr : List (List Value) => ([(1, .osl a0_o a0_c 48 4 rr)] : List (Nat × Ent))) (show ((List.map S_api_Item.row l1_1).set (Int.toNat (a1 + ((v10_1 : Nat) : Int))) [.string ((l1_1.getD (Int.toNat (a2 + ((v10_1 : Nat) : Int))) dS_api_Item).Name), .int .i64 (((l1_1.getD (Int.toNat (a2 + ((v10_1 : Nat) : Int))) dS_api_Item).Version).Epoch), .int .i64 (((l1_1.getD (Int.toNat (a2 + ((v10_1 : Nat) : Int))) dS_api_Item).Version).N), .int .u32 ((l1_1.getD (Int.toNat (a2 + ((v10_1 : Nat) : Int))) dS_api_Item).Crc)]).set (Int.toNat (a2 + ((v10_1 : Nat) : Int))) [.string ((l1_1.getD (Int.toNat (a1 + ((v10_1 : Nat) : Int))) dS_api_Item).Name), .int .i64 (((l1_1.getD (Int.toNat (a1 + ((v10_1 : Nat) : Int))) dS_api_Item).Version).Epoch), .int .i64 (((l1_1.getD (Int.toNat (a1 + ((v10_1 : Nat) : Int))) dS_api_Item).Version).N), .int .u32 ((l1_1.getD (Int.toNat (a1 + ((v10_1 : Nat) : Int))) dS_api_Item).Crc)] = List.map S_api_Item.row ((l1_1.set (Int.toNat (a1 + ((v10_1 : Nat) : Int))) (l1_1.getD (Int.toNat (a2 + ((v10_1 : Nat) : Int))) dS_api_Item)).set (Int.toNat (a2 + ((v10_1 : Nat) : Int))) (l1_1.getD (Int.toNat (a1 + ((v10_1 : Nat) : Int))) dS_api_Item)) from (by rw [show (List.map S_api_Item.row l1_1).set (Int.toNat (a1 + ((v10_1 : Nat) : Int))) [.string ((l1_1.getD (Int.toNat (a2 + ((v10_1 : Nat) : Int))) dS_api_Item).Name), .int .i64 (((l1_1.getD (Int.toNat (a2 + ((v10_1 : Nat) : Int))) dS_api_Item).Version).Epoch), .int .i64 (((l1_1.getD (Int.toNat (a2 + ((v10_1 : Nat) : Int))) dS_api_Item).Version).N), .int .u32 ((l1_1.getD (Int.toNat (a2 + ((v10_1 : Nat) : Int))) dS_api_Item).Crc)] = List.map S_api_Item.row (l1_1.set (Int.toNat (a1 + ((v10_1 : Nat) : Int))) (l1_1.getD (Int.toNat (a2 + ((v10_1 : Nat) : Int))) dS_api_Item)) from mset S_api_Item.row l1_1 (Int.toNat (a1 + ((v10_1 : Nat) : Int))) (l1_1.getD (Int.toNat (a2 + ((v10_1 : Nat) : Int))) dS_api_Item)]; exact mset S_api_Item.row (l1_1.set (Int.toNat (a1 + ((v10_1 : Nat) : Int))) (l1_1.getD (Int.toNat (a2 + ((v10_1 : Nat) : Int))) dS_api_Item)) (Int.toNat (a2 + ((v10_1 : Nat) : Int))) (l1_1.getD (Int.toNat (a1 + ((v10_1 : Nat) : Int))) dS_api_Item)))) ?_
    refine GS.inBlock ?_
    refine GS.conv (env' := [(0, .slice a0_o (((l1_1.set (Int.toNat (a1 + ((v10_1 : Nat) : Int))) (l1_1.getD (Int.toNat (a2 + ((v10_1 : Nat) : Int))) dS_api_Item)).set (Int.toNat (a2 + ((v10_1 : Nat) : Int))) (l1_1.getD (Int.toNat (a1 + ((v10_1 : Nat) : Int))) dS_api_Item)).length) a0_c), (1, .int .i64 a1), (2, .int .i64 a2), (3, .int .i64 a3), (10, .int .i64 ((v10_1 : Nat) : Int))]) (congrArg (fun vhole : Value => [(0, vhole), (1, .int .i64 a1), (2, .int .i64 a2), (3, .int .i64 a3), (10, .int .i64 ((v10_1 : Nat) : Int))]) (show ((.slice a0_o l1_1.length a0_c) : Value) = .slice a0_o (((l1_1.set (Int.toNat (a1 + ((v10_1 : Nat) : Int))) (l1_1.getD (Int.toNat (a2 + ((v10_1 : Nat) : Int))) dS_api_Item)).set (Int.toNat (a2 + ((v10_1 : Nat) : Int))) (l1_1.getD (Int.toNat (a1 + ((v10_1 : Nat) : Int))) dS_api_Item)).length) a0_c from (by simp []))) rfl ?_
    refine GS.region (env' := fun _ => [(0, .slice a0_o (((l1_1.set (Int.toNat (a1 + ((v10_1 : Nat) : Int))) (l1_1.getD (Int.toNat (a2 + ((v10_1 : Nat) : Int))) dS_api_Item)).set (Int.toNat (a2 + ((v10_1 : Nat) : Int))) (l1_1.getD (Int.toNat (a1 + ((v10_1 : Nat) : Int))) dS_api_Item)).length) a0_c), (1, .int .i64 a1), (2, .int .i64 a2), (3, .int .i64 a3), (10, .int .i64 ((v10_1 + 1 : Nat) : Int))]) (mem' := fun _ => [(1, o48 a0_o a0_c ((l1_1.set (Int.toNat (a1 + ((v10_1 : Nat) : Int))) (l1_1.getD (Int.toNat (a2 + ((v10_1 : Nat) : Int))) dS_api_Item)).set (Int.toNat (a2 + ((v10_1 : Nat) : Int))) (l1_1.getD (Int.toNat (a1 + ((v10_1 : Nat) : Int))) dS_api_Item)))]) (RunsTo.mk [(1, { sp := some (.int .i64 ((v10_1 + 1 : Nat) : Int)) })] [0, 1, 2, 3, 10] [1] (fun _ => [((.int .i64 (IntKind.i64.wrap (((v10_1 : Nat) : Int) + 1))) : Value) = .int .i64 ((v10_1 + 1 : Nat) : Int)]) (fun _ => by kernel_rfl) (fun _ => ⟨natwB (cnt1 hd21) g22, trivial⟩)) ?_
    intro _
    refine GS.inLoop ?_
    refine GS.rekey (env' := [(0, .slice a0_o (((l1_1.set (Int.toNat (a1 + ((v10_1 : Nat) : Int))) (l1_1.getD (Int.toNat (a2 + ((v10_1 : Nat) : Int))) dS_api_Item)).set (Int.toNat (a2 + ((v10_1 : Nat) : Int))) (l1_1.getD (Int.toNat (a1 + ((v10_1 : Nat) : Int))) dS_api_Item)).length) a0_c), (1, .int .i64 a1), (2, .int .i64 a2), (3, .int .i64 a3), (10, .int .i64 ((v10_1 + 1 : Nat) : Int))]) (mem' := [(1, o48 a0_o a0_c ((l1_1.set (Int.toNat (a1 + ((v10_1 : Nat) : Int))) (l1_1.getD (Int.toNat (a2 + ((v10_1 : Nat) : Int))) dS_api_Item)).set (Int.toNat (a2 + ((v10_1 : Nat) : Int))) (l1_1.getD (Int.toNat (a1 + ((v10_1 : Nat) : Int))) dS_api_Item)))]) [0, 1, 2, 3, 10] [(1, 1)] (by kernel_rfl) (by kernel_rfl) rfl ?_
    exact ih36 ⟨rs35, v10_1 + 1, ((l1_1.set (Int.toNat (a1 + ((v10_1 : Nat) : Int))) (l1_1.getD (Int.toNat (a2 + ((v10_1 : Nat) : Int))) dS_api_Item)).set (Int.toNat (a2 + ((v10_1 : Nat) : Int))) (l1_1.getD (Int.toNat (a1 + ((v10_1 : Nat) : Int))) dS_api_Item))⟩ ⟨cntN hd21, hm⟩ (Nat.lt_succ_self _)

theorem w_slices_rotateCmpFunc_api_Item_ (F : Nat) (a0_o : Option Addr) (a0_c : Nat) (a0 : List S_api_Item) (a1 : Int) (a2 : Int) (a3 : Int) {y : List S_api_Item} (hm : m_slices_rotateCmpFunc_api_Item_ F a0 a1 a2 a3 = some y) : CallG Try.prog 55 #[.slice a0_o a0.length a0_c, .int .i64 a1, .int .i64 a2, .int .i64 a3, .func (.func 46) #[] #[]] (X := Unit) (fun (_ : Unit) => .tuple #[]) [o48 a0_o a0_c a0] [] (fun (_ : Unit) => [o48 a0_o a0_c y]) := by
  intro w hg
  rw [m_slices_rotateCmpFunc_api_Item_] at hm
  refine GS.start (S := mayT [o48 a0_o a0_c a0] []) (mem := [(1, o48 a0_o a0_c a0)]) Try.func55 rfl Try.ntmps55 (Nat.le_of_ble_eq_true rfl) (hg.start rfl) ?_
  refine GS.conv (env' := [(0, .slice a0_o a0.length a0_c), (1, .int .i64 a1), (2, .int .i64 a2), (3, .int .i64 a3), (4, .func (.func 46) #[] #[])]) rfl rfl ?_
  refine GS.seq ?_
  refine grd_elim hm (fun g2 hm => ?_)
  refine GS.region (env' := fun _ => [(0, .slice a0_o a0.length a0_c), (2, .int .i64 a2), (3, .int .i64 a3), (4, .func (.func 46) #[] #[]), (10, .int .i64 (a2 - a1))]) (mem' := fun _ => [(1, o48 a0_o a0_c a0)]) (RunsTo.mk [(2, { sp := some (.int .i64 (a2 - a1)) })] [0, 2, 3, 4, 10] [1] (fun _ => [((.int .i64 (IntKind.i64.wrap (a2 - a1))) : Value) = .int .i64 (a2 - a1)]) (fun _ => by kernel_rfl) (fun _ => ⟨I64.w g2, trivial⟩)) ?_
  intro _
  refine GS.seq ?_
  refine grd_elim hm (fun g4 hm => ?_)
  refine GS.region (env' := fun _ => [(0, .slice a0_o a0.length a0_c), (2, .int .i64 a2), (4, .func (.func 46) #[] #[]), (10, .int .i64 (a2 - a1)), (11, .int .i64 (a3 - a2))]) (mem' := fun _ => [(1, o48 a0_o a0_c a0)]) (RunsTo.mk [(2, { sp := some (.int .i64 (a3 - a2)) })] [0, 2, 4, 10, 11] [1] (fun _ => [((.int .i64 (IntKind.i64.wrap (a3 - a2))) : Value) = .int .i64 (a3 - a2)]) (fun _ => by kernel_rfl) (fun _ => ⟨I64.w g4, trivial⟩)) ?_
  intro _
  refine GS.seq ?_
  refine GS.block ?_
  refine GS.loop ?_
  refine GS.rekey (env' := [(0, .slice a0_o a0.length a0_c), (2, .int .i64 a2), (4, .func (.func 46) #[] #[]), (10, .int .i64 (a2 - a1)), (11, .int .i64 (a3 - a2))]) (mem' := [(1, o48 a0_o a0_c a0)]) [0, 2, 4, 10, 11] [(1, 1)] (by kernel_rfl) (by kernel_rfl) rfl ?_
  refine loopW_elim hm (fun st93 hst95 hm => ?_)
  refine GS.loopInv (ι := Nat × Int × Int × List S_api_Item) (I := fun ⟨rs91, v10_1, v11_1, l1_1⟩ => loopW st93 rs91 (v10_1, v11_1, l1_1) = some y) (μ := fun ⟨rs91, v10_1, v11_1, l1_1⟩ => rs91) (E := fun ⟨rs91, v10_1, v11_1, l1_1⟩ => [(0, .slice a0_o l1_1.length a0_c), (2, .int .i64 a2), (4, .func (.func 46) #[] #[]), (10, .int .i64 v10_1), (11, .int .i64 v11_1)]) (M := fun ⟨rs91, v10_1, v11_1, l1_1⟩ => [(1, o48 a0_o a0_c l1_1)]) ?_ ⟨F, (a2 - a1), (a3 - a2), a0⟩ hm
  rintro ⟨rs91, v10_1, v11_1, l1_1⟩ hm ih92
  cases rs91 with
  | zero => cases hm
  | succ rs91 =>
    replace hm := (hst95 _ _).symm.trans hm
    try dsimp only at hm
    refine GS.seq ?_
    refine GS.seq ?_
    refine GS.region (env' := fun _ => [(0, .slice a0_o l1_1.length a0_c), (2, .int .i64 a2), (4, .func (.func 46) #[] #[]), (10, .int .i64 v10_1), (11, .int .i64 v11_1), (20, .bool (v10_1 != v11_1))]) (mem' := fun _ => [(1, o48 a0_o a0_c l1_1)]) (RunsTo.mk [] [0, 2, 4, 10, 11, 20] [1] (fun _ => []) (fun _ => by kernel_rfl) (fun _ => trivial)) ?_
    intro _
    refine GS.cond (t := v10_1 != v11_1) rfl rfl (fun h63 => ?_) (fun h63 => ?_)
    · replace hm := br_t h63 hm
      refine GS.skip ?_
      refine GS.block ?_
      refine GS.seq ?_
      refine GS.region (env' := fun _ => [(0, .slice a0_o l1_1.length a0_c), (2, .int .i64 a2), (4, .func (.func 46) #[] #[]), (10, .int .i64 v10_1), (11, .int .i64 v11_1), (23, .bool (decide (v10_1 > v11_1)))]) (mem' := fun _ => [(1, o48 a0_o a0_c l1_1)]) (RunsTo.mk [] [0, 2, 4, 10, 11, 23] [1] (fun _ => []) (fun _ => by kernel_rfl) (fun _ => trivial)) ?_
      intro _
      refine GS.cond (t := decide (v10_1 > v11_1)) rfl rfl (fun h65 => ?_) (fun h65 => ?_)
      · replace hm := br_t h65 hm
        refine GS.seq ?_
        refine grd_elim hm (fun g67 hm => ?_)
        refine bnd_elim hm (fun y68 e69 hm => ?_)
        refine grd_elim hm (fun g70 hm => ?_)
        refine GS.open_ ?_
        refine GR.run (i := 0) 7 (env' := fun _ => [(0, .slice a0_o l1_1.length a0_c), (2, .int .i64 a2), (4, .func (.func 46) #[] #[]), (10, .int .i64 v10_1), (11, .int .i64 v11_1), (24, .slice a0_o l1_1.length a0_c), (27, .int .i64 (a2 - v10_1)), (28, .int .i64 a2), (29, .int .i64 v11_1), (30, .func (.func 46) #[] #[])]) (mem' := fun _ => [(1, o48 a0_o a0_c l1_1)]) (Nat.le_of_ble_eq_true (by kernel_rfl)) (RunsTo.mk [(3, { sp := some (.int .i64 (a2 - v10_1)) })] [0, 2, 4, 10, 11, 24, 27, 28, 29, 30] [1] (fun _ => [((.int .i64 (IntKind.i64.wrap (a2 - v10_1))) : Value) = .int .i64 (a2 - v10_1)]) (fun _ => by kernel_rfl) (fun _ => ⟨I64.w g67, trivial⟩)) ?_
        intro _
        refine GR.callG (X := Unit) (i := 7) (g := 56) (args := #[.slice a0_o l1_1.length a0_c, .int .i64 (a2 - v10_1), .int .i64 a2, .int .i64 v11_1, .func (.func 46) #[] #[]]) (v := fun (_ : Unit) => .tuple #[]) (own := [o48 a0_o a0_c l1_1]) (ro := []) (es' := fun (_ : Unit) => [o48 a0_o a0_c y68]) (mem' := fun (_ : Unit) => [(1, o48 a0_o a0_c y68)]) (env' := fun (_ : Unit) => [(0, .slice a0_o l1_1.length a0_c), (2, .int .i64 a2), (4, .func (.func 46) #[] #[]), (10, .int .i64 v10_1), (11, .int .i64 v11_1)]) [1] [1] [0, 2, 4, 10, 11] [1] false (by kernel_rfl) (by kernel_rfl) (by kernel_rfl) (by kernel_rfl) (by kernel_rfl) (fun _ => rfl) (fun _ _ => rfl) trivial (by rintro _; kernel_rfl) (by rintro _; kernel_rfl) (w_slices_swapRangeCmpFunc_api_Item_ F a0_o a0_c l1_1 (a2 - v10_1) a2 v11_1 e69) ?_
        rintro _
        refine GR.done (Nat.le_of_ble_eq_true (by kernel_rfl)) ?_
        refine GS.conv (env' := [(0, .slice a0_o y68.length a0_c), (2, .int .i64 a2), (4, .func (.func 46) #[] #[]), (10, .int .i64 v10_1), (11, .int .i64 v11_1)]) (congrArg (fun vhole : Value => [(0, vhole), (2, .int .i64 a2), (4, .func (.func 46) #[] #[]), (10, .int .i64 v10_1), (11, .int .i64 v11_1)]) (show ((.slice a0_o l1_1.length a0_c) : Value) = .slice a0_o y68.length a0_c from (by simp [g70]))) rfl ?_
        refine grd_elim hm (fun g73 hm => ?_)
        refine GS.region (env' := fun _ => [(0, .slice a0_o y68.length a0_c), (2, .int .i64 a2), (4, .func (.func 46) #[] #[]), (10, .int .i64 (v10_1 - v11_1)), (11, .int .i64 v11_1)]) (mem' := fun _ => [(1, o48 a0_o a0_c y68)]) (RunsTo.mk [(2, { sp := some (.int .i64 (v10_1 - v11_1)) })] [0, 2, 4, 10, 11] [1] (fun _ => [((.int .i64 (IntKind.i64.wrap (v10_1 - v11_1))) : Value) = .int .i64 (v10_1 - v11_1)]) (fun _ => by kernel_rfl) (fun _ => ⟨I64.w g73, trivial⟩)) ?_
        intro _
        refine GS.inBlock ?_
        refine GS.inLoop ?_
        refine GS.rekey (env' := [(0, .slice a0_o y68.length a0_c), (2, .int .i64 a2), (4, .func (.func 46) #[] #[]), (10, .int .i64 (v10_1 - v11_1)), (11, .int .i64 v11_1)]) (mem' := [(1, o48 a0_o a0_c y68)]) [0, 2, 4, 10, 11] [(1, 1)] (by kernel_rfl) (by kernel_rfl) rfl ?_
        exact ih92 ⟨rs91, (v10_1 - v11_1), v11_1, y68⟩ hm (Nat.lt_succ_self _)
      · replace hm := br_f h65 hm
        refine GS.seq ?_
        refine grd_elim hm (fun g75 hm => ?_)
        refine grd_elim hm (fun g76 hm => ?_)
        refine grd_elim hm (fun g77 hm => ?_)
        refine bnd_elim hm (fun y78 e79 hm => ?_)
        refine grd_elim hm (fun g80 hm => ?_)
        refine GS.open_ ?_
        refine GR.run (i := 0) 11 (env' := fun _ => [(0, .slice a0_o l1_1.length a0_c), (2, .int .i64 a2), (4, .func (.func 46) #[] #[]), (10, .int .i64 v10_1), (11, .int .i64 v11_1), (35, .slice a0_o l1_1.length a0_c), (38, .int .i64 (a2 - v10_1)), (43, .int .i64 ((a2 + v11_1) - v10_1)), (44, .int .i64 v10_1), (45, .func (.func 46) #[] #[])]) (mem' := fun _ => [(1, o48 a0_o a0_c l1_1)]) (Nat.le_of_ble_eq_true (by kernel_rfl)) (RunsTo.mk [(3, { sp := some (.int .i64 (a2 - v10_1)) }), (6, { sp := some (.int .i64 (a2 + v11_1)) }), (8, { sp := some (.int .i64 ((a2 + v11_1) - v10_1)) })] [0, 2, 4, 10, 11, 35, 38, 43, 44, 45] [1] (fun _ => [((.int .i64 (IntKind.i64.wrap (a2 - v10_1))) : Value) = .int .i64 (a2 - v10_1), ((.int .i64 (IntKind.i64.wrap (a2 + v11_1))) : Value) = .int .i64 (a2 + v11_1), ((.int .i64 (IntKind.i64.wrap ((a2 + v11_1) - v10_1))) : Value) = .int .i64 ((a2 + v11_1) - v10_1)]) (fun _ => by kernel_rfl) (fun _ => ⟨I64.w g75, I64.w g76, I64.w g77, trivial⟩)) ?_
        intro _
        refine GR.callG (X := Unit) (i := 11) (g := 56) (args := #[.slice a0_o l1_1.length a0_c, .int .i64 (a2 - v10_1), .int .i64 ((a2 + v11_1) - v10_1), .int .i64 v10_1, .func (.func 46) #[] #[]]) (v := fun (_ : Unit) => .tuple #[]) (own := [o48 a0_o a0_c l1_1]) (ro := []) (es' := fun (_ : Unit) => [o48 a0_o a0_c y78]) (mem' := fun (_ : Unit) => [(1, o48 a0_o a0_c y78)]) (env' := fun (_ : Unit) => [(0, .slice a0_o l1_1.length a0_c), (2, .int .i64 a2), (4, .func (.func 46) #[] #[]), (10, .int .i64 v10_1), (11, .int .i64 v11_1)]) [1] [1] [0, 2, 4, 10, 11] [1] false (by kernel_rfl) (by kernel_rfl) (by kernel_rfl) (by kernel_rfl) (by kernel_rfl) (fun _ => rfl) (fun _ _ => rfl) trivial (by rintro _; kernel_rfl) (by rintro _; kernel_rfl) (w_slices_swapRangeCmpFunc_api_Item_ F a0_o a0_c l1_1 (a2 - v10_1) ((a2 + v11_1) - v10_1) v10_1 e79) ?_
        rintro _
        refine GR.done (Nat.le_of_ble_eq_true (by kernel_rfl)) ?_
        refine GS.conv (env' := [(0, .slice a0_o y78.length a0_c), (2, .int .i64 a2), (4, .func (.func 46) #[] #[]), (10, .int .i64 v10_1), (11, .int .i64 v11_1)]) (congrArg (fun vhole : Value => [(0, vhole), (2, .int .i64 a2), (4, .func (.func 46) #[] #[]), (10, .int .i64 v10_1), (11, .int .i64 v11_1)]) (show ((.slice a0_o l1_1.length a0_c) : Value) = .slice a0_o y78.length a0_c from (by simp [g80]))) rfl ?_
        refine grd_elim hm (fun g83 hm => ?_)
        refine GS.region (env' := fun _ => [(0, .slice a0_o y78.length a0_c), (2, .int .i64 a2), (4, .func (.func 46) #[] #[]), (10, .int .i64 v10_1), (11, .int .i64 (v11_1 - v10_1))]) (mem' := fun _ => [(1, o48 a0_o a0_c y78)]) (RunsTo.mk [(2, { sp := some (.int .i64 (v11_1 - v10_1)) })] [0, 2, 4, 10, 11] [1] (fun _ => [((.int .i64 (IntKind.i64.wrap (v11_1 - v10_1))) : Value) = .int .i64 (v11_1 - v10_1)]) (fun _ => by kernel_rfl) (fun _ => ⟨I64.w g83, trivial⟩)) ?_
        intro _
        refine GS.inBlock ?_
        refine GS.inLoop ?_
        refine GS.rekey (env' := [(0, .slice a0_o y78.length a0_c), (2, .int .i64 a2), (4, .func (.func 46) #[] #[]), (10, .int .i64 v10_1), (11, .int .i64 (v11_1 - v10_1))]) (mem' := [(1, o48 a0_o a0_c y78)]) [0, 2, 4, 10, 11] [(1, 1)] (by kernel_rfl) (by kernel_rfl) rfl ?_
        exact ih92 ⟨rs91, v10_1, (v11_1 - v10_1), y78⟩ hm (Nat.lt_succ_self _)
    · replace hm := br_f h63 hm
      refine GS.exit rfl ?_
      refine grd_elim hm (fun g98 hm => ?_)
      refine bnd_elim hm (fun y99 e100 hm => ?_)
      refine grd_elim hm (fun g101 hm => ?_)
      refine GS.open_ ?_
      refine GR.run (i := 0) 7 (env' := fun _ => [(50, .slice a0_o l1_1.length a0_c), (53, .int .i64 (a2 - v10_1)), (54, .int .i64 a2), (55, .int .i64 v10_1), (56, .func (.func 46) #[] #[])]) (mem' := fun _ => [(1, o48 a0_o a0_c l1_1)]) (Nat.le_of_ble_eq_true (by kernel_rfl)) (RunsTo.mk [(3, { sp := some (.int .i64 (a2 - v10_1)) })] [50, 53, 54, 55, 56] [1] (fun _ => [((.int .i64 (IntKind.i64.wrap (a2 - v10_1))) : Value) = .int .i64 (a2 - v10_1)]) (fun _ => by kernel_rfl) (fun _ => ⟨I64.w g98, trivial⟩)) ?_
      intro _
      refine GR.callG (X := Unit) (i := 7) (g := 56) (args := #[.slice a0_o l1_1.length a0_c, .int .i64 (a2 - v10_1), .int .i64 a2, .int .i64 v10_1, .func (.func 46) #[] #[]]) (v := fun (_ : Unit) => .tuple #[]) (own := [o48 a0_o a0_c l1_1]) (ro := []) (es' := fun (_ : Unit) => [o48 a0_o a0_c y99]) (mem' := fun (_ : Unit) => [(1, o48 a0_o a0_c y99)]) (env' := fun (_ : Unit) => []) [1] [1] [] [1] false (by kernel_rfl) (by kernel_rfl) (by kernel_rfl) (by kernel_rfl) (by kernel_rfl) (fun _ => rfl) (fun _ _ => rfl) trivial (by rintro _; kernel_rfl) (by rintro _; kernel_rfl) (w_slices_swapRangeCmpFunc_api_Item_ F a0_o a0_c l1_1 (a2 - v10_1) a2 v10_1 e100) ?_
      rintro _
      refine GR.done (Nat.le_of_ble_eq_true (by kernel_rfl)) ?_
      have hy := Option.some.inj hm
      subst hy
      refine GS.end_ (fn := Try.f55) [] [] [] rfl Try.func55 (by kernel_rfl) trivial (fun w' hs => ?_)
      exact ⟨(), rfl, hs.turnedG (ks := [1]) rfl rfl⟩

end Go.Proofs.Yticlccnajfjdeaa
