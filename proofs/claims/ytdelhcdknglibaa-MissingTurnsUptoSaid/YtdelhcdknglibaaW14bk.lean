/-
  CHAPTER 14b: the functions do what their models say (11).
-/
import Derived.Test.YtdelhcdknglibaaM14b
set_option linter.unusedVariables false
set_option linter.unusedSimpArgs false
set_option maxRecDepth 100000
namespace Go.Proofs.Ytdelhcdknglibaa
open Go Go.RowKit Sx

theorem w_tholeref13_Head (F : Nat) (a0_Les : Int) (a0_Tail : S_api_Version) (a0_Log_o : Option Addr) (a0_Log_c : Nat) (a0_Log : List S_api_Entry) (a0_Lasts_o : Option Addr) (a0_Lasts_c : Nat) (a0_Lasts : List S_api_Last) (a0_Items_o : Option Addr) (a0_Items_c : Nat) (a0_Items : List S_api_Item) {y : S_api_Version} (hm : m_tholeref13_Head F a0_Les a0_Tail a0_Log a0_Lasts a0_Items = some y) : CallG Try.prog 43 #[.agg #[.int .i64 a0_Les, .int .i64 a0_Tail.Epoch, .int .i64 a0_Tail.N, .slice a0_Log_o a0_Log.length a0_Log_c, .slice a0_Lasts_o a0_Lasts.length a0_Lasts_c, .slice a0_Items_o a0_Items.length a0_Items_c]] (X := Unit) (fun (_ : Unit) => .agg #[.int .i64 y.Epoch, .int .i64 y.N]) [] [r53 a0_Log_o a0_Log, r83 a0_Lasts_o a0_Lasts, r45 a0_Items_o a0_Items] (fun (_ : Unit) => []) := by
  intro w hg
  rw [m_tholeref13_Head] at hm
  refine GS.start (S := mayT [] [r53 a0_Log_o a0_Log, r83 a0_Lasts_o a0_Lasts, r45 a0_Items_o a0_Items]) (mem := [(1, r53 a0_Log_o a0_Log), (2, r83 a0_Lasts_o a0_Lasts), (3, r45 a0_Items_o a0_Items)]) Try.func43 rfl Try.ntmps43 (Nat.le_of_ble_eq_true rfl) (hg.start rfl) ?_
  refine GS.conv (env' := [(0, .agg #[.int .i64 a0_Les, .int .i64 a0_Tail.Epoch, .int .i64 a0_Tail.N, .slice a0_Log_o a0_Log.length a0_Log_c, .slice a0_Lasts_o a0_Lasts.length a0_Lasts_c, .slice a0_Items_o a0_Items.length a0_Items_c])]) rfl rfl ?_
  refine GS.seq ?_
  refine GS.region (env' := fun fr1 => [(1, .pointer (some ⟨(fr1 0).x, 0, none⟩)), (2, .pointer (some ⟨(fr1 1).x, 0, none⟩))]) (mem' := fun fr1 => [(1, r53 a0_Log_o a0_Log), (2, r83 a0_Lasts_o a0_Lasts), (3, r45 a0_Items_o a0_Items), (4, .cells ((fr1 0).x) 28 [.int .i64 a0_Les, .int .i64 a0_Tail.Epoch, .int .i64 a0_Tail.N, .slice a0_Log_o a0_Log.length a0_Log_c, .slice a0_Lasts_o a0_Lasts.length a0_Lasts_c, .slice a0_Items_o a0_Items.length a0_Items_c]), (5, .cells ((fr1 1).x) 23 [.int .i64 0, .int .i64 0])]) (RunsTo.mk [(0, { act := .new .var, key := some 4 }), (1, { act := .new .var, key := some 5 })] [1, 2] [1, 2, 3, 4, 5] (fun fr1 => []) (fun fr1 => by kernel_rfl) (fun fr1 => trivial)) ?_
  intro fr1
  refine GS.seq ?_
  refine GS.seq ?_
  refine GS.region (env' := fun _ => [(1, .pointer (some ⟨(fr1 0).x, 0, none⟩)), (2, .pointer (some ⟨(fr1 1).x, 0, none⟩)), (6, .bool (((a0_Log.length : Nat) : Int) == 0))]) (mem' := fun _ => [(1, r53 a0_Log_o a0_Log), (2, r83 a0_Lasts_o a0_Lasts), (3, r45 a0_Items_o a0_Items), (4, .cells ((fr1 0).x) 28 [.int .i64 a0_Les, .int .i64 a0_Tail.Epoch, .int .i64 a0_Tail.N, .slice a0_Log_o a0_Log.length a0_Log_c, .slice a0_Lasts_o a0_Lasts.length a0_Lasts_c, .slice a0_Items_o a0_Items.length a0_Items_c]), (5, .cells ((fr1 1).x) 23 [.int .i64 0, .int .i64 0])]) (RunsTo.mk [(1, { act := .load 4 0 0 [] })] [1, 2, 6] [1, 2, 3, 4, 5] (fun _ => [(fr1 0).x = (fr1 0).x]) (fun _ => by kernel_rfl) (fun _ => ⟨rfl, trivial⟩)) ?_
  intro _
  refine GS.cond (t := ((a0_Log.length : Nat) : Int) == 0) rfl rfl (fun h3 => ?_) (fun h3 => ?_)
  · replace hm := br_t h3 hm
    refine GS.seq ?_
    refine GS.region (env' := fun _ => [(2, .pointer (some ⟨(fr1 1).x, 0, none⟩))]) (mem' := fun _ => [(5, .cells ((fr1 1).x) 23 [.int .i64 a0_Tail.Epoch, .int .i64 a0_Tail.N])]) (RunsTo.mk [(1, { act := .load 4 0 0 [] }), (2, { act := .store 0 0 [], key := some 5 })] [2] [5] (fun _ => [(fr1 0).x = (fr1 0).x, (fr1 1).x = (fr1 1).x, ((.agg #[.int .i64 a0_Tail.Epoch, .int .i64 a0_Tail.N]) : Value).cells.toList.all Value.oneCell' = true]) (fun _ => by kernel_rfl) (fun _ => ⟨rfl, rfl, rfl, trivial⟩)) ?_
    intro _
    have hy := Option.some.inj hm
    subst hy
    refine GS.ret (fn := Try.f43) [5] [.agg #[.int .i64 a0_Tail.Epoch, .int .i64 a0_Tail.N]] [(fr1 1).x = (fr1 1).x] rfl Try.func43 (by kernel_rfl) ⟨rfl, trivial⟩ (fun w' hs => ?_)
    exact ⟨(), rfl, hs.turnedG (ks := []) rfl rfl⟩
  · replace hm := br_f h3 hm
    refine GS.skip ?_
    refine GS.seq ?_
    refine grd_elim hm (fun g6 hm => ?_)
    refine grd_elim hm (fun g7 hm => ?_)
    refine GS.region (env' := fun _ => [(2, .pointer (some ⟨(fr1 1).x, 0, none⟩))]) (mem' := fun _ => [(5, .cells ((fr1 1).x) 23 [.int .i64 (((a0_Log.getD (Int.toNat (((a0_Log.length : Nat) : Int) - 1)) dS_api_Entry).Version).Epoch), .int .i64 (((a0_Log.getD (Int.toNat (((a0_Log.length : Nat) : Int) - 1)) dS_api_Entry).Version).N)])]) (RunsTo.mk [(1, { act := .load 4 0 0 [] }), (3, { act := .load 4 0 0 [] }), (5, { sp := some (.int .i64 (((a0_Log.length : Nat) : Int) - 1)) }), (6, { act := .idx 1 (Int.toNat (((a0_Log.length : Nat) : Int) - 1)) }), (8, { act := .load 1 (Int.toNat (((a0_Log.length : Nat) : Int) - 1)) 0 [.int .i64 (((a0_Log.getD (Int.toNat (((a0_Log.length : Nat) : Int) - 1)) dS_api_Entry).Version).Epoch), .int .i64 (((a0_Log.getD (Int.toNat (((a0_Log.length : Nat) : Int) - 1)) dS_api_Entry).Version).N), .bool ((a0_Log.getD (Int.toNat (((a0_Log.length : Nat) : Int) - 1)) dS_api_Entry).Remove), .int .i64 ((a0_Log.getD (Int.toNat (((a0_Log.length : Nat) : Int) - 1)) dS_api_Entry).Errno), .string ((a0_Log.getD (Int.toNat (((a0_Log.length : Nat) : Int) - 1)) dS_api_Entry).Name), .int .i64 ((a0_Log.getD (Int.toNat (((a0_Log.length : Nat) : Int) - 1)) dS_api_Entry).Client), .int .i64 ((a0_Log.getD (Int.toNat (((a0_Log.length : Nat) : Int) - 1)) dS_api_Entry).Number)] }), (9, { act := .store 0 0 [], key := some 5 })] [2] [5] (fun _ => [(fr1 0).x = (fr1 0).x, (fr1 0).x = (fr1 0).x, ((.int .i64 (IntKind.i64.wrap (((a0_Log.length : Nat) : Int) - 1))) : Value) = .int .i64 (((a0_Log.length : Nat) : Int) - 1), a0_Log_o = a0_Log_o, a0_Log.length = (List.map S_api_Entry.row a0_Log).length, ((((a0_Log.length : Nat) : Int) - 1) : Int) = (((Int.toNat (((a0_Log.length : Nat) : Int) - 1)) : Nat) : Int), (Int.toNat (((a0_Log.length : Nat) : Int) - 1)) < a0_Log.length, blk a0_Log_o = blk a0_Log_o, offs a0_Log_o + (Int.toNat (((a0_Log.length : Nat) : Int) - 1)) * 7 = offs a0_Log_o + ((Int.toNat (((a0_Log.length : Nat) : Int) - 1)) * 7 + 0), (List.map S_api_Entry.row a0_Log)[(Int.toNat (((a0_Log.length : Nat) : Int) - 1))]? = some [.int .i64 (((a0_Log.getD (Int.toNat (((a0_Log.length : Nat) : Int) - 1)) dS_api_Entry).Version).Epoch), .int .i64 (((a0_Log.getD (Int.toNat (((a0_Log.length : Nat) : Int) - 1)) dS_api_Entry).Version).N), .bool ((a0_Log.getD (Int.toNat (((a0_Log.length : Nat) : Int) - 1)) dS_api_Entry).Remove), .int .i64 ((a0_Log.getD (Int.toNat (((a0_Log.length : Nat) : Int) - 1)) dS_api_Entry).Errno), .string ((a0_Log.getD (Int.toNat (((a0_Log.length : Nat) : Int) - 1)) dS_api_Entry).Name), .int .i64 ((a0_Log.getD (Int.toNat (((a0_Log.length : Nat) : Int) - 1)) dS_api_Entry).Client), .int .i64 ((a0_Log.getD (Int.toNat (((a0_Log.length : Nat) : Int) - 1)) dS_api_Entry).Number)], (fr1 1).x = (fr1 1).x, ((.agg #[.int .i64 (((a0_Log.getD (Int.toNat (((a0_Log.length : Nat) : Int) - 1)) dS_api_Entry).Version).Epoch), .int .i64 (((a0_Log.getD (Int.toNat (((a0_Log.length : Nat) : Int) - 1)) dS_api_Entry).Version).N)]) : Value).cells.toList.all Value.oneCell' = true]) (fun _ => by kernel_rfl) (fun _ => ⟨rfl, rfl, I64.w g6, rfl, mlen S_api_Entry.row a0_Log, g7.eq, g7.2, rfl, rfl, map_at S_api_Entry.row dS_api_Entry g7.2, rfl, rfl, trivial⟩)) ?_
    intro _
    have hy := Option.some.inj hm
    subst hy
    refine GS.ret (fn := Try.f43) [5] [.agg #[.int .i64 (((a0_Log.getD (Int.toNat (((a0_Log.length : Nat) : Int) - 1)) dS_api_Entry).Version).Epoch), .int .i64 (((a0_Log.getD (Int.toNat (((a0_Log.length : Nat) : Int) - 1)) dS_api_Entry).Version).N)]] [(fr1 1).x = (fr1 1).x] rfl Try.func43 (by kernel_rfl) ⟨rfl, trivial⟩ (fun w' hs => ?_)
    exact ⟨(), rfl, hs.turnedG (ks := []) rfl rfl⟩

theorem w_tholeref09_Good (F : Nat) (a0 : ByteArray) {y : Bool} (hm : m_tholeref09_Good F a0 = some y) : CallG Try.prog 57 #[.string a0] (X := Unit) (fun (_ : Unit) => .bool y) [] [] (fun (_ : Unit) => []) := by
  intro w hg
  rw [m_tholeref09_Good] at hm
  refine GS.start (S := mayT [] []) (mem := []) Try.func57 rfl Try.ntmps57 (Nat.le_of_ble_eq_true rfl) (hg.start rfl) ?_
  refine GS.conv (env' := [(0, .string a0)]) rfl rfl ?_
  refine GS.seq ?_
  refine GS.region (env' := fun _ => [(0, .string a0)]) (mem' := fun _ => []) (RunsTo.mk [] [0] [] (fun _ => []) (fun _ => by kernel_rfl) (fun _ => trivial)) ?_
  intro _
  refine GS.seq ?_
  refine GS.seq ?_
  refine GS.region (env' := fun _ => [(0, .string a0), (3, .int .i64 0)]) (mem' := fun _ => []) (RunsTo.mk [] [0, 3] [] (fun _ => []) (fun _ => by kernel_rfl) (fun _ => trivial)) ?_
  intro _
  refine GS.block ?_
  refine GS.loop ?_
  refine grd_elim hm (fun g27 hm => ?_)
  refine GS.rekey (env' := [(0, .string a0), (3, .int .i64 0)]) (mem' := []) [0, 3] [] (by kernel_rfl) (by kernel_rfl) rfl ?_
  refine loopC_elim hm (fun st44 fn45 hst46 hfn47 hm => ?_)
  refine GS.loopInv (ι := Nat × Nat) (I := fun ⟨rs42, v3_1⟩ => ((((a0.size : Nat) : Int)) - ((v3_1 : Nat) : Int) : Int).toNat = rs42 ∧ loopC st44 fn45 rs42 v3_1 () = some y) (μ := fun ⟨rs42, v3_1⟩ => rs42) (E := fun ⟨rs42, v3_1⟩ => [(0, .string a0), (3, .int .i64 ((v3_1 : Nat) : Int))]) (M := fun ⟨rs42, v3_1⟩ => []) ?_ ⟨(Int.toNat (((a0.size : Nat) : Int) - ((0 : Nat) : Int))), 0⟩ ⟨rfl, hm⟩
  rintro ⟨rs42, v3_1⟩ ⟨hd26, hm⟩ ih43
  cases rs42 with
  | zero =>
    replace hm := (hfn47 _ _).symm.trans hm
    try dsimp only at hm
    refine GS.seq ?_
    refine GS.seq ?_
    refine GS.region (env' := fun _ => [(0, .string a0), (3, .int .i64 ((v3_1 : Nat) : Int)), (7, .bool (decide (((v3_1 : Nat) : Int) < ((a0.size : Nat) : Int))))]) (mem' := fun _ => []) (RunsTo.mk [] [0, 3, 7] [] (fun _ => []) (fun _ => by kernel_rfl) (fun _ => trivial)) ?_
    intro _
    refine GS.cond (t := decide (((v3_1 : Nat) : Int) < ((a0.size : Nat) : Int))) rfl rfl (fun h40 => absb h40 (cnt0 hd26)) (fun _ => ?_)
    refine GS.exit rfl ?_
    refine GS.seq ?_
    refine br_elim hm (fun h49 hm => ?_) (fun h49 hm => ?_)
    · skip
      refine GS.region (env' := fun _ => [(2, .bool (decide (((a0.size : Nat) : Int) ≤ 64)))]) (mem' := fun _ => []) (RunsTo.mk [(3, { sp := some (.bool true) })] [2] [] (fun _ => [((.bool (decide (((a0.size : Nat) : Int) ≥ 1))) : Value) = .bool true]) (fun _ => by kernel_rfl) (fun _ => ⟨bool_eq h49, trivial⟩)) ?_
      intro _
      have hy := Option.some.inj hm
      subst hy
      refine GS.ret (fn := Try.f57) [0] [.bool (decide (((a0.size : Nat) : Int) ≤ 64))] [] rfl Try.func57 (by kernel_rfl) trivial (fun w' hs => ?_)
      exact ⟨(), rfl, hs.turnedG (ks := []) rfl rfl⟩
    · skip
      refine GS.region (env' := fun _ => [(2, .bool false)]) (mem' := fun _ => []) (RunsTo.mk [(3, { sp := some (.bool false) })] [2] [] (fun _ => [((.bool (decide (((a0.size : Nat) : Int) ≥ 1))) : Value) = .bool false]) (fun _ => by kernel_rfl) (fun _ => ⟨bool_eq h49, trivial⟩)) ?_
      intro _
      have hy := Option.some.inj hm
      subst hy
      refine GS.ret (fn := Try.f57) [0] [.bool false] [] rfl Try.func57 (by kernel_rfl) trivial (fun w' hs => ?_)
      exact ⟨(), rfl, hs.turnedG (ks := []) rfl rfl⟩
  | succ rs42 =>
    replace hm := (hst46 _ _ _).symm.trans hm
    try dsimp only at hm
    refine GS.seq ?_
    refine GS.seq ?_
    refine GS.region (env' := fun _ => [(0, .string a0), (3, .int .i64 ((v3_1 : Nat) : Int)), (7, .bool (decide (((v3_1 : Nat) : Int) < ((a0.size : Nat) : Int))))]) (mem' := fun _ => []) (RunsTo.mk [] [0, 3, 7] [] (fun _ => []) (fun _ => by kernel_rfl) (fun _ => trivial)) ?_
    intro _
    refine GS.cond (t := decide (((v3_1 : Nat) : Int) < ((a0.size : Nat) : Int))) rfl rfl (fun _ => ?_) (fun h29 => absb (cnt1 hd26) h29)
    refine GS.skip ?_
    refine GS.seq ?_
    refine GS.block ?_
    refine GS.seq ?_
    refine jn_elim hm (fun J33 hJ35 hm => ?_)
    refine GS.cut (ι := Bool) (I := fun (v19_4 : Bool) => J33 v19_4 = some y) (E := fun (v19_4 : Bool) => [(0, .string a0), (3, .int .i64 ((v3_1 : Nat) : Int)), (19, .bool v19_4)]) (M := fun (v19_4 : Bool) => []) ?_ ?_
    rotate_left
    · intro H34
      refine grd_elim hm (fun g31 hm => ?_)
      refine br_elim hm (fun h32 hm => ?_) (fun h32 hm => ?_)
      · skip
        refine GS.region (env' := fun _ => [(0, .string a0), (3, .int .i64 ((v3_1 : Nat) : Int)), (19, .bool true)]) (mem' := fun _ => []) (RunsTo.mk [(2, { act := .elt v3_1 }), (4, { sp := some (.bool true) })] [0, 3, 19] [] (fun _ => [(((v3_1 : Nat) : Int) : Int) = ((v3_1 : Nat) : Int), v3_1 < a0.size, ((.bool (decide ((((a0.data.getD v3_1 0).toNat : Nat) : Int) < 33))) : Value) = .bool true]) (fun _ => by kernel_rfl) (fun _ => ⟨rfl, g31, bool_eq h32, trivial⟩)) ?_
        intro _
        refine GS.rekey (env' := [(0, .string a0), (3, .int .i64 ((v3_1 : Nat) : Int)), (19, .bool true)]) (mem' := []) [0, 3, 19] [] (by kernel_rfl) (by kernel_rfl) rfl ?_
        exact H34 true hm
      · skip
        refine GS.region (env' := fun _ => [(0, .string a0), (3, .int .i64 ((v3_1 : Nat) : Int)), (19, .bool (decide ((((a0.data.getD v3_1 0).toNat : Nat) : Int) > 126)))]) (mem' := fun _ => []) (RunsTo.mk [(2, { act := .elt v3_1 }), (4, { sp := some (.bool false) }), (7, { act := .elt v3_1 })] [0, 3, 19] [] (fun _ => [(((v3_1 : Nat) : Int) : Int) = ((v3_1 : Nat) : Int), v3_1 < a0.size, ((.bool (decide ((((a0.data.getD v3_1 0).toNat : Nat) : Int) < 33))) : Value) = .bool false, (((v3_1 : Nat) : Int) : Int) = ((v3_1 : Nat) : Int), v3_1 < a0.size]) (fun _ => by kernel_rfl) (fun _ => ⟨rfl, g31, bool_eq h32, rfl, g31, trivial⟩)) ?_
        intro _
        refine GS.rekey (env' := [(0, .string a0), (3, .int .i64 ((v3_1 : Nat) : Int)), (19, .bool (decide ((((a0.data.getD v3_1 0).toNat : Nat) : Int) > 126)))]) (mem' := []) [0, 3, 19] [] (by kernel_rfl) (by kernel_rfl) rfl ?_
        exact H34 (decide ((((a0.data.getD v3_1 0).toNat : Nat) : Int) > 126)) hm
    · rintro v19_4 hm
      replace hm := (hJ35 _).symm.trans hm
      try dsimp only at hm
      refine GS.cond (t := v19_4) rfl rfl (fun h36 => ?_) (fun h36 => ?_)
      · replace hm := br_t h36 hm
        refine GS.seq ?_
        refine GS.region (env' := fun _ => [(2, .bool false)]) (mem' := fun _ => []) (RunsTo.mk [] [2] [] (fun _ => []) (fun _ => by kernel_rfl) (fun _ => trivial)) ?_
        intro _
        have hy := Option.some.inj hm
        subst hy
        refine GS.ret (fn := Try.f57) [0] [.bool false] [] rfl Try.func57 (by kernel_rfl) trivial (fun w' hs => ?_)
        exact ⟨(), rfl, hs.turnedG (ks := []) rfl rfl⟩
      · replace hm := br_f h36 hm
        refine GS.skip ?_
        refine GS.inBlock ?_
        refine GS.region (env' := fun _ => [(0, .string a0), (3, .int .i64 ((v3_1 + 1 : Nat) : Int))]) (mem' := fun _ => []) (RunsTo.mk [(1, { sp := some (.int .i64 ((v3_1 + 1 : Nat) : Int)) })] [0, 3] [] (fun _ => [((.int .i64 (IntKind.i64.wrap (((v3_1 : Nat) : Int) + 1))) : Value) = .int .i64 ((v3_1 + 1 : Nat) : Int)]) (fun _ => by kernel_rfl) (fun _ => ⟨natwB (cnt1 hd26) g27, trivial⟩)) ?_
        intro _
        refine GS.inLoop ?_
        refine GS.rekey (env' := [(0, .string a0), (3, .int .i64 ((v3_1 + 1 : Nat) : Int))]) (mem' := []) [0, 3] [] (by kernel_rfl) (by kernel_rfl) rfl ?_
        exact ih43 ⟨rs42, v3_1 + 1⟩ ⟨cntN hd26, hm⟩ (Nat.lt_succ_self _)

end Go.Proofs.Ytdelhcdknglibaa
