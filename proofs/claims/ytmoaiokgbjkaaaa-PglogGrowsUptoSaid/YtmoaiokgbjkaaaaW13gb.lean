/-
  CHAPTER 13g: the functions do what their models say (2).
-/
import Derived.Test.YtmoaiokgbjkaaaaM13g
import Derived.Test.YtmoaiokgbjkaaaaW13ga
set_option linter.unusedVariables false
set_option linter.unusedSimpArgs false
set_option maxRecDepth 100000
set_option maxHeartbeats 8000000
namespace Go.Proofs.Ytmoaiokgbjkaaaa
open Go Go.RowKit Sx

theorem w_pglog_Check (F : Nat) (a0_Les : Int) (a0_Tail : S_api_Version) (a0_Log_o : Option Addr) (a0_Log_c : Nat) (a0_Log : List S_api_Entry) (a0_Lasts_o : Option Addr) (a0_Lasts_c : Nat) (a0_Lasts : List S_api_Last) (a0_Items_o : Option Addr) (a0_Items_c : Nat) (a0_Items : List S_api_Item) {y : Int} (hm : m_pglog_Check F a0_Les a0_Tail a0_Log a0_Lasts a0_Items = some y) : CallG Try.prog 21 #[.agg ((kc9 a0_Les a0_Tail.Epoch a0_Tail.N a0_Log_o a0_Log.length a0_Log_c a0_Lasts_o a0_Lasts.length a0_Lasts_c a0_Items_o a0_Items.length a0_Items_c)).toArray] (X := Unit) (fun (_ : Unit) => .int .i64 y) [] [r52 a0_Log_o a0_Log, r47 a0_Lasts_o a0_Lasts, r42 a0_Items_o a0_Items] (fun (_ : Unit) => []) := by
  intro w hg
  rw [m_pglog_Check] at hm
  refine GS.start (S := mayT [] [r52 a0_Log_o a0_Log, r47 a0_Lasts_o a0_Lasts, r42 a0_Items_o a0_Items]) (mem := [(1, r52 a0_Log_o a0_Log), (2, r47 a0_Lasts_o a0_Lasts), (3, r42 a0_Items_o a0_Items)]) Try.func21 rfl Try.ntmps21 (Nat.le_of_ble_eq_true rfl) (hg.start rfl) ?_
  refine GS.conv (env' := [(0, .agg ((kc9 a0_Les a0_Tail.Epoch a0_Tail.N a0_Log_o a0_Log.length a0_Log_c a0_Lasts_o a0_Lasts.length a0_Lasts_c a0_Items_o a0_Items.length a0_Items_c)).toArray)]) rfl rfl ?_
  refine GS.seq ?_
  refine GS.rz (fun fr1 => [(1, .pointer (some ⟨(fr1 0).x, 0, none⟩))]) (fun fr1 => [(1, r52 a0_Log_o a0_Log), (2, r47 a0_Lasts_o a0_Lasts), (3, r42 a0_Items_o a0_Items), (4, .cells ((fr1 0).x) 28 (kc9 a0_Les a0_Tail.Epoch a0_Tail.N a0_Log_o a0_Log.length a0_Log_c a0_Lasts_o a0_Lasts.length a0_Lasts_c a0_Items_o a0_Items.length a0_Items_c))]) [(0, { act := .new .var, key := some 4 })] [1] [1, 2, 3, 4] (fun fr1 => by kernel_rfl) ?_
  intro fr1
  refine GS.seq ?_
  refine GS.seq ?_
  refine jn_elim hm (fun J7 hJ9 hm => ?_)
  refine GS.cut (ι := Bool) (I := fun (v23_1 : Bool) => J7 v23_1 = some y) (E := fun (v23_1 : Bool) => [(1, .pointer (some ⟨(fr1 0).x, 0, none⟩)), (23, .bool v23_1)]) (M := fun (v23_1 : Bool) => [(1, r52 a0_Log_o a0_Log), (2, r47 a0_Lasts_o a0_Lasts), (3, r42 a0_Items_o a0_Items), (4, .cells ((fr1 0).x) 28 (kc9 a0_Les a0_Tail.Epoch a0_Tail.N a0_Log_o a0_Log.length a0_Log_c a0_Lasts_o a0_Lasts.length a0_Lasts_c a0_Items_o a0_Items.length a0_Items_c))]) ?_ ?_
  rotate_left
  · intro H8
    refine br_elim hm (fun h3 hm => ?_) (fun h3 hm => ?_)
    · skip
      refine GS.rgM (fun _ => [(1, .pointer (some ⟨(fr1 0).x, 0, none⟩)), (23, .bool true)]) [(1, { act := .load 4 0 0 [] }), (3, { sp := some (.bool true) })] [1, 23] [1, 2, 3, 4] (fun _ => [(fr1 0).x = (fr1 0).x, ((.bool (decide (a0_Les < 0))) : Value) = .bool true]) (fun _ => by kernel_rfl) (fun _ => ⟨rfl, bool_eq h3, trivial⟩) ?_
      intro _
      refine GS.rekey (env' := [(1, .pointer (some ⟨(fr1 0).x, 0, none⟩)), (23, .bool true)]) (mem' := [(1, r52 a0_Log_o a0_Log), (2, r47 a0_Lasts_o a0_Lasts), (3, r42 a0_Items_o a0_Items), (4, .cells ((fr1 0).x) 28 (kc9 a0_Les a0_Tail.Epoch a0_Tail.N a0_Log_o a0_Log.length a0_Log_c a0_Lasts_o a0_Lasts.length a0_Lasts_c a0_Items_o a0_Items.length a0_Items_c))]) [1, 23] [(1, 1), (2, 2), (3, 3), (4, 4)] (by kernel_rfl) (by kernel_rfl) rfl ?_
      exact H8 true hm
    · skip
      refine bnd_elim hm (fun y4 e5 hm => ?_)
      refine br_elim hm (fun h6 hm => ?_) (fun h6 hm => ?_)
      · skip
        refine GS.rgM (fun _ => [(1, .pointer (some ⟨(fr1 0).x, 0, none⟩)), (23, .bool true)]) [(1, { act := .load 4 0 0 [] }), (3, { sp := some (.bool false) }), (5, { act := .load 4 0 0 [] }), (6, { act := .call [] (.bool y4) }), (8, { sp := some (.bool true) })] [1, 23] [1, 2, 3, 4] (fun _ => [(fr1 0).x = (fr1 0).x, ((.bool (decide (a0_Les < 0))) : Value) = .bool false, (fr1 0).x = (fr1 0).x, CallOK Try.prog 33 #[.agg #[.int .i64 a0_Tail.Epoch, .int .i64 a0_Tail.N]] (.bool y4) [], ((.bool y4) : Value) = .bool true]) (fun _ => by kernel_rfl) (fun _ => ⟨rfl, bool_eq h3, rfl, (by have h1 := w_pglog_below F a0_Tail e5; exact h1.ok trivial), bool_eq h6, trivial⟩) ?_
        intro _
        refine GS.rekey (env' := [(1, .pointer (some ⟨(fr1 0).x, 0, none⟩)), (23, .bool true)]) (mem' := [(1, r52 a0_Log_o a0_Log), (2, r47 a0_Lasts_o a0_Lasts), (3, r42 a0_Items_o a0_Items), (4, .cells ((fr1 0).x) 28 (kc9 a0_Les a0_Tail.Epoch a0_Tail.N a0_Log_o a0_Log.length a0_Log_c a0_Lasts_o a0_Lasts.length a0_Lasts_c a0_Items_o a0_Items.length a0_Items_c))]) [1, 23] [(1, 1), (2, 2), (3, 3), (4, 4)] (by kernel_rfl) (by kernel_rfl) rfl ?_
        exact H8 true hm
      · skip
        refine GS.rgM (fun _ => [(1, .pointer (some ⟨(fr1 0).x, 0, none⟩)), (23, .bool (decide (((a0_Items.length : Nat) : Int) > 32)))]) [(1, { act := .load 4 0 0 [] }), (3, { sp := some (.bool false) }), (5, { act := .load 4 0 0 [] }), (6, { act := .call [] (.bool y4) }), (8, { sp := some (.bool false) }), (10, { act := .load 4 0 0 [] })] [1, 23] [1, 2, 3, 4] (fun _ => [(fr1 0).x = (fr1 0).x, ((.bool (decide (a0_Les < 0))) : Value) = .bool false, (fr1 0).x = (fr1 0).x, CallOK Try.prog 33 #[.agg #[.int .i64 a0_Tail.Epoch, .int .i64 a0_Tail.N]] (.bool y4) [], ((.bool y4) : Value) = .bool false, (fr1 0).x = (fr1 0).x]) (fun _ => by kernel_rfl) (fun _ => ⟨rfl, bool_eq h3, rfl, (by have h1 := w_pglog_below F a0_Tail e5; exact h1.ok trivial), bool_eq h6, rfl, trivial⟩) ?_
        intro _
        refine GS.rekey (env' := [(1, .pointer (some ⟨(fr1 0).x, 0, none⟩)), (23, .bool (decide (((a0_Items.length : Nat) : Int) > 32)))]) (mem' := [(1, r52 a0_Log_o a0_Log), (2, r47 a0_Lasts_o a0_Lasts), (3, r42 a0_Items_o a0_Items), (4, .cells ((fr1 0).x) 28 (kc9 a0_Les a0_Tail.Epoch a0_Tail.N a0_Log_o a0_Log.length a0_Log_c a0_Lasts_o a0_Lasts.length a0_Lasts_c a0_Items_o a0_Items.length a0_Items_c))]) [1, 23] [(1, 1), (2, 2), (3, 3), (4, 4)] (by kernel_rfl) (by kernel_rfl) rfl ?_
        exact H8 (decide (((a0_Items.length : Nat) : Int) > 32)) hm
  · rintro v23_1 hm
    replace hm := (hJ9 _).symm.trans hm
    try dsimp only at hm
    refine GS.cond (t := v23_1) rfl rfl (fun h10 => ?_) (fun h10 => ?_)
    · replace hm := br_t h10 hm
      refine GS.seq ?_
      refine GS.rz (fun _ => [(2, .int .i64 22)]) (fun _ => []) [] [2] [] (fun _ => by kernel_rfl) ?_
      intro _
      have hy := Option.some.inj hm
      subst hy
      refine GS.ret (fn := Try.f21) [0] [.int .i64 22] [] rfl Try.func21 (by kernel_rfl) trivial (fun w' hs => ?_)
      exact ⟨(), rfl, hs.turnedG (ks := []) rfl rfl⟩
    · replace hm := br_f h10 hm
      refine GS.skip ?_
      refine GS.seq ?_
      refine GS.rg (fun fr12 => [(1, .pointer (some ⟨(fr1 0).x, 0, none⟩)), (3, .pointer (some ⟨(fr12 2).x, 0, none⟩))]) (fun fr12 => [(1, r52 a0_Log_o a0_Log), (2, r47 a0_Lasts_o a0_Lasts), (3, r42 a0_Items_o a0_Items), (4, .cells ((fr1 0).x) 28 (kc9 a0_Les a0_Tail.Epoch a0_Tail.N a0_Log_o a0_Log.length a0_Log_c a0_Lasts_o a0_Lasts.length a0_Lasts_c a0_Items_o a0_Items.length a0_Items_c)), (5, .cells ((fr12 2).x) 23 [.int .i64 a0_Tail.Epoch, .int .i64 a0_Tail.N])]) [(1, { act := .load 4 0 0 [] }), (2, { act := .new .var, key := some 5 }), (3, { act := .store 0 0 [], key := some 5 })] [1, 3] [1, 2, 3, 4, 5] (fun fr12 => [(fr1 0).x = (fr1 0).x, (fr12 2).x = (fr12 2).x, ((.agg #[.int .i64 a0_Tail.Epoch, .int .i64 a0_Tail.N]) : Value).cells.toList.all Value.oneCell' = true]) (fun fr12 => by kernel_rfl) (fun fr12 => ⟨rfl, rfl, rfl, trivial⟩) ?_
      intro fr12
      refine GS.seq ?_
      refine GS.seq ?_
      refine GS.rgM (fun _ => [(1, .pointer (some ⟨(fr1 0).x, 0, none⟩)), (3, .pointer (some ⟨(fr12 2).x, 0, none⟩)), (27, .slice a0_Log_o a0_Log.length a0_Log_c), (28, .int .i64 ((a0_Log.length : Nat) : Int)), (29, .int .i64 0)]) [(1, { act := .load 4 0 0 [] })] [1, 3, 27, 28, 29] [1, 2, 3, 4, 5] (fun _ => [(fr1 0).x = (fr1 0).x]) (fun _ => by kernel_rfl) (fun _ => ⟨rfl, trivial⟩) ?_
      intro _
      refine GS.block ?_
      refine GS.loop ?_
      refine grd_elim hm (fun g50 hm => ?_)
      refine GS.rekey (env' := [(1, .pointer (some ⟨(fr1 0).x, 0, none⟩)), (3, .pointer (some ⟨(fr12 2).x, 0, none⟩)), (27, .slice a0_Log_o a0_Log.length a0_Log_c), (28, .int .i64 ((a0_Log.length : Nat) : Int)), (29, .int .i64 0)]) (mem' := [(1, r52 a0_Log_o a0_Log), (2, r47 a0_Lasts_o a0_Lasts), (3, r42 a0_Items_o a0_Items), (4, .cells ((fr1 0).x) 28 (kc9 a0_Les a0_Tail.Epoch a0_Tail.N a0_Log_o a0_Log.length a0_Log_c a0_Lasts_o a0_Lasts.length a0_Lasts_c a0_Items_o a0_Items.length a0_Items_c)), (5, .cells ((fr12 2).x) 23 [.int .i64 a0_Tail.Epoch, .int .i64 a0_Tail.N])]) [1, 3, 27, 28, 29] [(1, 1), (2, 2), (3, 3), (4, 4), (5, 5)] (by kernel_rfl) (by kernel_rfl) rfl ?_
      refine loopL_elim hm (fun st73 fn74 hst75 hfn76 hm => ?_)
      refine GS.loopInv (ι := List S_api_Entry × Nat × Int × Int) (I := fun ⟨rs71, v29_2, c5_0_2, c5_1_2⟩ => a0_Log.drop v29_2 = rs71 ∧ loopL st73 fn74 rs71 v29_2 (c5_0_2, c5_1_2) = some y) (μ := fun ⟨rs71, v29_2, c5_0_2, c5_1_2⟩ => rs71.length) (E := fun ⟨rs71, v29_2, c5_0_2, c5_1_2⟩ => [(1, .pointer (some ⟨(fr1 0).x, 0, none⟩)), (3, .pointer (some ⟨(fr12 2).x, 0, none⟩)), (27, .slice a0_Log_o a0_Log.length a0_Log_c), (28, .int .i64 ((a0_Log.length : Nat) : Int)), (29, .int .i64 ((v29_2 : Nat) : Int))]) (M := fun ⟨rs71, v29_2, c5_0_2, c5_1_2⟩ => [(1, r52 a0_Log_o a0_Log), (2, r47 a0_Lasts_o a0_Lasts), (3, r42 a0_Items_o a0_Items), (4, .cells ((fr1 0).x) 28 (kc9 a0_Les a0_Tail.Epoch a0_Tail.N a0_Log_o a0_Log.length a0_Log_c a0_Lasts_o a0_Lasts.length a0_Lasts_c a0_Items_o a0_Items.length a0_Items_c)), (5, .cells ((fr12 2).x) 23 [.int .i64 c5_0_2, .int .i64 c5_1_2])]) ?_ ⟨a0_Log, 0, a0_Tail.Epoch, a0_Tail.N⟩ ⟨List.drop_zero .., hm⟩
      rintro ⟨rs71, v29_2, c5_0_2, c5_1_2⟩ ⟨hd49, hm⟩ ih72
      cases rs71 with
      | nil =>
        replace hm := (hfn76 _ _).symm.trans hm
        try dsimp only at hm
        refine GS.seq ?_
        refine GS.rzM (fun _ => [(1, .pointer (some ⟨(fr1 0).x, 0, none⟩)), (3, .pointer (some ⟨(fr12 2).x, 0, none⟩)), (27, .slice a0_Log_o a0_Log.length a0_Log_c), (28, .int .i64 ((a0_Log.length : Nat) : Int)), (29, .int .i64 ((v29_2 : Nat) : Int)), (30, .bool (decide (((v29_2 : Nat) : Int) < ((a0_Log.length : Nat) : Int))))]) [] [1, 3, 27, 28, 29, 30] [1, 2, 3, 4, 5] (fun _ => by kernel_rfl) ?_
        intro _
        refine GS.seq ?_
        refine GS.cond (t := decide (((v29_2 : Nat) : Int) < ((a0_Log.length : Nat) : Int))) rfl rfl (fun h69 => absb h69 (drop_dec0 hd49)) (fun _ => ?_)
        refine GS.exit rfl ?_
        refine GS.seq ?_
        refine GS.seq ?_
        refine jn_elim hm (fun J83 hJ85 hm => ?_)
        refine GS.cut (ι := Bool) (I := fun (v55_6 : Bool) => J83 v55_6 = some y) (E := fun (v55_6 : Bool) => [(1, .pointer (some ⟨(fr1 0).x, 0, none⟩)), (3, .pointer (some ⟨(fr12 2).x, 0, none⟩)), (55, .bool v55_6)]) (M := fun (v55_6 : Bool) => [(1, r52 a0_Log_o a0_Log), (2, r47 a0_Lasts_o a0_Lasts), (3, r42 a0_Items_o a0_Items), (4, .cells ((fr1 0).x) 28 (kc9 a0_Les a0_Tail.Epoch a0_Tail.N a0_Log_o a0_Log.length a0_Log_c a0_Lasts_o a0_Lasts.length a0_Lasts_c a0_Items_o a0_Items.length a0_Items_c)), (5, .cells ((fr12 2).x) 23 [.int .i64 c5_0_2, .int .i64 c5_1_2])]) ?_ ?_
        rotate_left
        · intro H84
          refine bnd_elim hm (fun y78 e79 hm => ?_)
          refine br_elim hm (fun h80 hm => ?_) (fun h80 hm => ?_)
          · skip
            refine GS.rgM (fun _ => [(1, .pointer (some ⟨(fr1 0).x, 0, none⟩)), (3, .pointer (some ⟨(fr12 2).x, 0, none⟩)), (55, .bool true)]) [(1, { act := .load 4 0 0 [] }), (2, { act := .call [3] (.bool y78) }), (4, { sp := some (.bool true) })] [1, 3, 55] [1, 2, 3, 4, 5] (fun _ => [(fr1 0).x = (fr1 0).x, CallOK Try.prog 34 #[.slice a0_Items_o a0_Items.length a0_Items_c, .func (.func 35) #[] #[]] (.bool y78) [some (r42 a0_Items_o a0_Items)], ((.bool (!y78)) : Value) = .bool true]) (fun _ => by kernel_rfl) (fun _ => ⟨rfl, (by have h1 := w_pglog_rising_api_Item_string_ F a0_Items_o a0_Items_c a0_Items e79; exact h1.ok ⟨(.inl ⟨r42 a0_Items_o a0_Items, .head _, Cov.refl _⟩), trivial⟩), bool_eq h80, trivial⟩) ?_
            intro _
            refine GS.rekey (env' := [(1, .pointer (some ⟨(fr1 0).x, 0, none⟩)), (3, .pointer (some ⟨(fr12 2).x, 0, none⟩)), (55, .bool true)]) (mem' := [(1, r52 a0_Log_o a0_Log), (2, r47 a0_Lasts_o a0_Lasts), (3, r42 a0_Items_o a0_Items), (4, .cells ((fr1 0).x) 28 (kc9 a0_Les a0_Tail.Epoch a0_Tail.N a0_Log_o a0_Log.length a0_Log_c a0_Lasts_o a0_Lasts.length a0_Lasts_c a0_Items_o a0_Items.length a0_Items_c)), (5, .cells ((fr12 2).x) 23 [.int .i64 c5_0_2, .int .i64 c5_1_2])]) [1, 3, 55] [(1, 1), (2, 2), (3, 3), (4, 4), (5, 5)] (by kernel_rfl) (by kernel_rfl) rfl ?_
            exact H84 true hm
          · skip
            refine bnd_elim hm (fun y81 e82 hm => ?_)
            refine GS.rgM (fun _ => [(1, .pointer (some ⟨(fr1 0).x, 0, none⟩)), (3, .pointer (some ⟨(fr12 2).x, 0, none⟩)), (55, .bool (!y81))]) [(1, { act := .load 4 0 0 [] }), (2, { act := .call [3] (.bool y78) }), (4, { sp := some (.bool false) }), (6, { act := .load 4 0 0 [] }), (7, { act := .call [2] (.bool y81) })] [1, 3, 55] [1, 2, 3, 4, 5] (fun _ => [(fr1 0).x = (fr1 0).x, CallOK Try.prog 34 #[.slice a0_Items_o a0_Items.length a0_Items_c, .func (.func 35) #[] #[]] (.bool y78) [some (r42 a0_Items_o a0_Items)], ((.bool (!y78)) : Value) = .bool false, (fr1 0).x = (fr1 0).x, CallOK Try.prog 36 #[.slice a0_Lasts_o a0_Lasts.length a0_Lasts_c, .func (.func 37) #[] #[]] (.bool y81) [some (r47 a0_Lasts_o a0_Lasts)]]) (fun _ => by kernel_rfl) (fun _ => ⟨rfl, (by have h1 := w_pglog_rising_api_Item_string_ F a0_Items_o a0_Items_c a0_Items e79; exact h1.ok ⟨(.inl ⟨r42 a0_Items_o a0_Items, .head _, Cov.refl _⟩), trivial⟩), bool_eq h80, rfl, (by have h1 := w_pglog_rising_api_Last_int_ F a0_Lasts_o a0_Lasts_c a0_Lasts e82; exact h1.ok ⟨(.inl ⟨r47 a0_Lasts_o a0_Lasts, .head _, Cov.refl _⟩), trivial⟩), trivial⟩) ?_
            intro _
            refine GS.rekey (env' := [(1, .pointer (some ⟨(fr1 0).x, 0, none⟩)), (3, .pointer (some ⟨(fr12 2).x, 0, none⟩)), (55, .bool (!y81))]) (mem' := [(1, r52 a0_Log_o a0_Log), (2, r47 a0_Lasts_o a0_Lasts), (3, r42 a0_Items_o a0_Items), (4, .cells ((fr1 0).x) 28 (kc9 a0_Les a0_Tail.Epoch a0_Tail.N a0_Log_o a0_Log.length a0_Log_c a0_Lasts_o a0_Lasts.length a0_Lasts_c a0_Items_o a0_Items.length a0_Items_c)), (5, .cells ((fr12 2).x) 23 [.int .i64 c5_0_2, .int .i64 c5_1_2])]) [1, 3, 55] [(1, 1), (2, 2), (3, 3), (4, 4), (5, 5)] (by kernel_rfl) (by kernel_rfl) rfl ?_
            exact H84 (!y81) hm
        · rintro v55_6 hm
          replace hm := (hJ85 _).symm.trans hm
          try dsimp only at hm
          refine GS.cond (t := v55_6) rfl rfl (fun h86 => ?_) (fun h86 => ?_)
          · replace hm := br_t h86 hm
            refine GS.seq ?_
            refine GS.rz (fun _ => [(2, .int .i64 22)]) (fun _ => []) [] [2] [] (fun _ => by kernel_rfl) ?_
            intro _
            have hy := Option.some.inj hm
            subst hy
            refine GS.ret (fn := Try.f21) [0] [.int .i64 22] [] rfl Try.func21 (by kernel_rfl) trivial (fun w' hs => ?_)
            exact ⟨(), rfl, hs.turnedG (ks := []) rfl rfl⟩
          · replace hm := br_f h86 hm
            refine GS.skip ?_
            refine GS.seq ?_
            refine GS.seq ?_
            refine GS.rgM (fun _ => [(1, .pointer (some ⟨(fr1 0).x, 0, none⟩)), (3, .pointer (some ⟨(fr12 2).x, 0, none⟩)), (57, .slice a0_Items_o a0_Items.length a0_Items_c), (58, .int .i64 ((a0_Items.length : Nat) : Int)), (59, .int .i64 0)]) [(1, { act := .load 4 0 0 [] })] [1, 3, 57, 58, 59] [1, 2, 3, 4, 5] (fun _ => [(fr1 0).x = (fr1 0).x]) (fun _ => by kernel_rfl) (fun _ => ⟨rfl, trivial⟩) ?_
            intro _
            refine GS.block ?_
            refine GS.loop ?_
            refine grd_elim hm (fun g131 hm => ?_)
            refine GS.rekey (env' := [(1, .pointer (some ⟨(fr1 0).x, 0, none⟩)), (3, .pointer (some ⟨(fr12 2).x, 0, none⟩)), (57, .slice a0_Items_o a0_Items.length a0_Items_c), (58, .int .i64 ((a0_Items.length : Nat) : Int)), (59, .int .i64 0)]) (mem' := [(1, r52 a0_Log_o a0_Log), (2, r47 a0_Lasts_o a0_Lasts), (3, r42 a0_Items_o a0_Items), (4, .cells ((fr1 0).x) 28 (kc9 a0_Les a0_Tail.Epoch a0_Tail.N a0_Log_o a0_Log.length a0_Log_c a0_Lasts_o a0_Lasts.length a0_Lasts_c a0_Items_o a0_Items.length a0_Items_c)), (5, .cells ((fr12 2).x) 23 [.int .i64 c5_0_2, .int .i64 c5_1_2])]) [1, 3, 57, 58, 59] [(1, 1), (2, 2), (3, 3), (4, 4), (5, 5)] (by kernel_rfl) (by kernel_rfl) rfl ?_
            refine loopL_elim hm (fun st157 fn158 hst159 hfn160 hm => ?_)
            refine GS.loopInv (ι := List S_api_Item × Nat) (I := fun ⟨rs155, v59_7⟩ => a0_Items.drop v59_7 = rs155 ∧ loopL st157 fn158 rs155 v59_7 () = some y) (μ := fun ⟨rs155, v59_7⟩ => rs155.length) (E := fun ⟨rs155, v59_7⟩ => [(1, .pointer (some ⟨(fr1 0).x, 0, none⟩)), (3, .pointer (some ⟨(fr12 2).x, 0, none⟩)), (57, .slice a0_Items_o a0_Items.length a0_Items_c), (58, .int .i64 ((a0_Items.length : Nat) : Int)), (59, .int .i64 ((v59_7 : Nat) : Int))]) (M := fun ⟨rs155, v59_7⟩ => [(1, r52 a0_Log_o a0_Log), (2, r47 a0_Lasts_o a0_Lasts), (3, r42 a0_Items_o a0_Items), (4, .cells ((fr1 0).x) 28 (kc9 a0_Les a0_Tail.Epoch a0_Tail.N a0_Log_o a0_Log.length a0_Log_c a0_Lasts_o a0_Lasts.length a0_Lasts_c a0_Items_o a0_Items.length a0_Items_c)), (5, .cells ((fr12 2).x) 23 [.int .i64 c5_0_2, .int .i64 c5_1_2])]) ?_ ⟨a0_Items, 0⟩ ⟨List.drop_zero .., hm⟩
            rintro ⟨rs155, v59_7⟩ ⟨hd130, hm⟩ ih156
            cases rs155 with
            | nil =>
              replace hm := (hfn160 _ _).symm.trans hm
              try dsimp only at hm
              refine GS.seq ?_
              refine GS.rzM (fun _ => [(1, .pointer (some ⟨(fr1 0).x, 0, none⟩)), (3, .pointer (some ⟨(fr12 2).x, 0, none⟩)), (57, .slice a0_Items_o a0_Items.length a0_Items_c), (58, .int .i64 ((a0_Items.length : Nat) : Int)), (59, .int .i64 ((v59_7 : Nat) : Int)), (60, .bool (decide (((v59_7 : Nat) : Int) < ((a0_Items.length : Nat) : Int))))]) [] [1, 3, 57, 58, 59, 60] [1, 2, 3, 4, 5] (fun _ => by kernel_rfl) ?_
              intro _
              refine GS.seq ?_
              refine GS.cond (t := decide (((v59_7 : Nat) : Int) < ((a0_Items.length : Nat) : Int))) rfl rfl (fun h153 => absb h153 (drop_dec0 hd130)) (fun _ => ?_)
              refine GS.exit rfl ?_
              refine GS.seq ?_
              refine GS.seq ?_
              refine GS.rg (fun _ => [(3, .pointer (some ⟨(fr12 2).x, 0, none⟩)), (87, .slice a0_Lasts_o a0_Lasts.length a0_Lasts_c), (88, .int .i64 ((a0_Lasts.length : Nat) : Int)), (89, .int .i64 0)]) (fun _ => [(2, r47 a0_Lasts_o a0_Lasts), (5, .cells ((fr12 2).x) 23 [.int .i64 c5_0_2, .int .i64 c5_1_2])]) [(1, { act := .load 4 0 0 [] })] [3, 87, 88, 89] [2, 5] (fun _ => [(fr1 0).x = (fr1 0).x]) (fun _ => by kernel_rfl) (fun _ => ⟨rfl, trivial⟩) ?_
              intro _
              refine GS.block ?_
              refine GS.loop ?_
              refine grd_elim hm (fun g196 hm => ?_)
              refine GS.rekey (env' := [(3, .pointer (some ⟨(fr12 2).x, 0, none⟩)), (87, .slice a0_Lasts_o a0_Lasts.length a0_Lasts_c), (88, .int .i64 ((a0_Lasts.length : Nat) : Int)), (89, .int .i64 0)]) (mem' := [(2, r47 a0_Lasts_o a0_Lasts), (5, .cells ((fr12 2).x) 23 [.int .i64 c5_0_2, .int .i64 c5_1_2])]) [3, 87, 88, 89] [(2, 2), (5, 5)] (by kernel_rfl) (by kernel_rfl) rfl ?_
              refine loopL_elim hm (fun st218 fn219 hst220 hfn221 hm => ?_)
              refine GS.loopInv (ι := List S_api_Last × Nat) (I := fun ⟨rs216, v89_11⟩ => a0_Lasts.drop v89_11 = rs216 ∧ loopL st218 fn219 rs216 v89_11 () = some y) (μ := fun ⟨rs216, v89_11⟩ => rs216.length) (E := fun ⟨rs216, v89_11⟩ => [(3, .pointer (some ⟨(fr12 2).x, 0, none⟩)), (87, .slice a0_Lasts_o a0_Lasts.length a0_Lasts_c), (88, .int .i64 ((a0_Lasts.length : Nat) : Int)), (89, .int .i64 ((v89_11 : Nat) : Int))]) (M := fun ⟨rs216, v89_11⟩ => [(2, r47 a0_Lasts_o a0_Lasts), (5, .cells ((fr12 2).x) 23 [.int .i64 c5_0_2, .int .i64 c5_1_2])]) ?_ ⟨a0_Lasts, 0⟩ ⟨List.drop_zero .., hm⟩
              rintro ⟨rs216, v89_11⟩ ⟨hd195, hm⟩ ih217
              cases rs216 with
              | nil =>
                replace hm := (hfn221 _ _).symm.trans hm
                try dsimp only at hm
                refine GS.seq ?_
                refine GS.rzM (fun _ => [(3, .pointer (some ⟨(fr12 2).x, 0, none⟩)), (87, .slice a0_Lasts_o a0_Lasts.length a0_Lasts_c), (88, .int .i64 ((a0_Lasts.length : Nat) : Int)), (89, .int .i64 ((v89_11 : Nat) : Int)), (90, .bool (decide (((v89_11 : Nat) : Int) < ((a0_Lasts.length : Nat) : Int))))]) [] [3, 87, 88, 89, 90] [2, 5] (fun _ => by kernel_rfl) ?_
                intro _
                refine GS.seq ?_
                refine GS.cond (t := decide (((v89_11 : Nat) : Int) < ((a0_Lasts.length : Nat) : Int))) rfl rfl (fun h214 => absb h214 (drop_dec0 hd195)) (fun _ => ?_)
                refine GS.exit rfl ?_
                refine GS.seq ?_
                refine GS.rz (fun _ => [(2, .int .i64 0)]) (fun _ => []) [] [2] [] (fun _ => by kernel_rfl) ?_
                intro _
                have hy := Option.some.inj hm
                subst hy
                refine GS.ret (fn := Try.f21) [0] [.int .i64 0] [] rfl Try.func21 (by kernel_rfl) trivial (fun w' hs => ?_)
                exact ⟨(), rfl, hs.turnedG (ks := []) rfl rfl⟩
              | cons x197 rs216 =>
                replace hm := (hst220 _ _ _ _).symm.trans hm
                try dsimp only at hm
                refine GS.seq ?_
                refine GS.rzM (fun _ => [(3, .pointer (some ⟨(fr12 2).x, 0, none⟩)), (87, .slice a0_Lasts_o a0_Lasts.length a0_Lasts_c), (88, .int .i64 ((a0_Lasts.length : Nat) : Int)), (89, .int .i64 ((v89_11 : Nat) : Int)), (90, .bool (decide (((v89_11 : Nat) : Int) < ((a0_Lasts.length : Nat) : Int))))]) [] [3, 87, 88, 89, 90] [2, 5] (fun _ => by kernel_rfl) ?_
                intro _
                refine GS.seq ?_
                refine GS.cond (t := decide (((v89_11 : Nat) : Int) < ((a0_Lasts.length : Nat) : Int))) rfl rfl (fun _ => ?_) (fun h199 => absb (drop_dec hd195) h199)
                refine GS.skip ?_
                refine GS.seq ?_
                refine GS.block ?_
                refine GS.seq ?_
                refine GS.rg (fun fr200 => [(3, .pointer (some ⟨(fr12 2).x, 0, none⟩)), (9, .pointer (some ⟨(fr200 2).x, 0, none⟩)), (87, .slice a0_Lasts_o a0_Lasts.length a0_Lasts_c), (88, .int .i64 ((a0_Lasts.length : Nat) : Int)), (89, .int .i64 ((v89_11 : Nat) : Int))]) (fun fr200 => [(2, r47 a0_Lasts_o a0_Lasts), (5, .cells ((fr12 2).x) 23 [.int .i64 c5_0_2, .int .i64 c5_1_2]), (6, .cells ((fr200 2).x) 47 (kc10 x197.Client x197.Number x197.Errno x197.Version.Epoch x197.Version.N))]) [(0, { act := .idx 2 v89_11 }), (1, { act := .load 2 v89_11 0 [.int .i64 x197.Client, .int .i64 x197.Number, .int .i64 x197.Errno, .int .i64 x197.Version.Epoch, .int .i64 x197.Version.N] }), (2, { act := .new .var, key := some 6 }), (3, { act := .store 0 0 [], key := some 6 })] [3, 9, 87, 88, 89] [2, 5, 6] (fun fr200 => [a0_Lasts_o = a0_Lasts_o, a0_Lasts.length = (List.map S_api_Last.row a0_Lasts).length, (((v89_11 : Nat) : Int) : Int) = ((v89_11 : Nat) : Int), v89_11 < a0_Lasts.length, blk a0_Lasts_o = blk a0_Lasts_o, offs a0_Lasts_o + v89_11 * 5 = offs a0_Lasts_o + (v89_11 * 5 + 0), (List.map S_api_Last.row a0_Lasts)[v89_11]? = some [.int .i64 x197.Client, .int .i64 x197.Number, .int .i64 x197.Errno, .int .i64 x197.Version.Epoch, .int .i64 x197.Version.N], (fr200 2).x = (fr200 2).x, ((.agg ((kc10 x197.Client x197.Number x197.Errno x197.Version.Epoch x197.Version.N)).toArray) : Value).cells.toList.all Value.oneCell' = true]) (fun fr200 => by kernel_rfl) (fun fr200 => ⟨rfl, mlen S_api_Last.row a0_Lasts, rfl, (drop_lt hd195), rfl, rfl, map_drop S_api_Last.row hd195, rfl, rfl, trivial⟩) ?_
                intro fr200
                refine GS.seq ?_
                refine jn_elim hm (fun J207 hJ209 hm => ?_)
                refine GS.cut (ι := Bool) (I := fun (v102_14 : Bool) => J207 v102_14 = some y) (E := fun (v102_14 : Bool) => [(3, .pointer (some ⟨(fr12 2).x, 0, none⟩)), (87, .slice a0_Lasts_o a0_Lasts.length a0_Lasts_c), (88, .int .i64 ((a0_Lasts.length : Nat) : Int)), (89, .int .i64 ((v89_11 : Nat) : Int)), (102, .bool v102_14)]) (M := fun (v102_14 : Bool) => [(2, r47 a0_Lasts_o a0_Lasts), (5, .cells ((fr12 2).x) 23 [.int .i64 c5_0_2, .int .i64 c5_1_2])]) ?_ ?_
                rotate_left
                · intro H208
                  refine bnd_elim hm (fun y202 e203 hm => ?_)
                  refine br_elim hm (fun h204 hm => ?_) (fun h204 hm => ?_)
                  · skip
                    refine GS.rg (fun _ => [(3, .pointer (some ⟨(fr12 2).x, 0, none⟩)), (87, .slice a0_Lasts_o a0_Lasts.length a0_Lasts_c), (88, .int .i64 ((a0_Lasts.length : Nat) : Int)), (89, .int .i64 ((v89_11 : Nat) : Int)), (102, .bool true)]) (fun _ => [(2, r47 a0_Lasts_o a0_Lasts), (5, .cells ((fr12 2).x) 23 [.int .i64 c5_0_2, .int .i64 c5_1_2])]) [(1, { act := .load 6 0 0 [] }), (2, { act := .call [] (.bool y202) }), (3, { sp := some (.bool true) })] [3, 87, 88, 89, 102] [2, 5] (fun _ => [(fr200 2).x = (fr200 2).x, CallOK Try.prog 33 #[.agg #[.int .i64 x197.Version.Epoch, .int .i64 x197.Version.N]] (.bool y202) [], ((.bool y202) : Value) = .bool true]) (fun _ => by kernel_rfl) (fun _ => ⟨rfl, (by have h1 := w_pglog_below F x197.Version e203; exact h1.ok trivial), bool_eq h204, trivial⟩) ?_
                    intro _
                    refine GS.rekey (env' := [(3, .pointer (some ⟨(fr12 2).x, 0, none⟩)), (87, .slice a0_Lasts_o a0_Lasts.length a0_Lasts_c), (88, .int .i64 ((a0_Lasts.length : Nat) : Int)), (89, .int .i64 ((v89_11 : Nat) : Int)), (102, .bool true)]) (mem' := [(2, r47 a0_Lasts_o a0_Lasts), (5, .cells ((fr12 2).x) 23 [.int .i64 c5_0_2, .int .i64 c5_1_2])]) [3, 87, 88, 89, 102] [(2, 2), (5, 5)] (by kernel_rfl) (by kernel_rfl) rfl ?_
                    exact H208 true hm
                  · skip
                    refine bnd_elim hm (fun y205 e206 hm => ?_)
                    refine GS.rg (fun _ => [(3, .pointer (some ⟨(fr12 2).x, 0, none⟩)), (87, .slice a0_Lasts_o a0_Lasts.length a0_Lasts_c), (88, .int .i64 ((a0_Lasts.length : Nat) : Int)), (89, .int .i64 ((v89_11 : Nat) : Int)), (102, .bool (decide (y205 > 0)))]) (fun _ => [(2, r47 a0_Lasts_o a0_Lasts), (5, .cells ((fr12 2).x) 23 [.int .i64 c5_0_2, .int .i64 c5_1_2])]) [(1, { act := .load 6 0 0 [] }), (2, { act := .call [] (.bool y202) }), (3, { sp := some (.bool false) }), (5, { act := .load 6 0 0 [] }), (6, { act := .load 5 0 0 [] }), (7, { act := .call [] (.int .i64 y205) })] [3, 87, 88, 89, 102] [2, 5] (fun _ => [(fr200 2).x = (fr200 2).x, CallOK Try.prog 33 #[.agg #[.int .i64 x197.Version.Epoch, .int .i64 x197.Version.N]] (.bool y202) [], ((.bool y202) : Value) = .bool false, (fr200 2).x = (fr200 2).x, (fr12 2).x = (fr12 2).x, CallOK Try.prog 7 #[.agg #[.int .i64 x197.Version.Epoch, .int .i64 x197.Version.N], .agg #[.int .i64 c5_0_2, .int .i64 c5_1_2]] (.int .i64 y205) []]) (fun _ => by kernel_rfl) (fun _ => ⟨rfl, (by have h1 := w_pglog_below F x197.Version e203; exact h1.ok trivial), bool_eq h204, rfl, rfl, (by have h1 := w_pglog_Cmp F x197.Version (S_api_Version.mk c5_0_2 c5_1_2) e206; exact h1.ok trivial), trivial⟩) ?_
                    intro _
                    refine GS.rekey (env' := [(3, .pointer (some ⟨(fr12 2).x, 0, none⟩)), (87, .slice a0_Lasts_o a0_Lasts.length a0_Lasts_c), (88, .int .i64 ((a0_Lasts.length : Nat) : Int)), (89, .int .i64 ((v89_11 : Nat) : Int)), (102, .bool (decide (y205 > 0)))]) (mem' := [(2, r47 a0_Lasts_o a0_Lasts), (5, .cells ((fr12 2).x) 23 [.int .i64 c5_0_2, .int .i64 c5_1_2])]) [3, 87, 88, 89, 102] [(2, 2), (5, 5)] (by kernel_rfl) (by kernel_rfl) rfl ?_
                    exact H208 (decide (y205 > 0)) hm
                · rintro v102_14 hm
                  replace hm := (hJ209 _).symm.trans hm
                  try dsimp only at hm
                  refine GS.cond (t := v102_14) rfl rfl (fun h210 => ?_) (fun h210 => ?_)
                  · replace hm := br_t h210 hm
                    refine GS.seq ?_
                    refine GS.rz (fun _ => [(2, .int .i64 22)]) (fun _ => []) [] [2] [] (fun _ => by kernel_rfl) ?_
                    intro _
                    have hy := Option.some.inj hm
                    subst hy
                    refine GS.ret (fn := Try.f21) [0] [.int .i64 22] [] rfl Try.func21 (by kernel_rfl) trivial (fun w' hs => ?_)
                    exact ⟨(), rfl, hs.turnedG (ks := []) rfl rfl⟩
                  · replace hm := br_f h210 hm
                    refine GS.skip ?_
                    refine GS.inBlock ?_
                    refine GS.rgM (fun _ => [(3, .pointer (some ⟨(fr12 2).x, 0, none⟩)), (87, .slice a0_Lasts_o a0_Lasts.length a0_Lasts_c), (88, .int .i64 ((a0_Lasts.length : Nat) : Int)), (89, .int .i64 ((v89_11 + 1 : Nat) : Int))]) [(0, { sp := some (.int .i64 ((v89_11 + 1 : Nat) : Int)) })] [3, 87, 88, 89] [2, 5] (fun _ => [((.int .i64 (IntKind.i64.wrap (((v89_11 : Nat) : Int) + 1))) : Value) = .int .i64 ((v89_11 + 1 : Nat) : Int)]) (fun _ => by kernel_rfl) (fun _ => ⟨natw (drop_lt hd195) g196, trivial⟩) ?_
                    intro _
                    refine GS.inLoop ?_
                    refine GS.rekey (env' := [(3, .pointer (some ⟨(fr12 2).x, 0, none⟩)), (87, .slice a0_Lasts_o a0_Lasts.length a0_Lasts_c), (88, .int .i64 ((a0_Lasts.length : Nat) : Int)), (89, .int .i64 ((v89_11 + 1 : Nat) : Int))]) (mem' := [(2, r47 a0_Lasts_o a0_Lasts), (5, .cells ((fr12 2).x) 23 [.int .i64 c5_0_2, .int .i64 c5_1_2])]) [3, 87, 88, 89] [(2, 2), (5, 5)] (by kernel_rfl) (by kernel_rfl) rfl ?_
                    exact ih217 ⟨rs216, v89_11 + 1⟩ ⟨drop_next hd195, hm⟩ (Nat.lt_succ_self _)
            | cons x132 rs155 =>
              replace hm := (hst159 _ _ _ _).symm.trans hm
              try dsimp only at hm
              refine GS.seq ?_
              refine GS.rzM (fun _ => [(1, .pointer (some ⟨(fr1 0).x, 0, none⟩)), (3, .pointer (some ⟨(fr12 2).x, 0, none⟩)), (57, .slice a0_Items_o a0_Items.length a0_Items_c), (58, .int .i64 ((a0_Items.length : Nat) : Int)), (59, .int .i64 ((v59_7 : Nat) : Int)), (60, .bool (decide (((v59_7 : Nat) : Int) < ((a0_Items.length : Nat) : Int))))]) [] [1, 3, 57, 58, 59, 60] [1, 2, 3, 4, 5] (fun _ => by kernel_rfl) ?_
              intro _
              refine GS.seq ?_
              refine GS.cond (t := decide (((v59_7 : Nat) : Int) < ((a0_Items.length : Nat) : Int))) rfl rfl (fun _ => ?_) (fun h134 => absb (drop_dec hd130) h134)
              refine GS.skip ?_
              refine GS.seq ?_
              refine GS.block ?_
              refine GS.seq ?_
              refine GS.rg (fun fr135 => [(1, .pointer (some ⟨(fr1 0).x, 0, none⟩)), (3, .pointer (some ⟨(fr12 2).x, 0, none⟩)), (7, .pointer (some ⟨(fr135 2).x, 0, none⟩)), (57, .slice a0_Items_o a0_Items.length a0_Items_c), (58, .int .i64 ((a0_Items.length : Nat) : Int)), (59, .int .i64 ((v59_7 : Nat) : Int))]) (fun fr135 => [(1, r52 a0_Log_o a0_Log), (2, r47 a0_Lasts_o a0_Lasts), (3, r42 a0_Items_o a0_Items), (4, .cells ((fr1 0).x) 28 (kc9 a0_Les a0_Tail.Epoch a0_Tail.N a0_Log_o a0_Log.length a0_Log_c a0_Lasts_o a0_Lasts.length a0_Lasts_c a0_Items_o a0_Items.length a0_Items_c)), (5, .cells ((fr12 2).x) 23 [.int .i64 c5_0_2, .int .i64 c5_1_2]), (6, .cells ((fr135 2).x) 42 (kc6 x132.Name x132.Version.Epoch x132.Version.N x132.Crc))]) [(0, { act := .idx 3 v59_7 }), (1, { act := .load 3 v59_7 0 [.string x132.Name, .int .i64 x132.Version.Epoch, .int .i64 x132.Version.N, .int .u32 x132.Crc] }), (2, { act := .new .var, key := some 6 }), (3, { act := .store 0 0 [], key := some 6 })] [1, 3, 7, 57, 58, 59] [1, 2, 3, 4, 5, 6] (fun fr135 => [a0_Items_o = a0_Items_o, a0_Items.length = (List.map S_api_Item.row a0_Items).length, (((v59_7 : Nat) : Int) : Int) = ((v59_7 : Nat) : Int), v59_7 < a0_Items.length, blk a0_Items_o = blk a0_Items_o, offs a0_Items_o + v59_7 * 4 = offs a0_Items_o + (v59_7 * 4 + 0), (List.map S_api_Item.row a0_Items)[v59_7]? = some [.string x132.Name, .int .i64 x132.Version.Epoch, .int .i64 x132.Version.N, .int .u32 x132.Crc], (fr135 2).x = (fr135 2).x, ((.agg ((kc6 x132.Name x132.Version.Epoch x132.Version.N x132.Crc)).toArray) : Value).cells.toList.all Value.oneCell' = true]) (fun fr135 => by kernel_rfl) (fun fr135 => ⟨rfl, mlen S_api_Item.row a0_Items, rfl, (drop_lt hd130), rfl, rfl, map_drop S_api_Item.row hd130, rfl, rfl, trivial⟩) ?_
              intro fr135
              refine GS.seq ?_
              refine jn_elim hm (fun J146 hJ148 hm => ?_)
              refine GS.cut (ι := Bool) (I := fun (v84_10 : Bool) => J146 v84_10 = some y) (E := fun (v84_10 : Bool) => [(1, .pointer (some ⟨(fr1 0).x, 0, none⟩)), (3, .pointer (some ⟨(fr12 2).x, 0, none⟩)), (57, .slice a0_Items_o a0_Items.length a0_Items_c), (58, .int .i64 ((a0_Items.length : Nat) : Int)), (59, .int .i64 ((v59_7 : Nat) : Int)), (84, .bool v84_10)]) (M := fun (v84_10 : Bool) => [(1, r52 a0_Log_o a0_Log), (2, r47 a0_Lasts_o a0_Lasts), (3, r42 a0_Items_o a0_Items), (4, .cells ((fr1 0).x) 28 (kc9 a0_Les a0_Tail.Epoch a0_Tail.N a0_Log_o a0_Log.length a0_Log_c a0_Lasts_o a0_Lasts.length a0_Lasts_c a0_Items_o a0_Items.length a0_Items_c)), (5, .cells ((fr12 2).x) 23 [.int .i64 c5_0_2, .int .i64 c5_1_2])]) ?_ ?_
              rotate_left
              · intro H147
                refine bnd_elim hm (fun y137 e138 hm => ?_)
                refine br_elim hm (fun h139 hm => ?_) (fun h139 hm => ?_)
                · skip
                  refine GS.rg (fun _ => [(1, .pointer (some ⟨(fr1 0).x, 0, none⟩)), (3, .pointer (some ⟨(fr12 2).x, 0, none⟩)), (57, .slice a0_Items_o a0_Items.length a0_Items_c), (58, .int .i64 ((a0_Items.length : Nat) : Int)), (59, .int .i64 ((v59_7 : Nat) : Int)), (84, .bool true)]) (fun _ => [(1, r52 a0_Log_o a0_Log), (2, r47 a0_Lasts_o a0_Lasts), (3, r42 a0_Items_o a0_Items), (4, .cells ((fr1 0).x) 28 (kc9 a0_Les a0_Tail.Epoch a0_Tail.N a0_Log_o a0_Log.length a0_Log_c a0_Lasts_o a0_Lasts.length a0_Lasts_c a0_Items_o a0_Items.length a0_Items_c)), (5, .cells ((fr12 2).x) 23 [.int .i64 c5_0_2, .int .i64 c5_1_2])]) [(1, { act := .load 6 0 0 [] }), (2, { act := .call [] (.bool y137) }), (4, { sp := some (.bool true) })] [1, 3, 57, 58, 59, 84] [1, 2, 3, 4, 5] (fun _ => [(fr135 2).x = (fr135 2).x, CallOK Try.prog 38 #[.string x132.Name] (.bool y137) [], ((.bool (!y137)) : Value) = .bool true]) (fun _ => by kernel_rfl) (fun _ => ⟨rfl, (by have h1 := w_place_Good F x132.Name e138; exact h1.ok trivial), bool_eq h139, trivial⟩) ?_
                  intro _
                  refine GS.rekey (env' := [(1, .pointer (some ⟨(fr1 0).x, 0, none⟩)), (3, .pointer (some ⟨(fr12 2).x, 0, none⟩)), (57, .slice a0_Items_o a0_Items.length a0_Items_c), (58, .int .i64 ((a0_Items.length : Nat) : Int)), (59, .int .i64 ((v59_7 : Nat) : Int)), (84, .bool true)]) (mem' := [(1, r52 a0_Log_o a0_Log), (2, r47 a0_Lasts_o a0_Lasts), (3, r42 a0_Items_o a0_Items), (4, .cells ((fr1 0).x) 28 (kc9 a0_Les a0_Tail.Epoch a0_Tail.N a0_Log_o a0_Log.length a0_Log_c a0_Lasts_o a0_Lasts.length a0_Lasts_c a0_Items_o a0_Items.length a0_Items_c)), (5, .cells ((fr12 2).x) 23 [.int .i64 c5_0_2, .int .i64 c5_1_2])]) [1, 3, 57, 58, 59, 84] [(1, 1), (2, 2), (3, 3), (4, 4), (5, 5)] (by kernel_rfl) (by kernel_rfl) rfl ?_
                  exact H147 true hm
                · skip
                  refine bnd_elim hm (fun y140 e141 hm => ?_)
                  refine br_elim hm (fun h142 hm => ?_) (fun h142 hm => ?_)
                  · skip
                    refine GS.rg (fun _ => [(1, .pointer (some ⟨(fr1 0).x, 0, none⟩)), (3, .pointer (some ⟨(fr12 2).x, 0, none⟩)), (57, .slice a0_Items_o a0_Items.length a0_Items_c), (58, .int .i64 ((a0_Items.length : Nat) : Int)), (59, .int .i64 ((v59_7 : Nat) : Int)), (84, .bool true)]) (fun _ => [(1, r52 a0_Log_o a0_Log), (2, r47 a0_Lasts_o a0_Lasts), (3, r42 a0_Items_o a0_Items), (4, .cells ((fr1 0).x) 28 (kc9 a0_Les a0_Tail.Epoch a0_Tail.N a0_Log_o a0_Log.length a0_Log_c a0_Lasts_o a0_Lasts.length a0_Lasts_c a0_Items_o a0_Items.length a0_Items_c)), (5, .cells ((fr12 2).x) 23 [.int .i64 c5_0_2, .int .i64 c5_1_2])]) [(1, { act := .load 6 0 0 [] }), (2, { act := .call [] (.bool y137) }), (4, { sp := some (.bool false) }), (6, { act := .load 6 0 0 [] }), (7, { act := .call [] (.bool y140) }), (9, { sp := some (.bool true) })] [1, 3, 57, 58, 59, 84] [1, 2, 3, 4, 5] (fun _ => [(fr135 2).x = (fr135 2).x, CallOK Try.prog 38 #[.string x132.Name] (.bool y137) [], ((.bool (!y137)) : Value) = .bool false, (fr135 2).x = (fr135 2).x, CallOK Try.prog 33 #[.agg #[.int .i64 x132.Version.Epoch, .int .i64 x132.Version.N]] (.bool y140) [], ((.bool y140) : Value) = .bool true]) (fun _ => by kernel_rfl) (fun _ => ⟨rfl, (by have h1 := w_place_Good F x132.Name e138; exact h1.ok trivial), bool_eq h139, rfl, (by have h1 := w_pglog_below F x132.Version e141; exact h1.ok trivial), bool_eq h142, trivial⟩) ?_
                    intro _
                    refine GS.rekey (env' := [(1, .pointer (some ⟨(fr1 0).x, 0, none⟩)), (3, .pointer (some ⟨(fr12 2).x, 0, none⟩)), (57, .slice a0_Items_o a0_Items.length a0_Items_c), (58, .int .i64 ((a0_Items.length : Nat) : Int)), (59, .int .i64 ((v59_7 : Nat) : Int)), (84, .bool true)]) (mem' := [(1, r52 a0_Log_o a0_Log), (2, r47 a0_Lasts_o a0_Lasts), (3, r42 a0_Items_o a0_Items), (4, .cells ((fr1 0).x) 28 (kc9 a0_Les a0_Tail.Epoch a0_Tail.N a0_Log_o a0_Log.length a0_Log_c a0_Lasts_o a0_Lasts.length a0_Lasts_c a0_Items_o a0_Items.length a0_Items_c)), (5, .cells ((fr12 2).x) 23 [.int .i64 c5_0_2, .int .i64 c5_1_2])]) [1, 3, 57, 58, 59, 84] [(1, 1), (2, 2), (3, 3), (4, 4), (5, 5)] (by kernel_rfl) (by kernel_rfl) rfl ?_
                    exact H147 true hm
                  · skip
                    refine br_elim hm (fun h143 hm => ?_) (fun h143 hm => ?_)
                    · skip
                      refine GS.rg (fun _ => [(1, .pointer (some ⟨(fr1 0).x, 0, none⟩)), (3, .pointer (some ⟨(fr12 2).x, 0, none⟩)), (57, .slice a0_Items_o a0_Items.length a0_Items_c), (58, .int .i64 ((a0_Items.length : Nat) : Int)), (59, .int .i64 ((v59_7 : Nat) : Int)), (84, .bool true)]) (fun _ => [(1, r52 a0_Log_o a0_Log), (2, r47 a0_Lasts_o a0_Lasts), (3, r42 a0_Items_o a0_Items), (4, .cells ((fr1 0).x) 28 (kc9 a0_Les a0_Tail.Epoch a0_Tail.N a0_Log_o a0_Log.length a0_Log_c a0_Lasts_o a0_Lasts.length a0_Lasts_c a0_Items_o a0_Items.length a0_Items_c)), (5, .cells ((fr12 2).x) 23 [.int .i64 c5_0_2, .int .i64 c5_1_2])]) [(1, { act := .load 6 0 0 [] }), (2, { act := .call [] (.bool y137) }), (4, { sp := some (.bool false) }), (6, { act := .load 6 0 0 [] }), (7, { act := .call [] (.bool y140) }), (9, { sp := some (.bool false) }), (11, { act := .load 6 0 0 [] }), (13, { act := .eq }), (15, { sp := some (.bool true) })] [1, 3, 57, 58, 59, 84] [1, 2, 3, 4, 5] (fun _ => [(fr135 2).x = (fr135 2).x, CallOK Try.prog 38 #[.string x132.Name] (.bool y137) [], ((.bool (!y137)) : Value) = .bool false, (fr135 2).x = (fr135 2).x, CallOK Try.prog 33 #[.agg #[.int .i64 x132.Version.Epoch, .int .i64 x132.Version.N]] (.bool y140) [], ((.bool y140) : Value) = .bool false, (fr135 2).x = (fr135 2).x, ((.bool (S_api_Version.beq x132.Version (S_api_Version.mk 0 0))) : Value) = .bool true]) (fun _ => by kernel_rfl) (fun _ => ⟨rfl, (by have h1 := w_place_Good F x132.Name e138; exact h1.ok trivial), bool_eq h139, rfl, (by have h1 := w_pglog_below F x132.Version e141; exact h1.ok trivial), bool_eq h142, rfl, bool_eq h143, trivial⟩) ?_
                      intro _
                      refine GS.rekey (env' := [(1, .pointer (some ⟨(fr1 0).x, 0, none⟩)), (3, .pointer (some ⟨(fr12 2).x, 0, none⟩)), (57, .slice a0_Items_o a0_Items.length a0_Items_c), (58, .int .i64 ((a0_Items.length : Nat) : Int)), (59, .int .i64 ((v59_7 : Nat) : Int)), (84, .bool true)]) (mem' := [(1, r52 a0_Log_o a0_Log), (2, r47 a0_Lasts_o a0_Lasts), (3, r42 a0_Items_o a0_Items), (4, .cells ((fr1 0).x) 28 (kc9 a0_Les a0_Tail.Epoch a0_Tail.N a0_Log_o a0_Log.length a0_Log_c a0_Lasts_o a0_Lasts.length a0_Lasts_c a0_Items_o a0_Items.length a0_Items_c)), (5, .cells ((fr12 2).x) 23 [.int .i64 c5_0_2, .int .i64 c5_1_2])]) [1, 3, 57, 58, 59, 84] [(1, 1), (2, 2), (3, 3), (4, 4), (5, 5)] (by kernel_rfl) (by kernel_rfl) rfl ?_
                      exact H147 true hm
                    · skip
                      refine bnd_elim hm (fun y144 e145 hm => ?_)
                      refine GS.rg (fun _ => [(1, .pointer (some ⟨(fr1 0).x, 0, none⟩)), (3, .pointer (some ⟨(fr12 2).x, 0, none⟩)), (57, .slice a0_Items_o a0_Items.length a0_Items_c), (58, .int .i64 ((a0_Items.length : Nat) : Int)), (59, .int .i64 ((v59_7 : Nat) : Int)), (84, .bool (decide (y144 > 0)))]) (fun _ => [(1, r52 a0_Log_o a0_Log), (2, r47 a0_Lasts_o a0_Lasts), (3, r42 a0_Items_o a0_Items), (4, .cells ((fr1 0).x) 28 (kc9 a0_Les a0_Tail.Epoch a0_Tail.N a0_Log_o a0_Log.length a0_Log_c a0_Lasts_o a0_Lasts.length a0_Lasts_c a0_Items_o a0_Items.length a0_Items_c)), (5, .cells ((fr12 2).x) 23 [.int .i64 c5_0_2, .int .i64 c5_1_2])]) [(1, { act := .load 6 0 0 [] }), (2, { act := .call [] (.bool y137) }), (4, { sp := some (.bool false) }), (6, { act := .load 6 0 0 [] }), (7, { act := .call [] (.bool y140) }), (9, { sp := some (.bool false) }), (11, { act := .load 6 0 0 [] }), (13, { act := .eq }), (15, { sp := some (.bool false) }), (17, { act := .load 6 0 0 [] }), (18, { act := .load 5 0 0 [] }), (19, { act := .call [] (.int .i64 y144) })] [1, 3, 57, 58, 59, 84] [1, 2, 3, 4, 5] (fun _ => [(fr135 2).x = (fr135 2).x, CallOK Try.prog 38 #[.string x132.Name] (.bool y137) [], ((.bool (!y137)) : Value) = .bool false, (fr135 2).x = (fr135 2).x, CallOK Try.prog 33 #[.agg #[.int .i64 x132.Version.Epoch, .int .i64 x132.Version.N]] (.bool y140) [], ((.bool y140) : Value) = .bool false, (fr135 2).x = (fr135 2).x, ((.bool (S_api_Version.beq x132.Version (S_api_Version.mk 0 0))) : Value) = .bool false, (fr135 2).x = (fr135 2).x, (fr12 2).x = (fr12 2).x, CallOK Try.prog 7 #[.agg #[.int .i64 x132.Version.Epoch, .int .i64 x132.Version.N], .agg #[.int .i64 c5_0_2, .int .i64 c5_1_2]] (.int .i64 y144) []]) (fun _ => by kernel_rfl) (fun _ => ⟨rfl, (by have h1 := w_place_Good F x132.Name e138; exact h1.ok trivial), bool_eq h139, rfl, (by have h1 := w_pglog_below F x132.Version e141; exact h1.ok trivial), bool_eq h142, rfl, bool_eq h143, rfl, rfl, (by have h1 := w_pglog_Cmp F x132.Version (S_api_Version.mk c5_0_2 c5_1_2) e145; exact h1.ok trivial), trivial⟩) ?_
                      intro _
                      refine GS.rekey (env' := [(1, .pointer (some ⟨(fr1 0).x, 0, none⟩)), (3, .pointer (some ⟨(fr12 2).x, 0, none⟩)), (57, .slice a0_Items_o a0_Items.length a0_Items_c), (58, .int .i64 ((a0_Items.length : Nat) : Int)), (59, .int .i64 ((v59_7 : Nat) : Int)), (84, .bool (decide (y144 > 0)))]) (mem' := [(1, r52 a0_Log_o a0_Log), (2, r47 a0_Lasts_o a0_Lasts), (3, r42 a0_Items_o a0_Items), (4, .cells ((fr1 0).x) 28 (kc9 a0_Les a0_Tail.Epoch a0_Tail.N a0_Log_o a0_Log.length a0_Log_c a0_Lasts_o a0_Lasts.length a0_Lasts_c a0_Items_o a0_Items.length a0_Items_c)), (5, .cells ((fr12 2).x) 23 [.int .i64 c5_0_2, .int .i64 c5_1_2])]) [1, 3, 57, 58, 59, 84] [(1, 1), (2, 2), (3, 3), (4, 4), (5, 5)] (by kernel_rfl) (by kernel_rfl) rfl ?_
                      exact H147 (decide (y144 > 0)) hm
              · rintro v84_10 hm
                replace hm := (hJ148 _).symm.trans hm
                try dsimp only at hm
                refine GS.cond (t := v84_10) rfl rfl (fun h149 => ?_) (fun h149 => ?_)
                · replace hm := br_t h149 hm
                  refine GS.seq ?_
                  refine GS.rz (fun _ => [(2, .int .i64 22)]) (fun _ => []) [] [2] [] (fun _ => by kernel_rfl) ?_
                  intro _
                  have hy := Option.some.inj hm
                  subst hy
                  refine GS.ret (fn := Try.f21) [0] [.int .i64 22] [] rfl Try.func21 (by kernel_rfl) trivial (fun w' hs => ?_)
                  exact ⟨(), rfl, hs.turnedG (ks := []) rfl rfl⟩
                · replace hm := br_f h149 hm
                  refine GS.skip ?_
                  refine GS.inBlock ?_
                  refine GS.rgM (fun _ => [(1, .pointer (some ⟨(fr1 0).x, 0, none⟩)), (3, .pointer (some ⟨(fr12 2).x, 0, none⟩)), (57, .slice a0_Items_o a0_Items.length a0_Items_c), (58, .int .i64 ((a0_Items.length : Nat) : Int)), (59, .int .i64 ((v59_7 + 1 : Nat) : Int))]) [(0, { sp := some (.int .i64 ((v59_7 + 1 : Nat) : Int)) })] [1, 3, 57, 58, 59] [1, 2, 3, 4, 5] (fun _ => [((.int .i64 (IntKind.i64.wrap (((v59_7 : Nat) : Int) + 1))) : Value) = .int .i64 ((v59_7 + 1 : Nat) : Int)]) (fun _ => by kernel_rfl) (fun _ => ⟨natw (drop_lt hd130) g131, trivial⟩) ?_
                  intro _
                  refine GS.inLoop ?_
                  refine GS.rekey (env' := [(1, .pointer (some ⟨(fr1 0).x, 0, none⟩)), (3, .pointer (some ⟨(fr12 2).x, 0, none⟩)), (57, .slice a0_Items_o a0_Items.length a0_Items_c), (58, .int .i64 ((a0_Items.length : Nat) : Int)), (59, .int .i64 ((v59_7 + 1 : Nat) : Int))]) (mem' := [(1, r52 a0_Log_o a0_Log), (2, r47 a0_Lasts_o a0_Lasts), (3, r42 a0_Items_o a0_Items), (4, .cells ((fr1 0).x) 28 (kc9 a0_Les a0_Tail.Epoch a0_Tail.N a0_Log_o a0_Log.length a0_Log_c a0_Lasts_o a0_Lasts.length a0_Lasts_c a0_Items_o a0_Items.length a0_Items_c)), (5, .cells ((fr12 2).x) 23 [.int .i64 c5_0_2, .int .i64 c5_1_2])]) [1, 3, 57, 58, 59] [(1, 1), (2, 2), (3, 3), (4, 4), (5, 5)] (by kernel_rfl) (by kernel_rfl) rfl ?_
                  exact ih156 ⟨rs155, v59_7 + 1⟩ ⟨drop_next hd130, hm⟩ (Nat.lt_succ_self _)
      | cons x51 rs71 =>
        replace hm := (hst75 _ _ _ _).symm.trans hm
        try dsimp only at hm
        refine GS.seq ?_
        refine GS.rzM (fun _ => [(1, .pointer (some ⟨(fr1 0).x, 0, none⟩)), (3, .pointer (some ⟨(fr12 2).x, 0, none⟩)), (27, .slice a0_Log_o a0_Log.length a0_Log_c), (28, .int .i64 ((a0_Log.length : Nat) : Int)), (29, .int .i64 ((v29_2 : Nat) : Int)), (30, .bool (decide (((v29_2 : Nat) : Int) < ((a0_Log.length : Nat) : Int))))]) [] [1, 3, 27, 28, 29, 30] [1, 2, 3, 4, 5] (fun _ => by kernel_rfl) ?_
        intro _
        refine GS.seq ?_
        refine GS.cond (t := decide (((v29_2 : Nat) : Int) < ((a0_Log.length : Nat) : Int))) rfl rfl (fun _ => ?_) (fun h53 => absb (drop_dec hd49) h53)
        refine GS.skip ?_
        refine GS.seq ?_
        refine GS.block ?_
        refine GS.seq ?_
        refine GS.rg (fun fr54 => [(1, .pointer (some ⟨(fr1 0).x, 0, none⟩)), (3, .pointer (some ⟨(fr12 2).x, 0, none⟩)), (5, .pointer (some ⟨(fr54 2).x, 0, none⟩)), (27, .slice a0_Log_o a0_Log.length a0_Log_c), (28, .int .i64 ((a0_Log.length : Nat) : Int)), (29, .int .i64 ((v29_2 : Nat) : Int))]) (fun fr54 => [(1, r52 a0_Log_o a0_Log), (2, r47 a0_Lasts_o a0_Lasts), (3, r42 a0_Items_o a0_Items), (4, .cells ((fr1 0).x) 28 (kc9 a0_Les a0_Tail.Epoch a0_Tail.N a0_Log_o a0_Log.length a0_Log_c a0_Lasts_o a0_Lasts.length a0_Lasts_c a0_Items_o a0_Items.length a0_Items_c)), (5, .cells ((fr12 2).x) 23 [.int .i64 c5_0_2, .int .i64 c5_1_2]), (6, .cells ((fr54 2).x) 52 (kc4 x51.Version.Epoch x51.Version.N x51.Remove x51.Errno x51.Name x51.Client x51.Number))]) [(0, { act := .idx 1 v29_2 }), (1, { act := .load 1 v29_2 0 [.int .i64 x51.Version.Epoch, .int .i64 x51.Version.N, .bool x51.Remove, .int .i64 x51.Errno, .string x51.Name, .int .i64 x51.Client, .int .i64 x51.Number] }), (2, { act := .new .var, key := some 6 }), (3, { act := .store 0 0 [], key := some 6 })] [1, 3, 5, 27, 28, 29] [1, 2, 3, 4, 5, 6] (fun fr54 => [a0_Log_o = a0_Log_o, a0_Log.length = (List.map S_api_Entry.row a0_Log).length, (((v29_2 : Nat) : Int) : Int) = ((v29_2 : Nat) : Int), v29_2 < a0_Log.length, blk a0_Log_o = blk a0_Log_o, offs a0_Log_o + v29_2 * 7 = offs a0_Log_o + (v29_2 * 7 + 0), (List.map S_api_Entry.row a0_Log)[v29_2]? = some [.int .i64 x51.Version.Epoch, .int .i64 x51.Version.N, .bool x51.Remove, .int .i64 x51.Errno, .string x51.Name, .int .i64 x51.Client, .int .i64 x51.Number], (fr54 2).x = (fr54 2).x, ((.agg ((kc4 x51.Version.Epoch x51.Version.N x51.Remove x51.Errno x51.Name x51.Client x51.Number)).toArray) : Value).cells.toList.all Value.oneCell' = true]) (fun fr54 => by kernel_rfl) (fun fr54 => ⟨rfl, mlen S_api_Entry.row a0_Log, rfl, (drop_lt hd49), rfl, rfl, map_drop S_api_Entry.row hd49, rfl, rfl, trivial⟩) ?_
        intro fr54
        refine GS.seq ?_
        refine GS.seq ?_
        refine jn_elim hm (fun J61 hJ63 hm => ?_)
        refine GS.cut (ι := Bool) (I := fun (v42_5 : Bool) => J61 v42_5 = some y) (E := fun (v42_5 : Bool) => [(1, .pointer (some ⟨(fr1 0).x, 0, none⟩)), (3, .pointer (some ⟨(fr12 2).x, 0, none⟩)), (5, .pointer (some ⟨(fr54 2).x, 0, none⟩)), (27, .slice a0_Log_o a0_Log.length a0_Log_c), (28, .int .i64 ((a0_Log.length : Nat) : Int)), (29, .int .i64 ((v29_2 : Nat) : Int)), (42, .bool v42_5)]) (M := fun (v42_5 : Bool) => [(1, r52 a0_Log_o a0_Log), (2, r47 a0_Lasts_o a0_Lasts), (3, r42 a0_Items_o a0_Items), (4, .cells ((fr1 0).x) 28 (kc9 a0_Les a0_Tail.Epoch a0_Tail.N a0_Log_o a0_Log.length a0_Log_c a0_Lasts_o a0_Lasts.length a0_Lasts_c a0_Items_o a0_Items.length a0_Items_c)), (5, .cells ((fr12 2).x) 23 [.int .i64 c5_0_2, .int .i64 c5_1_2]), (6, .cells ((fr54 2).x) 52 (kc4 x51.Version.Epoch x51.Version.N x51.Remove x51.Errno x51.Name x51.Client x51.Number))]) ?_ ?_
        rotate_left
        · intro H62
          refine bnd_elim hm (fun y56 e57 hm => ?_)
          refine br_elim hm (fun h58 hm => ?_) (fun h58 hm => ?_)
          · skip
            refine GS.rgM (fun _ => [(1, .pointer (some ⟨(fr1 0).x, 0, none⟩)), (3, .pointer (some ⟨(fr12 2).x, 0, none⟩)), (5, .pointer (some ⟨(fr54 2).x, 0, none⟩)), (27, .slice a0_Log_o a0_Log.length a0_Log_c), (28, .int .i64 ((a0_Log.length : Nat) : Int)), (29, .int .i64 ((v29_2 : Nat) : Int)), (42, .bool true)]) [(1, { act := .load 6 0 0 [] }), (2, { act := .call [] (.bool y56) }), (3, { sp := some (.bool true) })] [1, 3, 5, 27, 28, 29, 42] [1, 2, 3, 4, 5, 6] (fun _ => [(fr54 2).x = (fr54 2).x, CallOK Try.prog 33 #[.agg #[.int .i64 x51.Version.Epoch, .int .i64 x51.Version.N]] (.bool y56) [], ((.bool y56) : Value) = .bool true]) (fun _ => by kernel_rfl) (fun _ => ⟨rfl, (by have h1 := w_pglog_below F x51.Version e57; exact h1.ok trivial), bool_eq h58, trivial⟩) ?_
            intro _
            refine GS.rekey (env' := [(1, .pointer (some ⟨(fr1 0).x, 0, none⟩)), (3, .pointer (some ⟨(fr12 2).x, 0, none⟩)), (5, .pointer (some ⟨(fr54 2).x, 0, none⟩)), (27, .slice a0_Log_o a0_Log.length a0_Log_c), (28, .int .i64 ((a0_Log.length : Nat) : Int)), (29, .int .i64 ((v29_2 : Nat) : Int)), (42, .bool true)]) (mem' := [(1, r52 a0_Log_o a0_Log), (2, r47 a0_Lasts_o a0_Lasts), (3, r42 a0_Items_o a0_Items), (4, .cells ((fr1 0).x) 28 (kc9 a0_Les a0_Tail.Epoch a0_Tail.N a0_Log_o a0_Log.length a0_Log_c a0_Lasts_o a0_Lasts.length a0_Lasts_c a0_Items_o a0_Items.length a0_Items_c)), (5, .cells ((fr12 2).x) 23 [.int .i64 c5_0_2, .int .i64 c5_1_2]), (6, .cells ((fr54 2).x) 52 (kc4 x51.Version.Epoch x51.Version.N x51.Remove x51.Errno x51.Name x51.Client x51.Number))]) [1, 3, 5, 27, 28, 29, 42] [(1, 1), (2, 2), (3, 3), (4, 4), (5, 5), (6, 6)] (by kernel_rfl) (by kernel_rfl) rfl ?_
            exact H62 true hm
          · skip
            refine bnd_elim hm (fun y59 e60 hm => ?_)
            refine GS.rgM (fun _ => [(1, .pointer (some ⟨(fr1 0).x, 0, none⟩)), (3, .pointer (some ⟨(fr12 2).x, 0, none⟩)), (5, .pointer (some ⟨(fr54 2).x, 0, none⟩)), (27, .slice a0_Log_o a0_Log.length a0_Log_c), (28, .int .i64 ((a0_Log.length : Nat) : Int)), (29, .int .i64 ((v29_2 : Nat) : Int)), (42, .bool (decide (y59 ≤ 0)))]) [(1, { act := .load 6 0 0 [] }), (2, { act := .call [] (.bool y56) }), (3, { sp := some (.bool false) }), (5, { act := .load 6 0 0 [] }), (6, { act := .load 5 0 0 [] }), (7, { act := .call [] (.int .i64 y59) })] [1, 3, 5, 27, 28, 29, 42] [1, 2, 3, 4, 5, 6] (fun _ => [(fr54 2).x = (fr54 2).x, CallOK Try.prog 33 #[.agg #[.int .i64 x51.Version.Epoch, .int .i64 x51.Version.N]] (.bool y56) [], ((.bool y56) : Value) = .bool false, (fr54 2).x = (fr54 2).x, (fr12 2).x = (fr12 2).x, CallOK Try.prog 7 #[.agg #[.int .i64 x51.Version.Epoch, .int .i64 x51.Version.N], .agg #[.int .i64 c5_0_2, .int .i64 c5_1_2]] (.int .i64 y59) []]) (fun _ => by kernel_rfl) (fun _ => ⟨rfl, (by have h1 := w_pglog_below F x51.Version e57; exact h1.ok trivial), bool_eq h58, rfl, rfl, (by have h1 := w_pglog_Cmp F x51.Version (S_api_Version.mk c5_0_2 c5_1_2) e60; exact h1.ok trivial), trivial⟩) ?_
            intro _
            refine GS.rekey (env' := [(1, .pointer (some ⟨(fr1 0).x, 0, none⟩)), (3, .pointer (some ⟨(fr12 2).x, 0, none⟩)), (5, .pointer (some ⟨(fr54 2).x, 0, none⟩)), (27, .slice a0_Log_o a0_Log.length a0_Log_c), (28, .int .i64 ((a0_Log.length : Nat) : Int)), (29, .int .i64 ((v29_2 : Nat) : Int)), (42, .bool (decide (y59 ≤ 0)))]) (mem' := [(1, r52 a0_Log_o a0_Log), (2, r47 a0_Lasts_o a0_Lasts), (3, r42 a0_Items_o a0_Items), (4, .cells ((fr1 0).x) 28 (kc9 a0_Les a0_Tail.Epoch a0_Tail.N a0_Log_o a0_Log.length a0_Log_c a0_Lasts_o a0_Lasts.length a0_Lasts_c a0_Items_o a0_Items.length a0_Items_c)), (5, .cells ((fr12 2).x) 23 [.int .i64 c5_0_2, .int .i64 c5_1_2]), (6, .cells ((fr54 2).x) 52 (kc4 x51.Version.Epoch x51.Version.N x51.Remove x51.Errno x51.Name x51.Client x51.Number))]) [1, 3, 5, 27, 28, 29, 42] [(1, 1), (2, 2), (3, 3), (4, 4), (5, 5), (6, 6)] (by kernel_rfl) (by kernel_rfl) rfl ?_
            exact H62 (decide (y59 ≤ 0)) hm
        · rintro v42_5 hm
          replace hm := (hJ63 _).symm.trans hm
          try dsimp only at hm
          refine GS.cond (t := v42_5) rfl rfl (fun h64 => ?_) (fun h64 => ?_)
          · replace hm := br_t h64 hm
            refine GS.seq ?_
            refine GS.rz (fun _ => [(2, .int .i64 22)]) (fun _ => []) [] [2] [] (fun _ => by kernel_rfl) ?_
            intro _
            have hy := Option.some.inj hm
            subst hy
            refine GS.ret (fn := Try.f21) [0] [.int .i64 22] [] rfl Try.func21 (by kernel_rfl) trivial (fun w' hs => ?_)
            exact ⟨(), rfl, hs.turnedG (ks := []) rfl rfl⟩
          · replace hm := br_f h64 hm
            refine GS.skip ?_
            refine GS.rg (fun _ => [(1, .pointer (some ⟨(fr1 0).x, 0, none⟩)), (3, .pointer (some ⟨(fr12 2).x, 0, none⟩)), (27, .slice a0_Log_o a0_Log.length a0_Log_c), (28, .int .i64 ((a0_Log.length : Nat) : Int)), (29, .int .i64 ((v29_2 : Nat) : Int))]) (fun _ => [(1, r52 a0_Log_o a0_Log), (2, r47 a0_Lasts_o a0_Lasts), (3, r42 a0_Items_o a0_Items), (4, .cells ((fr1 0).x) 28 (kc9 a0_Les a0_Tail.Epoch a0_Tail.N a0_Log_o a0_Log.length a0_Log_c a0_Lasts_o a0_Lasts.length a0_Lasts_c a0_Items_o a0_Items.length a0_Items_c)), (5, .cells ((fr12 2).x) 23 [.int .i64 x51.Version.Epoch, .int .i64 x51.Version.N])]) [(1, { act := .load 6 0 0 [] }), (2, { act := .store 0 0 [], key := some 5 })] [1, 3, 27, 28, 29] [1, 2, 3, 4, 5] (fun _ => [(fr54 2).x = (fr54 2).x, (fr12 2).x = (fr12 2).x, ((.agg #[.int .i64 x51.Version.Epoch, .int .i64 x51.Version.N]) : Value).cells.toList.all Value.oneCell' = true]) (fun _ => by kernel_rfl) (fun _ => ⟨rfl, rfl, rfl, trivial⟩) ?_
            intro _
            refine GS.inBlock ?_
            refine GS.rgM (fun _ => [(1, .pointer (some ⟨(fr1 0).x, 0, none⟩)), (3, .pointer (some ⟨(fr12 2).x, 0, none⟩)), (27, .slice a0_Log_o a0_Log.length a0_Log_c), (28, .int .i64 ((a0_Log.length : Nat) : Int)), (29, .int .i64 ((v29_2 + 1 : Nat) : Int))]) [(0, { sp := some (.int .i64 ((v29_2 + 1 : Nat) : Int)) })] [1, 3, 27, 28, 29] [1, 2, 3, 4, 5] (fun _ => [((.int .i64 (IntKind.i64.wrap (((v29_2 : Nat) : Int) + 1))) : Value) = .int .i64 ((v29_2 + 1 : Nat) : Int)]) (fun _ => by kernel_rfl) (fun _ => ⟨natw (drop_lt hd49) g50, trivial⟩) ?_
            intro _
            refine GS.inLoop ?_
            refine GS.rekey (env' := [(1, .pointer (some ⟨(fr1 0).x, 0, none⟩)), (3, .pointer (some ⟨(fr12 2).x, 0, none⟩)), (27, .slice a0_Log_o a0_Log.length a0_Log_c), (28, .int .i64 ((a0_Log.length : Nat) : Int)), (29, .int .i64 ((v29_2 + 1 : Nat) : Int))]) (mem' := [(1, r52 a0_Log_o a0_Log), (2, r47 a0_Lasts_o a0_Lasts), (3, r42 a0_Items_o a0_Items), (4, .cells ((fr1 0).x) 28 (kc9 a0_Les a0_Tail.Epoch a0_Tail.N a0_Log_o a0_Log.length a0_Log_c a0_Lasts_o a0_Lasts.length a0_Lasts_c a0_Items_o a0_Items.length a0_Items_c)), (5, .cells ((fr12 2).x) 23 [.int .i64 x51.Version.Epoch, .int .i64 x51.Version.N])]) [1, 3, 27, 28, 29] [(1, 1), (2, 2), (3, 3), (4, 4), (5, 5)] (by kernel_rfl) (by kernel_rfl) rfl ?_
            exact ih72 ⟨rs71, v29_2 + 1, x51.Version.Epoch, x51.Version.N⟩ ⟨drop_next hd49, hm⟩ (Nat.lt_succ_self _)

theorem w_pglog_Head_2 (F : Nat) (a0_Les : Int) (a0_Tail : S_api_Version) (a0_Log_o : Option Addr) (a0_Log_c : Nat) (a0_Log : List S_api_Entry) (a0_Lasts_o : Option Addr) (a0_Lasts_c : Nat) (a0_Lasts : List S_api_Last) (a0_Items_o : Option Addr) (a0_Items_c : Nat) (a0_Items : List S_api_Item) {y : S_api_Version} (hm : m_pglog_Head_2 F a0_Les a0_Tail a0_Log a0_Lasts a0_Items = some y) : CallG Try.prog 23 #[.agg ((kc9 a0_Les a0_Tail.Epoch a0_Tail.N a0_Log_o a0_Log.length a0_Log_c a0_Lasts_o a0_Lasts.length a0_Lasts_c a0_Items_o a0_Items.length a0_Items_c)).toArray] (X := Unit) (fun (_ : Unit) => .agg #[.int .i64 y.Epoch, .int .i64 y.N]) [] [r52 a0_Log_o a0_Log, r47 a0_Lasts_o a0_Lasts, r42 a0_Items_o a0_Items] (fun (_ : Unit) => []) := by
  intro w hg
  rw [m_pglog_Head_2] at hm
  refine GS.start (S := mayT [] [r52 a0_Log_o a0_Log, r47 a0_Lasts_o a0_Lasts, r42 a0_Items_o a0_Items]) (mem := [(1, r52 a0_Log_o a0_Log), (2, r47 a0_Lasts_o a0_Lasts), (3, r42 a0_Items_o a0_Items)]) Try.func23 rfl Try.ntmps23 (Nat.le_of_ble_eq_true rfl) (hg.start rfl) ?_
  refine GS.conv (env' := [(0, .agg ((kc9 a0_Les a0_Tail.Epoch a0_Tail.N a0_Log_o a0_Log.length a0_Log_c a0_Lasts_o a0_Lasts.length a0_Lasts_c a0_Items_o a0_Items.length a0_Items_c)).toArray)]) rfl rfl ?_
  refine GS.seq ?_
  refine GS.rz (fun fr1 => [(1, .pointer (some ⟨(fr1 0).x, 0, none⟩)), (2, .pointer (some ⟨(fr1 1).x, 0, none⟩))]) (fun fr1 => [(1, r52 a0_Log_o a0_Log), (2, r47 a0_Lasts_o a0_Lasts), (3, r42 a0_Items_o a0_Items), (4, .cells ((fr1 0).x) 28 (kc9 a0_Les a0_Tail.Epoch a0_Tail.N a0_Log_o a0_Log.length a0_Log_c a0_Lasts_o a0_Lasts.length a0_Lasts_c a0_Items_o a0_Items.length a0_Items_c)), (5, .cells ((fr1 1).x) 23 [.int .i64 0, .int .i64 0])]) [(0, { act := .new .var, key := some 4 }), (1, { act := .new .var, key := some 5 })] [1, 2] [1, 2, 3, 4, 5] (fun fr1 => by kernel_rfl) ?_
  intro fr1
  refine GS.seq ?_
  refine GS.seq ?_
  refine GS.rgM (fun _ => [(1, .pointer (some ⟨(fr1 0).x, 0, none⟩)), (2, .pointer (some ⟨(fr1 1).x, 0, none⟩)), (3, .int .i64 ((a0_Log.length : Nat) : Int))]) [(1, { act := .load 4 0 0 [] })] [1, 2, 3] [1, 2, 3, 4, 5] (fun _ => [(fr1 0).x = (fr1 0).x]) (fun _ => by kernel_rfl) (fun _ => ⟨rfl, trivial⟩) ?_
  intro _
  refine GS.seq ?_
  refine GS.rzM (fun _ => [(1, .pointer (some ⟨(fr1 0).x, 0, none⟩)), (2, .pointer (some ⟨(fr1 1).x, 0, none⟩)), (3, .int .i64 ((a0_Log.length : Nat) : Int)), (8, .bool (decide (((a0_Log.length : Nat) : Int) > 0)))]) [] [1, 2, 3, 8] [1, 2, 3, 4, 5] (fun _ => by kernel_rfl) ?_
  intro _
  refine GS.cond (t := decide (((a0_Log.length : Nat) : Int) > 0)) rfl rfl (fun h4 => ?_) (fun h4 => ?_)
  · replace hm := br_t h4 hm
    refine GS.seq ?_
    refine grd_elim hm (fun g6 hm => ?_)
    refine grd_elim hm (fun g7 hm => ?_)
    refine GS.rg (fun _ => [(2, .pointer (some ⟨(fr1 1).x, 0, none⟩))]) (fun _ => [(5, .cells ((fr1 1).x) 23 [.int .i64 (((a0_Log.getD (Int.toNat (((a0_Log.length : Nat) : Int) - 1)) dS_api_Entry).Version).Epoch), .int .i64 (((a0_Log.getD (Int.toNat (((a0_Log.length : Nat) : Int) - 1)) dS_api_Entry).Version).N)])]) [(1, { act := .load 4 0 0 [] }), (3, { sp := some (.int .i64 (((a0_Log.length : Nat) : Int) - 1)) }), (4, { act := .idx 1 (Int.toNat (((a0_Log.length : Nat) : Int) - 1)) }), (6, { act := .load 1 (Int.toNat (((a0_Log.length : Nat) : Int) - 1)) 0 [.int .i64 (((a0_Log.getD (Int.toNat (((a0_Log.length : Nat) : Int) - 1)) dS_api_Entry).Version).Epoch), .int .i64 (((a0_Log.getD (Int.toNat (((a0_Log.length : Nat) : Int) - 1)) dS_api_Entry).Version).N), .bool ((a0_Log.getD (Int.toNat (((a0_Log.length : Nat) : Int) - 1)) dS_api_Entry).Remove), .int .i64 ((a0_Log.getD (Int.toNat (((a0_Log.length : Nat) : Int) - 1)) dS_api_Entry).Errno), .string ((a0_Log.getD (Int.toNat (((a0_Log.length : Nat) : Int) - 1)) dS_api_Entry).Name), .int .i64 ((a0_Log.getD (Int.toNat (((a0_Log.length : Nat) : Int) - 1)) dS_api_Entry).Client), .int .i64 ((a0_Log.getD (Int.toNat (((a0_Log.length : Nat) : Int) - 1)) dS_api_Entry).Number)] }), (7, { act := .store 0 0 [], key := some 5 })] [2] [5] (fun _ => [(fr1 0).x = (fr1 0).x, ((.int .i64 (IntKind.i64.wrap (((a0_Log.length : Nat) : Int) - 1))) : Value) = .int .i64 (((a0_Log.length : Nat) : Int) - 1), a0_Log_o = a0_Log_o, a0_Log.length = (List.map S_api_Entry.row a0_Log).length, ((((a0_Log.length : Nat) : Int) - 1) : Int) = (((Int.toNat (((a0_Log.length : Nat) : Int) - 1)) : Nat) : Int), (Int.toNat (((a0_Log.length : Nat) : Int) - 1)) < a0_Log.length, blk a0_Log_o = blk a0_Log_o, offs a0_Log_o + (Int.toNat (((a0_Log.length : Nat) : Int) - 1)) * 7 = offs a0_Log_o + ((Int.toNat (((a0_Log.length : Nat) : Int) - 1)) * 7 + 0), (List.map S_api_Entry.row a0_Log)[(Int.toNat (((a0_Log.length : Nat) : Int) - 1))]? = some [.int .i64 (((a0_Log.getD (Int.toNat (((a0_Log.length : Nat) : Int) - 1)) dS_api_Entry).Version).Epoch), .int .i64 (((a0_Log.getD (Int.toNat (((a0_Log.length : Nat) : Int) - 1)) dS_api_Entry).Version).N), .bool ((a0_Log.getD (Int.toNat (((a0_Log.length : Nat) : Int) - 1)) dS_api_Entry).Remove), .int .i64 ((a0_Log.getD (Int.toNat (((a0_Log.length : Nat) : Int) - 1)) dS_api_Entry).Errno), .string ((a0_Log.getD (Int.toNat (((a0_Log.length : Nat) : Int) - 1)) dS_api_Entry).Name), .int .i64 ((a0_Log.getD (Int.toNat (((a0_Log.length : Nat) : Int) - 1)) dS_api_Entry).Client), .int .i64 ((a0_Log.getD (Int.toNat (((a0_Log.length : Nat) : Int) - 1)) dS_api_Entry).Number)], (fr1 1).x = (fr1 1).x, ((.agg #[.int .i64 (((a0_Log.getD (Int.toNat (((a0_Log.length : Nat) : Int) - 1)) dS_api_Entry).Version).Epoch), .int .i64 (((a0_Log.getD (Int.toNat (((a0_Log.length : Nat) : Int) - 1)) dS_api_Entry).Version).N)]) : Value).cells.toList.all Value.oneCell' = true]) (fun _ => by kernel_rfl) (fun _ => ⟨rfl, I64.w g6, rfl, mlen S_api_Entry.row a0_Log, g7.eq, g7.2, rfl, rfl, map_at S_api_Entry.row dS_api_Entry g7.2, rfl, rfl, trivial⟩) ?_
    intro _
    have hy := Option.some.inj hm
    subst hy
    refine GS.ret (fn := Try.f23) [5] [.agg #[.int .i64 (((a0_Log.getD (Int.toNat (((a0_Log.length : Nat) : Int) - 1)) dS_api_Entry).Version).Epoch), .int .i64 (((a0_Log.getD (Int.toNat (((a0_Log.length : Nat) : Int) - 1)) dS_api_Entry).Version).N)]] [(fr1 1).x = (fr1 1).x] rfl Try.func23 (by kernel_rfl) ⟨rfl, trivial⟩ (fun w' hs => ?_)
    exact ⟨(), rfl, hs.turnedG (ks := []) rfl rfl⟩
  · replace hm := br_f h4 hm
    refine GS.skip ?_
    refine GS.seq ?_
    refine GS.rg (fun _ => [(2, .pointer (some ⟨(fr1 1).x, 0, none⟩))]) (fun _ => [(5, .cells ((fr1 1).x) 23 [.int .i64 a0_Tail.Epoch, .int .i64 a0_Tail.N])]) [(1, { act := .load 4 0 0 [] }), (2, { act := .store 0 0 [], key := some 5 })] [2] [5] (fun _ => [(fr1 0).x = (fr1 0).x, (fr1 1).x = (fr1 1).x, ((.agg #[.int .i64 a0_Tail.Epoch, .int .i64 a0_Tail.N]) : Value).cells.toList.all Value.oneCell' = true]) (fun _ => by kernel_rfl) (fun _ => ⟨rfl, rfl, rfl, trivial⟩) ?_
    intro _
    have hy := Option.some.inj hm
    subst hy
    refine GS.ret (fn := Try.f23) [5] [.agg #[.int .i64 a0_Tail.Epoch, .int .i64 a0_Tail.N]] [(fr1 1).x = (fr1 1).x] rfl Try.func23 (by kernel_rfl) ⟨rfl, trivial⟩ (fun w' hs => ?_)
    exact ⟨(), rfl, hs.turnedG (ks := []) rfl rfl⟩

theorem w_pglog_Seen (F : Nat) (a0_Les : Int) (a0_Tail : S_api_Version) (a0_Log_o : Option Addr) (a0_Log_c : Nat) (a0_Log : List S_api_Entry) (a0_Lasts_o : Option Addr) (a0_Lasts_c : Nat) (a0_Lasts : List S_api_Last) (a0_Items_o : Option Addr) (a0_Items_c : Nat) (a0_Items : List S_api_Item) (a1 : Int) (a2 : Int) {y : S_api_Last × Int} (hm : m_pglog_Seen F a0_Les a0_Tail a0_Log a0_Lasts a0_Items a1 a2 = some y) : CallG Try.prog 17 #[.agg ((kc9 a0_Les a0_Tail.Epoch a0_Tail.N a0_Log_o a0_Log.length a0_Log_c a0_Lasts_o a0_Lasts.length a0_Lasts_c a0_Items_o a0_Items.length a0_Items_c)).toArray, .int .i64 a1, .int .i64 a2] (X := Unit) (fun (_ : Unit) => .tuple #[.agg ((kc10 y.1.Client y.1.Number y.1.Errno y.1.Version.Epoch y.1.Version.N)).toArray, .int .i64 y.2]) [] [r52 a0_Log_o a0_Log, r47 a0_Lasts_o a0_Lasts, r42 a0_Items_o a0_Items] (fun (_ : Unit) => []) := by
  intro w hg
  rw [m_pglog_Seen] at hm
  refine GS.start (S := mayT [] [r52 a0_Log_o a0_Log, r47 a0_Lasts_o a0_Lasts, r42 a0_Items_o a0_Items]) (mem := [(1, r52 a0_Log_o a0_Log), (2, r47 a0_Lasts_o a0_Lasts), (3, r42 a0_Items_o a0_Items)]) Try.func17 rfl Try.ntmps17 (Nat.le_of_ble_eq_true rfl) (hg.start rfl) ?_
  refine GS.conv (env' := [(0, .agg ((kc9 a0_Les a0_Tail.Epoch a0_Tail.N a0_Log_o a0_Log.length a0_Log_c a0_Lasts_o a0_Lasts.length a0_Lasts_c a0_Items_o a0_Items.length a0_Items_c)).toArray), (1, .int .i64 a1), (2, .int .i64 a2)]) rfl rfl ?_
  refine GS.seq ?_
  refine GS.rz (fun fr1 => [(1, .int .i64 a1), (2, .int .i64 a2), (3, .pointer (some ⟨(fr1 0).x, 0, none⟩)), (6, .pointer (some ⟨(fr1 1).x, 0, none⟩))]) (fun fr1 => [(1, r52 a0_Log_o a0_Log), (2, r47 a0_Lasts_o a0_Lasts), (3, r42 a0_Items_o a0_Items), (4, .cells ((fr1 0).x) 28 (kc9 a0_Les a0_Tail.Epoch a0_Tail.N a0_Log_o a0_Log.length a0_Log_c a0_Lasts_o a0_Lasts.length a0_Lasts_c a0_Items_o a0_Items.length a0_Items_c)), (5, .cells ((fr1 1).x) 47 (kc11))]) [(0, { act := .new .var, key := some 4 }), (1, { act := .new .var, key := some 5 })] [1, 2, 3, 6] [1, 2, 3, 4, 5] (fun fr1 => by kernel_rfl) ?_
  intro fr1
  refine GS.seq ?_
  refine GS.seq ?_
  refine GS.rg (fun _ => [(1, .int .i64 a1), (2, .int .i64 a2), (6, .pointer (some ⟨(fr1 1).x, 0, none⟩)), (11, .slice a0_Lasts_o a0_Lasts.length a0_Lasts_c), (12, .int .i64 ((a0_Lasts.length : Nat) : Int)), (13, .int .i64 0)]) (fun _ => [(2, r47 a0_Lasts_o a0_Lasts), (5, .cells ((fr1 1).x) 47 (kc11))]) [(1, { act := .load 4 0 0 [] })] [1, 2, 6, 11, 12, 13] [2, 5] (fun _ => [(fr1 0).x = (fr1 0).x]) (fun _ => by kernel_rfl) (fun _ => ⟨rfl, trivial⟩) ?_
  intro _
  refine GS.block ?_
  refine GS.loop ?_
  refine grd_elim hm (fun g33 hm => ?_)
  refine GS.rekey (env' := [(1, .int .i64 a1), (2, .int .i64 a2), (6, .pointer (some ⟨(fr1 1).x, 0, none⟩)), (11, .slice a0_Lasts_o a0_Lasts.length a0_Lasts_c), (12, .int .i64 ((a0_Lasts.length : Nat) : Int)), (13, .int .i64 0)]) (mem' := [(2, r47 a0_Lasts_o a0_Lasts), (5, .cells ((fr1 1).x) 47 (kc11))]) [1, 2, 6, 11, 12, 13] [(2, 2), (5, 5)] (by kernel_rfl) (by kernel_rfl) rfl ?_
  refine loopL_elim hm (fun st53 fn54 hst55 hfn56 hm => ?_)
  refine GS.loopInv (ι := List S_api_Last × Nat) (I := fun ⟨rs51, v13_1⟩ => a0_Lasts.drop v13_1 = rs51 ∧ loopL st53 fn54 rs51 v13_1 () = some y) (μ := fun ⟨rs51, v13_1⟩ => rs51.length) (E := fun ⟨rs51, v13_1⟩ => [(1, .int .i64 a1), (2, .int .i64 a2), (6, .pointer (some ⟨(fr1 1).x, 0, none⟩)), (11, .slice a0_Lasts_o a0_Lasts.length a0_Lasts_c), (12, .int .i64 ((a0_Lasts.length : Nat) : Int)), (13, .int .i64 ((v13_1 : Nat) : Int))]) (M := fun ⟨rs51, v13_1⟩ => [(2, r47 a0_Lasts_o a0_Lasts), (5, .cells ((fr1 1).x) 47 (kc11))]) ?_ ⟨a0_Lasts, 0⟩ ⟨List.drop_zero .., hm⟩
  rintro ⟨rs51, v13_1⟩ ⟨hd32, hm⟩ ih52
  cases rs51 with
  | nil =>
    replace hm := (hfn56 _ _).symm.trans hm
    try dsimp only at hm
    refine GS.seq ?_
    refine GS.rzM (fun _ => [(1, .int .i64 a1), (2, .int .i64 a2), (6, .pointer (some ⟨(fr1 1).x, 0, none⟩)), (11, .slice a0_Lasts_o a0_Lasts.length a0_Lasts_c), (12, .int .i64 ((a0_Lasts.length : Nat) : Int)), (13, .int .i64 ((v13_1 : Nat) : Int)), (14, .bool (decide (((v13_1 : Nat) : Int) < ((a0_Lasts.length : Nat) : Int))))]) [] [1, 2, 6, 11, 12, 13, 14] [2, 5] (fun _ => by kernel_rfl) ?_
    intro _
    refine GS.seq ?_
    refine GS.cond (t := decide (((v13_1 : Nat) : Int) < ((a0_Lasts.length : Nat) : Int))) rfl rfl (fun h49 => absb h49 (drop_dec0 hd32)) (fun _ => ?_)
    refine GS.exit rfl ?_
    refine GS.seq ?_
    refine GS.rg (fun _ => [(6, .pointer (some ⟨(fr1 1).x, 0, none⟩)), (7, .int .i64 0)]) (fun _ => [(5, .cells ((fr1 1).x) 47 (kc11))]) [(1, { act := .store 0 0 [], key := some 5 })] [6, 7] [5] (fun _ => [(fr1 1).x = (fr1 1).x, ((.agg ((kc11)).toArray) : Value).cells.toList.all Value.oneCell' = true]) (fun _ => by kernel_rfl) (fun _ => ⟨rfl, rfl, trivial⟩) ?_
    intro _
    have hy := Option.some.inj hm
    subst hy
    refine GS.ret (fn := Try.f17) [5, 0] [.agg ((kc11)).toArray, .int .i64 0] [(fr1 1).x = (fr1 1).x] rfl Try.func17 (by kernel_rfl) ⟨rfl, trivial⟩ (fun w' hs => ?_)
    exact ⟨(), rfl, hs.turnedG (ks := []) rfl rfl⟩
  | cons x34 rs51 =>
    replace hm := (hst55 _ _ _ _).symm.trans hm
    try dsimp only at hm
    refine GS.seq ?_
    refine GS.rzM (fun _ => [(1, .int .i64 a1), (2, .int .i64 a2), (6, .pointer (some ⟨(fr1 1).x, 0, none⟩)), (11, .slice a0_Lasts_o a0_Lasts.length a0_Lasts_c), (12, .int .i64 ((a0_Lasts.length : Nat) : Int)), (13, .int .i64 ((v13_1 : Nat) : Int)), (14, .bool (decide (((v13_1 : Nat) : Int) < ((a0_Lasts.length : Nat) : Int))))]) [] [1, 2, 6, 11, 12, 13, 14] [2, 5] (fun _ => by kernel_rfl) ?_
    intro _
    refine GS.seq ?_
    refine GS.cond (t := decide (((v13_1 : Nat) : Int) < ((a0_Lasts.length : Nat) : Int))) rfl rfl (fun _ => ?_) (fun h36 => absb (drop_dec hd32) h36)
    refine GS.skip ?_
    refine GS.seq ?_
    refine GS.block ?_
    refine GS.seq ?_
    refine GS.rg (fun fr37 => [(1, .int .i64 a1), (2, .int .i64 a2), (6, .pointer (some ⟨(fr1 1).x, 0, none⟩)), (9, .pointer (some ⟨(fr37 2).x, 0, none⟩)), (11, .slice a0_Lasts_o a0_Lasts.length a0_Lasts_c), (12, .int .i64 ((a0_Lasts.length : Nat) : Int)), (13, .int .i64 ((v13_1 : Nat) : Int))]) (fun fr37 => [(2, r47 a0_Lasts_o a0_Lasts), (5, .cells ((fr1 1).x) 47 (kc11)), (6, .cells ((fr37 2).x) 47 (kc10 x34.Client x34.Number x34.Errno x34.Version.Epoch x34.Version.N))]) [(0, { act := .idx 2 v13_1 }), (1, { act := .load 2 v13_1 0 [.int .i64 x34.Client, .int .i64 x34.Number, .int .i64 x34.Errno, .int .i64 x34.Version.Epoch, .int .i64 x34.Version.N] }), (2, { act := .new .var, key := some 6 }), (3, { act := .store 0 0 [], key := some 6 })] [1, 2, 6, 9, 11, 12, 13] [2, 5, 6] (fun fr37 => [a0_Lasts_o = a0_Lasts_o, a0_Lasts.length = (List.map S_api_Last.row a0_Lasts).length, (((v13_1 : Nat) : Int) : Int) = ((v13_1 : Nat) : Int), v13_1 < a0_Lasts.length, blk a0_Lasts_o = blk a0_Lasts_o, offs a0_Lasts_o + v13_1 * 5 = offs a0_Lasts_o + (v13_1 * 5 + 0), (List.map S_api_Last.row a0_Lasts)[v13_1]? = some [.int .i64 x34.Client, .int .i64 x34.Number, .int .i64 x34.Errno, .int .i64 x34.Version.Epoch, .int .i64 x34.Version.N], (fr37 2).x = (fr37 2).x, ((.agg ((kc10 x34.Client x34.Number x34.Errno x34.Version.Epoch x34.Version.N)).toArray) : Value).cells.toList.all Value.oneCell' = true]) (fun fr37 => by kernel_rfl) (fun fr37 => ⟨rfl, mlen S_api_Last.row a0_Lasts, rfl, (drop_lt hd32), rfl, rfl, map_drop S_api_Last.row hd32, rfl, rfl, trivial⟩) ?_
    intro fr37
    refine GS.seq ?_
    refine GS.seq ?_
    refine GS.rgM (fun _ => [(1, .int .i64 a1), (2, .int .i64 a2), (6, .pointer (some ⟨(fr1 1).x, 0, none⟩)), (9, .pointer (some ⟨(fr37 2).x, 0, none⟩)), (11, .slice a0_Lasts_o a0_Lasts.length a0_Lasts_c), (12, .int .i64 ((a0_Lasts.length : Nat) : Int)), (13, .int .i64 ((v13_1 : Nat) : Int)), (20, .bool (x34.Client != a1))]) [(1, { act := .load 6 0 0 [] })] [1, 2, 6, 9, 11, 12, 13, 20] [2, 5, 6] (fun _ => [(fr37 2).x = (fr37 2).x]) (fun _ => by kernel_rfl) (fun _ => ⟨rfl, trivial⟩) ?_
    intro _
    refine GS.cond (t := x34.Client != a1) rfl rfl (fun h39 => ?_) (fun h39 => ?_)
    · replace hm := br_t h39 hm
      refine GS.exit rfl ?_
      refine GS.rg (fun _ => [(1, .int .i64 a1), (2, .int .i64 a2), (6, .pointer (some ⟨(fr1 1).x, 0, none⟩)), (11, .slice a0_Lasts_o a0_Lasts.length a0_Lasts_c), (12, .int .i64 ((a0_Lasts.length : Nat) : Int)), (13, .int .i64 ((v13_1 + 1 : Nat) : Int))]) (fun _ => [(2, r47 a0_Lasts_o a0_Lasts), (5, .cells ((fr1 1).x) 47 (kc11))]) [(0, { sp := some (.int .i64 ((v13_1 + 1 : Nat) : Int)) })] [1, 2, 6, 11, 12, 13] [2, 5] (fun _ => [((.int .i64 (IntKind.i64.wrap (((v13_1 : Nat) : Int) + 1))) : Value) = .int .i64 ((v13_1 + 1 : Nat) : Int)]) (fun _ => by kernel_rfl) (fun _ => ⟨natw (drop_lt hd32) g33, trivial⟩) ?_
      intro _
      refine GS.inLoop ?_
      refine GS.rekey (env' := [(1, .int .i64 a1), (2, .int .i64 a2), (6, .pointer (some ⟨(fr1 1).x, 0, none⟩)), (11, .slice a0_Lasts_o a0_Lasts.length a0_Lasts_c), (12, .int .i64 ((a0_Lasts.length : Nat) : Int)), (13, .int .i64 ((v13_1 + 1 : Nat) : Int))]) (mem' := [(2, r47 a0_Lasts_o a0_Lasts), (5, .cells ((fr1 1).x) 47 (kc11))]) [1, 2, 6, 11, 12, 13] [(2, 2), (5, 5)] (by kernel_rfl) (by kernel_rfl) rfl ?_
      exact ih52 ⟨rs51, v13_1 + 1⟩ ⟨drop_next hd32, hm⟩ (Nat.lt_succ_self _)
    · replace hm := br_f h39 hm
      refine GS.skip ?_
      refine GS.seq ?_
      refine GS.block ?_
      refine GS.seq ?_
      refine GS.rg (fun _ => [(2, .int .i64 a2), (6, .pointer (some ⟨(fr1 1).x, 0, none⟩)), (9, .pointer (some ⟨(fr37 2).x, 0, none⟩)), (21, .bool (a2 == x34.Number))]) (fun _ => [(5, .cells ((fr1 1).x) 47 (kc11)), (6, .cells ((fr37 2).x) 47 (kc10 x34.Client x34.Number x34.Errno x34.Version.Epoch x34.Version.N))]) [(2, { act := .load 6 0 0 [] })] [2, 6, 9, 21] [5, 6] (fun _ => [(fr37 2).x = (fr37 2).x]) (fun _ => by kernel_rfl) (fun _ => ⟨rfl, trivial⟩) ?_
      intro _
      refine GS.cond (t := a2 == x34.Number) rfl rfl (fun h41 => ?_) (fun h41 => ?_)
      · replace hm := br_t h41 hm
        refine GS.seq ?_
        refine GS.rg (fun _ => [(6, .pointer (some ⟨(fr1 1).x, 0, none⟩)), (7, .int .i64 1)]) (fun _ => [(5, .cells ((fr1 1).x) 47 (kc10 x34.Client x34.Number x34.Errno x34.Version.Epoch x34.Version.N))]) [(0, { act := .load 6 0 0 [] }), (1, { act := .store 0 0 [], key := some 5 })] [6, 7] [5] (fun _ => [(fr37 2).x = (fr37 2).x, (fr1 1).x = (fr1 1).x, ((.agg ((kc10 x34.Client x34.Number x34.Errno x34.Version.Epoch x34.Version.N)).toArray) : Value).cells.toList.all Value.oneCell' = true]) (fun _ => by kernel_rfl) (fun _ => ⟨rfl, rfl, rfl, trivial⟩) ?_
        intro _
        have hy := Option.some.inj hm
        subst hy
        refine GS.ret (fn := Try.f17) [5, 0] [.agg ((kc10 x34.Client x34.Number x34.Errno x34.Version.Epoch x34.Version.N)).toArray, .int .i64 1] [(fr1 1).x = (fr1 1).x] rfl Try.func17 (by kernel_rfl) ⟨rfl, trivial⟩ (fun w' hs => ?_)
        exact ⟨(), rfl, hs.turnedG (ks := []) rfl rfl⟩
      · replace hm := br_f h41 hm
        refine GS.seq ?_
        refine GS.rgM (fun _ => [(6, .pointer (some ⟨(fr1 1).x, 0, none⟩)), (9, .pointer (some ⟨(fr37 2).x, 0, none⟩)), (27, .bool (decide (a2 < x34.Number)))]) [(2, { act := .load 6 0 0 [] })] [6, 9, 27] [5, 6] (fun _ => [(fr37 2).x = (fr37 2).x]) (fun _ => by kernel_rfl) (fun _ => ⟨rfl, trivial⟩) ?_
        intro _
        refine GS.cond (t := decide (a2 < x34.Number)) rfl rfl (fun h44 => ?_) (fun h44 => ?_)
        · replace hm := br_t h44 hm
          refine GS.seq ?_
          refine GS.rg (fun _ => [(6, .pointer (some ⟨(fr1 1).x, 0, none⟩)), (7, .int .i64 2)]) (fun _ => [(5, .cells ((fr1 1).x) 47 (kc10 x34.Client x34.Number x34.Errno x34.Version.Epoch x34.Version.N))]) [(0, { act := .load 6 0 0 [] }), (1, { act := .store 0 0 [], key := some 5 })] [6, 7] [5] (fun _ => [(fr37 2).x = (fr37 2).x, (fr1 1).x = (fr1 1).x, ((.agg ((kc10 x34.Client x34.Number x34.Errno x34.Version.Epoch x34.Version.N)).toArray) : Value).cells.toList.all Value.oneCell' = true]) (fun _ => by kernel_rfl) (fun _ => ⟨rfl, rfl, rfl, trivial⟩) ?_
          intro _
          have hy := Option.some.inj hm
          subst hy
          refine GS.ret (fn := Try.f17) [5, 0] [.agg ((kc10 x34.Client x34.Number x34.Errno x34.Version.Epoch x34.Version.N)).toArray, .int .i64 2] [(fr1 1).x = (fr1 1).x] rfl Try.func17 (by kernel_rfl) ⟨rfl, trivial⟩ (fun w' hs => ?_)
          exact ⟨(), rfl, hs.turnedG (ks := []) rfl rfl⟩
        · replace hm := br_f h44 hm
          refine GS.skip ?_
          refine GS.inBlock ?_
          refine GS.seq ?_
          refine GS.rg (fun _ => [(6, .pointer (some ⟨(fr1 1).x, 0, none⟩)), (7, .int .i64 0)]) (fun _ => [(5, .cells ((fr1 1).x) 47 (kc11))]) [(1, { act := .store 0 0 [], key := some 5 })] [6, 7] [5] (fun _ => [(fr1 1).x = (fr1 1).x, ((.agg ((kc11)).toArray) : Value).cells.toList.all Value.oneCell' = true]) (fun _ => by kernel_rfl) (fun _ => ⟨rfl, rfl, trivial⟩) ?_
          intro _
          have hy := Option.some.inj hm
          subst hy
          refine GS.ret (fn := Try.f17) [5, 0] [.agg ((kc11)).toArray, .int .i64 0] [(fr1 1).x = (fr1 1).x] rfl Try.func17 (by kernel_rfl) ⟨rfl, trivial⟩ (fun w' hs => ?_)
          exact ⟨(), rfl, hs.turnedG (ks := []) rfl rfl⟩

theorem w_pglog_Find_2 (F : Nat) (a0_Les : Int) (a0_Tail : S_api_Version) (a0_Log_o : Option Addr) (a0_Log_c : Nat) (a0_Log : List S_api_Entry) (a0_Lasts_o : Option Addr) (a0_Lasts_c : Nat) (a0_Lasts : List S_api_Last) (a0_Items_o : Option Addr) (a0_Items_c : Nat) (a0_Items : List S_api_Item) (a1 : ByteArray) {y : S_api_Item × Bool} (hm : m_pglog_Find_2 F a0_Les a0_Tail a0_Log a0_Lasts a0_Items a1 = some y) : CallG Try.prog 15 #[.agg ((kc9 a0_Les a0_Tail.Epoch a0_Tail.N a0_Log_o a0_Log.length a0_Log_c a0_Lasts_o a0_Lasts.length a0_Lasts_c a0_Items_o a0_Items.length a0_Items_c)).toArray, .string a1] (X := Unit) (fun (_ : Unit) => .tuple #[.agg ((kc6 y.1.Name y.1.Version.Epoch y.1.Version.N y.1.Crc)).toArray, .bool y.2]) [] [r52 a0_Log_o a0_Log, r47 a0_Lasts_o a0_Lasts, r42 a0_Items_o a0_Items] (fun (_ : Unit) => []) := by
  intro w hg
  rw [m_pglog_Find_2] at hm
  refine GS.start (S := mayT [] [r52 a0_Log_o a0_Log, r47 a0_Lasts_o a0_Lasts, r42 a0_Items_o a0_Items]) (mem := [(1, r52 a0_Log_o a0_Log), (2, r47 a0_Lasts_o a0_Lasts), (3, r42 a0_Items_o a0_Items)]) Try.func15 rfl Try.ntmps15 (Nat.le_of_ble_eq_true rfl) (hg.start rfl) ?_
  refine GS.conv (env' := [(0, .agg ((kc9 a0_Les a0_Tail.Epoch a0_Tail.N a0_Log_o a0_Log.length a0_Log_c a0_Lasts_o a0_Lasts.length a0_Lasts_c a0_Items_o a0_Items.length a0_Items_c)).toArray), (1, .string a1)]) rfl rfl ?_
  refine GS.seq ?_
  refine GS.rz (fun fr1 => [(1, .string a1), (2, .pointer (some ⟨(fr1 0).x, 0, none⟩)), (4, .pointer (some ⟨(fr1 1).x, 0, none⟩))]) (fun fr1 => [(1, r52 a0_Log_o a0_Log), (2, r47 a0_Lasts_o a0_Lasts), (3, r42 a0_Items_o a0_Items), (4, .cells ((fr1 0).x) 28 (kc9 a0_Les a0_Tail.Epoch a0_Tail.N a0_Log_o a0_Log.length a0_Log_c a0_Lasts_o a0_Lasts.length a0_Lasts_c a0_Items_o a0_Items.length a0_Items_c)), (5, .cells ((fr1 1).x) 42 (kc5))]) [(0, { act := .new .var, key := some 4 }), (1, { act := .new .var, key := some 5 })] [1, 2, 4] [1, 2, 3, 4, 5] (fun fr1 => by kernel_rfl) ?_
  intro fr1
  refine GS.seq ?_
  refine GS.seq ?_
  refine GS.rg (fun _ => [(1, .string a1), (4, .pointer (some ⟨(fr1 1).x, 0, none⟩)), (9, .slice a0_Items_o a0_Items.length a0_Items_c), (10, .int .i64 ((a0_Items.length : Nat) : Int)), (11, .int .i64 0)]) (fun _ => [(3, r42 a0_Items_o a0_Items), (5, .cells ((fr1 1).x) 42 (kc5))]) [(1, { act := .load 4 0 0 [] })] [1, 4, 9, 10, 11] [3, 5] (fun _ => [(fr1 0).x = (fr1 0).x]) (fun _ => by kernel_rfl) (fun _ => ⟨rfl, trivial⟩) ?_
  intro _
  refine GS.block ?_
  refine GS.loop ?_
  refine grd_elim hm (fun g21 hm => ?_)
  refine GS.rekey (env' := [(1, .string a1), (4, .pointer (some ⟨(fr1 1).x, 0, none⟩)), (9, .slice a0_Items_o a0_Items.length a0_Items_c), (10, .int .i64 ((a0_Items.length : Nat) : Int)), (11, .int .i64 0)]) (mem' := [(3, r42 a0_Items_o a0_Items), (5, .cells ((fr1 1).x) 42 (kc5))]) [1, 4, 9, 10, 11] [(3, 3), (5, 5)] (by kernel_rfl) (by kernel_rfl) rfl ?_
  refine loopL_elim hm (fun st35 fn36 hst37 hfn38 hm => ?_)
  refine GS.loopInv (ι := List S_api_Item × Nat) (I := fun ⟨rs33, v11_1⟩ => a0_Items.drop v11_1 = rs33 ∧ loopL st35 fn36 rs33 v11_1 () = some y) (μ := fun ⟨rs33, v11_1⟩ => rs33.length) (E := fun ⟨rs33, v11_1⟩ => [(1, .string a1), (4, .pointer (some ⟨(fr1 1).x, 0, none⟩)), (9, .slice a0_Items_o a0_Items.length a0_Items_c), (10, .int .i64 ((a0_Items.length : Nat) : Int)), (11, .int .i64 ((v11_1 : Nat) : Int))]) (M := fun ⟨rs33, v11_1⟩ => [(3, r42 a0_Items_o a0_Items), (5, .cells ((fr1 1).x) 42 (kc5))]) ?_ ⟨a0_Items, 0⟩ ⟨List.drop_zero .., hm⟩
  rintro ⟨rs33, v11_1⟩ ⟨hd20, hm⟩ ih34
  cases rs33 with
  | nil =>
    replace hm := (hfn38 _ _).symm.trans hm
    try dsimp only at hm
    refine GS.seq ?_
    refine GS.rzM (fun _ => [(1, .string a1), (4, .pointer (some ⟨(fr1 1).x, 0, none⟩)), (9, .slice a0_Items_o a0_Items.length a0_Items_c), (10, .int .i64 ((a0_Items.length : Nat) : Int)), (11, .int .i64 ((v11_1 : Nat) : Int)), (12, .bool (decide (((v11_1 : Nat) : Int) < ((a0_Items.length : Nat) : Int))))]) [] [1, 4, 9, 10, 11, 12] [3, 5] (fun _ => by kernel_rfl) ?_
    intro _
    refine GS.seq ?_
    refine GS.cond (t := decide (((v11_1 : Nat) : Int) < ((a0_Items.length : Nat) : Int))) rfl rfl (fun h31 => absb h31 (drop_dec0 hd20)) (fun _ => ?_)
    refine GS.exit rfl ?_
    refine GS.seq ?_
    refine GS.rg (fun _ => [(4, .pointer (some ⟨(fr1 1).x, 0, none⟩)), (5, .bool false)]) (fun _ => [(5, .cells ((fr1 1).x) 42 (kc5))]) [(1, { act := .store 0 0 [], key := some 5 })] [4, 5] [5] (fun _ => [(fr1 1).x = (fr1 1).x, ((.agg ((kc5)).toArray) : Value).cells.toList.all Value.oneCell' = true]) (fun _ => by kernel_rfl) (fun _ => ⟨rfl, rfl, trivial⟩) ?_
    intro _
    have hy := Option.some.inj hm
    subst hy
    refine GS.ret (fn := Try.f15) [5, 0] [.agg ((kc5)).toArray, .bool false] [(fr1 1).x = (fr1 1).x] rfl Try.func15 (by kernel_rfl) ⟨rfl, trivial⟩ (fun w' hs => ?_)
    exact ⟨(), rfl, hs.turnedG (ks := []) rfl rfl⟩
  | cons x22 rs33 =>
    replace hm := (hst37 _ _ _ _).symm.trans hm
    try dsimp only at hm
    refine GS.seq ?_
    refine GS.rzM (fun _ => [(1, .string a1), (4, .pointer (some ⟨(fr1 1).x, 0, none⟩)), (9, .slice a0_Items_o a0_Items.length a0_Items_c), (10, .int .i64 ((a0_Items.length : Nat) : Int)), (11, .int .i64 ((v11_1 : Nat) : Int)), (12, .bool (decide (((v11_1 : Nat) : Int) < ((a0_Items.length : Nat) : Int))))]) [] [1, 4, 9, 10, 11, 12] [3, 5] (fun _ => by kernel_rfl) ?_
    intro _
    refine GS.seq ?_
    refine GS.cond (t := decide (((v11_1 : Nat) : Int) < ((a0_Items.length : Nat) : Int))) rfl rfl (fun _ => ?_) (fun h24 => absb (drop_dec hd20) h24)
    refine GS.skip ?_
    refine GS.seq ?_
    refine GS.block ?_
    refine GS.seq ?_
    refine GS.rg (fun fr25 => [(1, .string a1), (4, .pointer (some ⟨(fr1 1).x, 0, none⟩)), (7, .pointer (some ⟨(fr25 2).x, 0, none⟩)), (9, .slice a0_Items_o a0_Items.length a0_Items_c), (10, .int .i64 ((a0_Items.length : Nat) : Int)), (11, .int .i64 ((v11_1 : Nat) : Int))]) (fun fr25 => [(3, r42 a0_Items_o a0_Items), (5, .cells ((fr1 1).x) 42 (kc5)), (6, .cells ((fr25 2).x) 42 (kc6 x22.Name x22.Version.Epoch x22.Version.N x22.Crc))]) [(0, { act := .idx 3 v11_1 }), (1, { act := .load 3 v11_1 0 [.string x22.Name, .int .i64 x22.Version.Epoch, .int .i64 x22.Version.N, .int .u32 x22.Crc] }), (2, { act := .new .var, key := some 6 }), (3, { act := .store 0 0 [], key := some 6 })] [1, 4, 7, 9, 10, 11] [3, 5, 6] (fun fr25 => [a0_Items_o = a0_Items_o, a0_Items.length = (List.map S_api_Item.row a0_Items).length, (((v11_1 : Nat) : Int) : Int) = ((v11_1 : Nat) : Int), v11_1 < a0_Items.length, blk a0_Items_o = blk a0_Items_o, offs a0_Items_o + v11_1 * 4 = offs a0_Items_o + (v11_1 * 4 + 0), (List.map S_api_Item.row a0_Items)[v11_1]? = some [.string x22.Name, .int .i64 x22.Version.Epoch, .int .i64 x22.Version.N, .int .u32 x22.Crc], (fr25 2).x = (fr25 2).x, ((.agg ((kc6 x22.Name x22.Version.Epoch x22.Version.N x22.Crc)).toArray) : Value).cells.toList.all Value.oneCell' = true]) (fun fr25 => by kernel_rfl) (fun fr25 => ⟨rfl, mlen S_api_Item.row a0_Items, rfl, (drop_lt hd20), rfl, rfl, map_drop S_api_Item.row hd20, rfl, rfl, trivial⟩) ?_
    intro fr25
    refine GS.seq ?_
    refine GS.rgM (fun _ => [(1, .string a1), (4, .pointer (some ⟨(fr1 1).x, 0, none⟩)), (7, .pointer (some ⟨(fr25 2).x, 0, none⟩)), (9, .slice a0_Items_o a0_Items.length a0_Items_c), (10, .int .i64 ((a0_Items.length : Nat) : Int)), (11, .int .i64 ((v11_1 : Nat) : Int)), (18, .bool (x22.Name.toList == a1.toList))]) [(1, { act := .load 6 0 0 [] })] [1, 4, 7, 9, 10, 11, 18] [3, 5, 6] (fun _ => [(fr25 2).x = (fr25 2).x]) (fun _ => by kernel_rfl) (fun _ => ⟨rfl, trivial⟩) ?_
    intro _
    refine GS.cond (t := x22.Name.toList == a1.toList) rfl rfl (fun h27 => ?_) (fun h27 => ?_)
    · replace hm := br_t h27 hm
      refine GS.seq ?_
      refine GS.rg (fun _ => [(4, .pointer (some ⟨(fr1 1).x, 0, none⟩)), (5, .bool true)]) (fun _ => [(5, .cells ((fr1 1).x) 42 (kc6 x22.Name x22.Version.Epoch x22.Version.N x22.Crc))]) [(0, { act := .load 6 0 0 [] }), (1, { act := .store 0 0 [], key := some 5 })] [4, 5] [5] (fun _ => [(fr25 2).x = (fr25 2).x, (fr1 1).x = (fr1 1).x, ((.agg ((kc6 x22.Name x22.Version.Epoch x22.Version.N x22.Crc)).toArray) : Value).cells.toList.all Value.oneCell' = true]) (fun _ => by kernel_rfl) (fun _ => ⟨rfl, rfl, rfl, trivial⟩) ?_
      intro _
      have hy := Option.some.inj hm
      subst hy
      refine GS.ret (fn := Try.f15) [5, 0] [.agg ((kc6 x22.Name x22.Version.Epoch x22.Version.N x22.Crc)).toArray, .bool true] [(fr1 1).x = (fr1 1).x] rfl Try.func15 (by kernel_rfl) ⟨rfl, trivial⟩ (fun w' hs => ?_)
      exact ⟨(), rfl, hs.turnedG (ks := []) rfl rfl⟩
    · replace hm := br_f h27 hm
      refine GS.skip ?_
      refine GS.inBlock ?_
      refine GS.rg (fun _ => [(1, .string a1), (4, .pointer (some ⟨(fr1 1).x, 0, none⟩)), (9, .slice a0_Items_o a0_Items.length a0_Items_c), (10, .int .i64 ((a0_Items.length : Nat) : Int)), (11, .int .i64 ((v11_1 + 1 : Nat) : Int))]) (fun _ => [(3, r42 a0_Items_o a0_Items), (5, .cells ((fr1 1).x) 42 (kc5))]) [(0, { sp := some (.int .i64 ((v11_1 + 1 : Nat) : Int)) })] [1, 4, 9, 10, 11] [3, 5] (fun _ => [((.int .i64 (IntKind.i64.wrap (((v11_1 : Nat) : Int) + 1))) : Value) = .int .i64 ((v11_1 + 1 : Nat) : Int)]) (fun _ => by kernel_rfl) (fun _ => ⟨natw (drop_lt hd20) g21, trivial⟩) ?_
      intro _
      refine GS.inLoop ?_
      refine GS.rekey (env' := [(1, .string a1), (4, .pointer (some ⟨(fr1 1).x, 0, none⟩)), (9, .slice a0_Items_o a0_Items.length a0_Items_c), (10, .int .i64 ((a0_Items.length : Nat) : Int)), (11, .int .i64 ((v11_1 + 1 : Nat) : Int))]) (mem' := [(3, r42 a0_Items_o a0_Items), (5, .cells ((fr1 1).x) 42 (kc5))]) [1, 4, 9, 10, 11] [(3, 3), (5, 5)] (by kernel_rfl) (by kernel_rfl) rfl ?_
      exact ih34 ⟨rs33, v11_1 + 1⟩ ⟨drop_next hd20, hm⟩ (Nat.lt_succ_self _)

theorem w_pglog_Copy_2 (F : Nat) (a0_Les : Int) (a0_Tail : S_api_Version) (a0_Log_o : Option Addr) (a0_Log_c : Nat) (a0_Log : List S_api_Entry) (a0_Lasts_o : Option Addr) (a0_Lasts_c : Nat) (a0_Lasts : List S_api_Last) (a0_Items_o : Option Addr) (a0_Items_c : Nat) (a0_Items : List S_api_Item) {y : Int × S_api_Version × List S_api_Entry × List S_api_Last × List S_api_Item} (hm : m_pglog_Copy_2 F a0_Les a0_Tail a0_Log a0_Lasts a0_Items = some y) : CallG Try.prog 20 #[.agg ((kc9 a0_Les a0_Tail.Epoch a0_Tail.N a0_Log_o a0_Log.length a0_Log_c a0_Lasts_o a0_Lasts.length a0_Lasts_c a0_Items_o a0_Items.length a0_Items_c)).toArray] (X := Option Addr × Nat × Option Addr × Nat × Option Addr × Nat) (fun ⟨x0, x1, x2, x3, x4, x5⟩ => .agg ((kc9 y.1 y.2.1.Epoch y.2.1.N x0 y.2.2.1.length x1 x2 y.2.2.2.1.length x3 x4 y.2.2.2.2.length x5)).toArray) [] [r52 a0_Log_o a0_Log, r47 a0_Lasts_o a0_Lasts, r42 a0_Items_o a0_Items] (fun ⟨x0, x1, x2, x3, x4, x5⟩ => [o52 x0 x1 y.2.2.1, o47 x2 x3 y.2.2.2.1, o42 x4 x5 y.2.2.2.2]) := by
  intro w hg
  rw [m_pglog_Copy_2] at hm
  refine GS.start (S := mayT [] [r52 a0_Log_o a0_Log, r47 a0_Lasts_o a0_Lasts, r42 a0_Items_o a0_Items]) (mem := [(1, r52 a0_Log_o a0_Log), (2, r47 a0_Lasts_o a0_Lasts), (3, r42 a0_Items_o a0_Items)]) Try.func20 rfl Try.ntmps20 (Nat.le_of_ble_eq_true rfl) (hg.start rfl) ?_
  refine GS.conv (env' := [(0, .agg ((kc9 a0_Les a0_Tail.Epoch a0_Tail.N a0_Log_o a0_Log.length a0_Log_c a0_Lasts_o a0_Lasts.length a0_Lasts_c a0_Items_o a0_Items.length a0_Items_c)).toArray)]) rfl rfl ?_
  refine GS.seq ?_
  refine GS.rz (fun fr1 => [(1, .pointer (some ⟨(fr1 0).x, 0, none⟩)), (2, .pointer (some ⟨(fr1 1).x, 0, none⟩))]) (fun fr1 => [(1, r52 a0_Log_o a0_Log), (2, r47 a0_Lasts_o a0_Lasts), (3, r42 a0_Items_o a0_Items), (4, .cells ((fr1 0).x) 28 (kc9 a0_Les a0_Tail.Epoch a0_Tail.N a0_Log_o a0_Log.length a0_Log_c a0_Lasts_o a0_Lasts.length a0_Lasts_c a0_Items_o a0_Items.length a0_Items_c)), (5, .cells ((fr1 1).x) 28 (kc0))]) [(0, { act := .new .var, key := some 4 }), (1, { act := .new .var, key := some 5 })] [1, 2] [1, 2, 3, 4, 5] (fun fr1 => by kernel_rfl) ?_
  intro fr1
  refine GS.seq ?_
  refine grd_elim hm (fun g3 hm => ?_)
  refine GS.rg (fun fr2 => [(1, .pointer (some ⟨(fr1 0).x, 0, none⟩)), (2, .pointer (some ⟨(fr1 1).x, 0, none⟩))]) (fun fr2 => [(2, r47 a0_Lasts_o a0_Lasts), (3, r42 a0_Items_o a0_Items), (4, .cells ((fr1 0).x) 28 (kc9 a0_Les a0_Tail.Epoch a0_Tail.N ((fr2 2).ob) a0_Log.length ((fr2 2).cap) a0_Lasts_o a0_Lasts.length a0_Lasts_c a0_Items_o a0_Items.length a0_Items_c)), (5, .cells ((fr1 1).x) 28 (kc0)), (6, .osl ((fr2 2).ob) ((fr2 2).cap) 52 7 (List.map S_api_Entry.row a0_Log))]) [(1, { act := .load 4 0 0 [] }), (2, { act := .app (some 1), key := some 6, spf := some (fun f => .slice (f.ob) a0_Log.length (f.cap)) }), (4, { act := .store 0 0 [], key := some 4 })] [1, 2] [2, 3, 4, 5, 6] (fun fr2 => [(fr1 0).x = (fr1 0).x, a0_Log_o = a0_Log_o, a0_Log.length = (List.map S_api_Entry.row a0_Log).length, 0 = 0, 0 = 0, (List.map S_api_Entry.row a0_Log).length * (64 + 1) ≤ 70368744177664, ((.slice ((fr2 2).ob) (0 + (List.map S_api_Entry.row a0_Log).length) ((fr2 2).cap)) : Value) = .slice ((fr2 2).ob) a0_Log.length ((fr2 2).cap), (fr1 0).x = (fr1 0).x, ((.slice ((fr2 2).ob) a0_Log.length ((fr2 2).cap)) : Value).cells.toList.all Value.oneCell' = true]) (fun fr2 => by kernel_rfl) (fun fr2 => ⟨rfl, rfl, mlen S_api_Entry.row a0_Log, rfl, rfl, appb0 g3 (mlen S_api_Entry.row a0_Log).symm, slen (by rw [(mlen S_api_Entry.row a0_Log).symm, Nat.zero_add]), rfl, rfl, trivial⟩) ?_
  intro fr2
  refine GS.conv (mem' := [(2, r47 a0_Lasts_o a0_Lasts), (3, r42 a0_Items_o a0_Items), (4, .cells ((fr1 0).x) 28 (kc9 a0_Les a0_Tail.Epoch a0_Tail.N ((fr2 2).ob) a0_Log.length ((fr2 2).cap) a0_Lasts_o a0_Lasts.length a0_Lasts_c a0_Items_o a0_Items.length a0_Items_c)), (5, .cells ((fr1 1).x) 28 (kc0)), (6, o52 ((fr2 2).ob) ((fr2 2).cap) a0_Log)]) rfl (congrArg (fun rr : List (List Value) => ([(2, r47 a0_Lasts_o a0_Lasts), (3, r42 a0_Items_o a0_Items), (4, .cells ((fr1 0).x) 28 (kc9 a0_Les a0_Tail.Epoch a0_Tail.N ((fr2 2).ob) a0_Log.length ((fr2 2).cap) a0_Lasts_o a0_Lasts.length a0_Lasts_c a0_Items_o a0_Items.length a0_Items_c)), (5, .cells ((fr1 1).x) 28 (kc0)), (6, .osl ((fr2 2).ob) ((fr2 2).cap) 52 7 rr)] : List (Nat × Ent))) (show List.map S_api_Entry.row a0_Log = List.map S_api_Entry.row a0_Log from rfl)) ?_
  refine GS.seq ?_
  refine grd_elim hm (fun g5 hm => ?_)
  refine GS.rg (fun fr4 => [(1, .pointer (some ⟨(fr1 0).x, 0, none⟩)), (2, .pointer (some ⟨(fr1 1).x, 0, none⟩))]) (fun fr4 => [(3, r42 a0_Items_o a0_Items), (4, .cells ((fr1 0).x) 28 (kc9 a0_Les a0_Tail.Epoch a0_Tail.N ((fr2 2).ob) a0_Log.length ((fr2 2).cap) ((fr4 2).ob) a0_Lasts.length ((fr4 2).cap) a0_Items_o a0_Items.length a0_Items_c)), (5, .cells ((fr1 1).x) 28 (kc0)), (6, o52 ((fr2 2).ob) ((fr2 2).cap) a0_Log), (7, .osl ((fr4 2).ob) ((fr4 2).cap) 47 5 (List.map S_api_Last.row a0_Lasts))]) [(1, { act := .load 4 0 0 [] }), (2, { act := .app (some 2), key := some 7, spf := some (fun f => .slice (f.ob) a0_Lasts.length (f.cap)) }), (4, { act := .store 0 0 [], key := some 4 })] [1, 2] [3, 4, 5, 6, 7] (fun fr4 => [(fr1 0).x = (fr1 0).x, a0_Lasts_o = a0_Lasts_o, a0_Lasts.length = (List.map S_api_Last.row a0_Lasts).length, 0 = 0, 0 = 0, (List.map S_api_Last.row a0_Lasts).length * (40 + 1) ≤ 70368744177664, ((.slice ((fr4 2).ob) (0 + (List.map S_api_Last.row a0_Lasts).length) ((fr4 2).cap)) : Value) = .slice ((fr4 2).ob) a0_Lasts.length ((fr4 2).cap), (fr1 0).x = (fr1 0).x, ((.slice ((fr4 2).ob) a0_Lasts.length ((fr4 2).cap)) : Value).cells.toList.all Value.oneCell' = true]) (fun fr4 => by kernel_rfl) (fun fr4 => ⟨rfl, rfl, mlen S_api_Last.row a0_Lasts, rfl, rfl, appb0 g5 (mlen S_api_Last.row a0_Lasts).symm, slen (by rw [(mlen S_api_Last.row a0_Lasts).symm, Nat.zero_add]), rfl, rfl, trivial⟩) ?_
  intro fr4
  refine GS.conv (mem' := [(3, r42 a0_Items_o a0_Items), (4, .cells ((fr1 0).x) 28 (kc9 a0_Les a0_Tail.Epoch a0_Tail.N ((fr2 2).ob) a0_Log.length ((fr2 2).cap) ((fr4 2).ob) a0_Lasts.length ((fr4 2).cap) a0_Items_o a0_Items.length a0_Items_c)), (5, .cells ((fr1 1).x) 28 (kc0)), (6, o52 ((fr2 2).ob) ((fr2 2).cap) a0_Log), (7, o47 ((fr4 2).ob) ((fr4 2).cap) a0_Lasts)]) rfl (congrArg (fun rr : List (List Value) => ([(3, r42 a0_Items_o a0_Items), (4, .cells ((fr1 0).x) 28 (kc9 a0_Les a0_Tail.Epoch a0_Tail.N ((fr2 2).ob) a0_Log.length ((fr2 2).cap) ((fr4 2).ob) a0_Lasts.length ((fr4 2).cap) a0_Items_o a0_Items.length a0_Items_c)), (5, .cells ((fr1 1).x) 28 (kc0)), (6, o52 ((fr2 2).ob) ((fr2 2).cap) a0_Log), (7, .osl ((fr4 2).ob) ((fr4 2).cap) 47 5 rr)] : List (Nat × Ent))) (show List.map S_api_Last.row a0_Lasts = List.map S_api_Last.row a0_Lasts from rfl)) ?_
  refine GS.seq ?_
  refine grd_elim hm (fun g7 hm => ?_)
  refine GS.rg (fun fr6 => [(1, .pointer (some ⟨(fr1 0).x, 0, none⟩)), (2, .pointer (some ⟨(fr1 1).x, 0, none⟩))]) (fun fr6 => [(4, .cells ((fr1 0).x) 28 (kc9 a0_Les a0_Tail.Epoch a0_Tail.N ((fr2 2).ob) a0_Log.length ((fr2 2).cap) ((fr4 2).ob) a0_Lasts.length ((fr4 2).cap) ((fr6 2).ob) a0_Items.length ((fr6 2).cap))), (5, .cells ((fr1 1).x) 28 (kc0)), (6, o52 ((fr2 2).ob) ((fr2 2).cap) a0_Log), (7, o47 ((fr4 2).ob) ((fr4 2).cap) a0_Lasts), (8, .osl ((fr6 2).ob) ((fr6 2).cap) 42 4 (List.map S_api_Item.row a0_Items))]) [(1, { act := .load 4 0 0 [] }), (2, { act := .app (some 3), key := some 8, spf := some (fun f => .slice (f.ob) a0_Items.length (f.cap)) }), (4, { act := .store 0 0 [], key := some 4 })] [1, 2] [4, 5, 6, 7, 8] (fun fr6 => [(fr1 0).x = (fr1 0).x, a0_Items_o = a0_Items_o, a0_Items.length = (List.map S_api_Item.row a0_Items).length, 0 = 0, 0 = 0, (List.map S_api_Item.row a0_Items).length * (40 + 1) ≤ 70368744177664, ((.slice ((fr6 2).ob) (0 + (List.map S_api_Item.row a0_Items).length) ((fr6 2).cap)) : Value) = .slice ((fr6 2).ob) a0_Items.length ((fr6 2).cap), (fr1 0).x = (fr1 0).x, ((.slice ((fr6 2).ob) a0_Items.length ((fr6 2).cap)) : Value).cells.toList.all Value.oneCell' = true]) (fun fr6 => by kernel_rfl) (fun fr6 => ⟨rfl, rfl, mlen S_api_Item.row a0_Items, rfl, rfl, appb0 g7 (mlen S_api_Item.row a0_Items).symm, slen (by rw [(mlen S_api_Item.row a0_Items).symm, Nat.zero_add]), rfl, rfl, trivial⟩) ?_
  intro fr6
  refine GS.conv (mem' := [(4, .cells ((fr1 0).x) 28 (kc9 a0_Les a0_Tail.Epoch a0_Tail.N ((fr2 2).ob) a0_Log.length ((fr2 2).cap) ((fr4 2).ob) a0_Lasts.length ((fr4 2).cap) ((fr6 2).ob) a0_Items.length ((fr6 2).cap))), (5, .cells ((fr1 1).x) 28 (kc0)), (6, o52 ((fr2 2).ob) ((fr2 2).cap) a0_Log), (7, o47 ((fr4 2).ob) ((fr4 2).cap) a0_Lasts), (8, o42 ((fr6 2).ob) ((fr6 2).cap) a0_Items)]) rfl (congrArg (fun rr : List (List Value) => ([(4, .cells ((fr1 0).x) 28 (kc9 a0_Les a0_Tail.Epoch a0_Tail.N ((fr2 2).ob) a0_Log.length ((fr2 2).cap) ((fr4 2).ob) a0_Lasts.length ((fr4 2).cap) ((fr6 2).ob) a0_Items.length ((fr6 2).cap))), (5, .cells ((fr1 1).x) 28 (kc0)), (6, o52 ((fr2 2).ob) ((fr2 2).cap) a0_Log), (7, o47 ((fr4 2).ob) ((fr4 2).cap) a0_Lasts), (8, .osl ((fr6 2).ob) ((fr6 2).cap) 42 4 rr)] : List (Nat × Ent))) (show List.map S_api_Item.row a0_Items = List.map S_api_Item.row a0_Items from rfl)) ?_
  refine GS.seq ?_
  refine GS.rg (fun _ => [(2, .pointer (some ⟨(fr1 1).x, 0, none⟩))]) (fun _ => [(5, .cells ((fr1 1).x) 28 (kc9 a0_Les a0_Tail.Epoch a0_Tail.N ((fr2 2).ob) a0_Log.length ((fr2 2).cap) ((fr4 2).ob) a0_Lasts.length ((fr4 2).cap) ((fr6 2).ob) a0_Items.length ((fr6 2).cap))), (6, o52 ((fr2 2).ob) ((fr2 2).cap) a0_Log), (7, o47 ((fr4 2).ob) ((fr4 2).cap) a0_Lasts), (8, o42 ((fr6 2).ob) ((fr6 2).cap) a0_Items)]) [(0, { act := .load 4 0 0 [] }), (1, { act := .store 0 0 [], key := some 5 })] [2] [5, 6, 7, 8] (fun _ => [(fr1 0).x = (fr1 0).x, (fr1 1).x = (fr1 1).x, ((.agg ((kc9 a0_Les a0_Tail.Epoch a0_Tail.N ((fr2 2).ob) a0_Log.length ((fr2 2).cap) ((fr4 2).ob) a0_Lasts.length ((fr4 2).cap) ((fr6 2).ob) a0_Items.length ((fr6 2).cap))).toArray) : Value).cells.toList.all Value.oneCell' = true]) (fun _ => by kernel_rfl) (fun _ => ⟨rfl, rfl, rfl, trivial⟩) ?_
  intro _
  have hy := Option.some.inj hm
  subst hy
  refine GS.ret (fn := Try.f20) [5] [.agg ((kc9 a0_Les a0_Tail.Epoch a0_Tail.N ((fr2 2).ob) a0_Log.length ((fr2 2).cap) ((fr4 2).ob) a0_Lasts.length ((fr4 2).cap) ((fr6 2).ob) a0_Items.length ((fr6 2).cap))).toArray] [(fr1 1).x = (fr1 1).x] rfl Try.func20 (by kernel_rfl) ⟨rfl, trivial⟩ (fun w' hs => ?_)
  exact ⟨⟨(fr2 2).ob, (fr2 2).cap, (fr4 2).ob, (fr4 2).cap, (fr6 2).ob, (fr6 2).cap⟩, rfl, hs.turnedG (ks := [6, 7, 8]) rfl rfl⟩

end Go.Proofs.Ytmoaiokgbjkaaaa
