/-
  CHAPTER 13: the functions do what their models say (2).
-/
import Derived.Test.YtmoaiokgbjkaaaaW13a
set_option linter.unusedVariables false
set_option linter.unusedSimpArgs false
set_option maxRecDepth 100000
namespace Go.Proofs.Ytmoaiokgbjkaaaa
open Go Go.RowKit Sx

theorem w_tholeref13_Same (F : Nat) (a0_Les : Int) (a0_Tail : S_api_Version) (a0_Log_o : Option Addr) (a0_Log_c : Nat) (a0_Log : List S_api_Entry) (a0_Lasts_o : Option Addr) (a0_Lasts_c : Nat) (a0_Lasts : List S_api_Last) (a0_Items_o : Option Addr) (a0_Items_c : Nat) (a0_Items : List S_api_Item) (a1_Les : Int) (a1_Tail : S_api_Version) (a1_Log_o : Option Addr) (a1_Log_c : Nat) (a1_Log : List S_api_Entry) (a1_Lasts_o : Option Addr) (a1_Lasts_c : Nat) (a1_Lasts : List S_api_Last) (a1_Items_o : Option Addr) (a1_Items_c : Nat) (a1_Items : List S_api_Item) {y : Bool} (hm : m_tholeref13_Same F a0_Les a0_Tail a0_Log a0_Lasts a0_Items a1_Les a1_Tail a1_Log a1_Lasts a1_Items = some y) : CallG Try.prog 10 #[.agg #[.int .i64 a0_Les, .int .i64 a0_Tail.Epoch, .int .i64 a0_Tail.N, .slice a0_Log_o a0_Log.length a0_Log_c, .slice a0_Lasts_o a0_Lasts.length a0_Lasts_c, .slice a0_Items_o a0_Items.length a0_Items_c], .agg #[.int .i64 a1_Les, .int .i64 a1_Tail.Epoch, .int .i64 a1_Tail.N, .slice a1_Log_o a1_Log.length a1_Log_c, .slice a1_Lasts_o a1_Lasts.length a1_Lasts_c, .slice a1_Items_o a1_Items.length a1_Items_c]] (X := Unit) (fun (_ : Unit) => .bool y) [] [r52 a0_Log_o a0_Log, r47 a0_Lasts_o a0_Lasts, r42 a0_Items_o a0_Items, r52 a1_Log_o a1_Log, r47 a1_Lasts_o a1_Lasts, r42 a1_Items_o a1_Items] (fun (_ : Unit) => []) := by
  intro w hg
  rw [m_tholeref13_Same] at hm
  refine GS.start (S := mayT []) (mem := [(1, r52 a0_Log_o a0_Log), (2, r47 a0_Lasts_o a0_Lasts), (3, r42 a0_Items_o a0_Items), (4, r52 a1_Log_o a1_Log), (5, r47 a1_Lasts_o a1_Lasts), (6, r42 a1_Items_o a1_Items)]) Try.func10 rfl Try.ntmps10 (Nat.le_of_ble_eq_true rfl) (hg.start rfl) ?_
  refine GS.conv (env' := [(0, .agg #[.int .i64 a0_Les, .int .i64 a0_Tail.Epoch, .int .i64 a0_Tail.N, .slice a0_Log_o a0_Log.length a0_Log_c, .slice a0_Lasts_o a0_Lasts.length a0_Lasts_c, .slice a0_Items_o a0_Items.length a0_Items_c]), (1, .agg #[.int .i64 a1_Les, .int .i64 a1_Tail.Epoch, .int .i64 a1_Tail.N, .slice a1_Log_o a1_Log.length a1_Log_c, .slice a1_Lasts_o a1_Lasts.length a1_Lasts_c, .slice a1_Items_o a1_Items.length a1_Items_c])]) rfl rfl ?_
  refine GS.seq ?_
  refine GS.region (env' := fun fr1 => [(2, .pointer (some ⟨(fr1 0).x, 0, none⟩)), (3, .pointer (some ⟨(fr1 1).x, 0, none⟩))]) (mem' := fun fr1 => [(1, r52 a0_Log_o a0_Log), (2, r47 a0_Lasts_o a0_Lasts), (3, r42 a0_Items_o a0_Items), (4, r52 a1_Log_o a1_Log), (5, r47 a1_Lasts_o a1_Lasts), (6, r42 a1_Items_o a1_Items), (7, .cells ((fr1 0).x) 28 [.int .i64 a0_Les, .int .i64 a0_Tail.Epoch, .int .i64 a0_Tail.N, .slice a0_Log_o a0_Log.length a0_Log_c, .slice a0_Lasts_o a0_Lasts.length a0_Lasts_c, .slice a0_Items_o a0_Items.length a0_Items_c]), (8, .cells ((fr1 1).x) 28 [.int .i64 a1_Les, .int .i64 a1_Tail.Epoch, .int .i64 a1_Tail.N, .slice a1_Log_o a1_Log.length a1_Log_c, .slice a1_Lasts_o a1_Lasts.length a1_Lasts_c, .slice a1_Items_o a1_Items.length a1_Items_c])]) (RunsTo.mk [(0, { act := .new .var, key := some 7 }), (1, { act := .new .var, key := some 8 })] [2, 3] [1, 2, 3, 4, 5, 6, 7, 8] (fun fr1 => []) (fun fr1 => by kernel_rfl) (fun fr1 => trivial)) ?_
  intro fr1
  refine GS.seq ?_
  refine GS.seq ?_
  refine jn_elim hm (fun J7 hJ9 hm => ?_)
  refine GS.cut (ι := Bool) (I := fun (v46_0 : Bool) => J7 v46_0 = some y) (E := fun (v46_0 : Bool) => [(2, .pointer (some ⟨(fr1 0).x, 0, none⟩)), (3, .pointer (some ⟨(fr1 1).x, 0, none⟩)), (46, .bool v46_0)]) (M := fun (v46_0 : Bool) => [(1, r52 a0_Log_o a0_Log), (2, r47 a0_Lasts_o a0_Lasts), (3, r42 a0_Items_o a0_Items), (4, r52 a1_Log_o a1_Log), (5, r47 a1_Lasts_o a1_Lasts), (6, r42 a1_Items_o a1_Items), (7, .cells ((fr1 0).x) 28 [.int .i64 a0_Les, .int .i64 a0_Tail.Epoch, .int .i64 a0_Tail.N, .slice a0_Log_o a0_Log.length a0_Log_c, .slice a0_Lasts_o a0_Lasts.length a0_Lasts_c, .slice a0_Items_o a0_Items.length a0_Items_c]), (8, .cells ((fr1 1).x) 28 [.int .i64 a1_Les, .int .i64 a1_Tail.Epoch, .int .i64 a1_Tail.N, .slice a1_Log_o a1_Log.length a1_Log_c, .slice a1_Lasts_o a1_Lasts.length a1_Lasts_c, .slice a1_Items_o a1_Items.length a1_Items_c])]) ?_ ?_
  rotate_left
  · intro H8
    refine br_elim hm (fun h3 hm => ?_) (fun h3 hm => ?_)
    · skip
      refine GS.region (env' := fun _ => [(2, .pointer (some ⟨(fr1 0).x, 0, none⟩)), (3, .pointer (some ⟨(fr1 1).x, 0, none⟩)), (46, .bool true)]) (mem' := fun _ => [(1, r52 a0_Log_o a0_Log), (2, r47 a0_Lasts_o a0_Lasts), (3, r42 a0_Items_o a0_Items), (4, r52 a1_Log_o a1_Log), (5, r47 a1_Lasts_o a1_Lasts), (6, r42 a1_Items_o a1_Items), (7, .cells ((fr1 0).x) 28 [.int .i64 a0_Les, .int .i64 a0_Tail.Epoch, .int .i64 a0_Tail.N, .slice a0_Log_o a0_Log.length a0_Log_c, .slice a0_Lasts_o a0_Lasts.length a0_Lasts_c, .slice a0_Items_o a0_Items.length a0_Items_c]), (8, .cells ((fr1 1).x) 28 [.int .i64 a1_Les, .int .i64 a1_Tail.Epoch, .int .i64 a1_Tail.N, .slice a1_Log_o a1_Log.length a1_Log_c, .slice a1_Lasts_o a1_Lasts.length a1_Lasts_c, .slice a1_Items_o a1_Items.length a1_Items_c])]) (RunsTo.mk [(1, { act := .load 7 0 0 [] }), (3, { act := .load 8 0 0 [] }), (5, { sp := some (.bool true) })] [2, 3, 46] [1, 2, 3, 4, 5, 6, 7, 8] (fun _ => [(fr1 0).x = (fr1 0).x, (fr1 1).x = (fr1 1).x, ((.bool (a0_Les != a1_Les)) : Value) = .bool true]) (fun _ => by kernel_rfl) (fun _ => ⟨rfl, rfl, bool_eq h3, trivial⟩)) ?_
      intro _
      refine GS.rekey (env' := [(2, .pointer (some ⟨(fr1 0).x, 0, none⟩)), (3, .pointer (some ⟨(fr1 1).x, 0, none⟩)), (46, .bool true)]) (mem' := [(1, r52 a0_Log_o a0_Log), (2, r47 a0_Lasts_o a0_Lasts), (3, r42 a0_Items_o a0_Items), (4, r52 a1_Log_o a1_Log), (5, r47 a1_Lasts_o a1_Lasts), (6, r42 a1_Items_o a1_Items), (7, .cells ((fr1 0).x) 28 [.int .i64 a0_Les, .int .i64 a0_Tail.Epoch, .int .i64 a0_Tail.N, .slice a0_Log_o a0_Log.length a0_Log_c, .slice a0_Lasts_o a0_Lasts.length a0_Lasts_c, .slice a0_Items_o a0_Items.length a0_Items_c]), (8, .cells ((fr1 1).x) 28 [.int .i64 a1_Les, .int .i64 a1_Tail.Epoch, .int .i64 a1_Tail.N, .slice a1_Log_o a1_Log.length a1_Log_c, .slice a1_Lasts_o a1_Lasts.length a1_Lasts_c, .slice a1_Items_o a1_Items.length a1_Items_c])]) [2, 3, 46] [(1, 1), (2, 2), (3, 3), (4, 4), (5, 5), (6, 6), (7, 7), (8, 8)] (by kernel_rfl) (by kernel_rfl) rfl ?_
      exact H8 true hm
    · skip
      refine br_elim hm (fun h4 hm => ?_) (fun h4 hm => ?_)
      · skip
        refine GS.region (env' := fun _ => [(2, .pointer (some ⟨(fr1 0).x, 0, none⟩)), (3, .pointer (some ⟨(fr1 1).x, 0, none⟩)), (46, .bool true)]) (mem' := fun _ => [(1, r52 a0_Log_o a0_Log), (2, r47 a0_Lasts_o a0_Lasts), (3, r42 a0_Items_o a0_Items), (4, r52 a1_Log_o a1_Log), (5, r47 a1_Lasts_o a1_Lasts), (6, r42 a1_Items_o a1_Items), (7, .cells ((fr1 0).x) 28 [.int .i64 a0_Les, .int .i64 a0_Tail.Epoch, .int .i64 a0_Tail.N, .slice a0_Log_o a0_Log.length a0_Log_c, .slice a0_Lasts_o a0_Lasts.length a0_Lasts_c, .slice a0_Items_o a0_Items.length a0_Items_c]), (8, .cells ((fr1 1).x) 28 [.int .i64 a1_Les, .int .i64 a1_Tail.Epoch, .int .i64 a1_Tail.N, .slice a1_Log_o a1_Log.length a1_Log_c, .slice a1_Lasts_o a1_Lasts.length a1_Lasts_c, .slice a1_Items_o a1_Items.length a1_Items_c])]) (RunsTo.mk [(1, { act := .load 7 0 0 [] }), (3, { act := .load 8 0 0 [] }), (5, { sp := some (.bool false) }), (7, { act := .load 7 0 0 [] }), (9, { act := .load 8 0 0 [] }), (10, { act := .eq }), (12, { sp := some (.bool true) })] [2, 3, 46] [1, 2, 3, 4, 5, 6, 7, 8] (fun _ => [(fr1 0).x = (fr1 0).x, (fr1 1).x = (fr1 1).x, ((.bool (a0_Les != a1_Les)) : Value) = .bool false, (fr1 0).x = (fr1 0).x, (fr1 1).x = (fr1 1).x, ((.bool (!(S_api_Version.beq a0_Tail a1_Tail))) : Value) = .bool true]) (fun _ => by kernel_rfl) (fun _ => ⟨rfl, rfl, bool_eq h3, rfl, rfl, bool_eq h4, trivial⟩)) ?_
        intro _
        refine GS.rekey (env' := [(2, .pointer (some ⟨(fr1 0).x, 0, none⟩)), (3, .pointer (some ⟨(fr1 1).x, 0, none⟩)), (46, .bool true)]) (mem' := [(1, r52 a0_Log_o a0_Log), (2, r47 a0_Lasts_o a0_Lasts), (3, r42 a0_Items_o a0_Items), (4, r52 a1_Log_o a1_Log), (5, r47 a1_Lasts_o a1_Lasts), (6, r42 a1_Items_o a1_Items), (7, .cells ((fr1 0).x) 28 [.int .i64 a0_Les, .int .i64 a0_Tail.Epoch, .int .i64 a0_Tail.N, .slice a0_Log_o a0_Log.length a0_Log_c, .slice a0_Lasts_o a0_Lasts.length a0_Lasts_c, .slice a0_Items_o a0_Items.length a0_Items_c]), (8, .cells ((fr1 1).x) 28 [.int .i64 a1_Les, .int .i64 a1_Tail.Epoch, .int .i64 a1_Tail.N, .slice a1_Log_o a1_Log.length a1_Log_c, .slice a1_Lasts_o a1_Lasts.length a1_Lasts_c, .slice a1_Items_o a1_Items.length a1_Items_c])]) [2, 3, 46] [(1, 1), (2, 2), (3, 3), (4, 4), (5, 5), (6, 6), (7, 7), (8, 8)] (by kernel_rfl) (by kernel_rfl) rfl ?_
        exact H8 true hm
      · skip
        refine br_elim hm (fun h5 hm => ?_) (fun h5 hm => ?_)
        · skip
          refine GS.region (env' := fun _ => [(2, .pointer (some ⟨(fr1 0).x, 0, none⟩)), (3, .pointer (some ⟨(fr1 1).x, 0, none⟩)), (46, .bool true)]) (mem' := fun _ => [(1, r52 a0_Log_o a0_Log), (2, r47 a0_Lasts_o a0_Lasts), (3, r42 a0_Items_o a0_Items), (4, r52 a1_Log_o a1_Log), (5, r47 a1_Lasts_o a1_Lasts), (6, r42 a1_Items_o a1_Items), (7, .cells ((fr1 0).x) 28 [.int .i64 a0_Les, .int .i64 a0_Tail.Epoch, .int .i64 a0_Tail.N, .slice a0_Log_o a0_Log.length a0_Log_c, .slice a0_Lasts_o a0_Lasts.length a0_Lasts_c, .slice a0_Items_o a0_Items.length a0_Items_c]), (8, .cells ((fr1 1).x) 28 [.int .i64 a1_Les, .int .i64 a1_Tail.Epoch, .int .i64 a1_Tail.N, .slice a1_Log_o a1_Log.length a1_Log_c, .slice a1_Lasts_o a1_Lasts.length a1_Lasts_c, .slice a1_Items_o a1_Items.length a1_Items_c])]) (RunsTo.mk [(1, { act := .load 7 0 0 [] }), (3, { act := .load 8 0 0 [] }), (5, { sp := some (.bool false) }), (7, { act := .load 7 0 0 [] }), (9, { act := .load 8 0 0 [] }), (10, { act := .eq }), (12, { sp := some (.bool false) }), (14, { act := .load 7 0 0 [] }), (17, { act := .load 8 0 0 [] }), (21, { sp := some (.bool true) })] [2, 3, 46] [1, 2, 3, 4, 5, 6, 7, 8] (fun _ => [(fr1 0).x = (fr1 0).x, (fr1 1).x = (fr1 1).x, ((.bool (a0_Les != a1_Les)) : Value) = .bool false, (fr1 0).x = (fr1 0).x, (fr1 1).x = (fr1 1).x, ((.bool (!(S_api_Version.beq a0_Tail a1_Tail))) : Value) = .bool false, (fr1 0).x = (fr1 0).x, (fr1 1).x = (fr1 1).x, ((.bool (((a0_Log.length : Nat) : Int) != ((a1_Log.length : Nat) : Int))) : Value) = .bool true]) (fun _ => by kernel_rfl) (fun _ => ⟨rfl, rfl, bool_eq h3, rfl, rfl, bool_eq h4, rfl, rfl, bool_eq h5, trivial⟩)) ?_
          intro _
          refine GS.rekey (env' := [(2, .pointer (some ⟨(fr1 0).x, 0, none⟩)), (3, .pointer (some ⟨(fr1 1).x, 0, none⟩)), (46, .bool true)]) (mem' := [(1, r52 a0_Log_o a0_Log), (2, r47 a0_Lasts_o a0_Lasts), (3, r42 a0_Items_o a0_Items), (4, r52 a1_Log_o a1_Log), (5, r47 a1_Lasts_o a1_Lasts), (6, r42 a1_Items_o a1_Items), (7, .cells ((fr1 0).x) 28 [.int .i64 a0_Les, .int .i64 a0_Tail.Epoch, .int .i64 a0_Tail.N, .slice a0_Log_o a0_Log.length a0_Log_c, .slice a0_Lasts_o a0_Lasts.length a0_Lasts_c, .slice a0_Items_o a0_Items.length a0_Items_c]), (8, .cells ((fr1 1).x) 28 [.int .i64 a1_Les, .int .i64 a1_Tail.Epoch, .int .i64 a1_Tail.N, .slice a1_Log_o a1_Log.length a1_Log_c, .slice a1_Lasts_o a1_Lasts.length a1_Lasts_c, .slice a1_Items_o a1_Items.length a1_Items_c])]) [2, 3, 46] [(1, 1), (2, 2), (3, 3), (4, 4), (5, 5), (6, 6), (7, 7), (8, 8)] (by kernel_rfl) (by kernel_rfl) rfl ?_
          exact H8 true hm
        · skip
          refine br_elim hm (fun h6 hm => ?_) (fun h6 hm => ?_)
          · skip
            refine GS.region (env' := fun _ => [(2, .pointer (some ⟨(fr1 0).x, 0, none⟩)), (3, .pointer (some ⟨(fr1 1).x, 0, none⟩)), (46, .bool true)]) (mem' := fun _ => [(1, r52 a0_Log_o a0_Log), (2, r47 a0_Lasts_o a0_Lasts), (3, r42 a0_Items_o a0_Items), (4, r52 a1_Log_o a1_Log), (5, r47 a1_Lasts_o a1_Lasts), (6, r42 a1_Items_o a1_Items), (7, .cells ((fr1 0).x) 28 [.int .i64 a0_Les, .int .i64 a0_Tail.Epoch, .int .i64 a0_Tail.N, .slice a0_Log_o a0_Log.length a0_Log_c, .slice a0_Lasts_o a0_Lasts.length a0_Lasts_c, .slice a0_Items_o a0_Items.length a0_Items_c]), (8, .cells ((fr1 1).x) 28 [.int .i64 a1_Les, .int .i64 a1_Tail.Epoch, .int .i64 a1_Tail.N, .slice a1_Log_o a1_Log.length a1_Log_c, .slice a1_Lasts_o a1_Lasts.length a1_Lasts_c, .slice a1_Items_o a1_Items.length a1_Items_c])]) (RunsTo.mk [(1, { act := .load 7 0 0 [] }), (3, { act := .load 8 0 0 [] }), (5, { sp := some (.bool false) }), (7, { act := .load 7 0 0 [] }), (9, { act := .load 8 0 0 [] }), (10, { act := .eq }), (12, { sp := some (.bool false) }), (14, { act := .load 7 0 0 [] }), (17, { act := .load 8 0 0 [] }), (21, { sp := some (.bool false) }), (23, { act := .load 7 0 0 [] }), (26, { act := .load 8 0 0 [] }), (30, { sp := some (.bool true) })] [2, 3, 46] [1, 2, 3, 4, 5, 6, 7, 8] (fun _ => [(fr1 0).x = (fr1 0).x, (fr1 1).x = (fr1 1).x, ((.bool (a0_Les != a1_Les)) : Value) = .bool false, (fr1 0).x = (fr1 0).x, (fr1 1).x = (fr1 1).x, ((.bool (!(S_api_Version.beq a0_Tail a1_Tail))) : Value) = .bool false, (fr1 0).x = (fr1 0).x, (fr1 1).x = (fr1 1).x, ((.bool (((a0_Log.length : Nat) : Int) != ((a1_Log.length : Nat) : Int))) : Value) = .bool false, (fr1 0).x = (fr1 0).x, (fr1 1).x = (fr1 1).x, ((.bool (((a0_Lasts.length : Nat) : Int) != ((a1_Lasts.length : Nat) : Int))) : Value) = .bool true]) (fun _ => by kernel_rfl) (fun _ => ⟨rfl, rfl, bool_eq h3, rfl, rfl, bool_eq h4, rfl, rfl, bool_eq h5, rfl, rfl, bool_eq h6, trivial⟩)) ?_
            intro _
            refine GS.rekey (env' := [(2, .pointer (some ⟨(fr1 0).x, 0, none⟩)), (3, .pointer (some ⟨(fr1 1).x, 0, none⟩)), (46, .bool true)]) (mem' := [(1, r52 a0_Log_o a0_Log), (2, r47 a0_Lasts_o a0_Lasts), (3, r42 a0_Items_o a0_Items), (4, r52 a1_Log_o a1_Log), (5, r47 a1_Lasts_o a1_Lasts), (6, r42 a1_Items_o a1_Items), (7, .cells ((fr1 0).x) 28 [.int .i64 a0_Les, .int .i64 a0_Tail.Epoch, .int .i64 a0_Tail.N, .slice a0_Log_o a0_Log.length a0_Log_c, .slice a0_Lasts_o a0_Lasts.length a0_Lasts_c, .slice a0_Items_o a0_Items.length a0_Items_c]), (8, .cells ((fr1 1).x) 28 [.int .i64 a1_Les, .int .i64 a1_Tail.Epoch, .int .i64 a1_Tail.N, .slice a1_Log_o a1_Log.length a1_Log_c, .slice a1_Lasts_o a1_Lasts.length a1_Lasts_c, .slice a1_Items_o a1_Items.length a1_Items_c])]) [2, 3, 46] [(1, 1), (2, 2), (3, 3), (4, 4), (5, 5), (6, 6), (7, 7), (8, 8)] (by kernel_rfl) (by kernel_rfl) rfl ?_
            exact H8 true hm
          · skip
            refine GS.region (env' := fun _ => [(2, .pointer (some ⟨(fr1 0).x, 0, none⟩)), (3, .pointer (some ⟨(fr1 1).x, 0, none⟩)), (46, .bool (((a0_Items.length : Nat) : Int) != ((a1_Items.length : Nat) : Int)))]) (mem' := fun _ => [(1, r52 a0_Log_o a0_Log), (2, r47 a0_Lasts_o a0_Lasts), (3, r42 a0_Items_o a0_Items), (4, r52 a1_Log_o a1_Log), (5, r47 a1_Lasts_o a1_Lasts), (6, r42 a1_Items_o a1_Items), (7, .cells ((fr1 0).x) 28 [.int .i64 a0_Les, .int .i64 a0_Tail.Epoch, .int .i64 a0_Tail.N, .slice a0_Log_o a0_Log.length a0_Log_c, .slice a0_Lasts_o a0_Lasts.length a0_Lasts_c, .slice a0_Items_o a0_Items.length a0_Items_c]), (8, .cells ((fr1 1).x) 28 [.int .i64 a1_Les, .int .i64 a1_Tail.Epoch, .int .i64 a1_Tail.N, .slice a1_Log_o a1_Log.length a1_Log_c, .slice a1_Lasts_o a1_Lasts.length a1_Lasts_c, .slice a1_Items_o a1_Items.length a1_Items_c])]) (RunsTo.mk [(1, { act := .load 7 0 0 [] }), (3, { act := .load 8 0 0 [] }), (5, { sp := some (.bool false) }), (7, { act := .load 7 0 0 [] }), (9, { act := .load 8 0 0 [] }), (10, { act := .eq }), (12, { sp := some (.bool false) }), (14, { act := .load 7 0 0 [] }), (17, { act := .load 8 0 0 [] }), (21, { sp := some (.bool false) }), (23, { act := .load 7 0 0 [] }), (26, { act := .load 8 0 0 [] }), (30, { sp := some (.bool false) }), (32, { act := .load 7 0 0 [] }), (35, { act := .load 8 0 0 [] })] [2, 3, 46] [1, 2, 3, 4, 5, 6, 7, 8] (fun _ => [(fr1 0).x = (fr1 0).x, (fr1 1).x = (fr1 1).x, ((.bool (a0_Les != a1_Les)) : Value) = .bool false, (fr1 0).x = (fr1 0).x, (fr1 1).x = (fr1 1).x, ((.bool (!(S_api_Version.beq a0_Tail a1_Tail))) : Value) = .bool false, (fr1 0).x = (fr1 0).x, (fr1 1).x = (fr1 1).x, ((.bool (((a0_Log.length : Nat) : Int) != ((a1_Log.length : Nat) : Int))) : Value) = .bool false, (fr1 0).x = (fr1 0).x, (fr1 1).x = (fr1 1).x, ((.bool (((a0_Lasts.length : Nat) : Int) != ((a1_Lasts.length : Nat) : Int))) : Value) = .bool false, (fr1 0).x = (fr1 0).x, (fr1 1).x = (fr1 1).x]) (fun _ => by kernel_rfl) (fun _ => ⟨rfl, rfl, bool_eq h3, rfl, rfl, bool_eq h4, rfl, rfl, bool_eq h5, rfl, rfl, bool_eq h6, rfl, rfl, trivial⟩)) ?_
            intro _
            refine GS.rekey (env' := [(2, .pointer (some ⟨(fr1 0).x, 0, none⟩)), (3, .pointer (some ⟨(fr1 1).x, 0, none⟩)), (46, .bool (((a0_Items.length : Nat) : Int) != ((a1_Items.length : Nat) : Int)))]) (mem' := [(1, r52 a0_Log_o a0_Log), (2, r47 a0_Lasts_o a0_Lasts), (3, r42 a0_Items_o a0_Items), (4, r52 a1_Log_o a1_Log), (5, r47 a1_Lasts_o a1_Lasts), (6, r42 a1_Items_o a1_Items), (7, .cells ((fr1 0).x) 28 [.int .i64 a0_Les, .int .i64 a0_Tail.Epoch, .int .i64 a0_Tail.N, .slice a0_Log_o a0_Log.length a0_Log_c, .slice a0_Lasts_o a0_Lasts.length a0_Lasts_c, .slice a0_Items_o a0_Items.length a0_Items_c]), (8, .cells ((fr1 1).x) 28 [.int .i64 a1_Les, .int .i64 a1_Tail.Epoch, .int .i64 a1_Tail.N, .slice a1_Log_o a1_Log.length a1_Log_c, .slice a1_Lasts_o a1_Lasts.length a1_Lasts_c, .slice a1_Items_o a1_Items.length a1_Items_c])]) [2, 3, 46] [(1, 1), (2, 2), (3, 3), (4, 4), (5, 5), (6, 6), (7, 7), (8, 8)] (by kernel_rfl) (by kernel_rfl) rfl ?_
            exact H8 (((a0_Items.length : Nat) : Int) != ((a1_Items.length : Nat) : Int)) hm
  · rintro v46_0 hm
    replace hm := (hJ9 _).symm.trans hm
    try dsimp only at hm
    refine GS.cond (t := v46_0) rfl rfl (fun h10 => ?_) (fun h10 => ?_)
    · replace hm := br_t h10 hm
      refine GS.seq ?_
      refine GS.region (env' := fun _ => [(4, .bool false)]) (mem' := fun _ => []) (RunsTo.mk [] [4] [] (fun _ => []) (fun _ => by kernel_rfl) (fun _ => trivial)) ?_
      intro _
      have hy := Option.some.inj hm
      subst hy
      refine GS.ret (fn := Try.f10) [0] [.bool false] [] rfl Try.func10 (by kernel_rfl) trivial (fun w' hs => ?_)
      exact ⟨(), rfl, hs.turnedG (ks := []) rfl rfl (ownAllG rfl)⟩
    · replace hm := br_f h10 hm
      refine GS.skip ?_
      refine GS.seq ?_
      refine GS.seq ?_
      refine GS.region (env' := fun _ => [(2, .pointer (some ⟨(fr1 0).x, 0, none⟩)), (3, .pointer (some ⟨(fr1 1).x, 0, none⟩)), (49, .int .i64 ((a0_Log.length : Nat) : Int)), (50, .int .i64 0)]) (mem' := fun _ => [(1, r52 a0_Log_o a0_Log), (2, r47 a0_Lasts_o a0_Lasts), (3, r42 a0_Items_o a0_Items), (4, r52 a1_Log_o a1_Log), (5, r47 a1_Lasts_o a1_Lasts), (6, r42 a1_Items_o a1_Items), (7, .cells ((fr1 0).x) 28 [.int .i64 a0_Les, .int .i64 a0_Tail.Epoch, .int .i64 a0_Tail.N, .slice a0_Log_o a0_Log.length a0_Log_c, .slice a0_Lasts_o a0_Lasts.length a0_Lasts_c, .slice a0_Items_o a0_Items.length a0_Items_c]), (8, .cells ((fr1 1).x) 28 [.int .i64 a1_Les, .int .i64 a1_Tail.Epoch, .int .i64 a1_Tail.N, .slice a1_Log_o a1_Log.length a1_Log_c, .slice a1_Lasts_o a1_Lasts.length a1_Lasts_c, .slice a1_Items_o a1_Items.length a1_Items_c])]) (RunsTo.mk [(1, { act := .load 7 0 0 [] })] [2, 3, 49, 50] [1, 2, 3, 4, 5, 6, 7, 8] (fun _ => [(fr1 0).x = (fr1 0).x]) (fun _ => by kernel_rfl) (fun _ => ⟨rfl, trivial⟩)) ?_
      intro _
      refine GS.block ?_
      refine GS.loop ?_
      refine grd_elim hm (fun g33 hm => ?_)
      refine GS.rekey (env' := [(2, .pointer (some ⟨(fr1 0).x, 0, none⟩)), (3, .pointer (some ⟨(fr1 1).x, 0, none⟩)), (49, .int .i64 ((a0_Log.length : Nat) : Int)), (50, .int .i64 0)]) (mem' := [(1, r52 a0_Log_o a0_Log), (2, r47 a0_Lasts_o a0_Lasts), (3, r42 a0_Items_o a0_Items), (4, r52 a1_Log_o a1_Log), (5, r47 a1_Lasts_o a1_Lasts), (6, r42 a1_Items_o a1_Items), (7, .cells ((fr1 0).x) 28 [.int .i64 a0_Les, .int .i64 a0_Tail.Epoch, .int .i64 a0_Tail.N, .slice a0_Log_o a0_Log.length a0_Log_c, .slice a0_Lasts_o a0_Lasts.length a0_Lasts_c, .slice a0_Items_o a0_Items.length a0_Items_c]), (8, .cells ((fr1 1).x) 28 [.int .i64 a1_Les, .int .i64 a1_Tail.Epoch, .int .i64 a1_Tail.N, .slice a1_Log_o a1_Log.length a1_Log_c, .slice a1_Lasts_o a1_Lasts.length a1_Lasts_c, .slice a1_Items_o a1_Items.length a1_Items_c])]) [2, 3, 49, 50] [(1, 1), (2, 2), (3, 3), (4, 4), (5, 5), (6, 6), (7, 7), (8, 8)] (by kernel_rfl) (by kernel_rfl) rfl ?_
      refine loopL_elim hm (fun st48 fn49 hst50 hfn51 hm => ?_)
      refine GS.loopInv (ι := List S_api_Entry × Nat) (I := fun ⟨rs46, v50_1⟩ => a0_Log.drop v50_1 = rs46 ∧ loopL st48 fn49 rs46 v50_1 () = some y) (μ := fun ⟨rs46, v50_1⟩ => rs46.length) (E := fun ⟨rs46, v50_1⟩ => [(2, .pointer (some ⟨(fr1 0).x, 0, none⟩)), (3, .pointer (some ⟨(fr1 1).x, 0, none⟩)), (49, .int .i64 ((a0_Log.length : Nat) : Int)), (50, .int .i64 ((v50_1 : Nat) : Int))]) (M := fun ⟨rs46, v50_1⟩ => [(1, r52 a0_Log_o a0_Log), (2, r47 a0_Lasts_o a0_Lasts), (3, r42 a0_Items_o a0_Items), (4, r52 a1_Log_o a1_Log), (5, r47 a1_Lasts_o a1_Lasts), (6, r42 a1_Items_o a1_Items), (7, .cells ((fr1 0).x) 28 [.int .i64 a0_Les, .int .i64 a0_Tail.Epoch, .int .i64 a0_Tail.N, .slice a0_Log_o a0_Log.length a0_Log_c, .slice a0_Lasts_o a0_Lasts.length a0_Lasts_c, .slice a0_Items_o a0_Items.length a0_Items_c]), (8, .cells ((fr1 1).x) 28 [.int .i64 a1_Les, .int .i64 a1_Tail.Epoch, .int .i64 a1_Tail.N, .slice a1_Log_o a1_Log.length a1_Log_c, .slice a1_Lasts_o a1_Lasts.length a1_Lasts_c, .slice a1_Items_o a1_Items.length a1_Items_c])]) ?_ ⟨a0_Log, 0⟩ ⟨List.drop_zero .., hm⟩
      rintro ⟨rs46, v50_1⟩ ⟨hd32, hm⟩ ih47
      cases rs46 with
      | nil =>
        replace hm := (hfn51 _ _).symm.trans hm
        try dsimp only at hm
        refine GS.seq ?_
        refine GS.region (env' := fun _ => [(2, .pointer (some ⟨(fr1 0).x, 0, none⟩)), (3, .pointer (some ⟨(fr1 1).x, 0, none⟩)), (49, .int .i64 ((a0_Log.length : Nat) : Int)), (50, .int .i64 ((v50_1 : Nat) : Int)), (51, .bool (decide (((v50_1 : Nat) : Int) < ((a0_Log.length : Nat) : Int))))]) (mem' := fun _ => [(1, r52 a0_Log_o a0_Log), (2, r47 a0_Lasts_o a0_Lasts), (3, r42 a0_Items_o a0_Items), (4, r52 a1_Log_o a1_Log), (5, r47 a1_Lasts_o a1_Lasts), (6, r42 a1_Items_o a1_Items), (7, .cells ((fr1 0).x) 28 [.int .i64 a0_Les, .int .i64 a0_Tail.Epoch, .int .i64 a0_Tail.N, .slice a0_Log_o a0_Log.length a0_Log_c, .slice a0_Lasts_o a0_Lasts.length a0_Lasts_c, .slice a0_Items_o a0_Items.length a0_Items_c]), (8, .cells ((fr1 1).x) 28 [.int .i64 a1_Les, .int .i64 a1_Tail.Epoch, .int .i64 a1_Tail.N, .slice a1_Log_o a1_Log.length a1_Log_c, .slice a1_Lasts_o a1_Lasts.length a1_Lasts_c, .slice a1_Items_o a1_Items.length a1_Items_c])]) (RunsTo.mk [] [2, 3, 49, 50, 51] [1, 2, 3, 4, 5, 6, 7, 8] (fun _ => []) (fun _ => by kernel_rfl) (fun _ => trivial)) ?_
        intro _
        refine GS.seq ?_
        refine GS.cond (t := decide (((v50_1 : Nat) : Int) < ((a0_Log.length : Nat) : Int))) rfl rfl (fun h44 => absb h44 (drop_dec0 hd32)) (fun _ => ?_)
        refine GS.exit rfl ?_
        refine GS.seq ?_
        refine GS.seq ?_
        refine GS.region (env' := fun _ => [(2, .pointer (some ⟨(fr1 0).x, 0, none⟩)), (3, .pointer (some ⟨(fr1 1).x, 0, none⟩)), (67, .int .i64 ((a0_Lasts.length : Nat) : Int)), (68, .int .i64 0)]) (mem' := fun _ => [(1, r52 a0_Log_o a0_Log), (2, r47 a0_Lasts_o a0_Lasts), (3, r42 a0_Items_o a0_Items), (4, r52 a1_Log_o a1_Log), (5, r47 a1_Lasts_o a1_Lasts), (6, r42 a1_Items_o a1_Items), (7, .cells ((fr1 0).x) 28 [.int .i64 a0_Les, .int .i64 a0_Tail.Epoch, .int .i64 a0_Tail.N, .slice a0_Log_o a0_Log.length a0_Log_c, .slice a0_Lasts_o a0_Lasts.length a0_Lasts_c, .slice a0_Items_o a0_Items.length a0_Items_c]), (8, .cells ((fr1 1).x) 28 [.int .i64 a1_Les, .int .i64 a1_Tail.Epoch, .int .i64 a1_Tail.N, .slice a1_Log_o a1_Log.length a1_Log_c, .slice a1_Lasts_o a1_Lasts.length a1_Lasts_c, .slice a1_Items_o a1_Items.length a1_Items_c])]) (RunsTo.mk [(1, { act := .load 7 0 0 [] })] [2, 3, 67, 68] [1, 2, 3, 4, 5, 6, 7, 8] (fun _ => [(fr1 0).x = (fr1 0).x]) (fun _ => by kernel_rfl) (fun _ => ⟨rfl, trivial⟩)) ?_
        intro _
        refine GS.block ?_
        refine GS.loop ?_
        refine grd_elim hm (fun g73 hm => ?_)
        refine GS.rekey (env' := [(2, .pointer (some ⟨(fr1 0).x, 0, none⟩)), (3, .pointer (some ⟨(fr1 1).x, 0, none⟩)), (67, .int .i64 ((a0_Lasts.length : Nat) : Int)), (68, .int .i64 0)]) (mem' := [(1, r52 a0_Log_o a0_Log), (2, r47 a0_Lasts_o a0_Lasts), (3, r42 a0_Items_o a0_Items), (4, r52 a1_Log_o a1_Log), (5, r47 a1_Lasts_o a1_Lasts), (6, r42 a1_Items_o a1_Items), (7, .cells ((fr1 0).x) 28 [.int .i64 a0_Les, .int .i64 a0_Tail.Epoch, .int .i64 a0_Tail.N, .slice a0_Log_o a0_Log.length a0_Log_c, .slice a0_Lasts_o a0_Lasts.length a0_Lasts_c, .slice a0_Items_o a0_Items.length a0_Items_c]), (8, .cells ((fr1 1).x) 28 [.int .i64 a1_Les, .int .i64 a1_Tail.Epoch, .int .i64 a1_Tail.N, .slice a1_Log_o a1_Log.length a1_Log_c, .slice a1_Lasts_o a1_Lasts.length a1_Lasts_c, .slice a1_Items_o a1_Items.length a1_Items_c])]) [2, 3, 67, 68] [(1, 1), (2, 2), (3, 3), (4, 4), (5, 5), (6, 6), (7, 7), (8, 8)] (by kernel_rfl) (by kernel_rfl) rfl ?_
        refine loopL_elim hm (fun st88 fn89 hst90 hfn91 hm => ?_)
        refine GS.loopInv (ι := List S_api_Last × Nat) (I := fun ⟨rs86, v68_1⟩ => a0_Lasts.drop v68_1 = rs86 ∧ loopL st88 fn89 rs86 v68_1 () = some y) (μ := fun ⟨rs86, v68_1⟩ => rs86.length) (E := fun ⟨rs86, v68_1⟩ => [(2, .pointer (some ⟨(fr1 0).x, 0, none⟩)), (3, .pointer (some ⟨(fr1 1).x, 0, none⟩)), (67, .int .i64 ((a0_Lasts.length : Nat) : Int)), (68, .int .i64 ((v68_1 : Nat) : Int))]) (M := fun ⟨rs86, v68_1⟩ => [(1, r52 a0_Log_o a0_Log), (2, r47 a0_Lasts_o a0_Lasts), (3, r42 a0_Items_o a0_Items), (4, r52 a1_Log_o a1_Log), (5, r47 a1_Lasts_o a1_Lasts), (6, r42 a1_Items_o a1_Items), (7, .cells ((fr1 0).x) 28 [.int .i64 a0_Les, .int .i64 a0_Tail.Epoch, .int .i64 a0_Tail.N, .slice a0_Log_o a0_Log.length a0_Log_c, .slice a0_Lasts_o a0_Lasts.length a0_Lasts_c, .slice a0_Items_o a0_Items.length a0_Items_c]), (8, .cells ((fr1 1).x) 28 [.int .i64 a1_Les, .int .i64 a1_Tail.Epoch, .int .i64 a1_Tail.N, .slice a1_Log_o a1_Log.length a1_Log_c, .slice a1_Lasts_o a1_Lasts.length a1_Lasts_c, .slice a1_Items_o a1_Items.length a1_Items_c])]) ?_ ⟨a0_Lasts, 0⟩ ⟨List.drop_zero .., hm⟩
        rintro ⟨rs86, v68_1⟩ ⟨hd72, hm⟩ ih87
        cases rs86 with
        | nil =>
          replace hm := (hfn91 _ _).symm.trans hm
          try dsimp only at hm
          refine GS.seq ?_
          refine GS.region (env' := fun _ => [(2, .pointer (some ⟨(fr1 0).x, 0, none⟩)), (3, .pointer (some ⟨(fr1 1).x, 0, none⟩)), (67, .int .i64 ((a0_Lasts.length : Nat) : Int)), (68, .int .i64 ((v68_1 : Nat) : Int)), (69, .bool (decide (((v68_1 : Nat) : Int) < ((a0_Lasts.length : Nat) : Int))))]) (mem' := fun _ => [(1, r52 a0_Log_o a0_Log), (2, r47 a0_Lasts_o a0_Lasts), (3, r42 a0_Items_o a0_Items), (4, r52 a1_Log_o a1_Log), (5, r47 a1_Lasts_o a1_Lasts), (6, r42 a1_Items_o a1_Items), (7, .cells ((fr1 0).x) 28 [.int .i64 a0_Les, .int .i64 a0_Tail.Epoch, .int .i64 a0_Tail.N, .slice a0_Log_o a0_Log.length a0_Log_c, .slice a0_Lasts_o a0_Lasts.length a0_Lasts_c, .slice a0_Items_o a0_Items.length a0_Items_c]), (8, .cells ((fr1 1).x) 28 [.int .i64 a1_Les, .int .i64 a1_Tail.Epoch, .int .i64 a1_Tail.N, .slice a1_Log_o a1_Log.length a1_Log_c, .slice a1_Lasts_o a1_Lasts.length a1_Lasts_c, .slice a1_Items_o a1_Items.length a1_Items_c])]) (RunsTo.mk [] [2, 3, 67, 68, 69] [1, 2, 3, 4, 5, 6, 7, 8] (fun _ => []) (fun _ => by kernel_rfl) (fun _ => trivial)) ?_
          intro _
          refine GS.seq ?_
          refine GS.cond (t := decide (((v68_1 : Nat) : Int) < ((a0_Lasts.length : Nat) : Int))) rfl rfl (fun h84 => absb h84 (drop_dec0 hd72)) (fun _ => ?_)
          refine GS.exit rfl ?_
          refine GS.seq ?_
          refine GS.seq ?_
          refine GS.region (env' := fun _ => [(2, .pointer (some ⟨(fr1 0).x, 0, none⟩)), (3, .pointer (some ⟨(fr1 1).x, 0, none⟩)), (85, .int .i64 ((a0_Items.length : Nat) : Int)), (86, .int .i64 0)]) (mem' := fun _ => [(1, r52 a0_Log_o a0_Log), (2, r47 a0_Lasts_o a0_Lasts), (3, r42 a0_Items_o a0_Items), (4, r52 a1_Log_o a1_Log), (5, r47 a1_Lasts_o a1_Lasts), (6, r42 a1_Items_o a1_Items), (7, .cells ((fr1 0).x) 28 [.int .i64 a0_Les, .int .i64 a0_Tail.Epoch, .int .i64 a0_Tail.N, .slice a0_Log_o a0_Log.length a0_Log_c, .slice a0_Lasts_o a0_Lasts.length a0_Lasts_c, .slice a0_Items_o a0_Items.length a0_Items_c]), (8, .cells ((fr1 1).x) 28 [.int .i64 a1_Les, .int .i64 a1_Tail.Epoch, .int .i64 a1_Tail.N, .slice a1_Log_o a1_Log.length a1_Log_c, .slice a1_Lasts_o a1_Lasts.length a1_Lasts_c, .slice a1_Items_o a1_Items.length a1_Items_c])]) (RunsTo.mk [(1, { act := .load 7 0 0 [] })] [2, 3, 85, 86] [1, 2, 3, 4, 5, 6, 7, 8] (fun _ => [(fr1 0).x = (fr1 0).x]) (fun _ => by kernel_rfl) (fun _ => ⟨rfl, trivial⟩)) ?_
          intro _
          refine GS.block ?_
          refine GS.loop ?_
          refine grd_elim hm (fun g113 hm => ?_)
          refine GS.rekey (env' := [(2, .pointer (some ⟨(fr1 0).x, 0, none⟩)), (3, .pointer (some ⟨(fr1 1).x, 0, none⟩)), (85, .int .i64 ((a0_Items.length : Nat) : Int)), (86, .int .i64 0)]) (mem' := [(1, r52 a0_Log_o a0_Log), (2, r47 a0_Lasts_o a0_Lasts), (3, r42 a0_Items_o a0_Items), (4, r52 a1_Log_o a1_Log), (5, r47 a1_Lasts_o a1_Lasts), (6, r42 a1_Items_o a1_Items), (7, .cells ((fr1 0).x) 28 [.int .i64 a0_Les, .int .i64 a0_Tail.Epoch, .int .i64 a0_Tail.N, .slice a0_Log_o a0_Log.length a0_Log_c, .slice a0_Lasts_o a0_Lasts.length a0_Lasts_c, .slice a0_Items_o a0_Items.length a0_Items_c]), (8, .cells ((fr1 1).x) 28 [.int .i64 a1_Les, .int .i64 a1_Tail.Epoch, .int .i64 a1_Tail.N, .slice a1_Log_o a1_Log.length a1_Log_c, .slice a1_Lasts_o a1_Lasts.length a1_Lasts_c, .slice a1_Items_o a1_Items.length a1_Items_c])]) [2, 3, 85, 86] [(1, 1), (2, 2), (3, 3), (4, 4), (5, 5), (6, 6), (7, 7), (8, 8)] (by kernel_rfl) (by kernel_rfl) rfl ?_
          refine loopL_elim hm (fun st128 fn129 hst130 hfn131 hm => ?_)
          refine GS.loopInv (ι := List S_api_Item × Nat) (I := fun ⟨rs126, v86_1⟩ => a0_Items.drop v86_1 = rs126 ∧ loopL st128 fn129 rs126 v86_1 () = some y) (μ := fun ⟨rs126, v86_1⟩ => rs126.length) (E := fun ⟨rs126, v86_1⟩ => [(2, .pointer (some ⟨(fr1 0).x, 0, none⟩)), (3, .pointer (some ⟨(fr1 1).x, 0, none⟩)), (85, .int .i64 ((a0_Items.length : Nat) : Int)), (86, .int .i64 ((v86_1 : Nat) : Int))]) (M := fun ⟨rs126, v86_1⟩ => [(1, r52 a0_Log_o a0_Log), (2, r47 a0_Lasts_o a0_Lasts), (3, r42 a0_Items_o a0_Items), (4, r52 a1_Log_o a1_Log), (5, r47 a1_Lasts_o a1_Lasts), (6, r42 a1_Items_o a1_Items), (7, .cells ((fr1 0).x) 28 [.int .i64 a0_Les, .int .i64 a0_Tail.Epoch, .int .i64 a0_Tail.N, .slice a0_Log_o a0_Log.length a0_Log_c, .slice a0_Lasts_o a0_Lasts.length a0_Lasts_c, .slice a0_Items_o a0_Items.length a0_Items_c]), (8, .cells ((fr1 1).x) 28 [.int .i64 a1_Les, .int .i64 a1_Tail.Epoch, .int .i64 a1_Tail.N, .slice a1_Log_o a1_Log.length a1_Log_c, .slice a1_Lasts_o a1_Lasts.length a1_Lasts_c, .slice a1_Items_o a1_Items.length a1_Items_c])]) ?_ ⟨a0_Items, 0⟩ ⟨List.drop_zero .., hm⟩
          rintro ⟨rs126, v86_1⟩ ⟨hd112, hm⟩ ih127
          cases rs126 with
          | nil =>
            replace hm := (hfn131 _ _).symm.trans hm
            try dsimp only at hm
            refine GS.seq ?_
            refine GS.region (env' := fun _ => [(2, .pointer (some ⟨(fr1 0).x, 0, none⟩)), (3, .pointer (some ⟨(fr1 1).x, 0, none⟩)), (85, .int .i64 ((a0_Items.length : Nat) : Int)), (86, .int .i64 ((v86_1 : Nat) : Int)), (87, .bool (decide (((v86_1 : Nat) : Int) < ((a0_Items.length : Nat) : Int))))]) (mem' := fun _ => [(1, r52 a0_Log_o a0_Log), (2, r47 a0_Lasts_o a0_Lasts), (3, r42 a0_Items_o a0_Items), (4, r52 a1_Log_o a1_Log), (5, r47 a1_Lasts_o a1_Lasts), (6, r42 a1_Items_o a1_Items), (7, .cells ((fr1 0).x) 28 [.int .i64 a0_Les, .int .i64 a0_Tail.Epoch, .int .i64 a0_Tail.N, .slice a0_Log_o a0_Log.length a0_Log_c, .slice a0_Lasts_o a0_Lasts.length a0_Lasts_c, .slice a0_Items_o a0_Items.length a0_Items_c]), (8, .cells ((fr1 1).x) 28 [.int .i64 a1_Les, .int .i64 a1_Tail.Epoch, .int .i64 a1_Tail.N, .slice a1_Log_o a1_Log.length a1_Log_c, .slice a1_Lasts_o a1_Lasts.length a1_Lasts_c, .slice a1_Items_o a1_Items.length a1_Items_c])]) (RunsTo.mk [] [2, 3, 85, 86, 87] [1, 2, 3, 4, 5, 6, 7, 8] (fun _ => []) (fun _ => by kernel_rfl) (fun _ => trivial)) ?_
            intro _
            refine GS.seq ?_
            refine GS.cond (t := decide (((v86_1 : Nat) : Int) < ((a0_Items.length : Nat) : Int))) rfl rfl (fun h124 => absb h124 (drop_dec0 hd112)) (fun _ => ?_)
            refine GS.exit rfl ?_
            refine GS.seq ?_
            refine GS.region (env' := fun _ => [(4, .bool true)]) (mem' := fun _ => []) (RunsTo.mk [] [4] [] (fun _ => []) (fun _ => by kernel_rfl) (fun _ => trivial)) ?_
            intro _
            have hy := Option.some.inj hm
            subst hy
            refine GS.ret (fn := Try.f10) [0] [.bool true] [] rfl Try.func10 (by kernel_rfl) trivial (fun w' hs => ?_)
            exact ⟨(), rfl, hs.turnedG (ks := []) rfl rfl (ownAllG rfl)⟩
          | cons x114 rs126 =>
            replace hm := (hst130 _ _ _ _).symm.trans hm
            try dsimp only at hm
            refine GS.seq ?_
            refine GS.region (env' := fun _ => [(2, .pointer (some ⟨(fr1 0).x, 0, none⟩)), (3, .pointer (some ⟨(fr1 1).x, 0, none⟩)), (85, .int .i64 ((a0_Items.length : Nat) : Int)), (86, .int .i64 ((v86_1 : Nat) : Int)), (87, .bool (decide (((v86_1 : Nat) : Int) < ((a0_Items.length : Nat) : Int))))]) (mem' := fun _ => [(1, r52 a0_Log_o a0_Log), (2, r47 a0_Lasts_o a0_Lasts), (3, r42 a0_Items_o a0_Items), (4, r52 a1_Log_o a1_Log), (5, r47 a1_Lasts_o a1_Lasts), (6, r42 a1_Items_o a1_Items), (7, .cells ((fr1 0).x) 28 [.int .i64 a0_Les, .int .i64 a0_Tail.Epoch, .int .i64 a0_Tail.N, .slice a0_Log_o a0_Log.length a0_Log_c, .slice a0_Lasts_o a0_Lasts.length a0_Lasts_c, .slice a0_Items_o a0_Items.length a0_Items_c]), (8, .cells ((fr1 1).x) 28 [.int .i64 a1_Les, .int .i64 a1_Tail.Epoch, .int .i64 a1_Tail.N, .slice a1_Log_o a1_Log.length a1_Log_c, .slice a1_Lasts_o a1_Lasts.length a1_Lasts_c, .slice a1_Items_o a1_Items.length a1_Items_c])]) (RunsTo.mk [] [2, 3, 85, 86, 87] [1, 2, 3, 4, 5, 6, 7, 8] (fun _ => []) (fun _ => by kernel_rfl) (fun _ => trivial)) ?_
            intro _
            refine GS.seq ?_
            refine GS.cond (t := decide (((v86_1 : Nat) : Int) < ((a0_Items.length : Nat) : Int))) rfl rfl (fun _ => ?_) (fun h116 => absb (drop_dec hd112) h116)
            refine GS.skip ?_
            refine GS.seq ?_
            refine GS.block ?_
            refine GS.seq ?_
            refine GS.region (env' := fun _ => [(2, .pointer (some ⟨(fr1 0).x, 0, none⟩)), (3, .pointer (some ⟨(fr1 1).x, 0, none⟩)), (7, .int .i64 ((v86_1 : Nat) : Int)), (85, .int .i64 ((a0_Items.length : Nat) : Int)), (86, .int .i64 ((v86_1 : Nat) : Int))]) (mem' := fun _ => [(1, r52 a0_Log_o a0_Log), (2, r47 a0_Lasts_o a0_Lasts), (3, r42 a0_Items_o a0_Items), (4, r52 a1_Log_o a1_Log), (5, r47 a1_Lasts_o a1_Lasts), (6, r42 a1_Items_o a1_Items), (7, .cells ((fr1 0).x) 28 [.int .i64 a0_Les, .int .i64 a0_Tail.Epoch, .int .i64 a0_Tail.N, .slice a0_Log_o a0_Log.length a0_Log_c, .slice a0_Lasts_o a0_Lasts.length a0_Lasts_c, .slice a0_Items_o a0_Items.length a0_Items_c]), (8, .cells ((fr1 1).x) 28 [.int .i64 a1_Les, .int .i64 a1_Tail.Epoch, .int .i64 a1_Tail.N, .slice a1_Log_o a1_Log.length a1_Log_c, .slice a1_Lasts_o a1_Lasts.length a1_Lasts_c, .slice a1_Items_o a1_Items.length a1_Items_c])]) (RunsTo.mk [] [2, 3, 7, 85, 86] [1, 2, 3, 4, 5, 6, 7, 8] (fun _ => []) (fun _ => by kernel_rfl) (fun _ => trivial)) ?_
            intro _
            refine GS.seq ?_
            refine grd_elim hm (fun g119 hm => ?_)
            refine GS.region (env' := fun _ => [(2, .pointer (some ⟨(fr1 0).x, 0, none⟩)), (3, .pointer (some ⟨(fr1 1).x, 0, none⟩)), (85, .int .i64 ((a0_Items.length : Nat) : Int)), (86, .int .i64 ((v86_1 : Nat) : Int)), (99, .bool (!(S_api_Item.beq x114 (a1_Items.getD v86_1 dS_api_Item))))]) (mem' := fun _ => [(1, r52 a0_Log_o a0_Log), (2, r47 a0_Lasts_o a0_Lasts), (3, r42 a0_Items_o a0_Items), (4, r52 a1_Log_o a1_Log), (5, r47 a1_Lasts_o a1_Lasts), (6, r42 a1_Items_o a1_Items), (7, .cells ((fr1 0).x) 28 [.int .i64 a0_Les, .int .i64 a0_Tail.Epoch, .int .i64 a0_Tail.N, .slice a0_Log_o a0_Log.length a0_Log_c, .slice a0_Lasts_o a0_Lasts.length a0_Lasts_c, .slice a0_Items_o a0_Items.length a0_Items_c]), (8, .cells ((fr1 1).x) 28 [.int .i64 a1_Les, .int .i64 a1_Tail.Epoch, .int .i64 a1_Tail.N, .slice a1_Log_o a1_Log.length a1_Log_c, .slice a1_Lasts_o a1_Lasts.length a1_Lasts_c, .slice a1_Items_o a1_Items.length a1_Items_c])]) (RunsTo.mkd [(1, { act := .load 7 0 0 [] }), (3, { act := .idx 3 v86_1 }), (4, { act := .load 3 v86_1 0 [.string x114.Name, .int .i64 x114.Version.Epoch, .int .i64 x114.Version.N, .int .u32 x114.Crc] }), (6, { act := .load 8 0 0 [] }), (8, { act := .idx 6 v86_1 }), (9, { act := .load 6 v86_1 0 [.string ((a1_Items.getD v86_1 dS_api_Item).Name), .int .i64 (((a1_Items.getD v86_1 dS_api_Item).Version).Epoch), .int .i64 (((a1_Items.getD v86_1 dS_api_Item).Version).N), .int .u32 ((a1_Items.getD v86_1 dS_api_Item).Crc)] }), (10, { act := .eq })] [2, 3, 85, 86, 99] [1, 2, 3, 4, 5, 6, 7, 8] (fun _ => [(fr1 0).x = (fr1 0).x, a0_Items_o = a0_Items_o, a0_Items.length = (List.map S_api_Item.row a0_Items).length, (((v86_1 : Nat) : Int) : Int) = ((v86_1 : Nat) : Int), v86_1 < a0_Items.length, blk a0_Items_o = blk a0_Items_o, offs a0_Items_o + v86_1 * 4 = offs a0_Items_o + (v86_1 * 4 + 0), (List.map S_api_Item.row a0_Items)[v86_1]? = some [.string x114.Name, .int .i64 x114.Version.Epoch, .int .i64 x114.Version.N, .int .u32 x114.Crc], (fr1 1).x = (fr1 1).x, a1_Items_o = a1_Items_o, a1_Items.length = (List.map S_api_Item.row a1_Items).length, (((v86_1 : Nat) : Int) : Int) = ((v86_1 : Nat) : Int), v86_1 < a1_Items.length, blk a1_Items_o = blk a1_Items_o, offs a1_Items_o + v86_1 * 4 = offs a1_Items_o + (v86_1 * 4 + 0), (List.map S_api_Item.row a1_Items)[v86_1]? = some [.string ((a1_Items.getD v86_1 dS_api_Item).Name), .int .i64 (((a1_Items.getD v86_1 dS_api_Item).Version).Epoch), .int .i64 (((a1_Items.getD v86_1 dS_api_Item).Version).N), .int .u32 ((a1_Items.getD v86_1 dS_api_Item).Crc)]]) (by kernel_rfl) (by kernel_rfl) (fun _ => by kernel_rfl) (fun _ => ⟨rfl, rfl, mlen S_api_Item.row a0_Items, rfl, (drop_lt hd112), rfl, rfl, map_drop S_api_Item.row hd112, rfl, rfl, mlen S_api_Item.row a1_Items, rfl, g119, rfl, rfl, map_at S_api_Item.row dS_api_Item g119, trivial⟩)) ?_
            intro _
            refine GS.cond (t := !(S_api_Item.beq x114 (a1_Items.getD v86_1 dS_api_Item))) rfl rfl (fun h120 => ?_) (fun h120 => ?_)
            · replace hm := br_t h120 hm
              refine GS.seq ?_
              refine GS.region (env' := fun _ => [(4, .bool false)]) (mem' := fun _ => []) (RunsTo.mk [] [4] [] (fun _ => []) (fun _ => by kernel_rfl) (fun _ => trivial)) ?_
              intro _
              have hy := Option.some.inj hm
              subst hy
              refine GS.ret (fn := Try.f10) [0] [.bool false] [] rfl Try.func10 (by kernel_rfl) trivial (fun w' hs => ?_)
              exact ⟨(), rfl, hs.turnedG (ks := []) rfl rfl (ownAllG rfl)⟩
            · replace hm := br_f h120 hm
              refine GS.skip ?_
              refine GS.inBlock ?_
              refine GS.region (env' := fun _ => [(2, .pointer (some ⟨(fr1 0).x, 0, none⟩)), (3, .pointer (some ⟨(fr1 1).x, 0, none⟩)), (85, .int .i64 ((a0_Items.length : Nat) : Int)), (86, .int .i64 ((v86_1 + 1 : Nat) : Int))]) (mem' := fun _ => [(1, r52 a0_Log_o a0_Log), (2, r47 a0_Lasts_o a0_Lasts), (3, r42 a0_Items_o a0_Items), (4, r52 a1_Log_o a1_Log), (5, r47 a1_Lasts_o a1_Lasts), (6, r42 a1_Items_o a1_Items), (7, .cells ((fr1 0).x) 28 [.int .i64 a0_Les, .int .i64 a0_Tail.Epoch, .int .i64 a0_Tail.N, .slice a0_Log_o a0_Log.length a0_Log_c, .slice a0_Lasts_o a0_Lasts.length a0_Lasts_c, .slice a0_Items_o a0_Items.length a0_Items_c]), (8, .cells ((fr1 1).x) 28 [.int .i64 a1_Les, .int .i64 a1_Tail.Epoch, .int .i64 a1_Tail.N, .slice a1_Log_o a1_Log.length a1_Log_c, .slice a1_Lasts_o a1_Lasts.length a1_Lasts_c, .slice a1_Items_o a1_Items.length a1_Items_c])]) (RunsTo.mk [(0, { sp := some (.int .i64 ((v86_1 + 1 : Nat) : Int)) })] [2, 3, 85, 86] [1, 2, 3, 4, 5, 6, 7, 8] (fun _ => [((.int .i64 (IntKind.i64.wrap (((v86_1 : Nat) : Int) + 1))) : Value) = .int .i64 ((v86_1 + 1 : Nat) : Int)]) (fun _ => by kernel_rfl) (fun _ => ⟨natw (drop_lt hd112) g113, trivial⟩)) ?_
              intro _
              refine GS.inLoop ?_
              refine GS.rekey (env' := [(2, .pointer (some ⟨(fr1 0).x, 0, none⟩)), (3, .pointer (some ⟨(fr1 1).x, 0, none⟩)), (85, .int .i64 ((a0_Items.length : Nat) : Int)), (86, .int .i64 ((v86_1 + 1 : Nat) : Int))]) (mem' := [(1, r52 a0_Log_o a0_Log), (2, r47 a0_Lasts_o a0_Lasts), (3, r42 a0_Items_o a0_Items), (4, r52 a1_Log_o a1_Log), (5, r47 a1_Lasts_o a1_Lasts), (6, r42 a1_Items_o a1_Items), (7, .cells ((fr1 0).x) 28 [.int .i64 a0_Les, .int .i64 a0_Tail.Epoch, .int .i64 a0_Tail.N, .slice a0_Log_o a0_Log.length a0_Log_c, .slice a0_Lasts_o a0_Lasts.length a0_Lasts_c, .slice a0_Items_o a0_Items.length a0_Items_c]), (8, .cells ((fr1 1).x) 28 [.int .i64 a1_Les, .int .i64 a1_Tail.Epoch, .int .i64 a1_Tail.N, .slice a1_Log_o a1_Log.length a1_Log_c, .slice a1_Lasts_o a1_Lasts.length a1_Lasts_c, .slice a1_Items_o a1_Items.length a1_Items_c])]) [2, 3, 85, 86] [(1, 1), (2, 2), (3, 3), (4, 4), (5, 5), (6, 6), (7, 7), (8, 8)] (by kernel_rfl) (by kernel_rfl) rfl ?_
              exact ih127 ⟨rs126, v86_1 + 1⟩ ⟨drop_next hd112, hm⟩ (Nat.lt_succ_self _)
        | cons x74 rs86 =>
          replace hm := (hst90 _ _ _ _).symm.trans hm
          try dsimp only at hm
          refine GS.seq ?_
          refine GS.region (env' := fun _ => [(2, .pointer (some ⟨(fr1 0).x, 0, none⟩)), (3, .pointer (some ⟨(fr1 1).x, 0, none⟩)), (67, .int .i64 ((a0_Lasts.length : Nat) : Int)), (68, .int .i64 ((v68_1 : Nat) : Int)), (69, .bool (decide (((v68_1 : Nat) : Int) < ((a0_Lasts.length : Nat) : Int))))]) (mem' := fun _ => [(1, r52 a0_Log_o a0_Log), (2, r47 a0_Lasts_o a0_Lasts), (3, r42 a0_Items_o a0_Items), (4, r52 a1_Log_o a1_Log), (5, r47 a1_Lasts_o a1_Lasts), (6, r42 a1_Items_o a1_Items), (7, .cells ((fr1 0).x) 28 [.int .i64 a0_Les, .int .i64 a0_Tail.Epoch, .int .i64 a0_Tail.N, .slice a0_Log_o a0_Log.length a0_Log_c, .slice a0_Lasts_o a0_Lasts.length a0_Lasts_c, .slice a0_Items_o a0_Items.length a0_Items_c]), (8, .cells ((fr1 1).x) 28 [.int .i64 a1_Les, .int .i64 a1_Tail.Epoch, .int .i64 a1_Tail.N, .slice a1_Log_o a1_Log.length a1_Log_c, .slice a1_Lasts_o a1_Lasts.length a1_Lasts_c, .slice a1_Items_o a1_Items.length a1_Items_c])]) (RunsTo.mk [] [2, 3, 67, 68, 69] [1, 2, 3, 4, 5, 6, 7, 8] (fun _ => []) (fun _ => by kernel_rfl) (fun _ => trivial)) ?_
          intro _
          refine GS.seq ?_
          refine GS.cond (t := decide (((v68_1 : Nat) : Int) < ((a0_Lasts.length : Nat) : Int))) rfl rfl (fun _ => ?_) (fun h76 => absb (drop_dec hd72) h76)
          refine GS.skip ?_
          refine GS.seq ?_
          refine GS.block ?_
          refine GS.seq ?_
          refine GS.region (env' := fun _ => [(2, .pointer (some ⟨(fr1 0).x, 0, none⟩)), (3, .pointer (some ⟨(fr1 1).x, 0, none⟩)), (6, .int .i64 ((v68_1 : Nat) : Int)), (67, .int .i64 ((a0_Lasts.length : Nat) : Int)), (68, .int .i64 ((v68_1 : Nat) : Int))]) (mem' := fun _ => [(1, r52 a0_Log_o a0_Log), (2, r47 a0_Lasts_o a0_Lasts), (3, r42 a0_Items_o a0_Items), (4, r52 a1_Log_o a1_Log), (5, r47 a1_Lasts_o a1_Lasts), (6, r42 a1_Items_o a1_Items), (7, .cells ((fr1 0).x) 28 [.int .i64 a0_Les, .int .i64 a0_Tail.Epoch, .int .i64 a0_Tail.N, .slice a0_Log_o a0_Log.length a0_Log_c, .slice a0_Lasts_o a0_Lasts.length a0_Lasts_c, .slice a0_Items_o a0_Items.length a0_Items_c]), (8, .cells ((fr1 1).x) 28 [.int .i64 a1_Les, .int .i64 a1_Tail.Epoch, .int .i64 a1_Tail.N, .slice a1_Log_o a1_Log.length a1_Log_c, .slice a1_Lasts_o a1_Lasts.length a1_Lasts_c, .slice a1_Items_o a1_Items.length a1_Items_c])]) (RunsTo.mk [] [2, 3, 6, 67, 68] [1, 2, 3, 4, 5, 6, 7, 8] (fun _ => []) (fun _ => by kernel_rfl) (fun _ => trivial)) ?_
          intro _
          refine GS.seq ?_
          refine grd_elim hm (fun g79 hm => ?_)
          refine GS.region (env' := fun _ => [(2, .pointer (some ⟨(fr1 0).x, 0, none⟩)), (3, .pointer (some ⟨(fr1 1).x, 0, none⟩)), (67, .int .i64 ((a0_Lasts.length : Nat) : Int)), (68, .int .i64 ((v68_1 : Nat) : Int)), (81, .bool (!(S_api_Last.beq x74 (a1_Lasts.getD v68_1 dS_api_Last))))]) (mem' := fun _ => [(1, r52 a0_Log_o a0_Log), (2, r47 a0_Lasts_o a0_Lasts), (3, r42 a0_Items_o a0_Items), (4, r52 a1_Log_o a1_Log), (5, r47 a1_Lasts_o a1_Lasts), (6, r42 a1_Items_o a1_Items), (7, .cells ((fr1 0).x) 28 [.int .i64 a0_Les, .int .i64 a0_Tail.Epoch, .int .i64 a0_Tail.N, .slice a0_Log_o a0_Log.length a0_Log_c, .slice a0_Lasts_o a0_Lasts.length a0_Lasts_c, .slice a0_Items_o a0_Items.length a0_Items_c]), (8, .cells ((fr1 1).x) 28 [.int .i64 a1_Les, .int .i64 a1_Tail.Epoch, .int .i64 a1_Tail.N, .slice a1_Log_o a1_Log.length a1_Log_c, .slice a1_Lasts_o a1_Lasts.length a1_Lasts_c, .slice a1_Items_o a1_Items.length a1_Items_c])]) (RunsTo.mkd [(1, { act := .load 7 0 0 [] }), (3, { act := .idx 2 v68_1 }), (4, { act := .load 2 v68_1 0 [.int .i64 x74.Client, .int .i64 x74.Number, .int .i64 x74.Errno, .int .i64 x74.Version.Epoch, .int .i64 x74.Version.N] }), (6, { act := .load 8 0 0 [] }), (8, { act := .idx 5 v68_1 }), (9, { act := .load 5 v68_1 0 [.int .i64 ((a1_Lasts.getD v68_1 dS_api_Last).Client), .int .i64 ((a1_Lasts.getD v68_1 dS_api_Last).Number), .int .i64 ((a1_Lasts.getD v68_1 dS_api_Last).Errno), .int .i64 (((a1_Lasts.getD v68_1 dS_api_Last).Version).Epoch), .int .i64 (((a1_Lasts.getD v68_1 dS_api_Last).Version).N)] }), (10, { act := .eq })] [2, 3, 67, 68, 81] [1, 2, 3, 4, 5, 6, 7, 8] (fun _ => [(fr1 0).x = (fr1 0).x, a0_Lasts_o = a0_Lasts_o, a0_Lasts.length = (List.map S_api_Last.row a0_Lasts).length, (((v68_1 : Nat) : Int) : Int) = ((v68_1 : Nat) : Int), v68_1 < a0_Lasts.length, blk a0_Lasts_o = blk a0_Lasts_o, offs a0_Lasts_o + v68_1 * 5 = offs a0_Lasts_o + (v68_1 * 5 + 0), (List.map S_api_Last.row a0_Lasts)[v68_1]? = some [.int .i64 x74.Client, .int .i64 x74.Number, .int .i64 x74.Errno, .int .i64 x74.Version.Epoch, .int .i64 x74.Version.N], (fr1 1).x = (fr1 1).x, a1_Lasts_o = a1_Lasts_o, a1_Lasts.length = (List.map S_api_Last.row a1_Lasts).length, (((v68_1 : Nat) : Int) : Int) = ((v68_1 : Nat) : Int), v68_1 < a1_Lasts.length, blk a1_Lasts_o = blk a1_Lasts_o, offs a1_Lasts_o + v68_1 * 5 = offs a1_Lasts_o + (v68_1 * 5 + 0), (List.map S_api_Last.row a1_Lasts)[v68_1]? = some [.int .i64 ((a1_Lasts.getD v68_1 dS_api_Last).Client), .int .i64 ((a1_Lasts.getD v68_1 dS_api_Last).Number), .int .i64 ((a1_Lasts.getD v68_1 dS_api_Last).Errno), .int .i64 (((a1_Lasts.getD v68_1 dS_api_Last).Version).Epoch), .int .i64 (((a1_Lasts.getD v68_1 dS_api_Last).Version).N)]]) (by kernel_rfl) (by kernel_rfl) (fun _ => by kernel_rfl) (fun _ => ⟨rfl, rfl, mlen S_api_Last.row a0_Lasts, rfl, (drop_lt hd72), rfl, rfl, map_drop S_api_Last.row hd72, rfl, rfl, mlen S_api_Last.row a1_Lasts, rfl, g79, rfl, rfl, map_at S_api_Last.row dS_api_Last g79, trivial⟩)) ?_
          intro _
          refine GS.cond (t := !(S_api_Last.beq x74 (a1_Lasts.getD v68_1 dS_api_Last))) rfl rfl (fun h80 => ?_) (fun h80 => ?_)
          · replace hm := br_t h80 hm
            refine GS.seq ?_
            refine GS.region (env' := fun _ => [(4, .bool false)]) (mem' := fun _ => []) (RunsTo.mk [] [4] [] (fun _ => []) (fun _ => by kernel_rfl) (fun _ => trivial)) ?_
            intro _
            have hy := Option.some.inj hm
            subst hy
            refine GS.ret (fn := Try.f10) [0] [.bool false] [] rfl Try.func10 (by kernel_rfl) trivial (fun w' hs => ?_)
            exact ⟨(), rfl, hs.turnedG (ks := []) rfl rfl (ownAllG rfl)⟩
          · replace hm := br_f h80 hm
            refine GS.skip ?_
            refine GS.inBlock ?_
            refine GS.region (env' := fun _ => [(2, .pointer (some ⟨(fr1 0).x, 0, none⟩)), (3, .pointer (some ⟨(fr1 1).x, 0, none⟩)), (67, .int .i64 ((a0_Lasts.length : Nat) : Int)), (68, .int .i64 ((v68_1 + 1 : Nat) : Int))]) (mem' := fun _ => [(1, r52 a0_Log_o a0_Log), (2, r47 a0_Lasts_o a0_Lasts), (3, r42 a0_Items_o a0_Items), (4, r52 a1_Log_o a1_Log), (5, r47 a1_Lasts_o a1_Lasts), (6, r42 a1_Items_o a1_Items), (7, .cells ((fr1 0).x) 28 [.int .i64 a0_Les, .int .i64 a0_Tail.Epoch, .int .i64 a0_Tail.N, .slice a0_Log_o a0_Log.length a0_Log_c, .slice a0_Lasts_o a0_Lasts.length a0_Lasts_c, .slice a0_Items_o a0_Items.length a0_Items_c]), (8, .cells ((fr1 1).x) 28 [.int .i64 a1_Les, .int .i64 a1_Tail.Epoch, .int .i64 a1_Tail.N, .slice a1_Log_o a1_Log.length a1_Log_c, .slice a1_Lasts_o a1_Lasts.length a1_Lasts_c, .slice a1_Items_o a1_Items.length a1_Items_c])]) (RunsTo.mk [(0, { sp := some (.int .i64 ((v68_1 + 1 : Nat) : Int)) })] [2, 3, 67, 68] [1, 2, 3, 4, 5, 6, 7, 8] (fun _ => [((.int .i64 (IntKind.i64.wrap (((v68_1 : Nat) : Int) + 1))) : Value) = .int .i64 ((v68_1 + 1 : Nat) : Int)]) (fun _ => by kernel_rfl) (fun _ => ⟨natw (drop_lt hd72) g73, trivial⟩)) ?_
            intro _
            refine GS.inLoop ?_
            refine GS.rekey (env' := [(2, .pointer (some ⟨(fr1 0).x, 0, none⟩)), (3, .pointer (some ⟨(fr1 1).x, 0, none⟩)), (67, .int .i64 ((a0_Lasts.length : Nat) : Int)), (68, .int .i64 ((v68_1 + 1 : Nat) : Int))]) (mem' := [(1, r52 a0_Log_o a0_Log), (2, r47 a0_Lasts_o a0_Lasts), (3, r42 a0_Items_o a0_Items), (4, r52 a1_Log_o a1_Log), (5, r47 a1_Lasts_o a1_Lasts), (6, r42 a1_Items_o a1_Items), (7, .cells ((fr1 0).x) 28 [.int .i64 a0_Les, .int .i64 a0_Tail.Epoch, .int .i64 a0_Tail.N, .slice a0_Log_o a0_Log.length a0_Log_c, .slice a0_Lasts_o a0_Lasts.length a0_Lasts_c, .slice a0_Items_o a0_Items.length a0_Items_c]), (8, .cells ((fr1 1).x) 28 [.int .i64 a1_Les, .int .i64 a1_Tail.Epoch, .int .i64 a1_Tail.N, .slice a1_Log_o a1_Log.length a1_Log_c, .slice a1_Lasts_o a1_Lasts.length a1_Lasts_c, .slice a1_Items_o a1_Items.length a1_Items_c])]) [2, 3, 67, 68] [(1, 1), (2, 2), (3, 3), (4, 4), (5, 5), (6, 6), (7, 7), (8, 8)] (by kernel_rfl) (by kernel_rfl) rfl ?_
            exact ih87 ⟨rs86, v68_1 + 1⟩ ⟨drop_next hd72, hm⟩ (Nat.lt_succ_self _)
      | cons x34 rs46 =>
        replace hm := (hst50 _ _ _ _).symm.trans hm
        try dsimp only at hm
        refine GS.seq ?_
        refine GS.region (env' := fun _ => [(2, .pointer (some ⟨(fr1 0).x, 0, none⟩)), (3, .pointer (some ⟨(fr1 1).x, 0, none⟩)), (49, .int .i64 ((a0_Log.length : Nat) : Int)), (50, .int .i64 ((v50_1 : Nat) : Int)), (51, .bool (decide (((v50_1 : Nat) : Int) < ((a0_Log.length : Nat) : Int))))]) (mem' := fun _ => [(1, r52 a0_Log_o a0_Log), (2, r47 a0_Lasts_o a0_Lasts), (3, r42 a0_Items_o a0_Items), (4, r52 a1_Log_o a1_Log), (5, r47 a1_Lasts_o a1_Lasts), (6, r42 a1_Items_o a1_Items), (7, .cells ((fr1 0).x) 28 [.int .i64 a0_Les, .int .i64 a0_Tail.Epoch, .int .i64 a0_Tail.N, .slice a0_Log_o a0_Log.length a0_Log_c, .slice a0_Lasts_o a0_Lasts.length a0_Lasts_c, .slice a0_Items_o a0_Items.length a0_Items_c]), (8, .cells ((fr1 1).x) 28 [.int .i64 a1_Les, .int .i64 a1_Tail.Epoch, .int .i64 a1_Tail.N, .slice a1_Log_o a1_Log.length a1_Log_c, .slice a1_Lasts_o a1_Lasts.length a1_Lasts_c, .slice a1_Items_o a1_Items.length a1_Items_c])]) (RunsTo.mk [] [2, 3, 49, 50, 51] [1, 2, 3, 4, 5, 6, 7, 8] (fun _ => []) (fun _ => by kernel_rfl) (fun _ => trivial)) ?_
        intro _
        refine GS.seq ?_
        refine GS.cond (t := decide (((v50_1 : Nat) : Int) < ((a0_Log.length : Nat) : Int))) rfl rfl (fun _ => ?_) (fun h36 => absb (drop_dec hd32) h36)
        refine GS.skip ?_
        refine GS.seq ?_
        refine GS.block ?_
        refine GS.seq ?_
        refine GS.region (env' := fun _ => [(2, .pointer (some ⟨(fr1 0).x, 0, none⟩)), (3, .pointer (some ⟨(fr1 1).x, 0, none⟩)), (5, .int .i64 ((v50_1 : Nat) : Int)), (49, .int .i64 ((a0_Log.length : Nat) : Int)), (50, .int .i64 ((v50_1 : Nat) : Int))]) (mem' := fun _ => [(1, r52 a0_Log_o a0_Log), (2, r47 a0_Lasts_o a0_Lasts), (3, r42 a0_Items_o a0_Items), (4, r52 a1_Log_o a1_Log), (5, r47 a1_Lasts_o a1_Lasts), (6, r42 a1_Items_o a1_Items), (7, .cells ((fr1 0).x) 28 [.int .i64 a0_Les, .int .i64 a0_Tail.Epoch, .int .i64 a0_Tail.N, .slice a0_Log_o a0_Log.length a0_Log_c, .slice a0_Lasts_o a0_Lasts.length a0_Lasts_c, .slice a0_Items_o a0_Items.length a0_Items_c]), (8, .cells ((fr1 1).x) 28 [.int .i64 a1_Les, .int .i64 a1_Tail.Epoch, .int .i64 a1_Tail.N, .slice a1_Log_o a1_Log.length a1_Log_c, .slice a1_Lasts_o a1_Lasts.length a1_Lasts_c, .slice a1_Items_o a1_Items.length a1_Items_c])]) (RunsTo.mk [] [2, 3, 5, 49, 50] [1, 2, 3, 4, 5, 6, 7, 8] (fun _ => []) (fun _ => by kernel_rfl) (fun _ => trivial)) ?_
        intro _
        refine GS.seq ?_
        refine grd_elim hm (fun g39 hm => ?_)
        refine GS.region (env' := fun _ => [(2, .pointer (some ⟨(fr1 0).x, 0, none⟩)), (3, .pointer (some ⟨(fr1 1).x, 0, none⟩)), (49, .int .i64 ((a0_Log.length : Nat) : Int)), (50, .int .i64 ((v50_1 : Nat) : Int)), (63, .bool (!(S_api_Entry.beq x34 (a1_Log.getD v50_1 dS_api_Entry))))]) (mem' := fun _ => [(1, r52 a0_Log_o a0_Log), (2, r47 a0_Lasts_o a0_Lasts), (3, r42 a0_Items_o a0_Items), (4, r52 a1_Log_o a1_Log), (5, r47 a1_Lasts_o a1_Lasts), (6, r42 a1_Items_o a1_Items), (7, .cells ((fr1 0).x) 28 [.int .i64 a0_Les, .int .i64 a0_Tail.Epoch, .int .i64 a0_Tail.N, .slice a0_Log_o a0_Log.length a0_Log_c, .slice a0_Lasts_o a0_Lasts.length a0_Lasts_c, .slice a0_Items_o a0_Items.length a0_Items_c]), (8, .cells ((fr1 1).x) 28 [.int .i64 a1_Les, .int .i64 a1_Tail.Epoch, .int .i64 a1_Tail.N, .slice a1_Log_o a1_Log.length a1_Log_c, .slice a1_Lasts_o a1_Lasts.length a1_Lasts_c, .slice a1_Items_o a1_Items.length a1_Items_c])]) (RunsTo.mkd [(1, { act := .load 7 0 0 [] }), (3, { act := .idx 1 v50_1 }), (4, { act := .load 1 v50_1 0 [.int .i64 x34.Version.Epoch, .int .i64 x34.Version.N, .bool x34.Remove, .int .i64 x34.Errno, .string x34.Name, .int .i64 x34.Client, .int .i64 x34.Number] }), (6, { act := .load 8 0 0 [] }), (8, { act := .idx 4 v50_1 }), (9, { act := .load 4 v50_1 0 [.int .i64 (((a1_Log.getD v50_1 dS_api_Entry).Version).Epoch), .int .i64 (((a1_Log.getD v50_1 dS_api_Entry).Version).N), .bool ((a1_Log.getD v50_1 dS_api_Entry).Remove), .int .i64 ((a1_Log.getD v50_1 dS_api_Entry).Errno), .string ((a1_Log.getD v50_1 dS_api_Entry).Name), .int .i64 ((a1_Log.getD v50_1 dS_api_Entry).Client), .int .i64 ((a1_Log.getD v50_1 dS_api_Entry).Number)] }), (10, { act := .eq })] [2, 3, 49, 50, 63] [1, 2, 3, 4, 5, 6, 7, 8] (fun _ => [(fr1 0).x = (fr1 0).x, a0_Log_o = a0_Log_o, a0_Log.length = (List.map S_api_Entry.row a0_Log).length, (((v50_1 : Nat) : Int) : Int) = ((v50_1 : Nat) : Int), v50_1 < a0_Log.length, blk a0_Log_o = blk a0_Log_o, offs a0_Log_o + v50_1 * 7 = offs a0_Log_o + (v50_1 * 7 + 0), (List.map S_api_Entry.row a0_Log)[v50_1]? = some [.int .i64 x34.Version.Epoch, .int .i64 x34.Version.N, .bool x34.Remove, .int .i64 x34.Errno, .string x34.Name, .int .i64 x34.Client, .int .i64 x34.Number], (fr1 1).x = (fr1 1).x, a1_Log_o = a1_Log_o, a1_Log.length = (List.map S_api_Entry.row a1_Log).length, (((v50_1 : Nat) : Int) : Int) = ((v50_1 : Nat) : Int), v50_1 < a1_Log.length, blk a1_Log_o = blk a1_Log_o, offs a1_Log_o + v50_1 * 7 = offs a1_Log_o + (v50_1 * 7 + 0), (List.map S_api_Entry.row a1_Log)[v50_1]? = some [.int .i64 (((a1_Log.getD v50_1 dS_api_Entry).Version).Epoch), .int .i64 (((a1_Log.getD v50_1 dS_api_Entry).Version).N), .bool ((a1_Log.getD v50_1 dS_api_Entry).Remove), .int .i64 ((a1_Log.getD v50_1 dS_api_Entry).Errno), .string ((a1_Log.getD v50_1 dS_api_Entry).Name), .int .i64 ((a1_Log.getD v50_1 dS_api_Entry).Client), .int .i64 ((a1_Log.getD v50_1 dS_api_Entry).Number)]]) (by kernel_rfl) (by kernel_rfl) (fun _ => by kernel_rfl) (fun _ => ⟨rfl, rfl, mlen S_api_Entry.row a0_Log, rfl, (drop_lt hd32), rfl, rfl, map_drop S_api_Entry.row hd32, rfl, rfl, mlen S_api_Entry.row a1_Log, rfl, g39, rfl, rfl, map_at S_api_Entry.row dS_api_Entry g39, trivial⟩)) ?_
        intro _
        refine GS.cond (t := !(S_api_Entry.beq x34 (a1_Log.getD v50_1 dS_api_Entry))) rfl rfl (fun h40 => ?_) (fun h40 => ?_)
        · replace hm := br_t h40 hm
          refine GS.seq ?_
          refine GS.region (env' := fun _ => [(4, .bool false)]) (mem' := fun _ => []) (RunsTo.mk [] [4] [] (fun _ => []) (fun _ => by kernel_rfl) (fun _ => trivial)) ?_
          intro _
          have hy := Option.some.inj hm
          subst hy
          refine GS.ret (fn := Try.f10) [0] [.bool false] [] rfl Try.func10 (by kernel_rfl) trivial (fun w' hs => ?_)
          exact ⟨(), rfl, hs.turnedG (ks := []) rfl rfl (ownAllG rfl)⟩
        · replace hm := br_f h40 hm
          refine GS.skip ?_
          refine GS.inBlock ?_
          refine GS.region (env' := fun _ => [(2, .pointer (some ⟨(fr1 0).x, 0, none⟩)), (3, .pointer (some ⟨(fr1 1).x, 0, none⟩)), (49, .int .i64 ((a0_Log.length : Nat) : Int)), (50, .int .i64 ((v50_1 + 1 : Nat) : Int))]) (mem' := fun _ => [(1, r52 a0_Log_o a0_Log), (2, r47 a0_Lasts_o a0_Lasts), (3, r42 a0_Items_o a0_Items), (4, r52 a1_Log_o a1_Log), (5, r47 a1_Lasts_o a1_Lasts), (6, r42 a1_Items_o a1_Items), (7, .cells ((fr1 0).x) 28 [.int .i64 a0_Les, .int .i64 a0_Tail.Epoch, .int .i64 a0_Tail.N, .slice a0_Log_o a0_Log.length a0_Log_c, .slice a0_Lasts_o a0_Lasts.length a0_Lasts_c, .slice a0_Items_o a0_Items.length a0_Items_c]), (8, .cells ((fr1 1).x) 28 [.int .i64 a1_Les, .int .i64 a1_Tail.Epoch, .int .i64 a1_Tail.N, .slice a1_Log_o a1_Log.length a1_Log_c, .slice a1_Lasts_o a1_Lasts.length a1_Lasts_c, .slice a1_Items_o a1_Items.length a1_Items_c])]) (RunsTo.mk [(0, { sp := some (.int .i64 ((v50_1 + 1 : Nat) : Int)) })] [2, 3, 49, 50] [1, 2, 3, 4, 5, 6, 7, 8] (fun _ => [((.int .i64 (IntKind.i64.wrap (((v50_1 : Nat) : Int) + 1))) : Value) = .int .i64 ((v50_1 + 1 : Nat) : Int)]) (fun _ => by kernel_rfl) (fun _ => ⟨natw (drop_lt hd32) g33, trivial⟩)) ?_
          intro _
          refine GS.inLoop ?_
          refine GS.rekey (env' := [(2, .pointer (some ⟨(fr1 0).x, 0, none⟩)), (3, .pointer (some ⟨(fr1 1).x, 0, none⟩)), (49, .int .i64 ((a0_Log.length : Nat) : Int)), (50, .int .i64 ((v50_1 + 1 : Nat) : Int))]) (mem' := [(1, r52 a0_Log_o a0_Log), (2, r47 a0_Lasts_o a0_Lasts), (3, r42 a0_Items_o a0_Items), (4, r52 a1_Log_o a1_Log), (5, r47 a1_Lasts_o a1_Lasts), (6, r42 a1_Items_o a1_Items), (7, .cells ((fr1 0).x) 28 [.int .i64 a0_Les, .int .i64 a0_Tail.Epoch, .int .i64 a0_Tail.N, .slice a0_Log_o a0_Log.length a0_Log_c, .slice a0_Lasts_o a0_Lasts.length a0_Lasts_c, .slice a0_Items_o a0_Items.length a0_Items_c]), (8, .cells ((fr1 1).x) 28 [.int .i64 a1_Les, .int .i64 a1_Tail.Epoch, .int .i64 a1_Tail.N, .slice a1_Log_o a1_Log.length a1_Log_c, .slice a1_Lasts_o a1_Lasts.length a1_Lasts_c, .slice a1_Items_o a1_Items.length a1_Items_c])]) [2, 3, 49, 50] [(1, 1), (2, 2), (3, 3), (4, 4), (5, 5), (6, 6), (7, 7), (8, 8)] (by kernel_rfl) (by kernel_rfl) rfl ?_
          exact ih47 ⟨rs46, v50_1 + 1⟩ ⟨drop_next hd32, hm⟩ (Nat.lt_succ_self _)

theorem w_pglog_Find (F : Nat) (a0_Les : Int) (a0_Tail : S_api_Version) (a0_Log_o : Option Addr) (a0_Log_c : Nat) (a0_Log : List S_api_Entry) (a0_Lasts_o : Option Addr) (a0_Lasts_c : Nat) (a0_Lasts : List S_api_Last) (a0_Items_o : Option Addr) (a0_Items_c : Nat) (a0_Items : List S_api_Item) (a1 : ByteArray) {y : S_api_Item × Bool} (hm : m_pglog_Find F a0_Les a0_Tail a0_Log a0_Lasts a0_Items a1 = some y) : CallG Try.prog 15 #[.agg #[.int .i64 a0_Les, .int .i64 a0_Tail.Epoch, .int .i64 a0_Tail.N, .slice a0_Log_o a0_Log.length a0_Log_c, .slice a0_Lasts_o a0_Lasts.length a0_Lasts_c, .slice a0_Items_o a0_Items.length a0_Items_c], .string a1] (X := Unit) (fun (_ : Unit) => .tuple #[.agg #[.string y.1.Name, .int .i64 y.1.Version.Epoch, .int .i64 y.1.Version.N, .int .u32 y.1.Crc], .bool y.2]) [] [r52 a0_Log_o a0_Log, r47 a0_Lasts_o a0_Lasts, r42 a0_Items_o a0_Items] (fun (_ : Unit) => []) := by
  intro w hg
  rw [m_pglog_Find] at hm
  refine GS.start (S := mayT []) (mem := [(1, r52 a0_Log_o a0_Log), (2, r47 a0_Lasts_o a0_Lasts), (3, r42 a0_Items_o a0_Items)]) Try.func15 rfl Try.ntmps15 (Nat.le_of_ble_eq_true rfl) (hg.start rfl) ?_
  refine GS.conv (env' := [(0, .agg #[.int .i64 a0_Les, .int .i64 a0_Tail.Epoch, .int .i64 a0_Tail.N, .slice a0_Log_o a0_Log.length a0_Log_c, .slice a0_Lasts_o a0_Lasts.length a0_Lasts_c, .slice a0_Items_o a0_Items.length a0_Items_c]), (1, .string a1)]) rfl rfl ?_
  refine GS.seq ?_
  refine GS.region (env' := fun fr1 => [(1, .string a1), (2, .pointer (some ⟨(fr1 0).x, 0, none⟩)), (4, .pointer (some ⟨(fr1 1).x, 0, none⟩))]) (mem' := fun fr1 => [(1, r52 a0_Log_o a0_Log), (2, r47 a0_Lasts_o a0_Lasts), (3, r42 a0_Items_o a0_Items), (4, .cells ((fr1 0).x) 28 [.int .i64 a0_Les, .int .i64 a0_Tail.Epoch, .int .i64 a0_Tail.N, .slice a0_Log_o a0_Log.length a0_Log_c, .slice a0_Lasts_o a0_Lasts.length a0_Lasts_c, .slice a0_Items_o a0_Items.length a0_Items_c]), (5, .cells ((fr1 1).x) 42 [.string (ByteArray.mk #[]), .int .i64 0, .int .i64 0, .int .u32 0])]) (RunsTo.mk [(0, { act := .new .var, key := some 4 }), (1, { act := .new .var, key := some 5 })] [1, 2, 4] [1, 2, 3, 4, 5] (fun fr1 => []) (fun fr1 => by kernel_rfl) (fun fr1 => trivial)) ?_
  intro fr1
  refine GS.seq ?_
  refine GS.seq ?_
  refine GS.region (env' := fun _ => [(1, .string a1), (4, .pointer (some ⟨(fr1 1).x, 0, none⟩)), (9, .slice a0_Items_o a0_Items.length a0_Items_c), (10, .int .i64 ((a0_Items.length : Nat) : Int)), (11, .int .i64 0)]) (mem' := fun _ => [(3, r42 a0_Items_o a0_Items), (5, .cells ((fr1 1).x) 42 [.string (ByteArray.mk #[]), .int .i64 0, .int .i64 0, .int .u32 0])]) (RunsTo.mk [(1, { act := .load 4 0 0 [] })] [1, 4, 9, 10, 11] [3, 5] (fun _ => [(fr1 0).x = (fr1 0).x]) (fun _ => by kernel_rfl) (fun _ => ⟨rfl, trivial⟩)) ?_
  intro _
  refine GS.block ?_
  refine GS.loop ?_
  refine grd_elim hm (fun g21 hm => ?_)
  refine GS.rekey (env' := [(1, .string a1), (4, .pointer (some ⟨(fr1 1).x, 0, none⟩)), (9, .slice a0_Items_o a0_Items.length a0_Items_c), (10, .int .i64 ((a0_Items.length : Nat) : Int)), (11, .int .i64 0)]) (mem' := [(3, r42 a0_Items_o a0_Items), (5, .cells ((fr1 1).x) 42 [.string (ByteArray.mk #[]), .int .i64 0, .int .i64 0, .int .u32 0])]) [1, 4, 9, 10, 11] [(3, 3), (5, 5)] (by kernel_rfl) (by kernel_rfl) rfl ?_
  refine loopL_elim hm (fun st35 fn36 hst37 hfn38 hm => ?_)
  refine GS.loopInv (ι := List S_api_Item × Nat) (I := fun ⟨rs33, v11_1⟩ => a0_Items.drop v11_1 = rs33 ∧ loopL st35 fn36 rs33 v11_1 () = some y) (μ := fun ⟨rs33, v11_1⟩ => rs33.length) (E := fun ⟨rs33, v11_1⟩ => [(1, .string a1), (4, .pointer (some ⟨(fr1 1).x, 0, none⟩)), (9, .slice a0_Items_o a0_Items.length a0_Items_c), (10, .int .i64 ((a0_Items.length : Nat) : Int)), (11, .int .i64 ((v11_1 : Nat) : Int))]) (M := fun ⟨rs33, v11_1⟩ => [(3, r42 a0_Items_o a0_Items), (5, .cells ((fr1 1).x) 42 [.string (ByteArray.mk #[]), .int .i64 0, .int .i64 0, .int .u32 0])]) ?_ ⟨a0_Items, 0⟩ ⟨List.drop_zero .., hm⟩
  rintro ⟨rs33, v11_1⟩ ⟨hd20, hm⟩ ih34
  cases rs33 with
  | nil =>
    replace hm := (hfn38 _ _).symm.trans hm
    try dsimp only at hm
    refine GS.seq ?_
    refine GS.region (env' := fun _ => [(1, .string a1), (4, .pointer (some ⟨(fr1 1).x, 0, none⟩)), (9, .slice a0_Items_o a0_Items.length a0_Items_c), (10, .int .i64 ((a0_Items.length : Nat) : Int)), (11, .int .i64 ((v11_1 : Nat) : Int)), (12, .bool (decide (((v11_1 : Nat) : Int) < ((a0_Items.length : Nat) : Int))))]) (mem' := fun _ => [(3, r42 a0_Items_o a0_Items), (5, .cells ((fr1 1).x) 42 [.string (ByteArray.mk #[]), .int .i64 0, .int .i64 0, .int .u32 0])]) (RunsTo.mk [] [1, 4, 9, 10, 11, 12] [3, 5] (fun _ => []) (fun _ => by kernel_rfl) (fun _ => trivial)) ?_
    intro _
    refine GS.seq ?_
    refine GS.cond (t := decide (((v11_1 : Nat) : Int) < ((a0_Items.length : Nat) : Int))) rfl rfl (fun h31 => absb h31 (drop_dec0 hd20)) (fun _ => ?_)
    refine GS.exit rfl ?_
    refine GS.seq ?_
    refine GS.region (env' := fun _ => [(4, .pointer (some ⟨(fr1 1).x, 0, none⟩)), (5, .bool false)]) (mem' := fun _ => [(5, .cells ((fr1 1).x) 42 [.string (ByteArray.mk #[]), .int .i64 0, .int .i64 0, .int .u32 0])]) (RunsTo.mk [(1, { act := .store 0 0 [], key := some 5 })] [4, 5] [5] (fun _ => [(fr1 1).x = (fr1 1).x, ((.agg #[.string (ByteArray.mk #[]), .int .i64 0, .int .i64 0, .int .u32 0]) : Value).cells.toList.all Value.oneCell' = true]) (fun _ => by kernel_rfl) (fun _ => ⟨rfl, rfl, trivial⟩)) ?_
    intro _
    have hy := Option.some.inj hm
    subst hy
    refine GS.ret (fn := Try.f15) [5, 0] [.agg #[.string (ByteArray.mk #[]), .int .i64 0, .int .i64 0, .int .u32 0], .bool false] [(fr1 1).x = (fr1 1).x] rfl Try.func15 (by kernel_rfl) ⟨rfl, trivial⟩ (fun w' hs => ?_)
    exact ⟨(), rfl, hs.turnedG (ks := []) rfl rfl (ownAllG rfl)⟩
  | cons x22 rs33 =>
    replace hm := (hst37 _ _ _ _).symm.trans hm
    try dsimp only at hm
    refine GS.seq ?_
    refine GS.region (env' := fun _ => [(1, .string a1), (4, .pointer (some ⟨(fr1 1).x, 0, none⟩)), (9, .slice a0_Items_o a0_Items.length a0_Items_c), (10, .int .i64 ((a0_Items.length : Nat) : Int)), (11, .int .i64 ((v11_1 : Nat) : Int)), (12, .bool (decide (((v11_1 : Nat) : Int) < ((a0_Items.length : Nat) : Int))))]) (mem' := fun _ => [(3, r42 a0_Items_o a0_Items), (5, .cells ((fr1 1).x) 42 [.string (ByteArray.mk #[]), .int .i64 0, .int .i64 0, .int .u32 0])]) (RunsTo.mk [] [1, 4, 9, 10, 11, 12] [3, 5] (fun _ => []) (fun _ => by kernel_rfl) (fun _ => trivial)) ?_
    intro _
    refine GS.seq ?_
    refine GS.cond (t := decide (((v11_1 : Nat) : Int) < ((a0_Items.length : Nat) : Int))) rfl rfl (fun _ => ?_) (fun h24 => absb (drop_dec hd20) h24)
    refine GS.skip ?_
    refine GS.seq ?_
    refine GS.block ?_
    refine GS.seq ?_
    refine GS.region (env' := fun fr25 => [(1, .string a1), (4, .pointer (some ⟨(fr1 1).x, 0, none⟩)), (7, .pointer (some ⟨(fr25 2).x, 0, none⟩)), (9, .slice a0_Items_o a0_Items.length a0_Items_c), (10, .int .i64 ((a0_Items.length : Nat) : Int)), (11, .int .i64 ((v11_1 : Nat) : Int))]) (mem' := fun fr25 => [(3, r42 a0_Items_o a0_Items), (5, .cells ((fr1 1).x) 42 [.string (ByteArray.mk #[]), .int .i64 0, .int .i64 0, .int .u32 0]), (6, .cells ((fr25 2).x) 42 [.string x22.Name, .int .i64 x22.Version.Epoch, .int .i64 x22.Version.N, .int .u32 x22.Crc])]) (RunsTo.mk [(0, { act := .idx 3 v11_1 }), (1, { act := .load 3 v11_1 0 [.string x22.Name, .int .i64 x22.Version.Epoch, .int .i64 x22.Version.N, .int .u32 x22.Crc] }), (2, { act := .new .var, key := some 6 }), (3, { act := .store 0 0 [], key := some 6 })] [1, 4, 7, 9, 10, 11] [3, 5, 6] (fun fr25 => [a0_Items_o = a0_Items_o, a0_Items.length = (List.map S_api_Item.row a0_Items).length, (((v11_1 : Nat) : Int) : Int) = ((v11_1 : Nat) : Int), v11_1 < a0_Items.length, blk a0_Items_o = blk a0_Items_o, offs a0_Items_o + v11_1 * 4 = offs a0_Items_o + (v11_1 * 4 + 0), (List.map S_api_Item.row a0_Items)[v11_1]? = some [.string x22.Name, .int .i64 x22.Version.Epoch, .int .i64 x22.Version.N, .int .u32 x22.Crc], (fr25 2).x = (fr25 2).x, ((.agg #[.string x22.Name, .int .i64 x22.Version.Epoch, .int .i64 x22.Version.N, .int .u32 x22.Crc]) : Value).cells.toList.all Value.oneCell' = true]) (fun fr25 => by kernel_rfl) (fun fr25 => ⟨rfl, mlen S_api_Item.row a0_Items, rfl, (drop_lt hd20), rfl, rfl, map_drop S_api_Item.row hd20, rfl, rfl, trivial⟩)) ?_
    intro fr25
    refine GS.seq ?_
    refine GS.region (env' := fun _ => [(1, .string a1), (4, .pointer (some ⟨(fr1 1).x, 0, none⟩)), (7, .pointer (some ⟨(fr25 2).x, 0, none⟩)), (9, .slice a0_Items_o a0_Items.length a0_Items_c), (10, .int .i64 ((a0_Items.length : Nat) : Int)), (11, .int .i64 ((v11_1 : Nat) : Int)), (18, .bool (x22.Name.toList == a1.toList))]) (mem' := fun _ => [(3, r42 a0_Items_o a0_Items), (5, .cells ((fr1 1).x) 42 [.string (ByteArray.mk #[]), .int .i64 0, .int .i64 0, .int .u32 0]), (6, .cells ((fr25 2).x) 42 [.string x22.Name, .int .i64 x22.Version.Epoch, .int .i64 x22.Version.N, .int .u32 x22.Crc])]) (RunsTo.mk [(1, { act := .load 6 0 0 [] })] [1, 4, 7, 9, 10, 11, 18] [3, 5, 6] (fun _ => [(fr25 2).x = (fr25 2).x]) (fun _ => by kernel_rfl) (fun _ => ⟨rfl, trivial⟩)) ?_
    intro _
    refine GS.cond (t := x22.Name.toList == a1.toList) rfl rfl (fun h27 => ?_) (fun h27 => ?_)
    · replace hm := br_t h27 hm
      refine GS.seq ?_
      refine GS.region (env' := fun _ => [(4, .pointer (some ⟨(fr1 1).x, 0, none⟩)), (5, .bool true)]) (mem' := fun _ => [(5, .cells ((fr1 1).x) 42 [.string x22.Name, .int .i64 x22.Version.Epoch, .int .i64 x22.Version.N, .int .u32 x22.Crc])]) (RunsTo.mk [(0, { act := .load 6 0 0 [] }), (1, { act := .store 0 0 [], key := some 5 })] [4, 5] [5] (fun _ => [(fr25 2).x = (fr25 2).x, (fr1 1).x = (fr1 1).x, ((.agg #[.string x22.Name, .int .i64 x22.Version.Epoch, .int .i64 x22.Version.N, .int .u32 x22.Crc]) : Value).cells.toList.all Value.oneCell' = true]) (fun _ => by kernel_rfl) (fun _ => ⟨rfl, rfl, rfl, trivial⟩)) ?_
      intro _
      have hy := Option.some.inj hm
      subst hy
      refine GS.ret (fn := Try.f15) [5, 0] [.agg #[.string x22.Name, .int .i64 x22.Version.Epoch, .int .i64 x22.Version.N, .int .u32 x22.Crc], .bool true] [(fr1 1).x = (fr1 1).x] rfl Try.func15 (by kernel_rfl) ⟨rfl, trivial⟩ (fun w' hs => ?_)
      exact ⟨(), rfl, hs.turnedG (ks := []) rfl rfl (ownAllG rfl)⟩
    · replace hm := br_f h27 hm
      refine GS.skip ?_
      refine GS.inBlock ?_
      refine GS.region (env' := fun _ => [(1, .string a1), (4, .pointer (some ⟨(fr1 1).x, 0, none⟩)), (9, .slice a0_Items_o a0_Items.length a0_Items_c), (10, .int .i64 ((a0_Items.length : Nat) : Int)), (11, .int .i64 ((v11_1 + 1 : Nat) : Int))]) (mem' := fun _ => [(3, r42 a0_Items_o a0_Items), (5, .cells ((fr1 1).x) 42 [.string (ByteArray.mk #[]), .int .i64 0, .int .i64 0, .int .u32 0])]) (RunsTo.mk [(0, { sp := some (.int .i64 ((v11_1 + 1 : Nat) : Int)) })] [1, 4, 9, 10, 11] [3, 5] (fun _ => [((.int .i64 (IntKind.i64.wrap (((v11_1 : Nat) : Int) + 1))) : Value) = .int .i64 ((v11_1 + 1 : Nat) : Int)]) (fun _ => by kernel_rfl) (fun _ => ⟨natw (drop_lt hd20) g21, trivial⟩)) ?_
      intro _
      refine GS.inLoop ?_
      refine GS.rekey (env' := [(1, .string a1), (4, .pointer (some ⟨(fr1 1).x, 0, none⟩)), (9, .slice a0_Items_o a0_Items.length a0_Items_c), (10, .int .i64 ((a0_Items.length : Nat) : Int)), (11, .int .i64 ((v11_1 + 1 : Nat) : Int))]) (mem' := [(3, r42 a0_Items_o a0_Items), (5, .cells ((fr1 1).x) 42 [.string (ByteArray.mk #[]), .int .i64 0, .int .i64 0, .int .u32 0])]) [1, 4, 9, 10, 11] [(3, 3), (5, 5)] (by kernel_rfl) (by kernel_rfl) rfl ?_
      exact ih34 ⟨rs33, v11_1 + 1⟩ ⟨drop_next hd20, hm⟩ (Nat.lt_succ_self _)

theorem w_pglog_Head (F : Nat) (a0_Les : Int) (a0_Tail : S_api_Version) (a0_Log_o : Option Addr) (a0_Log_c : Nat) (a0_Log : List S_api_Entry) (a0_Lasts_o : Option Addr) (a0_Lasts_c : Nat) (a0_Lasts : List S_api_Last) (a0_Items_o : Option Addr) (a0_Items_c : Nat) (a0_Items : List S_api_Item) {y : S_api_Version} (hm : m_pglog_Head F a0_Les a0_Tail a0_Log a0_Lasts a0_Items = some y) : CallG Try.prog 23 #[.agg #[.int .i64 a0_Les, .int .i64 a0_Tail.Epoch, .int .i64 a0_Tail.N, .slice a0_Log_o a0_Log.length a0_Log_c, .slice a0_Lasts_o a0_Lasts.length a0_Lasts_c, .slice a0_Items_o a0_Items.length a0_Items_c]] (X := Unit) (fun (_ : Unit) => .agg #[.int .i64 y.Epoch, .int .i64 y.N]) [] [r52 a0_Log_o a0_Log, r47 a0_Lasts_o a0_Lasts, r42 a0_Items_o a0_Items] (fun (_ : Unit) => []) := by
  intro w hg
  rw [m_pglog_Head] at hm
  refine GS.start (S := mayT []) (mem := [(1, r52 a0_Log_o a0_Log), (2, r47 a0_Lasts_o a0_Lasts), (3, r42 a0_Items_o a0_Items)]) Try.func23 rfl Try.ntmps23 (Nat.le_of_ble_eq_true rfl) (hg.start rfl) ?_
  refine GS.conv (env' := [(0, .agg #[.int .i64 a0_Les, .int .i64 a0_Tail.Epoch, .int .i64 a0_Tail.N, .slice a0_Log_o a0_Log.length a0_Log_c, .slice a0_Lasts_o a0_Lasts.length a0_Lasts_c, .slice a0_Items_o a0_Items.length a0_Items_c])]) rfl rfl ?_
  refine GS.seq ?_
  refine GS.region (env' := fun fr1 => [(1, .pointer (some ⟨(fr1 0).x, 0, none⟩)), (2, .pointer (some ⟨(fr1 1).x, 0, none⟩))]) (mem' := fun fr1 => [(1, r52 a0_Log_o a0_Log), (2, r47 a0_Lasts_o a0_Lasts), (3, r42 a0_Items_o a0_Items), (4, .cells ((fr1 0).x) 28 [.int .i64 a0_Les, .int .i64 a0_Tail.Epoch, .int .i64 a0_Tail.N, .slice a0_Log_o a0_Log.length a0_Log_c, .slice a0_Lasts_o a0_Lasts.length a0_Lasts_c, .slice a0_Items_o a0_Items.length a0_Items_c]), (5, .cells ((fr1 1).x) 23 [.int .i64 0, .int .i64 0])]) (RunsTo.mk [(0, { act := .new .var, key := some 4 }), (1, { act := .new .var, key := some 5 })] [1, 2] [1, 2, 3, 4, 5] (fun fr1 => []) (fun fr1 => by kernel_rfl) (fun fr1 => trivial)) ?_
  intro fr1
  refine GS.seq ?_
  refine GS.seq ?_
  refine GS.region (env' := fun _ => [(1, .pointer (some ⟨(fr1 0).x, 0, none⟩)), (2, .pointer (some ⟨(fr1 1).x, 0, none⟩)), (3, .int .i64 ((a0_Log.length : Nat) : Int))]) (mem' := fun _ => [(1, r52 a0_Log_o a0_Log), (2, r47 a0_Lasts_o a0_Lasts), (3, r42 a0_Items_o a0_Items), (4, .cells ((fr1 0).x) 28 [.int .i64 a0_Les, .int .i64 a0_Tail.Epoch, .int .i64 a0_Tail.N, .slice a0_Log_o a0_Log.length a0_Log_c, .slice a0_Lasts_o a0_Lasts.length a0_Lasts_c, .slice a0_Items_o a0_Items.length a0_Items_c]), (5, .cells ((fr1 1).x) 23 [.int .i64 0, .int .i64 0])]) (RunsTo.mk [(1, { act := .load 4 0 0 [] })] [1, 2, 3] [1, 2, 3, 4, 5] (fun _ => [(fr1 0).x = (fr1 0).x]) (fun _ => by kernel_rfl) (fun _ => ⟨rfl, trivial⟩)) ?_
  intro _
  refine GS.seq ?_
  refine GS.region (env' := fun _ => [(1, .pointer (some ⟨(fr1 0).x, 0, none⟩)), (2, .pointer (some ⟨(fr1 1).x, 0, none⟩)), (3, .int .i64 ((a0_Log.length : Nat) : Int)), (8, .bool (decide (((a0_Log.length : Nat) : Int) > 0)))]) (mem' := fun _ => [(1, r52 a0_Log_o a0_Log), (2, r47 a0_Lasts_o a0_Lasts), (3, r42 a0_Items_o a0_Items), (4, .cells ((fr1 0).x) 28 [.int .i64 a0_Les, .int .i64 a0_Tail.Epoch, .int .i64 a0_Tail.N, .slice a0_Log_o a0_Log.length a0_Log_c, .slice a0_Lasts_o a0_Lasts.length a0_Lasts_c, .slice a0_Items_o a0_Items.length a0_Items_c]), (5, .cells ((fr1 1).x) 23 [.int .i64 0, .int .i64 0])]) (RunsTo.mk [] [1, 2, 3, 8] [1, 2, 3, 4, 5] (fun _ => []) (fun _ => by kernel_rfl) (fun _ => trivial)) ?_
  intro _
  refine GS.cond (t := decide (((a0_Log.length : Nat) : Int) > 0)) rfl rfl (fun h4 => ?_) (fun h4 => ?_)
  · replace hm := br_t h4 hm
    refine GS.seq ?_
    refine grd_elim hm (fun g6 hm => ?_)
    refine grd_elim hm (fun g7 hm => ?_)
    refine GS.region (env' := fun _ => [(2, .pointer (some ⟨(fr1 1).x, 0, none⟩))]) (mem' := fun _ => [(5, .cells ((fr1 1).x) 23 [.int .i64 (((a0_Log.getD (Int.toNat (((a0_Log.length : Nat) : Int) - 1)) dS_api_Entry).Version).Epoch), .int .i64 (((a0_Log.getD (Int.toNat (((a0_Log.length : Nat) : Int) - 1)) dS_api_Entry).Version).N)])]) (RunsTo.mk [(1, { act := .load 4 0 0 [] }), (3, { sp := some (.int .i64 (((a0_Log.length : Nat) : Int) - 1)) }), (4, { act := .idx 1 (Int.toNat (((a0_Log.length : Nat) : Int) - 1)) }), (6, { act := .load 1 (Int.toNat (((a0_Log.length : Nat) : Int) - 1)) 0 [.int .i64 (((a0_Log.getD (Int.toNat (((a0_Log.length : Nat) : Int) - 1)) dS_api_Entry).Version).Epoch), .int .i64 (((a0_Log.getD (Int.toNat (((a0_Log.length : Nat) : Int) - 1)) dS_api_Entry).Version).N), .bool ((a0_Log.getD (Int.toNat (((a0_Log.length : Nat) : Int) - 1)) dS_api_Entry).Remove), .int .i64 ((a0_Log.getD (Int.toNat (((a0_Log.length : Nat) : Int) - 1)) dS_api_Entry).Errno), .string ((a0_Log.getD (Int.toNat (((a0_Log.length : Nat) : Int) - 1)) dS_api_Entry).Name), .int .i64 ((a0_Log.getD (Int.toNat (((a0_Log.length : Nat) : Int) - 1)) dS_api_Entry).Client), .int .i64 ((a0_Log.getD (Int.toNat (((a0_Log.length : Nat) : Int) - 1)) dS_api_Entry).Number)] }), (7, { act := .store 0 0 [], key := some 5 })] [2] [5] (fun _ => [(fr1 0).x = (fr1 0).x, ((.int .i64 (IntKind.i64.wrap (((a0_Log.length : Nat) : Int) - 1))) : Value) = .int .i64 (((a0_Log.length : Nat) : Int) - 1), a0_Log_o = a0_Log_o, a0_Log.length = (List.map S_api_Entry.row a0_Log).length, ((((a0_Log.length : Nat) : Int) - 1) : Int) = (((Int.toNat (((a0_Log.length : Nat) : Int) - 1)) : Nat) : Int), (Int.toNat (((a0_Log.length : Nat) : Int) - 1)) < a0_Log.length, blk a0_Log_o = blk a0_Log_o, offs a0_Log_o + (Int.toNat (((a0_Log.length : Nat) : Int) - 1)) * 7 = offs a0_Log_o + ((Int.toNat (((a0_Log.length : Nat) : Int) - 1)) * 7 + 0), (List.map S_api_Entry.row a0_Log)[(Int.toNat (((a0_Log.length : Nat) : Int) - 1))]? = some [.int .i64 (((a0_Log.getD (Int.toNat (((a0_Log.length : Nat) : Int) - 1)) dS_api_Entry).Version).Epoch), .int .i64 (((a0_Log.getD (Int.toNat (((a0_Log.length : Nat) : Int) - 1)) dS_api_Entry).Version).N), .bool ((a0_Log.getD (Int.toNat (((a0_Log.length : Nat) : Int) - 1)) dS_api_Entry).Remove), .int .i64 ((a0_Log.getD (Int.toNat (((a0_Log.length : Nat) : Int) - 1)) dS_api_Entry).Errno), .string ((a0_Log.getD (Int.toNat (((a0_Log.length : Nat) : Int) - 1)) dS_api_Entry).Name), .int .i64 ((a0_Log.getD (Int.toNat (((a0_Log.length : Nat) : Int) - 1)) dS_api_Entry).Client), .int .i64 ((a0_Log.getD (Int.toNat (((a0_Log.length : Nat) : Int) - 1)) dS_api_Entry).Number)], (fr1 1).x = (fr1 1).x, ((.agg #[.int .i64 (((a0_Log.getD (Int.toNat (((a0_Log.length : Nat) : Int) - 1)) dS_api_Entry).Version).Epoch), .int .i64 (((a0_Log.getD (Int.toNat (((a0_Log.length : Nat) : Int) - 1)) dS_api_Entry).Version).N)]) : Value).cells.toList.all Value.oneCell' = true]) (fun _ => by kernel_rfl) (fun _ => ⟨rfl, I64.w g6, rfl, mlen S_api_Entry.row a0_Log, g7.eq, g7.2, rfl, rfl, map_at S_api_Entry.row dS_api_Entry g7.2, rfl, rfl, trivial⟩)) ?_
    intro _
    have hy := Option.some.inj hm
    subst hy
    refine GS.ret (fn := Try.f23) [5] [.agg #[.int .i64 (((a0_Log.getD (Int.toNat (((a0_Log.length : Nat) : Int) - 1)) dS_api_Entry).Version).Epoch), .int .i64 (((a0_Log.getD (Int.toNat (((a0_Log.length : Nat) : Int) - 1)) dS_api_Entry).Version).N)]] [(fr1 1).x = (fr1 1).x] rfl Try.func23 (by kernel_rfl) ⟨rfl, trivial⟩ (fun w' hs => ?_)
    exact ⟨(), rfl, hs.turnedG (ks := []) rfl rfl (ownAllG rfl)⟩
  · replace hm := br_f h4 hm
    refine GS.skip ?_
    refine GS.seq ?_
    refine GS.region (env' := fun _ => [(2, .pointer (some ⟨(fr1 1).x, 0, none⟩))]) (mem' := fun _ => [(5, .cells ((fr1 1).x) 23 [.int .i64 a0_Tail.Epoch, .int .i64 a0_Tail.N])]) (RunsTo.mk [(1, { act := .load 4 0 0 [] }), (2, { act := .store 0 0 [], key := some 5 })] [2] [5] (fun _ => [(fr1 0).x = (fr1 0).x, (fr1 1).x = (fr1 1).x, ((.agg #[.int .i64 a0_Tail.Epoch, .int .i64 a0_Tail.N]) : Value).cells.toList.all Value.oneCell' = true]) (fun _ => by kernel_rfl) (fun _ => ⟨rfl, rfl, rfl, trivial⟩)) ?_
    intro _
    have hy := Option.some.inj hm
    subst hy
    refine GS.ret (fn := Try.f23) [5] [.agg #[.int .i64 a0_Tail.Epoch, .int .i64 a0_Tail.N]] [(fr1 1).x = (fr1 1).x] rfl Try.func23 (by kernel_rfl) ⟨rfl, trivial⟩ (fun w' hs => ?_)
    exact ⟨(), rfl, hs.turnedG (ks := []) rfl rfl (ownAllG rfl)⟩

theorem w_place_Good (F : Nat) (a0 : ByteArray) {y : Bool} (hm : m_place_Good F a0 = some y) : CallG Try.prog 38 #[.string a0] (X := Unit) (fun (_ : Unit) => .bool y) [] [] (fun (_ : Unit) => []) := by
  intro w hg
  rw [m_place_Good] at hm
  refine GS.start (S := mayT []) (mem := []) Try.func38 rfl Try.ntmps38 (Nat.le_of_ble_eq_true rfl) (hg.start rfl) ?_
  refine GS.conv (env' := [(0, .string a0)]) rfl rfl ?_
  refine GS.seq ?_
  refine GS.region (env' := fun _ => [(0, .string a0)]) (mem' := fun _ => []) (RunsTo.mk [] [0] [] (fun _ => []) (fun _ => by kernel_rfl) (fun _ => trivial)) ?_
  intro _
  refine GS.seq ?_
  refine GS.seq ?_
  refine GS.region (env' := fun _ => [(0, .string a0), (6, .int .i64 ((a0.size : Nat) : Int)), (7, .int .i64 0)]) (mem' := fun _ => []) (RunsTo.mk [] [0, 6, 7] [] (fun _ => []) (fun _ => by kernel_rfl) (fun _ => trivial)) ?_
  intro _
  refine GS.block ?_
  refine GS.loop ?_
  refine grd_elim hm (fun g33 hm => ?_)
  refine GS.rekey (env' := [(0, .string a0), (6, .int .i64 ((a0.size : Nat) : Int)), (7, .int .i64 0)]) (mem' := []) [0, 6, 7] [] (by kernel_rfl) (by kernel_rfl) rfl ?_
  refine loopC_elim hm (fun st53 fn54 hst55 hfn56 hm => ?_)
  refine GS.loopInv (ι := Nat × Nat) (I := fun ⟨rs51, v7_1⟩ => ((((a0.size : Nat) : Int)) - ((v7_1 : Nat) : Int) : Int).toNat = rs51 ∧ loopC st53 fn54 rs51 v7_1 () = some y) (μ := fun ⟨rs51, v7_1⟩ => rs51) (E := fun ⟨rs51, v7_1⟩ => [(0, .string a0), (6, .int .i64 ((a0.size : Nat) : Int)), (7, .int .i64 ((v7_1 : Nat) : Int))]) (M := fun ⟨rs51, v7_1⟩ => []) ?_ ⟨(Int.toNat (((a0.size : Nat) : Int) - ((0 : Nat) : Int))), 0⟩ ⟨rfl, hm⟩
  rintro ⟨rs51, v7_1⟩ ⟨hd32, hm⟩ ih52
  cases rs51 with
  | zero =>
    replace hm := (hfn56 _ _).symm.trans hm
    try dsimp only at hm
    refine GS.seq ?_
    refine GS.region (env' := fun _ => [(0, .string a0), (6, .int .i64 ((a0.size : Nat) : Int)), (7, .int .i64 ((v7_1 : Nat) : Int)), (8, .bool (decide (((v7_1 : Nat) : Int) < ((a0.size : Nat) : Int))))]) (mem' := fun _ => []) (RunsTo.mk [] [0, 6, 7, 8] [] (fun _ => []) (fun _ => by kernel_rfl) (fun _ => trivial)) ?_
    intro _
    refine GS.seq ?_
    refine GS.cond (t := decide (((v7_1 : Nat) : Int) < ((a0.size : Nat) : Int))) rfl rfl (fun h49 => absb h49 (cnt0 hd32)) (fun _ => ?_)
    refine GS.exit rfl ?_
    refine GS.seq ?_
    refine br_elim hm (fun h58 hm => ?_) (fun h58 hm => ?_)
    · skip
      refine GS.region (env' := fun _ => [(2, .bool (decide (((a0.size : Nat) : Int) ≤ 64)))]) (mem' := fun _ => []) (RunsTo.mk [(2, { sp := some (.bool true) })] [2] [] (fun _ => [((.bool (!(a0.toList == (ByteArray.mk #[]).toList))) : Value) = .bool true]) (fun _ => by kernel_rfl) (fun _ => ⟨bool_eq h58, trivial⟩)) ?_
      intro _
      have hy := Option.some.inj hm
      subst hy
      refine GS.ret (fn := Try.f38) [0] [.bool (decide (((a0.size : Nat) : Int) ≤ 64))] [] rfl Try.func38 (by kernel_rfl) trivial (fun w' hs => ?_)
      exact ⟨(), rfl, hs.turnedG (ks := []) rfl rfl (ownAllG rfl)⟩
    · skip
      refine GS.region (env' := fun _ => [(2, .bool false)]) (mem' := fun _ => []) (RunsTo.mk [(2, { sp := some (.bool false) })] [2] [] (fun _ => [((.bool (!(a0.toList == (ByteArray.mk #[]).toList))) : Value) = .bool false]) (fun _ => by kernel_rfl) (fun _ => ⟨bool_eq h58, trivial⟩)) ?_
      intro _
      have hy := Option.some.inj hm
      subst hy
      refine GS.ret (fn := Try.f38) [0] [.bool false] [] rfl Try.func38 (by kernel_rfl) trivial (fun w' hs => ?_)
      exact ⟨(), rfl, hs.turnedG (ks := []) rfl rfl (ownAllG rfl)⟩
  | succ rs51 =>
    replace hm := (hst55 _ _ _).symm.trans hm
    try dsimp only at hm
    refine GS.seq ?_
    refine GS.region (env' := fun _ => [(0, .string a0), (6, .int .i64 ((a0.size : Nat) : Int)), (7, .int .i64 ((v7_1 : Nat) : Int)), (8, .bool (decide (((v7_1 : Nat) : Int) < ((a0.size : Nat) : Int))))]) (mem' := fun _ => []) (RunsTo.mk [] [0, 6, 7, 8] [] (fun _ => []) (fun _ => by kernel_rfl) (fun _ => trivial)) ?_
    intro _
    refine GS.seq ?_
    refine GS.cond (t := decide (((v7_1 : Nat) : Int) < ((a0.size : Nat) : Int))) rfl rfl (fun _ => ?_) (fun h35 => absb (cnt1 hd32) h35)
    refine GS.skip ?_
    refine GS.seq ?_
    refine GS.block ?_
    refine GS.seq ?_
    refine GS.region (env' := fun _ => [(0, .string a0), (3, .int .i64 ((v7_1 : Nat) : Int)), (6, .int .i64 ((a0.size : Nat) : Int)), (7, .int .i64 ((v7_1 : Nat) : Int))]) (mem' := fun _ => []) (RunsTo.mk [] [0, 3, 6, 7] [] (fun _ => []) (fun _ => by kernel_rfl) (fun _ => trivial)) ?_
    intro _
    refine GS.seq ?_
    refine grd_elim hm (fun g38 hm => ?_)
    refine GS.region (env' := fun _ => [(0, .string a0), (4, .int .u8 (((a0.data.getD v7_1 0).toNat : Nat) : Int)), (6, .int .i64 ((a0.size : Nat) : Int)), (7, .int .i64 ((v7_1 : Nat) : Int))]) (mem' := fun _ => []) (RunsTo.mk [(2, { act := .elt v7_1 })] [0, 4, 6, 7] [] (fun _ => [(((v7_1 : Nat) : Int) : Int) = ((v7_1 : Nat) : Int), v7_1 < a0.size]) (fun _ => by kernel_rfl) (fun _ => ⟨rfl, g38, trivial⟩)) ?_
    intro _
    refine GS.block ?_
    refine GS.seq ?_
    refine GS.seq ?_
    refine GS.region (env' := fun _ => [(0, .string a0), (4, .int .u8 (((a0.data.getD v7_1 0).toNat : Nat) : Int)), (6, .int .i64 ((a0.size : Nat) : Int)), (7, .int .i64 ((v7_1 : Nat) : Int)), (13, .bool (decide ((((a0.data.getD v7_1 0).toNat : Nat) : Int) < 33)))]) (mem' := fun _ => []) (RunsTo.mk [] [0, 4, 6, 7, 13] [] (fun _ => []) (fun _ => by kernel_rfl) (fun _ => trivial)) ?_
    intro _
    refine jn_elim hm (fun J42 hJ44 hm => ?_)
    refine GS.cut (ι := Bool) (I := fun (v13_4 : Bool) => J42 v13_4 = some y) (E := fun (v13_4 : Bool) => [(0, .string a0), (6, .int .i64 ((a0.size : Nat) : Int)), (7, .int .i64 ((v7_1 : Nat) : Int)), (13, .bool v13_4)]) (M := fun (v13_4 : Bool) => []) ?_ ?_
    rotate_left
    · intro H43
      refine GS.cond (t := decide ((((a0.data.getD v7_1 0).toNat : Nat) : Int) < 33)) rfl rfl (fun h40 => ?_) (fun h40 => ?_)
      · replace hm := br_t h40 hm
        refine GS.skip ?_
        refine GS.rekey (env' := [(0, .string a0), (6, .int .i64 ((a0.size : Nat) : Int)), (7, .int .i64 ((v7_1 : Nat) : Int)), (13, .bool (decide ((((a0.data.getD v7_1 0).toNat : Nat) : Int) < 33)))]) (mem' := []) [0, 6, 7, 13] [] (by kernel_rfl) (by kernel_rfl) rfl ?_
        exact H43 (decide ((((a0.data.getD v7_1 0).toNat : Nat) : Int) < 33)) hm
      · replace hm := br_f h40 hm
        refine GS.region (env' := fun _ => [(0, .string a0), (6, .int .i64 ((a0.size : Nat) : Int)), (7, .int .i64 ((v7_1 : Nat) : Int)), (13, .bool (decide ((((a0.data.getD v7_1 0).toNat : Nat) : Int) > 126)))]) (mem' := fun _ => []) (RunsTo.mk [] [0, 6, 7, 13] [] (fun _ => []) (fun _ => by kernel_rfl) (fun _ => trivial)) ?_
        intro _
        refine GS.rekey (env' := [(0, .string a0), (6, .int .i64 ((a0.size : Nat) : Int)), (7, .int .i64 ((v7_1 : Nat) : Int)), (13, .bool (decide ((((a0.data.getD v7_1 0).toNat : Nat) : Int) > 126)))]) (mem' := []) [0, 6, 7, 13] [] (by kernel_rfl) (by kernel_rfl) rfl ?_
        exact H43 (decide ((((a0.data.getD v7_1 0).toNat : Nat) : Int) > 126)) hm
    · rintro v13_4 hm
      replace hm := (hJ44 _).symm.trans hm
      try dsimp only at hm
      refine GS.cond (t := v13_4) rfl rfl (fun h45 => ?_) (fun h45 => ?_)
      · replace hm := br_t h45 hm
        refine GS.seq ?_
        refine GS.region (env' := fun _ => [(2, .bool false)]) (mem' := fun _ => []) (RunsTo.mk [] [2] [] (fun _ => []) (fun _ => by kernel_rfl) (fun _ => trivial)) ?_
        intro _
        have hy := Option.some.inj hm
        subst hy
        refine GS.ret (fn := Try.f38) [0] [.bool false] [] rfl Try.func38 (by kernel_rfl) trivial (fun w' hs => ?_)
        exact ⟨(), rfl, hs.turnedG (ks := []) rfl rfl (ownAllG rfl)⟩
      · replace hm := br_f h45 hm
        refine GS.skip ?_
        refine GS.inBlock ?_
        refine GS.inBlock ?_
        refine GS.region (env' := fun _ => [(0, .string a0), (6, .int .i64 ((a0.size : Nat) : Int)), (7, .int .i64 ((v7_1 + 1 : Nat) : Int))]) (mem' := fun _ => []) (RunsTo.mk [(0, { sp := some (.int .i64 ((v7_1 + 1 : Nat) : Int)) })] [0, 6, 7] [] (fun _ => [((.int .i64 (IntKind.i64.wrap (((v7_1 : Nat) : Int) + 1))) : Value) = .int .i64 ((v7_1 + 1 : Nat) : Int)]) (fun _ => by kernel_rfl) (fun _ => ⟨natwB (cnt1 hd32) g33, trivial⟩)) ?_
        intro _
        refine GS.inLoop ?_
        refine GS.rekey (env' := [(0, .string a0), (6, .int .i64 ((a0.size : Nat) : Int)), (7, .int .i64 ((v7_1 + 1 : Nat) : Int))]) (mem' := []) [0, 6, 7] [] (by kernel_rfl) (by kernel_rfl) rfl ?_
        exact ih52 ⟨rs51, v7_1 + 1⟩ ⟨cntN hd32, hm⟩ (Nat.lt_succ_self _)

theorem w_pglog_Copy (F : Nat) (a0_Les : Int) (a0_Tail : S_api_Version) (a0_Log_o : Option Addr) (a0_Log_c : Nat) (a0_Log : List S_api_Entry) (a0_Lasts_o : Option Addr) (a0_Lasts_c : Nat) (a0_Lasts : List S_api_Last) (a0_Items_o : Option Addr) (a0_Items_c : Nat) (a0_Items : List S_api_Item) {y : Int × S_api_Version × List S_api_Entry × List S_api_Last × List S_api_Item} (hm : m_pglog_Copy F a0_Les a0_Tail a0_Log a0_Lasts a0_Items = some y) : CallG Try.prog 20 #[.agg #[.int .i64 a0_Les, .int .i64 a0_Tail.Epoch, .int .i64 a0_Tail.N, .slice a0_Log_o a0_Log.length a0_Log_c, .slice a0_Lasts_o a0_Lasts.length a0_Lasts_c, .slice a0_Items_o a0_Items.length a0_Items_c]] (X := Option Addr × Nat × Option Addr × Nat × Option Addr × Nat) (fun ⟨x0, x1, x2, x3, x4, x5⟩ => .agg #[.int .i64 y.1, .int .i64 y.2.1.Epoch, .int .i64 y.2.1.N, .slice x0 y.2.2.1.length x1, .slice x2 y.2.2.2.1.length x3, .slice x4 y.2.2.2.2.length x5]) [] [r52 a0_Log_o a0_Log, r47 a0_Lasts_o a0_Lasts, r42 a0_Items_o a0_Items] (fun ⟨x0, x1, x2, x3, x4, x5⟩ => [o52 x0 x1 y.2.2.1, o47 x2 x3 y.2.2.2.1, o42 x4 x5 y.2.2.2.2]) := by
  intro w hg
  rw [m_pglog_Copy] at hm
  refine GS.start (S := mayT []) (mem := [(1, r52 a0_Log_o a0_Log), (2, r47 a0_Lasts_o a0_Lasts), (3, r42 a0_Items_o a0_Items)]) Try.func20 rfl Try.ntmps20 (Nat.le_of_ble_eq_true rfl) (hg.start rfl) ?_
  refine GS.conv (env' := [(0, .agg #[.int .i64 a0_Les, .int .i64 a0_Tail.Epoch, .int .i64 a0_Tail.N, .slice a0_Log_o a0_Log.length a0_Log_c, .slice a0_Lasts_o a0_Lasts.length a0_Lasts_c, .slice a0_Items_o a0_Items.length a0_Items_c])]) rfl rfl ?_
  refine GS.seq ?_
  refine GS.region (env' := fun fr1 => [(1, .pointer (some ⟨(fr1 0).x, 0, none⟩)), (2, .pointer (some ⟨(fr1 1).x, 0, none⟩))]) (mem' := fun fr1 => [(1, r52 a0_Log_o a0_Log), (2, r47 a0_Lasts_o a0_Lasts), (3, r42 a0_Items_o a0_Items), (4, .cells ((fr1 0).x) 28 [.int .i64 a0_Les, .int .i64 a0_Tail.Epoch, .int .i64 a0_Tail.N, .slice a0_Log_o a0_Log.length a0_Log_c, .slice a0_Lasts_o a0_Lasts.length a0_Lasts_c, .slice a0_Items_o a0_Items.length a0_Items_c]), (5, .cells ((fr1 1).x) 28 [.int .i64 0, .int .i64 0, .int .i64 0, .slice none 0 0, .slice none 0 0, .slice none 0 0])]) (RunsTo.mk [(0, { act := .new .var, key := some 4 }), (1, { act := .new .var, key := some 5 })] [1, 2] [1, 2, 3, 4, 5] (fun fr1 => []) (fun fr1 => by kernel_rfl) (fun fr1 => trivial)) ?_
  intro fr1
  refine GS.seq ?_
  refine grd_elim hm (fun g3 hm => ?_)
  refine GS.region (env' := fun fr2 => [(1, .pointer (some ⟨(fr1 0).x, 0, none⟩)), (2, .pointer (some ⟨(fr1 1).x, 0, none⟩))]) (mem' := fun fr2 => [(2, r47 a0_Lasts_o a0_Lasts), (3, r42 a0_Items_o a0_Items), (4, .cells ((fr1 0).x) 28 [.int .i64 a0_Les, .int .i64 a0_Tail.Epoch, .int .i64 a0_Tail.N, .slice ((fr2 2).ob) a0_Log.length ((fr2 2).cap), .slice a0_Lasts_o a0_Lasts.length a0_Lasts_c, .slice a0_Items_o a0_Items.length a0_Items_c]), (5, .cells ((fr1 1).x) 28 [.int .i64 0, .int .i64 0, .int .i64 0, .slice none 0 0, .slice none 0 0, .slice none 0 0]), (6, .osl ((fr2 2).ob) ((fr2 2).cap) 52 7 (List.map S_api_Entry.row a0_Log))]) (RunsTo.mk [(1, { act := .load 4 0 0 [] }), (2, { act := .app (some 1), key := some 6, spf := some (fun f => .slice (f.ob) a0_Log.length (f.cap)) }), (4, { act := .store 0 0 [], key := some 4 })] [1, 2] [2, 3, 4, 5, 6] (fun fr2 => [(fr1 0).x = (fr1 0).x, a0_Log_o = a0_Log_o, a0_Log.length = (List.map S_api_Entry.row a0_Log).length, 0 = 0, 0 = 0, (List.map S_api_Entry.row a0_Log).length * (64 + 1) ≤ 70368744177664, ((.slice ((fr2 2).ob) (0 + (List.map S_api_Entry.row a0_Log).length) ((fr2 2).cap)) : Value) = .slice ((fr2 2).ob) a0_Log.length ((fr2 2).cap), (fr1 0).x = (fr1 0).x, ((.slice ((fr2 2).ob) a0_Log.length ((fr2 2).cap)) : Value).cells.toList.all Value.oneCell' = true]) (fun fr2 => by kernel_rfl) (fun fr2 => ⟨rfl, rfl, mlen S_api_Entry.row a0_Log, rfl, rfl, appb0 g3 (mlen S_api_Entry.row a0_Log).symm, slen (by rw [(mlen S_api_Entry.row a0_Log).symm, Nat.zero_add]), rfl, rfl, trivial⟩)) ?_
  intro fr2
  refine GS.conv (mem' := [(2, r47 a0_Lasts_o a0_Lasts), (3, r42 a0_Items_o a0_Items), (4, .cells ((fr1 0).x) 28 [.int .i64 a0_Les, .int .i64 a0_Tail.Epoch, .int .i64 a0_Tail.N, .slice ((fr2 2).ob) a0_Log.length ((fr2 2).cap), .slice a0_Lasts_o a0_Lasts.length a0_Lasts_c, .slice a0_Items_o a0_Items.length a0_Items_c]), (5, .cells ((fr1 1).x) 28 [.int .i64 0, .int .i64 0, .int .i64 0, .slice none 0 0, .slice none 0 0, .slice none 0 0]), (6, o52 ((fr2 2).ob) ((fr2 2).cap) a0_Log)]) rfl (congrArg (fun rr : List (List Value) => ([(2, r47 a0_Lasts_o a0_Lasts), (3, r42 a0_Items_o a0_Items), (4, .cells ((fr1 0).x) 28 [.int .i64 a0_Les, .int .i64 a0_Tail.Epoch, .int .i64 a0_Tail.N, .slice ((fr2 2).ob) a0_Log.length ((fr2 2).cap), .slice a0_Lasts_o a0_Lasts.length a0_Lasts_c, .slice a0_Items_o a0_Items.length a0_Items_c]), (5, .cells ((fr1 1).x) 28 [.int .i64 0, .int .i64 0, .int .i64 0, .slice none 0 0, .slice none 0 0, .slice none 0 0]), (6, .osl ((fr2 2).ob) ((fr2 2).cap) 52 7 rr)] : List (Nat × Ent))) (show List.map S_api_Entry.row a0_Log = List.map S_api_Entry.row a0_Log from rfl)) ?_
  refine GS.seq ?_
  refine grd_elim hm (fun g5 hm => ?_)
  refine GS.region (env' := fun fr4 => [(1, .pointer (some ⟨(fr1 0).x, 0, none⟩)), (2, .pointer (some ⟨(fr1 1).x, 0, none⟩))]) (mem' := fun fr4 => [(3, r42 a0_Items_o a0_Items), (4, .cells ((fr1 0).x) 28 [.int .i64 a0_Les, .int .i64 a0_Tail.Epoch, .int .i64 a0_Tail.N, .slice ((fr2 2).ob) a0_Log.length ((fr2 2).cap), .slice ((fr4 2).ob) a0_Lasts.length ((fr4 2).cap), .slice a0_Items_o a0_Items.length a0_Items_c]), (5, .cells ((fr1 1).x) 28 [.int .i64 0, .int .i64 0, .int .i64 0, .slice none 0 0, .slice none 0 0, .slice none 0 0]), (6, o52 ((fr2 2).ob) ((fr2 2).cap) a0_Log), (7, .osl ((fr4 2).ob) ((fr4 2).cap) 47 5 (List.map S_api_Last.row a0_Lasts))]) (RunsTo.mk [(1, { act := .load 4 0 0 [] }), (2, { act := .app (some 2), key := some 7, spf := some (fun f => .slice (f.ob) a0_Lasts.length (f.cap)) }), (4, { act := .store 0 0 [], key := some 4 })] [1, 2] [3, 4, 5, 6, 7] (fun fr4 => [(fr1 0).x = (fr1 0).x, a0_Lasts_o = a0_Lasts_o, a0_Lasts.length = (List.map S_api_Last.row a0_Lasts).length, 0 = 0, 0 = 0, (List.map S_api_Last.row a0_Lasts).length * (40 + 1) ≤ 70368744177664, ((.slice ((fr4 2).ob) (0 + (List.map S_api_Last.row a0_Lasts).length) ((fr4 2).cap)) : Value) = .slice ((fr4 2).ob) a0_Lasts.length ((fr4 2).cap), (fr1 0).x = (fr1 0).x, ((.slice ((fr4 2).ob) a0_Lasts.length ((fr4 2).cap)) : Value).cells.toList.all Value.oneCell' = true]) (fun fr4 => by kernel_rfl) (fun fr4 => ⟨rfl, rfl, mlen S_api_Last.row a0_Lasts, rfl, rfl, appb0 g5 (mlen S_api_Last.row a0_Lasts).symm, slen (by rw [(mlen S_api_Last.row a0_Lasts).symm, Nat.zero_add]), rfl, rfl, trivial⟩)) ?_
  intro fr4
  refine GS.conv (mem' := [(3, r42 a0_Items_o a0_Items), (4, .cells ((fr1 0).x) 28 [.int .i64 a0_Les, .int .i64 a0_Tail.Epoch, .int .i64 a0_Tail.N, .slice ((fr2 2).ob) a0_Log.length ((fr2 2).cap), .slice ((fr4 2).ob) a0_Lasts.length ((fr4 2).cap), .slice a0_Items_o a0_Items.length a0_Items_c]), (5, .cells ((fr1 1).x) 28 [.int .i64 0, .int .i64 0, .int .i64 0, .slice none 0 0, .slice none 0 0, .slice none 0 0]), (6, o52 ((fr2 2).ob) ((fr2 2).cap) a0_Log), (7, o47 ((fr4 2).ob) ((fr4 2).cap) a0_Lasts)]) rfl (congrArg (fun rr : List (List Value) => ([(3, r42 a0_Items_o a0_Items), (4, .cells ((fr1 0).x) 28 [.int .i64 a0_Les, .int .i64 a0_Tail.Epoch, .int .i64 a0_Tail.N, .slice ((fr2 2).ob) a0_Log.length ((fr2 2).cap), .slice ((fr4 2).ob) a0_Lasts.length ((fr4 2).cap), .slice a0_Items_o a0_Items.length a0_Items_c]), (5, .cells ((fr1 1).x) 28 [.int .i64 0, .int .i64 0, .int .i64 0, .slice none 0 0, .slice none 0 0, .slice none 0 0]), (6, o52 ((fr2 2).ob) ((fr2 2).cap) a0_Log), (7, .osl ((fr4 2).ob) ((fr4 2).cap) 47 5 rr)] : List (Nat × Ent))) (show List.map S_api_Last.row a0_Lasts = List.map S_api_Last.row a0_Lasts from rfl)) ?_
  refine GS.seq ?_
  refine grd_elim hm (fun g7 hm => ?_)
  refine GS.region (env' := fun fr6 => [(1, .pointer (some ⟨(fr1 0).x, 0, none⟩)), (2, .pointer (some ⟨(fr1 1).x, 0, none⟩))]) (mem' := fun fr6 => [(4, .cells ((fr1 0).x) 28 [.int .i64 a0_Les, .int .i64 a0_Tail.Epoch, .int .i64 a0_Tail.N, .slice ((fr2 2).ob) a0_Log.length ((fr2 2).cap), .slice ((fr4 2).ob) a0_Lasts.length ((fr4 2).cap), .slice ((fr6 2).ob) a0_Items.length ((fr6 2).cap)]), (5, .cells ((fr1 1).x) 28 [.int .i64 0, .int .i64 0, .int .i64 0, .slice none 0 0, .slice none 0 0, .slice none 0 0]), (6, o52 ((fr2 2).ob) ((fr2 2).cap) a0_Log), (7, o47 ((fr4 2).ob) ((fr4 2).cap) a0_Lasts), (8, .osl ((fr6 2).ob) ((fr6 2).cap) 42 4 (List.map S_api_Item.row a0_Items))]) (RunsTo.mk [(1, { act := .load 4 0 0 [] }), (2, { act := .app (some 3), key := some 8, spf := some (fun f => .slice (f.ob) a0_Items.length (f.cap)) }), (4, { act := .store 0 0 [], key := some 4 })] [1, 2] [4, 5, 6, 7, 8] (fun fr6 => [(fr1 0).x = (fr1 0).x, a0_Items_o = a0_Items_o, a0_Items.length = (List.map S_api_Item.row a0_Items).length, 0 = 0, 0 = 0, (List.map S_api_Item.row a0_Items).length * (40 + 1) ≤ 70368744177664, ((.slice ((fr6 2).ob) (0 + (List.map S_api_Item.row a0_Items).length) ((fr6 2).cap)) : Value) = .slice ((fr6 2).ob) a0_Items.length ((fr6 2).cap), (fr1 0).x = (fr1 0).x, ((.slice ((fr6 2).ob) a0_Items.length ((fr6 2).cap)) : Value).cells.toList.all Value.oneCell' = true]) (fun fr6 => by kernel_rfl) (fun fr6 => ⟨rfl, rfl, mlen S_api_Item.row a0_Items, rfl, rfl, appb0 g7 (mlen S_api_Item.row a0_Items).symm, slen (by rw [(mlen S_api_Item.row a0_Items).symm, Nat.zero_add]), rfl, rfl, trivial⟩)) ?_
  intro fr6
  refine GS.conv (mem' := [(4, .cells ((fr1 0).x) 28 [.int .i64 a0_Les, .int .i64 a0_Tail.Epoch, .int .i64 a0_Tail.N, .slice ((fr2 2).ob) a0_Log.length ((fr2 2).cap), .slice ((fr4 2).ob) a0_Lasts.length ((fr4 2).cap), .slice ((fr6 2).ob) a0_Items.length ((fr6 2).cap)]), (5, .cells ((fr1 1).x) 28 [.int .i64 0, .int .i64 0, .int .i64 0, .slice none 0 0, .slice none 0 0, .slice none 0 0]), (6, o52 ((fr2 2).ob) ((fr2 2).cap) a0_Log), (7, o47 ((fr4 2).ob) ((fr4 2).cap) a0_Lasts), (8, o42 ((fr6 2).ob) ((fr6 2).cap) a0_Items)]) rfl (congrArg (fun rr : List (List Value) => ([(4, .cells ((fr1 0).x) 28 [.int .i64 a0_Les, .int .i64 a0_Tail.Epoch, .int .i64 a0_Tail.N, .slice ((fr2 2).ob) a0_Log.length ((fr2 2).cap), .slice ((fr4 2).ob) a0_Lasts.length ((fr4 2).cap), .slice ((fr6 2).ob) a0_Items.length ((fr6 2).cap)]), (5, .cells ((fr1 1).x) 28 [.int .i64 0, .int .i64 0, .int .i64 0, .slice none 0 0, .slice none 0 0, .slice none 0 0]), (6, o52 ((fr2 2).ob) ((fr2 2).cap) a0_Log), (7, o47 ((fr4 2).ob) ((fr4 2).cap) a0_Lasts), (8, .osl ((fr6 2).ob) ((fr6 2).cap) 42 4 rr)] : List (Nat × Ent))) (show List.map S_api_Item.row a0_Items = List.map S_api_Item.row a0_Items from rfl)) ?_
  refine GS.seq ?_
  refine GS.region (env' := fun _ => [(2, .pointer (some ⟨(fr1 1).x, 0, none⟩))]) (mem' := fun _ => [(5, .cells ((fr1 1).x) 28 [.int .i64 a0_Les, .int .i64 a0_Tail.Epoch, .int .i64 a0_Tail.N, .slice ((fr2 2).ob) a0_Log.length ((fr2 2).cap), .slice ((fr4 2).ob) a0_Lasts.length ((fr4 2).cap), .slice ((fr6 2).ob) a0_Items.length ((fr6 2).cap)]), (6, o52 ((fr2 2).ob) ((fr2 2).cap) a0_Log), (7, o47 ((fr4 2).ob) ((fr4 2).cap) a0_Lasts), (8, o42 ((fr6 2).ob) ((fr6 2).cap) a0_Items)]) (RunsTo.mk [(0, { act := .load 4 0 0 [] }), (1, { act := .store 0 0 [], key := some 5 })] [2] [5, 6, 7, 8] (fun _ => [(fr1 0).x = (fr1 0).x, (fr1 1).x = (fr1 1).x, ((.agg #[.int .i64 a0_Les, .int .i64 a0_Tail.Epoch, .int .i64 a0_Tail.N, .slice ((fr2 2).ob) a0_Log.length ((fr2 2).cap), .slice ((fr4 2).ob) a0_Lasts.length ((fr4 2).cap), .slice ((fr6 2).ob) a0_Items.length ((fr6 2).cap)]) : Value).cells.toList.all Value.oneCell' = true]) (fun _ => by kernel_rfl) (fun _ => ⟨rfl, rfl, rfl, trivial⟩)) ?_
  intro _
  have hy := Option.some.inj hm
  subst hy
  refine GS.ret (fn := Try.f20) [5] [.agg #[.int .i64 a0_Les, .int .i64 a0_Tail.Epoch, .int .i64 a0_Tail.N, .slice ((fr2 2).ob) a0_Log.length ((fr2 2).cap), .slice ((fr4 2).ob) a0_Lasts.length ((fr4 2).cap), .slice ((fr6 2).ob) a0_Items.length ((fr6 2).cap)]] [(fr1 1).x = (fr1 1).x] rfl Try.func20 (by kernel_rfl) ⟨rfl, trivial⟩ (fun w' hs => ?_)
  exact ⟨⟨(fr2 2).ob, (fr2 2).cap, (fr4 2).ob, (fr4 2).cap, (fr6 2).ob, (fr6 2).cap⟩, rfl, hs.turnedG (ks := [6, 7, 8]) rfl rfl (ownAllG rfl)⟩

theorem w_pglog_lastClient (F : Nat) (a0 : S_api_Last) {y : Int} (hm : m_pglog_lastClient F a0 = some y) : CallG Try.prog 37 #[.agg #[.int .i64 a0.Client, .int .i64 a0.Number, .int .i64 a0.Errno, .int .i64 a0.Version.Epoch, .int .i64 a0.Version.N]] (X := Unit) (fun (_ : Unit) => .int .i64 y) [] [] (fun (_ : Unit) => []) := by
  intro w hg
  rw [m_pglog_lastClient] at hm
  refine GS.start (S := mayT []) (mem := []) Try.func37 rfl Try.ntmps37 (Nat.le_of_ble_eq_true rfl) (hg.start rfl) ?_
  refine GS.conv (env' := [(0, .agg #[.int .i64 a0.Client, .int .i64 a0.Number, .int .i64 a0.Errno, .int .i64 a0.Version.Epoch, .int .i64 a0.Version.N])]) rfl rfl ?_
  refine GS.seq ?_
  refine GS.region (env' := fun fr1 => [(1, .pointer (some ⟨(fr1 0).x, 0, none⟩))]) (mem' := fun fr1 => [(1, .cells ((fr1 0).x) 47 [.int .i64 a0.Client, .int .i64 a0.Number, .int .i64 a0.Errno, .int .i64 a0.Version.Epoch, .int .i64 a0.Version.N])]) (RunsTo.mk [(0, { act := .new .var, key := some 1 })] [1] [1] (fun fr1 => []) (fun fr1 => by kernel_rfl) (fun fr1 => trivial)) ?_
  intro fr1
  refine GS.seq ?_
  refine GS.region (env' := fun _ => [(2, .int .i64 a0.Client)]) (mem' := fun _ => []) (RunsTo.mk [(1, { act := .load 1 0 0 [] })] [2] [] (fun _ => [(fr1 0).x = (fr1 0).x]) (fun _ => by kernel_rfl) (fun _ => ⟨rfl, trivial⟩)) ?_
  intro _
  have hy := Option.some.inj hm
  subst hy
  refine GS.ret (fn := Try.f37) [0] [.int .i64 a0.Client] [] rfl Try.func37 (by kernel_rfl) trivial (fun w' hs => ?_)
  exact ⟨(), rfl, hs.turnedG (ks := []) rfl rfl (ownAllG rfl)⟩

theorem w_pglog_look_api_Last_int__1 (F : Nat) (a0 : S_api_Last) (a1 : Int) (a2b : Nat) {y : Int} (hm : m_pglog_look_api_Last_int__1 F a0 a1 = some y) : CallG Try.prog 48 #[.agg #[.int .i64 a0.Client, .int .i64 a0.Number, .int .i64 a0.Errno, .int .i64 a0.Version.Epoch, .int .i64 a0.Version.N], .int .i64 a1, .pointer (some ⟨a2b, 0, none⟩)] (X := Unit) (fun (_ : Unit) => .int .i64 y) [] [.rd (some ⟨a2b, 0, none⟩) 1 ([[.func (.func 37) #[] #[]]] : List (List Value))] (fun (_ : Unit) => []) := by
  intro w hg
  rw [m_pglog_look_api_Last_int__1] at hm
  refine GS.start (S := mayT []) (mem := [(1, .rd (some ⟨a2b, 0, none⟩) 1 ([[.func (.func 37) #[] #[]]] : List (List Value)))]) Try.func48 rfl Try.ntmps48 (Nat.le_of_ble_eq_true rfl) (hg.start rfl) ?_
  refine GS.conv (env' := [(0, .agg #[.int .i64 a0.Client, .int .i64 a0.Number, .int .i64 a0.Errno, .int .i64 a0.Version.Epoch, .int .i64 a0.Version.N]), (1, .int .i64 a1), (2, .pointer (some ⟨a2b, 0, none⟩))]) rfl rfl ?_
  refine GS.seq ?_
  refine GS.region (env' := fun fr1 => [(1, .int .i64 a1), (2, .pointer (some ⟨a2b, 0, none⟩)), (3, .pointer (some ⟨(fr1 0).x, 0, none⟩))]) (mem' := fun fr1 => [(1, .rd (some ⟨a2b, 0, none⟩) 1 ([[.func (.func 37) #[] #[]]] : List (List Value))), (2, .cells ((fr1 0).x) 47 [.int .i64 a0.Client, .int .i64 a0.Number, .int .i64 a0.Errno, .int .i64 a0.Version.Epoch, .int .i64 a0.Version.N])]) (RunsTo.mk [(0, { act := .new .var, key := some 2 })] [1, 2, 3] [1, 2] (fun fr1 => []) (fun fr1 => by kernel_rfl) (fun fr1 => trivial)) ?_
  intro fr1
  refine GS.seq ?_
  refine bnd_elim hm (fun y3 e4 hm => ?_)
  refine bnd_elim hm (fun y5 e6 hm => ?_)
  refine GS.region (env' := fun _ => [(5, .int .i64 y5)]) (mem' := fun _ => []) (RunsTo.mk [(0, { act := .load 1 0 0 [.func (.func 37) #[] #[]] }), (1, { act := .load 2 0 0 [] }), (2, { act := .call [] (.int .i64 y3) }), (4, { act := .call [] (.int .i64 y5) })] [5] [] (fun _ => [a2b = blk (some ⟨a2b, 0, none⟩), 0 = offs (some ⟨a2b, 0, none⟩) + (0 * 1 + 0), ([[.func (.func 37) #[] #[]]] : List (List Value))[0]? = some [.func (.func 37) #[] #[]], (fr1 0).x = (fr1 0).x, CallOK Try.prog 37 #[.agg #[.int .i64 a0.Client, .int .i64 a0.Number, .int .i64 a0.Errno, .int .i64 a0.Version.Epoch, .int .i64 a0.Version.N]] (.int .i64 y3) [], CallOK Try.prog 29 #[.int .i64 y3, .int .i64 a1] (.int .i64 y5) []]) (fun _ => by kernel_rfl) (fun _ => ⟨rfl, rfl, rfl, rfl, (w_pglog_lastClient F a0 e4).ok trivial, (w_cmp_Compare_int_ F y3 a1 e6).ok trivial, trivial⟩)) ?_
  intro _
  have hy := Option.some.inj hm
  subst hy
  refine GS.ret (fn := Try.f48) [0] [.int .i64 y5] [] rfl Try.func48 (by kernel_rfl) trivial (fun w' hs => ?_)
  exact ⟨(), rfl, hs.turnedG (ks := []) rfl rfl (ownAllG rfl)⟩

end Go.Proofs.Ytmoaiokgbjkaaaa
