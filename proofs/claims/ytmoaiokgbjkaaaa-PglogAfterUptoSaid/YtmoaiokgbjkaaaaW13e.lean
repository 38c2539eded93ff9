/-
  CHAPTER 13: the functions do what their models say (5).
-/
import Derived.Test.YtmoaiokgbjkaaaaW13d
set_option linter.unusedVariables false
set_option linter.unusedSimpArgs false
set_option maxRecDepth 100000
namespace Go.Proofs.Ytmoaiokgbjkaaaa
open Go Go.RowKit Sx

theorem w_pglog_Seen (F : Nat) (a0_Les : Int) (a0_Tail : S_api_Version) (a0_Log_o : Option Addr) (a0_Log_c : Nat) (a0_Log : List S_api_Entry) (a0_Lasts_o : Option Addr) (a0_Lasts_c : Nat) (a0_Lasts : List S_api_Last) (a0_Items_o : Option Addr) (a0_Items_c : Nat) (a0_Items : List S_api_Item) (a1 : Int) (a2 : Int) {y : S_api_Last × Int} (hm : m_pglog_Seen F a0_Les a0_Tail a0_Log a0_Lasts a0_Items a1 a2 = some y) : CallG Try.prog 17 #[.agg #[.int .i64 a0_Les, .int .i64 a0_Tail.Epoch, .int .i64 a0_Tail.N, .slice a0_Log_o a0_Log.length a0_Log_c, .slice a0_Lasts_o a0_Lasts.length a0_Lasts_c, .slice a0_Items_o a0_Items.length a0_Items_c], .int .i64 a1, .int .i64 a2] (X := Unit) (fun (_ : Unit) => .tuple #[.agg #[.int .i64 y.1.Client, .int .i64 y.1.Number, .int .i64 y.1.Errno, .int .i64 y.1.Version.Epoch, .int .i64 y.1.Version.N], .int .i64 y.2]) [] [r52 a0_Log_o a0_Log, r47 a0_Lasts_o a0_Lasts, r42 a0_Items_o a0_Items] (fun (_ : Unit) => []) := by
  intro w hg
  rw [m_pglog_Seen] at hm
  refine GS.start (S := mayT []) (mem := [(1, r52 a0_Log_o a0_Log), (2, r47 a0_Lasts_o a0_Lasts), (3, r42 a0_Items_o a0_Items)]) Try.func17 rfl Try.ntmps17 (Nat.le_of_ble_eq_true rfl) (hg.start rfl) ?_
  refine GS.conv (env' := [(0, .agg #[.int .i64 a0_Les, .int .i64 a0_Tail.Epoch, .int .i64 a0_Tail.N, .slice a0_Log_o a0_Log.length a0_Log_c, .slice a0_Lasts_o a0_Lasts.length a0_Lasts_c, .slice a0_Items_o a0_Items.length a0_Items_c]), (1, .int .i64 a1), (2, .int .i64 a2)]) rfl rfl ?_
  refine GS.seq ?_
  refine GS.region (env' := fun fr1 => [(1, .int .i64 a1), (2, .int .i64 a2), (3, .pointer (some ⟨(fr1 0).x, 0, none⟩)), (6, .pointer (some ⟨(fr1 1).x, 0, none⟩))]) (mem' := fun fr1 => [(1, r52 a0_Log_o a0_Log), (2, r47 a0_Lasts_o a0_Lasts), (3, r42 a0_Items_o a0_Items), (4, .cells ((fr1 0).x) 28 [.int .i64 a0_Les, .int .i64 a0_Tail.Epoch, .int .i64 a0_Tail.N, .slice a0_Log_o a0_Log.length a0_Log_c, .slice a0_Lasts_o a0_Lasts.length a0_Lasts_c, .slice a0_Items_o a0_Items.length a0_Items_c]), (5, .cells ((fr1 1).x) 47 [.int .i64 0, .int .i64 0, .int .i64 0, .int .i64 0, .int .i64 0])]) (RunsTo.mk [(0, { act := .new .var, key := some 4 }), (1, { act := .new .var, key := some 5 })] [1, 2, 3, 6] [1, 2, 3, 4, 5] (fun fr1 => []) (fun fr1 => by kernel_rfl) (fun fr1 => trivial)) ?_
  intro fr1
  refine GS.seq ?_
  refine GS.seq ?_
  refine GS.region (env' := fun _ => [(1, .int .i64 a1), (2, .int .i64 a2), (6, .pointer (some ⟨(fr1 1).x, 0, none⟩)), (11, .slice a0_Lasts_o a0_Lasts.length a0_Lasts_c), (12, .int .i64 ((a0_Lasts.length : Nat) : Int)), (13, .int .i64 0)]) (mem' := fun _ => [(2, r47 a0_Lasts_o a0_Lasts), (5, .cells ((fr1 1).x) 47 [.int .i64 0, .int .i64 0, .int .i64 0, .int .i64 0, .int .i64 0])]) (RunsTo.mk [(1, { act := .load 4 0 0 [] })] [1, 2, 6, 11, 12, 13] [2, 5] (fun _ => [(fr1 0).x = (fr1 0).x]) (fun _ => by kernel_rfl) (fun _ => ⟨rfl, trivial⟩)) ?_
  intro _
  refine GS.block ?_
  refine GS.loop ?_
  refine grd_elim hm (fun g33 hm => ?_)
  refine GS.rekey (env' := [(1, .int .i64 a1), (2, .int .i64 a2), (6, .pointer (some ⟨(fr1 1).x, 0, none⟩)), (11, .slice a0_Lasts_o a0_Lasts.length a0_Lasts_c), (12, .int .i64 ((a0_Lasts.length : Nat) : Int)), (13, .int .i64 0)]) (mem' := [(2, r47 a0_Lasts_o a0_Lasts), (5, .cells ((fr1 1).x) 47 [.int .i64 0, .int .i64 0, .int .i64 0, .int .i64 0, .int .i64 0])]) [1, 2, 6, 11, 12, 13] [(2, 2), (5, 5)] (by kernel_rfl) (by kernel_rfl) rfl ?_
  refine loopL_elim hm (fun st53 fn54 hst55 hfn56 hm => ?_)
  refine GS.loopInv (ι := List S_api_Last × Nat) (I := fun ⟨rs51, v13_1⟩ => a0_Lasts.drop v13_1 = rs51 ∧ loopL st53 fn54 rs51 v13_1 () = some y) (μ := fun ⟨rs51, v13_1⟩ => rs51.length) (E := fun ⟨rs51, v13_1⟩ => [(1, .int .i64 a1), (2, .int .i64 a2), (6, .pointer (some ⟨(fr1 1).x, 0, none⟩)), (11, .slice a0_Lasts_o a0_Lasts.length a0_Lasts_c), (12, .int .i64 ((a0_Lasts.length : Nat) : Int)), (13, .int .i64 ((v13_1 : Nat) : Int))]) (M := fun ⟨rs51, v13_1⟩ => [(2, r47 a0_Lasts_o a0_Lasts), (5, .cells ((fr1 1).x) 47 [.int .i64 0, .int .i64 0, .int .i64 0, .int .i64 0, .int .i64 0])]) ?_ ⟨a0_Lasts, 0⟩ ⟨List.drop_zero .., hm⟩
  rintro ⟨rs51, v13_1⟩ ⟨hd32, hm⟩ ih52
  cases rs51 with
  | nil =>
    replace hm := (hfn56 _ _).symm.trans hm
    try dsimp only at hm
    refine GS.seq ?_
    refine GS.region (env' := fun _ => [(1, .int .i64 a1), (2, .int .i64 a2), (6, .pointer (some ⟨(fr1 1).x, 0, none⟩)), (11, .slice a0_Lasts_o a0_Lasts.length a0_Lasts_c), (12, .int .i64 ((a0_Lasts.length : Nat) : Int)), (13, .int .i64 ((v13_1 : Nat) : Int)), (14, .bool (decide (((v13_1 : Nat) : Int) < ((a0_Lasts.length : Nat) : Int))))]) (mem' := fun _ => [(2, r47 a0_Lasts_o a0_Lasts), (5, .cells ((fr1 1).x) 47 [.int .i64 0, .int .i64 0, .int .i64 0, .int .i64 0, .int .i64 0])]) (RunsTo.mk [] [1, 2, 6, 11, 12, 13, 14] [2, 5] (fun _ => []) (fun _ => by kernel_rfl) (fun _ => trivial)) ?_
    intro _
    refine GS.seq ?_
    refine GS.cond (t := decide (((v13_1 : Nat) : Int) < ((a0_Lasts.length : Nat) : Int))) rfl rfl (fun h49 => absb h49 (drop_dec0 hd32)) (fun _ => ?_)
    refine GS.exit rfl ?_
    refine GS.seq ?_
    refine GS.region (env' := fun _ => [(6, .pointer (some ⟨(fr1 1).x, 0, none⟩)), (7, .int .i64 0)]) (mem' := fun _ => [(5, .cells ((fr1 1).x) 47 [.int .i64 0, .int .i64 0, .int .i64 0, .int .i64 0, .int .i64 0])]) (RunsTo.mk [(1, { act := .store 0 0 [], key := some 5 })] [6, 7] [5] (fun _ => [(fr1 1).x = (fr1 1).x, ((.agg #[.int .i64 0, .int .i64 0, .int .i64 0, .int .i64 0, .int .i64 0]) : Value).cells.toList.all Value.oneCell' = true]) (fun _ => by kernel_rfl) (fun _ => ⟨rfl, rfl, trivial⟩)) ?_
    intro _
    have hy := Option.some.inj hm
    subst hy
    refine GS.ret (fn := Try.f17) [5, 0] [.agg #[.int .i64 0, .int .i64 0, .int .i64 0, .int .i64 0, .int .i64 0], .int .i64 0] [(fr1 1).x = (fr1 1).x] rfl Try.func17 (by kernel_rfl) ⟨rfl, trivial⟩ (fun w' hs => ?_)
    exact ⟨(), rfl, hs.turnedG (ks := []) rfl rfl (ownAllG rfl)⟩
  | cons x34 rs51 =>
    replace hm := (hst55 _ _ _ _).symm.trans hm
    try dsimp only at hm
    refine GS.seq ?_
    refine GS.region (env' := fun _ => [(1, .int .i64 a1), (2, .int .i64 a2), (6, .pointer (some ⟨(fr1 1).x, 0, none⟩)), (11, .slice a0_Lasts_o a0_Lasts.length a0_Lasts_c), (12, .int .i64 ((a0_Lasts.length : Nat) : Int)), (13, .int .i64 ((v13_1 : Nat) : Int)), (14, .bool (decide (((v13_1 : Nat) : Int) < ((a0_Lasts.length : Nat) : Int))))]) (mem' := fun _ => [(2, r47 a0_Lasts_o a0_Lasts), (5, .cells ((fr1 1).x) 47 [.int .i64 0, .int .i64 0, .int .i64 0, .int .i64 0, .int .i64 0])]) (RunsTo.mk [] [1, 2, 6, 11, 12, 13, 14] [2, 5] (fun _ => []) (fun _ => by kernel_rfl) (fun _ => trivial)) ?_
    intro _
    refine GS.seq ?_
    refine GS.cond (t := decide (((v13_1 : Nat) : Int) < ((a0_Lasts.length : Nat) : Int))) rfl rfl (fun _ => ?_) (fun h36 => absb (drop_dec hd32) h36)
    refine GS.skip ?_
    refine GS.seq ?_
    refine GS.block ?_
    refine GS.seq ?_
    refine GS.region (env' := fun fr37 => [(1, .int .i64 a1), (2, .int .i64 a2), (6, .pointer (some ⟨(fr1 1).x, 0, none⟩)), (9, .pointer (some ⟨(fr37 2).x, 0, none⟩)), (11, .slice a0_Lasts_o a0_Lasts.length a0_Lasts_c), (12, .int .i64 ((a0_Lasts.length : Nat) : Int)), (13, .int .i64 ((v13_1 : Nat) : Int))]) (mem' := fun fr37 => [(2, r47 a0_Lasts_o a0_Lasts), (5, .cells ((fr1 1).x) 47 [.int .i64 0, .int .i64 0, .int .i64 0, .int .i64 0, .int .i64 0]), (6, .cells ((fr37 2).x) 47 [.int .i64 x34.Client, .int .i64 x34.Number, .int .i64 x34.Errno, .int .i64 x34.Version.Epoch, .int .i64 x34.Version.N])]) (RunsTo.mk [(0, { act := .idx 2 v13_1 }), (1, { act := .load 2 v13_1 0 [.int .i64 x34.Client, .int .i64 x34.Number, .int .i64 x34.Errno, .int .i64 x34.Version.Epoch, .int .i64 x34.Version.N] }), (2, { act := .new .var, key := some 6 }), (3, { act := .store 0 0 [], key := some 6 })] [1, 2, 6, 9, 11, 12, 13] [2, 5, 6] (fun fr37 => [a0_Lasts_o = a0_Lasts_o, a0_Lasts.length = (List.map S_api_Last.row a0_Lasts).length, (((v13_1 : Nat) : Int) : Int) = ((v13_1 : Nat) : Int), v13_1 < a0_Lasts.length, blk a0_Lasts_o = blk a0_Lasts_o, offs a0_Lasts_o + v13_1 * 5 = offs a0_Lasts_o + (v13_1 * 5 + 0), (List.map S_api_Last.row a0_Lasts)[v13_1]? = some [.int .i64 x34.Client, .int .i64 x34.Number, .int .i64 x34.Errno, .int .i64 x34.Version.Epoch, .int .i64 x34.Version.N], (fr37 2).x = (fr37 2).x, ((.agg #[.int .i64 x34.Client, .int .i64 x34.Number, .int .i64 x34.Errno, .int .i64 x34.Version.Epoch, .int .i64 x34.Version.N]) : Value).cells.toList.all Value.oneCell' = true]) (fun fr37 => by kernel_rfl) (fun fr37 => ⟨rfl, mlen S_api_Last.row a0_Lasts, rfl, (drop_lt hd32), rfl, rfl, map_drop S_api_Last.row hd32, rfl, rfl, trivial⟩)) ?_
    intro fr37
    refine GS.seq ?_
    refine GS.seq ?_
    refine GS.region (env' := fun _ => [(1, .int .i64 a1), (2, .int .i64 a2), (6, .pointer (some ⟨(fr1 1).x, 0, none⟩)), (9, .pointer (some ⟨(fr37 2).x, 0, none⟩)), (11, .slice a0_Lasts_o a0_Lasts.length a0_Lasts_c), (12, .int .i64 ((a0_Lasts.length : Nat) : Int)), (13, .int .i64 ((v13_1 : Nat) : Int)), (20, .bool (x34.Client != a1))]) (mem' := fun _ => [(2, r47 a0_Lasts_o a0_Lasts), (5, .cells ((fr1 1).x) 47 [.int .i64 0, .int .i64 0, .int .i64 0, .int .i64 0, .int .i64 0]), (6, .cells ((fr37 2).x) 47 [.int .i64 x34.Client, .int .i64 x34.Number, .int .i64 x34.Errno, .int .i64 x34.Version.Epoch, .int .i64 x34.Version.N])]) (RunsTo.mk [(1, { act := .load 6 0 0 [] })] [1, 2, 6, 9, 11, 12, 13, 20] [2, 5, 6] (fun _ => [(fr37 2).x = (fr37 2).x]) (fun _ => by kernel_rfl) (fun _ => ⟨rfl, trivial⟩)) ?_
    intro _
    refine GS.cond (t := x34.Client != a1) rfl rfl (fun h39 => ?_) (fun h39 => ?_)
    · replace hm := br_t h39 hm
      refine GS.exit rfl ?_
      refine GS.region (env' := fun _ => [(1, .int .i64 a1), (2, .int .i64 a2), (6, .pointer (some ⟨(fr1 1).x, 0, none⟩)), (11, .slice a0_Lasts_o a0_Lasts.length a0_Lasts_c), (12, .int .i64 ((a0_Lasts.length : Nat) : Int)), (13, .int .i64 ((v13_1 + 1 : Nat) : Int))]) (mem' := fun _ => [(2, r47 a0_Lasts_o a0_Lasts), (5, .cells ((fr1 1).x) 47 [.int .i64 0, .int .i64 0, .int .i64 0, .int .i64 0, .int .i64 0])]) (RunsTo.mk [(0, { sp := some (.int .i64 ((v13_1 + 1 : Nat) : Int)) })] [1, 2, 6, 11, 12, 13] [2, 5] (fun _ => [((.int .i64 (IntKind.i64.wrap (((v13_1 : Nat) : Int) + 1))) : Value) = .int .i64 ((v13_1 + 1 : Nat) : Int)]) (fun _ => by kernel_rfl) (fun _ => ⟨natw (drop_lt hd32) g33, trivial⟩)) ?_
      intro _
      refine GS.inLoop ?_
      refine GS.rekey (env' := [(1, .int .i64 a1), (2, .int .i64 a2), (6, .pointer (some ⟨(fr1 1).x, 0, none⟩)), (11, .slice a0_Lasts_o a0_Lasts.length a0_Lasts_c), (12, .int .i64 ((a0_Lasts.length : Nat) : Int)), (13, .int .i64 ((v13_1 + 1 : Nat) : Int))]) (mem' := [(2, r47 a0_Lasts_o a0_Lasts), (5, .cells ((fr1 1).x) 47 [.int .i64 0, .int .i64 0, .int .i64 0, .int .i64 0, .int .i64 0])]) [1, 2, 6, 11, 12, 13] [(2, 2), (5, 5)] (by kernel_rfl) (by kernel_rfl) rfl ?_
      exact ih52 ⟨rs51, v13_1 + 1⟩ ⟨drop_next hd32, hm⟩ (Nat.lt_succ_self _)
    · replace hm := br_f h39 hm
      refine GS.skip ?_
      refine GS.seq ?_
      refine GS.block ?_
      refine GS.seq ?_
      refine GS.region (env' := fun _ => [(2, .int .i64 a2), (6, .pointer (some ⟨(fr1 1).x, 0, none⟩)), (9, .pointer (some ⟨(fr37 2).x, 0, none⟩)), (21, .bool (a2 == x34.Number))]) (mem' := fun _ => [(5, .cells ((fr1 1).x) 47 [.int .i64 0, .int .i64 0, .int .i64 0, .int .i64 0, .int .i64 0]), (6, .cells ((fr37 2).x) 47 [.int .i64 x34.Client, .int .i64 x34.Number, .int .i64 x34.Errno, .int .i64 x34.Version.Epoch, .int .i64 x34.Version.N])]) (RunsTo.mk [(2, { act := .load 6 0 0 [] })] [2, 6, 9, 21] [5, 6] (fun _ => [(fr37 2).x = (fr37 2).x]) (fun _ => by kernel_rfl) (fun _ => ⟨rfl, trivial⟩)) ?_
      intro _
      refine GS.cond (t := a2 == x34.Number) rfl rfl (fun h41 => ?_) (fun h41 => ?_)
      · replace hm := br_t h41 hm
        refine GS.seq ?_
        refine GS.region (env' := fun _ => [(6, .pointer (some ⟨(fr1 1).x, 0, none⟩)), (7, .int .i64 1)]) (mem' := fun _ => [(5, .cells ((fr1 1).x) 47 [.int .i64 x34.Client, .int .i64 x34.Number, .int .i64 x34.Errno, .int .i64 x34.Version.Epoch, .int .i64 x34.Version.N])]) (RunsTo.mk [(0, { act := .load 6 0 0 [] }), (1, { act := .store 0 0 [], key := some 5 })] [6, 7] [5] (fun _ => [(fr37 2).x = (fr37 2).x, (fr1 1).x = (fr1 1).x, ((.agg #[.int .i64 x34.Client, .int .i64 x34.Number, .int .i64 x34.Errno, .int .i64 x34.Version.Epoch, .int .i64 x34.Version.N]) : Value).cells.toList.all Value.oneCell' = true]) (fun _ => by kernel_rfl) (fun _ => ⟨rfl, rfl, rfl, trivial⟩)) ?_
        intro _
        have hy := Option.some.inj hm
        subst hy
        refine GS.ret (fn := Try.f17) [5, 0] [.agg #[.int .i64 x34.Client, .int .i64 x34.Number, .int .i64 x34.Errno, .int .i64 x34.Version.Epoch, .int .i64 x34.Version.N], .int .i64 1] [(fr1 1).x = (fr1 1).x] rfl Try.func17 (by kernel_rfl) ⟨rfl, trivial⟩ (fun w' hs => ?_)
        exact ⟨(), rfl, hs.turnedG (ks := []) rfl rfl (ownAllG rfl)⟩
      · replace hm := br_f h41 hm
        refine GS.seq ?_
        refine GS.region (env' := fun _ => [(6, .pointer (some ⟨(fr1 1).x, 0, none⟩)), (9, .pointer (some ⟨(fr37 2).x, 0, none⟩)), (27, .bool (decide (a2 < x34.Number)))]) (mem' := fun _ => [(5, .cells ((fr1 1).x) 47 [.int .i64 0, .int .i64 0, .int .i64 0, .int .i64 0, .int .i64 0]), (6, .cells ((fr37 2).x) 47 [.int .i64 x34.Client, .int .i64 x34.Number, .int .i64 x34.Errno, .int .i64 x34.Version.Epoch, .int .i64 x34.Version.N])]) (RunsTo.mk [(2, { act := .load 6 0 0 [] })] [6, 9, 27] [5, 6] (fun _ => [(fr37 2).x = (fr37 2).x]) (fun _ => by kernel_rfl) (fun _ => ⟨rfl, trivial⟩)) ?_
        intro _
        refine GS.cond (t := decide (a2 < x34.Number)) rfl rfl (fun h44 => ?_) (fun h44 => ?_)
        · replace hm := br_t h44 hm
          refine GS.seq ?_
          refine GS.region (env' := fun _ => [(6, .pointer (some ⟨(fr1 1).x, 0, none⟩)), (7, .int .i64 2)]) (mem' := fun _ => [(5, .cells ((fr1 1).x) 47 [.int .i64 x34.Client, .int .i64 x34.Number, .int .i64 x34.Errno, .int .i64 x34.Version.Epoch, .int .i64 x34.Version.N])]) (RunsTo.mk [(0, { act := .load 6 0 0 [] }), (1, { act := .store 0 0 [], key := some 5 })] [6, 7] [5] (fun _ => [(fr37 2).x = (fr37 2).x, (fr1 1).x = (fr1 1).x, ((.agg #[.int .i64 x34.Client, .int .i64 x34.Number, .int .i64 x34.Errno, .int .i64 x34.Version.Epoch, .int .i64 x34.Version.N]) : Value).cells.toList.all Value.oneCell' = true]) (fun _ => by kernel_rfl) (fun _ => ⟨rfl, rfl, rfl, trivial⟩)) ?_
          intro _
          have hy := Option.some.inj hm
          subst hy
          refine GS.ret (fn := Try.f17) [5, 0] [.agg #[.int .i64 x34.Client, .int .i64 x34.Number, .int .i64 x34.Errno, .int .i64 x34.Version.Epoch, .int .i64 x34.Version.N], .int .i64 2] [(fr1 1).x = (fr1 1).x] rfl Try.func17 (by kernel_rfl) ⟨rfl, trivial⟩ (fun w' hs => ?_)
          exact ⟨(), rfl, hs.turnedG (ks := []) rfl rfl (ownAllG rfl)⟩
        · replace hm := br_f h44 hm
          refine GS.skip ?_
          refine GS.inBlock ?_
          refine GS.seq ?_
          refine GS.region (env' := fun _ => [(6, .pointer (some ⟨(fr1 1).x, 0, none⟩)), (7, .int .i64 0)]) (mem' := fun _ => [(5, .cells ((fr1 1).x) 47 [.int .i64 0, .int .i64 0, .int .i64 0, .int .i64 0, .int .i64 0])]) (RunsTo.mk [(1, { act := .store 0 0 [], key := some 5 })] [6, 7] [5] (fun _ => [(fr1 1).x = (fr1 1).x, ((.agg #[.int .i64 0, .int .i64 0, .int .i64 0, .int .i64 0, .int .i64 0]) : Value).cells.toList.all Value.oneCell' = true]) (fun _ => by kernel_rfl) (fun _ => ⟨rfl, rfl, trivial⟩)) ?_
          intro _
          have hy := Option.some.inj hm
          subst hy
          refine GS.ret (fn := Try.f17) [5, 0] [.agg #[.int .i64 0, .int .i64 0, .int .i64 0, .int .i64 0, .int .i64 0], .int .i64 0] [(fr1 1).x = (fr1 1).x] rfl Try.func17 (by kernel_rfl) ⟨rfl, trivial⟩ (fun w' hs => ?_)
          exact ⟨(), rfl, hs.turnedG (ks := []) rfl rfl (ownAllG rfl)⟩

theorem w_pglog_below (F : Nat) (a0 : S_api_Version) {y : Bool} (hm : m_pglog_below F a0 = some y) : CallG Try.prog 33 #[.agg #[.int .i64 a0.Epoch, .int .i64 a0.N]] (X := Unit) (fun (_ : Unit) => .bool y) [] [] (fun (_ : Unit) => []) := by
  intro w hg
  rw [m_pglog_below] at hm
  refine GS.start (S := mayT []) (mem := []) Try.func33 rfl Try.ntmps33 (Nat.le_of_ble_eq_true rfl) (hg.start rfl) ?_
  refine GS.conv (env' := [(0, .agg #[.int .i64 a0.Epoch, .int .i64 a0.N])]) rfl rfl ?_
  refine GS.seq ?_
  refine GS.region (env' := fun fr1 => [(1, .pointer (some ⟨(fr1 0).x, 0, none⟩))]) (mem' := fun fr1 => [(1, .cells ((fr1 0).x) 23 [.int .i64 a0.Epoch, .int .i64 a0.N])]) (RunsTo.mk [(0, { act := .new .var, key := some 1 })] [1] [1] (fun fr1 => []) (fun fr1 => by kernel_rfl) (fun fr1 => trivial)) ?_
  intro fr1
  refine GS.seq ?_
  refine br_elim hm (fun h3 hm => ?_) (fun h3 hm => ?_)
  · skip
    refine GS.region (env' := fun _ => [(2, .bool true)]) (mem' := fun _ => []) (RunsTo.mk [(1, { act := .load 1 0 0 [] }), (3, { sp := some (.bool true) })] [2] [] (fun _ => [(fr1 0).x = (fr1 0).x, ((.bool (decide (a0.Epoch < 0))) : Value) = .bool true]) (fun _ => by kernel_rfl) (fun _ => ⟨rfl, bool_eq h3, trivial⟩)) ?_
    intro _
    have hy := Option.some.inj hm
    subst hy
    refine GS.ret (fn := Try.f33) [0] [.bool true] [] rfl Try.func33 (by kernel_rfl) trivial (fun w' hs => ?_)
    exact ⟨(), rfl, hs.turnedG (ks := []) rfl rfl (ownAllG rfl)⟩
  · skip
    refine GS.region (env' := fun _ => [(2, .bool (decide (a0.N < 0)))]) (mem' := fun _ => []) (RunsTo.mk [(1, { act := .load 1 0 0 [] }), (3, { sp := some (.bool false) }), (5, { act := .load 1 0 0 [] })] [2] [] (fun _ => [(fr1 0).x = (fr1 0).x, ((.bool (decide (a0.Epoch < 0))) : Value) = .bool false, (fr1 0).x = (fr1 0).x]) (fun _ => by kernel_rfl) (fun _ => ⟨rfl, bool_eq h3, rfl, trivial⟩)) ?_
    intro _
    have hy := Option.some.inj hm
    subst hy
    refine GS.ret (fn := Try.f33) [0] [.bool (decide (a0.N < 0))] [] rfl Try.func33 (by kernel_rfl) trivial (fun w' hs => ?_)
    exact ⟨(), rfl, hs.turnedG (ks := []) rfl rfl (ownAllG rfl)⟩

theorem w_pglog_rising_api_Item_string_ (F : Nat) (a0_o : Option Addr) (a0_c : Nat) (a0 : List S_api_Item) {y : Bool} (hm : m_pglog_rising_api_Item_string_ F a0 = some y) : CallG Try.prog 34 #[.slice a0_o a0.length a0_c, .func (.func 35) #[] #[]] (X := Unit) (fun (_ : Unit) => .bool y) [] [r42 a0_o a0] (fun (_ : Unit) => []) := by
  intro w hg
  rw [m_pglog_rising_api_Item_string_] at hm
  refine GS.start (S := mayT []) (mem := [(1, r42 a0_o a0)]) Try.func34 rfl Try.ntmps34 (Nat.le_of_ble_eq_true rfl) (hg.start rfl) ?_
  refine GS.conv (env' := [(0, .slice a0_o a0.length a0_c), (1, .func (.func 35) #[] #[])]) rfl rfl ?_
  refine GS.seq ?_
  refine GS.region (env' := fun _ => [(0, .slice a0_o a0.length a0_c), (1, .func (.func 35) #[] #[])]) (mem' := fun _ => [(1, r42 a0_o a0)]) (RunsTo.mk [] [0, 1] [1] (fun _ => []) (fun _ => by kernel_rfl) (fun _ => trivial)) ?_
  intro _
  refine GS.seq ?_
  refine GS.seq ?_
  refine GS.region (env' := fun _ => [(0, .slice a0_o a0.length a0_c), (1, .func (.func 35) #[] #[]), (5, .int .i64 1)]) (mem' := fun _ => [(1, r42 a0_o a0)]) (RunsTo.mk [] [0, 1, 5] [1] (fun _ => []) (fun _ => by kernel_rfl) (fun _ => trivial)) ?_
  intro _
  refine GS.block ?_
  refine GS.loop ?_
  refine grd_elim hm (fun g30 hm => ?_)
  refine GS.rekey (env' := [(0, .slice a0_o a0.length a0_c), (1, .func (.func 35) #[] #[]), (5, .int .i64 1)]) (mem' := [(1, r42 a0_o a0)]) [0, 1, 5] [(1, 1)] (by kernel_rfl) (by kernel_rfl) rfl ?_
  refine loopL_elim hm (fun st49 fn50 hst51 hfn52 hm => ?_)
  refine GS.loopInv (ι := List S_api_Item × Nat) (I := fun ⟨rs47, v5_1⟩ => a0.drop v5_1 = rs47 ∧ loopL st49 fn50 rs47 v5_1 () = some y) (μ := fun ⟨rs47, v5_1⟩ => rs47.length) (E := fun ⟨rs47, v5_1⟩ => [(0, .slice a0_o a0.length a0_c), (1, .func (.func 35) #[] #[]), (5, .int .i64 ((v5_1 : Nat) : Int))]) (M := fun ⟨rs47, v5_1⟩ => [(1, r42 a0_o a0)]) ?_ ⟨(a0.drop 1), 1⟩ ⟨rfl, hm⟩
  rintro ⟨rs47, v5_1⟩ ⟨hd29, hm⟩ ih48
  cases rs47 with
  | nil =>
    replace hm := (hfn52 _ _).symm.trans hm
    try dsimp only at hm
    refine GS.seq ?_
    refine GS.seq ?_
    refine GS.region (env' := fun _ => [(0, .slice a0_o a0.length a0_c), (1, .func (.func 35) #[] #[]), (5, .int .i64 ((v5_1 : Nat) : Int)), (9, .bool (decide (((v5_1 : Nat) : Int) < ((a0.length : Nat) : Int))))]) (mem' := fun _ => [(1, r42 a0_o a0)]) (RunsTo.mk [] [0, 1, 5, 9] [1] (fun _ => []) (fun _ => by kernel_rfl) (fun _ => trivial)) ?_
    intro _
    refine GS.cond (t := decide (((v5_1 : Nat) : Int) < ((a0.length : Nat) : Int))) rfl rfl (fun h45 => absb h45 (drop_dec0 hd29)) (fun _ => ?_)
    refine GS.exit rfl ?_
    refine GS.seq ?_
    refine GS.region (env' := fun _ => [(4, .bool true)]) (mem' := fun _ => []) (RunsTo.mk [] [4] [] (fun _ => []) (fun _ => by kernel_rfl) (fun _ => trivial)) ?_
    intro _
    have hy := Option.some.inj hm
    subst hy
    refine GS.ret (fn := Try.f34) [0] [.bool true] [] rfl Try.func34 (by kernel_rfl) trivial (fun w' hs => ?_)
    exact ⟨(), rfl, hs.turnedG (ks := []) rfl rfl (ownAllG rfl)⟩
  | cons x31 rs47 =>
    replace hm := (hst51 _ _ _ _).symm.trans hm
    try dsimp only at hm
    refine GS.seq ?_
    refine GS.seq ?_
    refine GS.region (env' := fun _ => [(0, .slice a0_o a0.length a0_c), (1, .func (.func 35) #[] #[]), (5, .int .i64 ((v5_1 : Nat) : Int)), (9, .bool (decide (((v5_1 : Nat) : Int) < ((a0.length : Nat) : Int))))]) (mem' := fun _ => [(1, r42 a0_o a0)]) (RunsTo.mk [] [0, 1, 5, 9] [1] (fun _ => []) (fun _ => by kernel_rfl) (fun _ => trivial)) ?_
    intro _
    refine GS.cond (t := decide (((v5_1 : Nat) : Int) < ((a0.length : Nat) : Int))) rfl rfl (fun _ => ?_) (fun h33 => absb (drop_dec hd29) h33)
    refine GS.skip ?_
    refine GS.seq ?_
    refine GS.block ?_
    refine GS.seq ?_
    refine grd_elim hm (fun g35 hm => ?_)
    refine grd_elim hm (fun g36 hm => ?_)
    refine bnd_elim hm (fun y37 e38 hm => ?_)
    refine bnd_elim hm (fun y39 e40 hm => ?_)
    refine GS.region (env' := fun _ => [(0, .slice a0_o a0.length a0_c), (1, .func (.func 35) #[] #[]), (5, .int .i64 ((v5_1 : Nat) : Int)), (25, .bool (!(Op.bytesLess y37.toList y39.toList)))]) (mem' := fun _ => [(1, r42 a0_o a0)]) (RunsTo.mkd [(3, { sp := some (.int .i64 (((v5_1 : Nat) : Int) - 1)) }), (4, { act := .idx 1 (Int.toNat (((v5_1 : Nat) : Int) - 1)) }), (5, { act := .load 1 (Int.toNat (((v5_1 : Nat) : Int) - 1)) 0 [.string ((a0.getD (Int.toNat (((v5_1 : Nat) : Int) - 1)) dS_api_Item).Name), .int .i64 (((a0.getD (Int.toNat (((v5_1 : Nat) : Int) - 1)) dS_api_Item).Version).Epoch), .int .i64 (((a0.getD (Int.toNat (((v5_1 : Nat) : Int) - 1)) dS_api_Item).Version).N), .int .u32 ((a0.getD (Int.toNat (((v5_1 : Nat) : Int) - 1)) dS_api_Item).Crc)] }), (6, { act := .call [] (.string y37) }), (10, { act := .idx 1 v5_1 }), (11, { act := .load 1 v5_1 0 [.string x31.Name, .int .i64 x31.Version.Epoch, .int .i64 x31.Version.N, .int .u32 x31.Crc] }), (12, { act := .call [] (.string y39) })] [0, 1, 5, 25] [1] (fun _ => [((.int .i64 (IntKind.i64.wrap (((v5_1 : Nat) : Int) - 1))) : Value) = .int .i64 (((v5_1 : Nat) : Int) - 1), a0_o = a0_o, a0.length = (List.map S_api_Item.row a0).length, ((((v5_1 : Nat) : Int) - 1) : Int) = (((Int.toNat (((v5_1 : Nat) : Int) - 1)) : Nat) : Int), (Int.toNat (((v5_1 : Nat) : Int) - 1)) < a0.length, blk a0_o = blk a0_o, offs a0_o + (Int.toNat (((v5_1 : Nat) : Int) - 1)) * 4 = offs a0_o + ((Int.toNat (((v5_1 : Nat) : Int) - 1)) * 4 + 0), (List.map S_api_Item.row a0)[(Int.toNat (((v5_1 : Nat) : Int) - 1))]? = some [.string ((a0.getD (Int.toNat (((v5_1 : Nat) : Int) - 1)) dS_api_Item).Name), .int .i64 (((a0.getD (Int.toNat (((v5_1 : Nat) : Int) - 1)) dS_api_Item).Version).Epoch), .int .i64 (((a0.getD (Int.toNat (((v5_1 : Nat) : Int) - 1)) dS_api_Item).Version).N), .int .u32 ((a0.getD (Int.toNat (((v5_1 : Nat) : Int) - 1)) dS_api_Item).Crc)], CallOK Try.prog 35 #[.agg #[.string ((a0.getD (Int.toNat (((v5_1 : Nat) : Int) - 1)) dS_api_Item).Name), .int .i64 (((a0.getD (Int.toNat (((v5_1 : Nat) : Int) - 1)) dS_api_Item).Version).Epoch), .int .i64 (((a0.getD (Int.toNat (((v5_1 : Nat) : Int) - 1)) dS_api_Item).Version).N), .int .u32 ((a0.getD (Int.toNat (((v5_1 : Nat) : Int) - 1)) dS_api_Item).Crc)]] (.string y37) [], a0_o = a0_o, a0.length = (List.map S_api_Item.row a0).length, (((v5_1 : Nat) : Int) : Int) = ((v5_1 : Nat) : Int), v5_1 < a0.length, blk a0_o = blk a0_o, offs a0_o + v5_1 * 4 = offs a0_o + (v5_1 * 4 + 0), (List.map S_api_Item.row a0)[v5_1]? = some [.string x31.Name, .int .i64 x31.Version.Epoch, .int .i64 x31.Version.N, .int .u32 x31.Crc], CallOK Try.prog 35 #[.agg #[.string x31.Name, .int .i64 x31.Version.Epoch, .int .i64 x31.Version.N, .int .u32 x31.Crc]] (.string y39) []]) (by kernel_rfl) (by kernel_rfl) (fun _ => by kernel_rfl) (fun _ => ⟨I64.w g35, rfl, mlen S_api_Item.row a0, g36.eq, g36.2, rfl, rfl, map_at S_api_Item.row dS_api_Item g36.2, (w_pglog_itemName F (a0.getD (Int.toNat (((v5_1 : Nat) : Int) - 1)) dS_api_Item) e38).ok trivial, rfl, mlen S_api_Item.row a0, rfl, (drop_lt hd29), rfl, rfl, map_drop S_api_Item.row hd29, (w_pglog_itemName F x31 e40).ok trivial, trivial⟩)) ?_
    intro _
    refine GS.cond (t := !(Op.bytesLess y37.toList y39.toList)) rfl rfl (fun h41 => ?_) (fun h41 => ?_)
    · replace hm := br_t h41 hm
      refine GS.seq ?_
      refine GS.region (env' := fun _ => [(4, .bool false)]) (mem' := fun _ => []) (RunsTo.mk [] [4] [] (fun _ => []) (fun _ => by kernel_rfl) (fun _ => trivial)) ?_
      intro _
      have hy := Option.some.inj hm
      subst hy
      refine GS.ret (fn := Try.f34) [0] [.bool false] [] rfl Try.func34 (by kernel_rfl) trivial (fun w' hs => ?_)
      exact ⟨(), rfl, hs.turnedG (ks := []) rfl rfl (ownAllG rfl)⟩
    · replace hm := br_f h41 hm
      refine GS.skip ?_
      refine GS.inBlock ?_
      refine GS.region (env' := fun _ => [(0, .slice a0_o a0.length a0_c), (1, .func (.func 35) #[] #[]), (5, .int .i64 ((v5_1 + 1 : Nat) : Int))]) (mem' := fun _ => [(1, r42 a0_o a0)]) (RunsTo.mk [(1, { sp := some (.int .i64 ((v5_1 + 1 : Nat) : Int)) })] [0, 1, 5] [1] (fun _ => [((.int .i64 (IntKind.i64.wrap (((v5_1 : Nat) : Int) + 1))) : Value) = .int .i64 ((v5_1 + 1 : Nat) : Int)]) (fun _ => by kernel_rfl) (fun _ => ⟨natw (drop_lt hd29) g30, trivial⟩)) ?_
      intro _
      refine GS.inLoop ?_
      refine GS.rekey (env' := [(0, .slice a0_o a0.length a0_c), (1, .func (.func 35) #[] #[]), (5, .int .i64 ((v5_1 + 1 : Nat) : Int))]) (mem' := [(1, r42 a0_o a0)]) [0, 1, 5] [(1, 1)] (by kernel_rfl) (by kernel_rfl) rfl ?_
      exact ih48 ⟨rs47, v5_1 + 1⟩ ⟨drop_next hd29, hm⟩ (Nat.lt_succ_self _)

theorem w_pglog_rising_api_Last_int_ (F : Nat) (a0_o : Option Addr) (a0_c : Nat) (a0 : List S_api_Last) {y : Bool} (hm : m_pglog_rising_api_Last_int_ F a0 = some y) : CallG Try.prog 36 #[.slice a0_o a0.length a0_c, .func (.func 37) #[] #[]] (X := Unit) (fun (_ : Unit) => .bool y) [] [r47 a0_o a0] (fun (_ : Unit) => []) := by
  intro w hg
  rw [m_pglog_rising_api_Last_int_] at hm
  refine GS.start (S := mayT []) (mem := [(1, r47 a0_o a0)]) Try.func36 rfl Try.ntmps36 (Nat.le_of_ble_eq_true rfl) (hg.start rfl) ?_
  refine GS.conv (env' := [(0, .slice a0_o a0.length a0_c), (1, .func (.func 37) #[] #[])]) rfl rfl ?_
  refine GS.seq ?_
  refine GS.region (env' := fun _ => [(0, .slice a0_o a0.length a0_c), (1, .func (.func 37) #[] #[])]) (mem' := fun _ => [(1, r47 a0_o a0)]) (RunsTo.mk [] [0, 1] [1] (fun _ => []) (fun _ => by kernel_rfl) (fun _ => trivial)) ?_
  intro _
  refine GS.seq ?_
  refine GS.seq ?_
  refine GS.region (env' := fun _ => [(0, .slice a0_o a0.length a0_c), (1, .func (.func 37) #[] #[]), (5, .int .i64 1)]) (mem' := fun _ => [(1, r47 a0_o a0)]) (RunsTo.mk [] [0, 1, 5] [1] (fun _ => []) (fun _ => by kernel_rfl) (fun _ => trivial)) ?_
  intro _
  refine GS.block ?_
  refine GS.loop ?_
  refine grd_elim hm (fun g30 hm => ?_)
  refine GS.rekey (env' := [(0, .slice a0_o a0.length a0_c), (1, .func (.func 37) #[] #[]), (5, .int .i64 1)]) (mem' := [(1, r47 a0_o a0)]) [0, 1, 5] [(1, 1)] (by kernel_rfl) (by kernel_rfl) rfl ?_
  refine loopL_elim hm (fun st49 fn50 hst51 hfn52 hm => ?_)
  refine GS.loopInv (ι := List S_api_Last × Nat) (I := fun ⟨rs47, v5_1⟩ => a0.drop v5_1 = rs47 ∧ loopL st49 fn50 rs47 v5_1 () = some y) (μ := fun ⟨rs47, v5_1⟩ => rs47.length) (E := fun ⟨rs47, v5_1⟩ => [(0, .slice a0_o a0.length a0_c), (1, .func (.func 37) #[] #[]), (5, .int .i64 ((v5_1 : Nat) : Int))]) (M := fun ⟨rs47, v5_1⟩ => [(1, r47 a0_o a0)]) ?_ ⟨(a0.drop 1), 1⟩ ⟨rfl, hm⟩
  rintro ⟨rs47, v5_1⟩ ⟨hd29, hm⟩ ih48
  cases rs47 with
  | nil =>
    replace hm := (hfn52 _ _).symm.trans hm
    try dsimp only at hm
    refine GS.seq ?_
    refine GS.seq ?_
    refine GS.region (env' := fun _ => [(0, .slice a0_o a0.length a0_c), (1, .func (.func 37) #[] #[]), (5, .int .i64 ((v5_1 : Nat) : Int)), (9, .bool (decide (((v5_1 : Nat) : Int) < ((a0.length : Nat) : Int))))]) (mem' := fun _ => [(1, r47 a0_o a0)]) (RunsTo.mk [] [0, 1, 5, 9] [1] (fun _ => []) (fun _ => by kernel_rfl) (fun _ => trivial)) ?_
    intro _
    refine GS.cond (t := decide (((v5_1 : Nat) : Int) < ((a0.length : Nat) : Int))) rfl rfl (fun h45 => absb h45 (drop_dec0 hd29)) (fun _ => ?_)
    refine GS.exit rfl ?_
    refine GS.seq ?_
    refine GS.region (env' := fun _ => [(4, .bool true)]) (mem' := fun _ => []) (RunsTo.mk [] [4] [] (fun _ => []) (fun _ => by kernel_rfl) (fun _ => trivial)) ?_
    intro _
    have hy := Option.some.inj hm
    subst hy
    refine GS.ret (fn := Try.f36) [0] [.bool true] [] rfl Try.func36 (by kernel_rfl) trivial (fun w' hs => ?_)
    exact ⟨(), rfl, hs.turnedG (ks := []) rfl rfl (ownAllG rfl)⟩
  | cons x31 rs47 =>
    replace hm := (hst51 _ _ _ _).symm.trans hm
    try dsimp only at hm
    refine GS.seq ?_
    refine GS.seq ?_
    refine GS.region (env' := fun _ => [(0, .slice a0_o a0.length a0_c), (1, .func (.func 37) #[] #[]), (5, .int .i64 ((v5_1 : Nat) : Int)), (9, .bool (decide (((v5_1 : Nat) : Int) < ((a0.length : Nat) : Int))))]) (mem' := fun _ => [(1, r47 a0_o a0)]) (RunsTo.mk [] [0, 1, 5, 9] [1] (fun _ => []) (fun _ => by kernel_rfl) (fun _ => trivial)) ?_
    intro _
    refine GS.cond (t := decide (((v5_1 : Nat) : Int) < ((a0.length : Nat) : Int))) rfl rfl (fun _ => ?_) (fun h33 => absb (drop_dec hd29) h33)
    refine GS.skip ?_
    refine GS.seq ?_
    refine GS.block ?_
    refine GS.seq ?_
    refine grd_elim hm (fun g35 hm => ?_)
    refine grd_elim hm (fun g36 hm => ?_)
    refine bnd_elim hm (fun y37 e38 hm => ?_)
    refine bnd_elim hm (fun y39 e40 hm => ?_)
    refine GS.region (env' := fun _ => [(0, .slice a0_o a0.length a0_c), (1, .func (.func 37) #[] #[]), (5, .int .i64 ((v5_1 : Nat) : Int)), (25, .bool (decide (y37 ≥ y39)))]) (mem' := fun _ => [(1, r47 a0_o a0)]) (RunsTo.mkd [(3, { sp := some (.int .i64 (((v5_1 : Nat) : Int) - 1)) }), (4, { act := .idx 1 (Int.toNat (((v5_1 : Nat) : Int) - 1)) }), (5, { act := .load 1 (Int.toNat (((v5_1 : Nat) : Int) - 1)) 0 [.int .i64 ((a0.getD (Int.toNat (((v5_1 : Nat) : Int) - 1)) dS_api_Last).Client), .int .i64 ((a0.getD (Int.toNat (((v5_1 : Nat) : Int) - 1)) dS_api_Last).Number), .int .i64 ((a0.getD (Int.toNat (((v5_1 : Nat) : Int) - 1)) dS_api_Last).Errno), .int .i64 (((a0.getD (Int.toNat (((v5_1 : Nat) : Int) - 1)) dS_api_Last).Version).Epoch), .int .i64 (((a0.getD (Int.toNat (((v5_1 : Nat) : Int) - 1)) dS_api_Last).Version).N)] }), (6, { act := .call [] (.int .i64 y37) }), (10, { act := .idx 1 v5_1 }), (11, { act := .load 1 v5_1 0 [.int .i64 x31.Client, .int .i64 x31.Number, .int .i64 x31.Errno, .int .i64 x31.Version.Epoch, .int .i64 x31.Version.N] }), (12, { act := .call [] (.int .i64 y39) })] [0, 1, 5, 25] [1] (fun _ => [((.int .i64 (IntKind.i64.wrap (((v5_1 : Nat) : Int) - 1))) : Value) = .int .i64 (((v5_1 : Nat) : Int) - 1), a0_o = a0_o, a0.length = (List.map S_api_Last.row a0).length, ((((v5_1 : Nat) : Int) - 1) : Int) = (((Int.toNat (((v5_1 : Nat) : Int) - 1)) : Nat) : Int), (Int.toNat (((v5_1 : Nat) : Int) - 1)) < a0.length, blk a0_o = blk a0_o, offs a0_o + (Int.toNat (((v5_1 : Nat) : Int) - 1)) * 5 = offs a0_o + ((Int.toNat (((v5_1 : Nat) : Int) - 1)) * 5 + 0), (List.map S_api_Last.row a0)[(Int.toNat (((v5_1 : Nat) : Int) - 1))]? = some [.int .i64 ((a0.getD (Int.toNat (((v5_1 : Nat) : Int) - 1)) dS_api_Last).Client), .int .i64 ((a0.getD (Int.toNat (((v5_1 : Nat) : Int) - 1)) dS_api_Last).Number), .int .i64 ((a0.getD (Int.toNat (((v5_1 : Nat) : Int) - 1)) dS_api_Last).Errno), .int .i64 (((a0.getD (Int.toNat (((v5_1 : Nat) : Int) - 1)) dS_api_Last).Version).Epoch), .int .i64 (((a0.getD (Int.toNat (((v5_1 : Nat) : Int) - 1)) dS_api_Last).Version).N)], CallOK Try.prog 37 #[.agg #[.int .i64 ((a0.getD (Int.toNat (((v5_1 : Nat) : Int) - 1)) dS_api_Last).Client), .int .i64 ((a0.getD (Int.toNat (((v5_1 : Nat) : Int) - 1)) dS_api_Last).Number), .int .i64 ((a0.getD (Int.toNat (((v5_1 : Nat) : Int) - 1)) dS_api_Last).Errno), .int .i64 (((a0.getD (Int.toNat (((v5_1 : Nat) : Int) - 1)) dS_api_Last).Version).Epoch), .int .i64 (((a0.getD (Int.toNat (((v5_1 : Nat) : Int) - 1)) dS_api_Last).Version).N)]] (.int .i64 y37) [], a0_o = a0_o, a0.length = (List.map S_api_Last.row a0).length, (((v5_1 : Nat) : Int) : Int) = ((v5_1 : Nat) : Int), v5_1 < a0.length, blk a0_o = blk a0_o, offs a0_o + v5_1 * 5 = offs a0_o + (v5_1 * 5 + 0), (List.map S_api_Last.row a0)[v5_1]? = some [.int .i64 x31.Client, .int .i64 x31.Number, .int .i64 x31.Errno, .int .i64 x31.Version.Epoch, .int .i64 x31.Version.N], CallOK Try.prog 37 #[.agg #[.int .i64 x31.Client, .int .i64 x31.Number, .int .i64 x31.Errno, .int .i64 x31.Version.Epoch, .int .i64 x31.Version.N]] (.int .i64 y39) []]) (by kernel_rfl) (by kernel_rfl) (fun _ => by kernel_rfl) (fun _ => ⟨I64.w g35, rfl, mlen S_api_Last.row a0, g36.eq, g36.2, rfl, rfl, map_at S_api_Last.row dS_api_Last g36.2, (w_pglog_lastClient F (a0.getD (Int.toNat (((v5_1 : Nat) : Int) - 1)) dS_api_Last) e38).ok trivial, rfl, mlen S_api_Last.row a0, rfl, (drop_lt hd29), rfl, rfl, map_drop S_api_Last.row hd29, (w_pglog_lastClient F x31 e40).ok trivial, trivial⟩)) ?_
    intro _
    refine GS.cond (t := decide (y37 ≥ y39)) rfl rfl (fun h41 => ?_) (fun h41 => ?_)
    · replace hm := br_t h41 hm
      refine GS.seq ?_
      refine GS.region (env' := fun _ => [(4, .bool false)]) (mem' := fun _ => []) (RunsTo.mk [] [4] [] (fun _ => []) (fun _ => by kernel_rfl) (fun _ => trivial)) ?_
      intro _
      have hy := Option.some.inj hm
      subst hy
      refine GS.ret (fn := Try.f36) [0] [.bool false] [] rfl Try.func36 (by kernel_rfl) trivial (fun w' hs => ?_)
      exact ⟨(), rfl, hs.turnedG (ks := []) rfl rfl (ownAllG rfl)⟩
    · replace hm := br_f h41 hm
      refine GS.skip ?_
      refine GS.inBlock ?_
      refine GS.region (env' := fun _ => [(0, .slice a0_o a0.length a0_c), (1, .func (.func 37) #[] #[]), (5, .int .i64 ((v5_1 + 1 : Nat) : Int))]) (mem' := fun _ => [(1, r47 a0_o a0)]) (RunsTo.mk [(1, { sp := some (.int .i64 ((v5_1 + 1 : Nat) : Int)) })] [0, 1, 5] [1] (fun _ => [((.int .i64 (IntKind.i64.wrap (((v5_1 : Nat) : Int) + 1))) : Value) = .int .i64 ((v5_1 + 1 : Nat) : Int)]) (fun _ => by kernel_rfl) (fun _ => ⟨natw (drop_lt hd29) g30, trivial⟩)) ?_
      intro _
      refine GS.inLoop ?_
      refine GS.rekey (env' := [(0, .slice a0_o a0.length a0_c), (1, .func (.func 37) #[] #[]), (5, .int .i64 ((v5_1 + 1 : Nat) : Int))]) (mem' := [(1, r47 a0_o a0)]) [0, 1, 5] [(1, 1)] (by kernel_rfl) (by kernel_rfl) rfl ?_
      exact ih48 ⟨rs47, v5_1 + 1⟩ ⟨drop_next hd29, hm⟩ (Nat.lt_succ_self _)

theorem w_pglog_Check (F : Nat) (a0_Les : Int) (a0_Tail : S_api_Version) (a0_Log_o : Option Addr) (a0_Log_c : Nat) (a0_Log : List S_api_Entry) (a0_Lasts_o : Option Addr) (a0_Lasts_c : Nat) (a0_Lasts : List S_api_Last) (a0_Items_o : Option Addr) (a0_Items_c : Nat) (a0_Items : List S_api_Item) {y : Int} (hm : m_pglog_Check F a0_Les a0_Tail a0_Log a0_Lasts a0_Items = some y) : CallG Try.prog 21 #[.agg #[.int .i64 a0_Les, .int .i64 a0_Tail.Epoch, .int .i64 a0_Tail.N, .slice a0_Log_o a0_Log.length a0_Log_c, .slice a0_Lasts_o a0_Lasts.length a0_Lasts_c, .slice a0_Items_o a0_Items.length a0_Items_c]] (X := Unit) (fun (_ : Unit) => .int .i64 y) [] [r52 a0_Log_o a0_Log, r47 a0_Lasts_o a0_Lasts, r42 a0_Items_o a0_Items] (fun (_ : Unit) => []) := by
  intro w hg
  rw [m_pglog_Check] at hm
  refine GS.start (S := mayT []) (mem := [(1, r52 a0_Log_o a0_Log), (2, r47 a0_Lasts_o a0_Lasts), (3, r42 a0_Items_o a0_Items)]) Try.func21 rfl Try.ntmps21 (Nat.le_of_ble_eq_true rfl) (hg.start rfl) ?_
  refine GS.conv (env' := [(0, .agg #[.int .i64 a0_Les, .int .i64 a0_Tail.Epoch, .int .i64 a0_Tail.N, .slice a0_Log_o a0_Log.length a0_Log_c, .slice a0_Lasts_o a0_Lasts.length a0_Lasts_c, .slice a0_Items_o a0_Items.length a0_Items_c])]) rfl rfl ?_
  refine GS.seq ?_
  refine GS.region (env' := fun fr1 => [(1, .pointer (some ⟨(fr1 0).x, 0, none⟩))]) (mem' := fun fr1 => [(1, r52 a0_Log_o a0_Log), (2, r47 a0_Lasts_o a0_Lasts), (3, r42 a0_Items_o a0_Items), (4, .cells ((fr1 0).x) 28 [.int .i64 a0_Les, .int .i64 a0_Tail.Epoch, .int .i64 a0_Tail.N, .slice a0_Log_o a0_Log.length a0_Log_c, .slice a0_Lasts_o a0_Lasts.length a0_Lasts_c, .slice a0_Items_o a0_Items.length a0_Items_c])]) (RunsTo.mk [(0, { act := .new .var, key := some 4 })] [1] [1, 2, 3, 4] (fun fr1 => []) (fun fr1 => by kernel_rfl) (fun fr1 => trivial)) ?_
  intro fr1
  refine GS.seq ?_
  refine GS.seq ?_
  refine jn_elim hm (fun J7 hJ9 hm => ?_)
  refine GS.cut (ι := Bool) (I := fun (v23_0 : Bool) => J7 v23_0 = some y) (E := fun (v23_0 : Bool) => [(1, .pointer (some ⟨(fr1 0).x, 0, none⟩)), (23, .bool v23_0)]) (M := fun (v23_0 : Bool) => [(1, r52 a0_Log_o a0_Log), (2, r47 a0_Lasts_o a0_Lasts), (3, r42 a0_Items_o a0_Items), (4, .cells ((fr1 0).x) 28 [.int .i64 a0_Les, .int .i64 a0_Tail.Epoch, .int .i64 a0_Tail.N, .slice a0_Log_o a0_Log.length a0_Log_c, .slice a0_Lasts_o a0_Lasts.length a0_Lasts_c, .slice a0_Items_o a0_Items.length a0_Items_c])]) ?_ ?_
  rotate_left
  · intro H8
    refine br_elim hm (fun h3 hm => ?_) (fun h3 hm => ?_)
    · skip
      refine GS.region (env' := fun _ => [(1, .pointer (some ⟨(fr1 0).x, 0, none⟩)), (23, .bool true)]) (mem' := fun _ => [(1, r52 a0_Log_o a0_Log), (2, r47 a0_Lasts_o a0_Lasts), (3, r42 a0_Items_o a0_Items), (4, .cells ((fr1 0).x) 28 [.int .i64 a0_Les, .int .i64 a0_Tail.Epoch, .int .i64 a0_Tail.N, .slice a0_Log_o a0_Log.length a0_Log_c, .slice a0_Lasts_o a0_Lasts.length a0_Lasts_c, .slice a0_Items_o a0_Items.length a0_Items_c])]) (RunsTo.mk [(1, { act := .load 4 0 0 [] }), (3, { sp := some (.bool true) })] [1, 23] [1, 2, 3, 4] (fun _ => [(fr1 0).x = (fr1 0).x, ((.bool (decide (a0_Les < 0))) : Value) = .bool true]) (fun _ => by kernel_rfl) (fun _ => ⟨rfl, bool_eq h3, trivial⟩)) ?_
      intro _
      refine GS.rekey (env' := [(1, .pointer (some ⟨(fr1 0).x, 0, none⟩)), (23, .bool true)]) (mem' := [(1, r52 a0_Log_o a0_Log), (2, r47 a0_Lasts_o a0_Lasts), (3, r42 a0_Items_o a0_Items), (4, .cells ((fr1 0).x) 28 [.int .i64 a0_Les, .int .i64 a0_Tail.Epoch, .int .i64 a0_Tail.N, .slice a0_Log_o a0_Log.length a0_Log_c, .slice a0_Lasts_o a0_Lasts.length a0_Lasts_c, .slice a0_Items_o a0_Items.length a0_Items_c])]) [1, 23] [(1, 1), (2, 2), (3, 3), (4, 4)] (by kernel_rfl) (by kernel_rfl) rfl ?_
      exact H8 true hm
    · skip
      refine bnd_elim hm (fun y4 e5 hm => ?_)
      refine br_elim hm (fun h6 hm => ?_) (fun h6 hm => ?_)
      · skip
        refine GS.region (env' := fun _ => [(1, .pointer (some ⟨(fr1 0).x, 0, none⟩)), (23, .bool true)]) (mem' := fun _ => [(1, r52 a0_Log_o a0_Log), (2, r47 a0_Lasts_o a0_Lasts), (3, r42 a0_Items_o a0_Items), (4, .cells ((fr1 0).x) 28 [.int .i64 a0_Les, .int .i64 a0_Tail.Epoch, .int .i64 a0_Tail.N, .slice a0_Log_o a0_Log.length a0_Log_c, .slice a0_Lasts_o a0_Lasts.length a0_Lasts_c, .slice a0_Items_o a0_Items.length a0_Items_c])]) (RunsTo.mk [(1, { act := .load 4 0 0 [] }), (3, { sp := some (.bool false) }), (5, { act := .load 4 0 0 [] }), (6, { act := .call [] (.bool y4) }), (8, { sp := some (.bool true) })] [1, 23] [1, 2, 3, 4] (fun _ => [(fr1 0).x = (fr1 0).x, ((.bool (decide (a0_Les < 0))) : Value) = .bool false, (fr1 0).x = (fr1 0).x, CallOK Try.prog 33 #[.agg #[.int .i64 a0_Tail.Epoch, .int .i64 a0_Tail.N]] (.bool y4) [], ((.bool y4) : Value) = .bool true]) (fun _ => by kernel_rfl) (fun _ => ⟨rfl, bool_eq h3, rfl, (w_pglog_below F a0_Tail e5).ok trivial, bool_eq h6, trivial⟩)) ?_
        intro _
        refine GS.rekey (env' := [(1, .pointer (some ⟨(fr1 0).x, 0, none⟩)), (23, .bool true)]) (mem' := [(1, r52 a0_Log_o a0_Log), (2, r47 a0_Lasts_o a0_Lasts), (3, r42 a0_Items_o a0_Items), (4, .cells ((fr1 0).x) 28 [.int .i64 a0_Les, .int .i64 a0_Tail.Epoch, .int .i64 a0_Tail.N, .slice a0_Log_o a0_Log.length a0_Log_c, .slice a0_Lasts_o a0_Lasts.length a0_Lasts_c, .slice a0_Items_o a0_Items.length a0_Items_c])]) [1, 23] [(1, 1), (2, 2), (3, 3), (4, 4)] (by kernel_rfl) (by kernel_rfl) rfl ?_
        exact H8 true hm
      · skip
        refine GS.region (env' := fun _ => [(1, .pointer (some ⟨(fr1 0).x, 0, none⟩)), (23, .bool (decide (((a0_Items.length : Nat) : Int) > 32)))]) (mem' := fun _ => [(1, r52 a0_Log_o a0_Log), (2, r47 a0_Lasts_o a0_Lasts), (3, r42 a0_Items_o a0_Items), (4, .cells ((fr1 0).x) 28 [.int .i64 a0_Les, .int .i64 a0_Tail.Epoch, .int .i64 a0_Tail.N, .slice a0_Log_o a0_Log.length a0_Log_c, .slice a0_Lasts_o a0_Lasts.length a0_Lasts_c, .slice a0_Items_o a0_Items.length a0_Items_c])]) (RunsTo.mk [(1, { act := .load 4 0 0 [] }), (3, { sp := some (.bool false) }), (5, { act := .load 4 0 0 [] }), (6, { act := .call [] (.bool y4) }), (8, { sp := some (.bool false) }), (10, { act := .load 4 0 0 [] })] [1, 23] [1, 2, 3, 4] (fun _ => [(fr1 0).x = (fr1 0).x, ((.bool (decide (a0_Les < 0))) : Value) = .bool false, (fr1 0).x = (fr1 0).x, CallOK Try.prog 33 #[.agg #[.int .i64 a0_Tail.Epoch, .int .i64 a0_Tail.N]] (.bool y4) [], ((.bool y4) : Value) = .bool false, (fr1 0).x = (fr1 0).x]) (fun _ => by kernel_rfl) (fun _ => ⟨rfl, bool_eq h3, rfl, (w_pglog_below F a0_Tail e5).ok trivial, bool_eq h6, rfl, trivial⟩)) ?_
        intro _
        refine GS.rekey (env' := [(1, .pointer (some ⟨(fr1 0).x, 0, none⟩)), (23, .bool (decide (((a0_Items.length : Nat) : Int) > 32)))]) (mem' := [(1, r52 a0_Log_o a0_Log), (2, r47 a0_Lasts_o a0_Lasts), (3, r42 a0_Items_o a0_Items), (4, .cells ((fr1 0).x) 28 [.int .i64 a0_Les, .int .i64 a0_Tail.Epoch, .int .i64 a0_Tail.N, .slice a0_Log_o a0_Log.length a0_Log_c, .slice a0_Lasts_o a0_Lasts.length a0_Lasts_c, .slice a0_Items_o a0_Items.length a0_Items_c])]) [1, 23] [(1, 1), (2, 2), (3, 3), (4, 4)] (by kernel_rfl) (by kernel_rfl) rfl ?_
        exact H8 (decide (((a0_Items.length : Nat) : Int) > 32)) hm
  · rintro v23_0 hm
    replace hm := (hJ9 _).symm.trans hm
    try dsimp only at hm
    refine GS.cond (t := v23_0) rfl rfl (fun h10 => ?_) (fun h10 => ?_)
    · replace hm := br_t h10 hm
      refine GS.seq ?_
      refine GS.region (env' := fun _ => [(2, .int .i64 22)]) (mem' := fun _ => []) (RunsTo.mk [] [2] [] (fun _ => []) (fun _ => by kernel_rfl) (fun _ => trivial)) ?_
      intro _
      have hy := Option.some.inj hm
      subst hy
      refine GS.ret (fn := Try.f21) [0] [.int .i64 22] [] rfl Try.func21 (by kernel_rfl) trivial (fun w' hs => ?_)
      exact ⟨(), rfl, hs.turnedG (ks := []) rfl rfl (ownAllG rfl)⟩
    · replace hm := br_f h10 hm
      refine GS.skip ?_
      refine GS.seq ?_
      refine GS.region (env' := fun fr12 => [(1, .pointer (some ⟨(fr1 0).x, 0, none⟩)), (3, .pointer (some ⟨(fr12 2).x, 0, none⟩))]) (mem' := fun fr12 => [(1, r52 a0_Log_o a0_Log), (2, r47 a0_Lasts_o a0_Lasts), (3, r42 a0_Items_o a0_Items), (4, .cells ((fr1 0).x) 28 [.int .i64 a0_Les, .int .i64 a0_Tail.Epoch, .int .i64 a0_Tail.N, .slice a0_Log_o a0_Log.length a0_Log_c, .slice a0_Lasts_o a0_Lasts.length a0_Lasts_c, .slice a0_Items_o a0_Items.length a0_Items_c]), (5, .cells ((fr12 2).x) 23 [.int .i64 a0_Tail.Epoch, .int .i64 a0_Tail.N])]) (RunsTo.mk [(1, { act := .load 4 0 0 [] }), (2, { act := .new .var, key := some 5 }), (3, { act := .store 0 0 [], key := some 5 })] [1, 3] [1, 2, 3, 4, 5] (fun fr12 => [(fr1 0).x = (fr1 0).x, (fr12 2).x = (fr12 2).x, ((.agg #[.int .i64 a0_Tail.Epoch, .int .i64 a0_Tail.N]) : Value).cells.toList.all Value.oneCell' = true]) (fun fr12 => by kernel_rfl) (fun fr12 => ⟨rfl, rfl, rfl, trivial⟩)) ?_
      intro fr12
      refine GS.seq ?_
      refine GS.seq ?_
      refine GS.region (env' := fun _ => [(1, .pointer (some ⟨(fr1 0).x, 0, none⟩)), (3, .pointer (some ⟨(fr12 2).x, 0, none⟩)), (27, .slice a0_Log_o a0_Log.length a0_Log_c), (28, .int .i64 ((a0_Log.length : Nat) : Int)), (29, .int .i64 0)]) (mem' := fun _ => [(1, r52 a0_Log_o a0_Log), (2, r47 a0_Lasts_o a0_Lasts), (3, r42 a0_Items_o a0_Items), (4, .cells ((fr1 0).x) 28 [.int .i64 a0_Les, .int .i64 a0_Tail.Epoch, .int .i64 a0_Tail.N, .slice a0_Log_o a0_Log.length a0_Log_c, .slice a0_Lasts_o a0_Lasts.length a0_Lasts_c, .slice a0_Items_o a0_Items.length a0_Items_c]), (5, .cells ((fr12 2).x) 23 [.int .i64 a0_Tail.Epoch, .int .i64 a0_Tail.N])]) (RunsTo.mk [(1, { act := .load 4 0 0 [] })] [1, 3, 27, 28, 29] [1, 2, 3, 4, 5] (fun _ => [(fr1 0).x = (fr1 0).x]) (fun _ => by kernel_rfl) (fun _ => ⟨rfl, trivial⟩)) ?_
      intro _
      refine GS.block ?_
      refine GS.loop ?_
      refine grd_elim hm (fun g50 hm => ?_)
      refine GS.rekey (env' := [(1, .pointer (some ⟨(fr1 0).x, 0, none⟩)), (3, .pointer (some ⟨(fr12 2).x, 0, none⟩)), (27, .slice a0_Log_o a0_Log.length a0_Log_c), (28, .int .i64 ((a0_Log.length : Nat) : Int)), (29, .int .i64 0)]) (mem' := [(1, r52 a0_Log_o a0_Log), (2, r47 a0_Lasts_o a0_Lasts), (3, r42 a0_Items_o a0_Items), (4, .cells ((fr1 0).x) 28 [.int .i64 a0_Les, .int .i64 a0_Tail.Epoch, .int .i64 a0_Tail.N, .slice a0_Log_o a0_Log.length a0_Log_c, .slice a0_Lasts_o a0_Lasts.length a0_Lasts_c, .slice a0_Items_o a0_Items.length a0_Items_c]), (5, .cells ((fr12 2).x) 23 [.int .i64 a0_Tail.Epoch, .int .i64 a0_Tail.N])]) [1, 3, 27, 28, 29] [(1, 1), (2, 2), (3, 3), (4, 4), (5, 5)] (by kernel_rfl) (by kernel_rfl) rfl ?_
      refine loopL_elim hm (fun st73 fn74 hst75 hfn76 hm => ?_)
      refine GS.loopInv (ι := List S_api_Entry × Nat × Int × Int) (I := fun ⟨rs71, v29_1, c5_0_1, c5_1_1⟩ => a0_Log.drop v29_1 = rs71 ∧ loopL st73 fn74 rs71 v29_1 (c5_0_1, c5_1_1) = some y) (μ := fun ⟨rs71, v29_1, c5_0_1, c5_1_1⟩ => rs71.length) (E := fun ⟨rs71, v29_1, c5_0_1, c5_1_1⟩ => [(1, .pointer (some ⟨(fr1 0).x, 0, none⟩)), (3, .pointer (some ⟨(fr12 2).x, 0, none⟩)), (27, .slice a0_Log_o a0_Log.length a0_Log_c), (28, .int .i64 ((a0_Log.length : Nat) : Int)), (29, .int .i64 ((v29_1 : Nat) : Int))]) (M := fun ⟨rs71, v29_1, c5_0_1, c5_1_1⟩ => [(1, r52 a0_Log_o a0_Log), (2, r47 a0_Lasts_o a0_Lasts), (3, r42 a0_Items_o a0_Items), (4, .cells ((fr1 0).x) 28 [.int .i64 a0_Les, .int .i64 a0_Tail.Epoch, .int .i64 a0_Tail.N, .slice a0_Log_o a0_Log.length a0_Log_c, .slice a0_Lasts_o a0_Lasts.length a0_Lasts_c, .slice a0_Items_o a0_Items.length a0_Items_c]), (5, .cells ((fr12 2).x) 23 [.int .i64 c5_0_1, .int .i64 c5_1_1])]) ?_ ⟨a0_Log, 0, a0_Tail.Epoch, a0_Tail.N⟩ ⟨List.drop_zero .., hm⟩
      rintro ⟨rs71, v29_1, c5_0_1, c5_1_1⟩ ⟨hd49, hm⟩ ih72
      cases rs71 with
      | nil =>
        replace hm := (hfn76 _ _).symm.trans hm
        try dsimp only at hm
        refine GS.seq ?_
        refine GS.region (env' := fun _ => [(1, .pointer (some ⟨(fr1 0).x, 0, none⟩)), (3, .pointer (some ⟨(fr12 2).x, 0, none⟩)), (27, .slice a0_Log_o a0_Log.length a0_Log_c), (28, .int .i64 ((a0_Log.length : Nat) : Int)), (29, .int .i64 ((v29_1 : Nat) : Int)), (30, .bool (decide (((v29_1 : Nat) : Int) < ((a0_Log.length : Nat) : Int))))]) (mem' := fun _ => [(1, r52 a0_Log_o a0_Log), (2, r47 a0_Lasts_o a0_Lasts), (3, r42 a0_Items_o a0_Items), (4, .cells ((fr1 0).x) 28 [.int .i64 a0_Les, .int .i64 a0_Tail.Epoch, .int .i64 a0_Tail.N, .slice a0_Log_o a0_Log.length a0_Log_c, .slice a0_Lasts_o a0_Lasts.length a0_Lasts_c, .slice a0_Items_o a0_Items.length a0_Items_c]), (5, .cells ((fr12 2).x) 23 [.int .i64 c5_0_1, .int .i64 c5_1_1])]) (RunsTo.mk [] [1, 3, 27, 28, 29, 30] [1, 2, 3, 4, 5] (fun _ => []) (fun _ => by kernel_rfl) (fun _ => trivial)) ?_
        intro _
        refine GS.seq ?_
        refine GS.cond (t := decide (((v29_1 : Nat) : Int) < ((a0_Log.length : Nat) : Int))) rfl rfl (fun h69 => absb h69 (drop_dec0 hd49)) (fun _ => ?_)
        refine GS.exit rfl ?_
        refine GS.seq ?_
        refine GS.seq ?_
        refine jn_elim hm (fun J83 hJ85 hm => ?_)
        refine GS.cut (ι := Bool) (I := fun (v55_0 : Bool) => J83 v55_0 = some y) (E := fun (v55_0 : Bool) => [(1, .pointer (some ⟨(fr1 0).x, 0, none⟩)), (3, .pointer (some ⟨(fr12 2).x, 0, none⟩)), (55, .bool v55_0)]) (M := fun (v55_0 : Bool) => [(1, r52 a0_Log_o a0_Log), (2, r47 a0_Lasts_o a0_Lasts), (3, r42 a0_Items_o a0_Items), (4, .cells ((fr1 0).x) 28 [.int .i64 a0_Les, .int .i64 a0_Tail.Epoch, .int .i64 a0_Tail.N, .slice a0_Log_o a0_Log.length a0_Log_c, .slice a0_Lasts_o a0_Lasts.length a0_Lasts_c, .slice a0_Items_o a0_Items.length a0_Items_c]), (5, .cells ((fr12 2).x) 23 [.int .i64 c5_0_1, .int .i64 c5_1_1])]) ?_ ?_
        rotate_left
        · intro H84
          refine bnd_elim hm (fun y78 e79 hm => ?_)
          refine br_elim hm (fun h80 hm => ?_) (fun h80 hm => ?_)
          · skip
            refine GS.region (env' := fun _ => [(1, .pointer (some ⟨(fr1 0).x, 0, none⟩)), (3, .pointer (some ⟨(fr12 2).x, 0, none⟩)), (55, .bool true)]) (mem' := fun _ => [(1, r52 a0_Log_o a0_Log), (2, r47 a0_Lasts_o a0_Lasts), (3, r42 a0_Items_o a0_Items), (4, .cells ((fr1 0).x) 28 [.int .i64 a0_Les, .int .i64 a0_Tail.Epoch, .int .i64 a0_Tail.N, .slice a0_Log_o a0_Log.length a0_Log_c, .slice a0_Lasts_o a0_Lasts.length a0_Lasts_c, .slice a0_Items_o a0_Items.length a0_Items_c]), (5, .cells ((fr12 2).x) 23 [.int .i64 c5_0_1, .int .i64 c5_1_1])]) (RunsTo.mk [(1, { act := .load 4 0 0 [] }), (2, { act := .call [3] (.bool y78) }), (4, { sp := some (.bool true) })] [1, 3, 55] [1, 2, 3, 4, 5] (fun _ => [(fr1 0).x = (fr1 0).x, CallOK Try.prog 34 #[.slice a0_Items_o a0_Items.length a0_Items_c, .func (.func 35) #[] #[]] (.bool y78) [some (r42 a0_Items_o a0_Items)], ((.bool (!y78)) : Value) = .bool true]) (fun _ => by kernel_rfl) (fun _ => ⟨rfl, (w_pglog_rising_api_Item_string_ F a0_Items_o a0_Items_c a0_Items e79).ok ⟨(.inl ⟨r42 a0_Items_o a0_Items, .head _, Cov.refl _⟩), trivial⟩, bool_eq h80, trivial⟩)) ?_
            intro _
            refine GS.rekey (env' := [(1, .pointer (some ⟨(fr1 0).x, 0, none⟩)), (3, .pointer (some ⟨(fr12 2).x, 0, none⟩)), (55, .bool true)]) (mem' := [(1, r52 a0_Log_o a0_Log), (2, r47 a0_Lasts_o a0_Lasts), (3, r42 a0_Items_o a0_Items), (4, .cells ((fr1 0).x) 28 [.int .i64 a0_Les, .int .i64 a0_Tail.Epoch, .int .i64 a0_Tail.N, .slice a0_Log_o a0_Log.length a0_Log_c, .slice a0_Lasts_o a0_Lasts.length a0_Lasts_c, .slice a0_Items_o a0_Items.length a0_Items_c]), (5, .cells ((fr12 2).x) 23 [.int .i64 c5_0_1, .int .i64 c5_1_1])]) [1, 3, 55] [(1, 1), (2, 2), (3, 3), (4, 4), (5, 5)] (by kernel_rfl) (by kernel_rfl) rfl ?_
            exact H84 true hm
          · skip
            refine bnd_elim hm (fun y81 e82 hm => ?_)
            refine GS.region (env' := fun _ => [(1, .pointer (some ⟨(fr1 0).x, 0, none⟩)), (3, .pointer (some ⟨(fr12 2).x, 0, none⟩)), (55, .bool (!y81))]) (mem' := fun _ => [(1, r52 a0_Log_o a0_Log), (2, r47 a0_Lasts_o a0_Lasts), (3, r42 a0_Items_o a0_Items), (4, .cells ((fr1 0).x) 28 [.int .i64 a0_Les, .int .i64 a0_Tail.Epoch, .int .i64 a0_Tail.N, .slice a0_Log_o a0_Log.length a0_Log_c, .slice a0_Lasts_o a0_Lasts.length a0_Lasts_c, .slice a0_Items_o a0_Items.length a0_Items_c]), (5, .cells ((fr12 2).x) 23 [.int .i64 c5_0_1, .int .i64 c5_1_1])]) (RunsTo.mk [(1, { act := .load 4 0 0 [] }), (2, { act := .call [3] (.bool y78) }), (4, { sp := some (.bool false) }), (6, { act := .load 4 0 0 [] }), (7, { act := .call [2] (.bool y81) })] [1, 3, 55] [1, 2, 3, 4, 5] (fun _ => [(fr1 0).x = (fr1 0).x, CallOK Try.prog 34 #[.slice a0_Items_o a0_Items.length a0_Items_c, .func (.func 35) #[] #[]] (.bool y78) [some (r42 a0_Items_o a0_Items)], ((.bool (!y78)) : Value) = .bool false, (fr1 0).x = (fr1 0).x, CallOK Try.prog 36 #[.slice a0_Lasts_o a0_Lasts.length a0_Lasts_c, .func (.func 37) #[] #[]] (.bool y81) [some (r47 a0_Lasts_o a0_Lasts)]]) (fun _ => by kernel_rfl) (fun _ => ⟨rfl, (w_pglog_rising_api_Item_string_ F a0_Items_o a0_Items_c a0_Items e79).ok ⟨(.inl ⟨r42 a0_Items_o a0_Items, .head _, Cov.refl _⟩), trivial⟩, bool_eq h80, rfl, (w_pglog_rising_api_Last_int_ F a0_Lasts_o a0_Lasts_c a0_Lasts e82).ok ⟨(.inl ⟨r47 a0_Lasts_o a0_Lasts, .head _, Cov.refl _⟩), trivial⟩, trivial⟩)) ?_
            intro _
            refine GS.rekey (env' := [(1, .pointer (some ⟨(fr1 0).x, 0, none⟩)), (3, .pointer (some ⟨(fr12 2).x, 0, none⟩)), (55, .bool (!y81))]) (mem' := [(1, r52 a0_Log_o a0_Log), (2, r47 a0_Lasts_o a0_Lasts), (3, r42 a0_Items_o a0_Items), (4, .cells ((fr1 0).x) 28 [.int .i64 a0_Les, .int .i64 a0_Tail.Epoch, .int .i64 a0_Tail.N, .slice a0_Log_o a0_Log.length a0_Log_c, .slice a0_Lasts_o a0_Lasts.length a0_Lasts_c, .slice a0_Items_o a0_Items.length a0_Items_c]), (5, .cells ((fr12 2).x) 23 [.int .i64 c5_0_1, .int .i64 c5_1_1])]) [1, 3, 55] [(1, 1), (2, 2), (3, 3), (4, 4), (5, 5)] (by kernel_rfl) (by kernel_rfl) rfl ?_
            exact H84 (!y81) hm
        · rintro v55_0 hm
          replace hm := (hJ85 _).symm.trans hm
          try dsimp only at hm
          refine GS.cond (t := v55_0) rfl rfl (fun h86 => ?_) (fun h86 => ?_)
          · replace hm := br_t h86 hm
            refine GS.seq ?_
            refine GS.region (env' := fun _ => [(2, .int .i64 22)]) (mem' := fun _ => []) (RunsTo.mk [] [2] [] (fun _ => []) (fun _ => by kernel_rfl) (fun _ => trivial)) ?_
            intro _
            have hy := Option.some.inj hm
            subst hy
            refine GS.ret (fn := Try.f21) [0] [.int .i64 22] [] rfl Try.func21 (by kernel_rfl) trivial (fun w' hs => ?_)
            exact ⟨(), rfl, hs.turnedG (ks := []) rfl rfl (ownAllG rfl)⟩
          · replace hm := br_f h86 hm
            refine GS.skip ?_
            refine GS.seq ?_
            refine GS.seq ?_
            refine GS.region (env' := fun _ => [(1, .pointer (some ⟨(fr1 0).x, 0, none⟩)), (3, .pointer (some ⟨(fr12 2).x, 0, none⟩)), (57, .slice a0_Items_o a0_Items.length a0_Items_c), (58, .int .i64 ((a0_Items.length : Nat) : Int)), (59, .int .i64 0)]) (mem' := fun _ => [(1, r52 a0_Log_o a0_Log), (2, r47 a0_Lasts_o a0_Lasts), (3, r42 a0_Items_o a0_Items), (4, .cells ((fr1 0).x) 28 [.int .i64 a0_Les, .int .i64 a0_Tail.Epoch, .int .i64 a0_Tail.N, .slice a0_Log_o a0_Log.length a0_Log_c, .slice a0_Lasts_o a0_Lasts.length a0_Lasts_c, .slice a0_Items_o a0_Items.length a0_Items_c]), (5, .cells ((fr12 2).x) 23 [.int .i64 c5_0_1, .int .i64 c5_1_1])]) (RunsTo.mk [(1, { act := .load 4 0 0 [] })] [1, 3, 57, 58, 59] [1, 2, 3, 4, 5] (fun _ => [(fr1 0).x = (fr1 0).x]) (fun _ => by kernel_rfl) (fun _ => ⟨rfl, trivial⟩)) ?_
            intro _
            refine GS.block ?_
            refine GS.loop ?_
            refine grd_elim hm (fun g131 hm => ?_)
            refine GS.rekey (env' := [(1, .pointer (some ⟨(fr1 0).x, 0, none⟩)), (3, .pointer (some ⟨(fr12 2).x, 0, none⟩)), (57, .slice a0_Items_o a0_Items.length a0_Items_c), (58, .int .i64 ((a0_Items.length : Nat) : Int)), (59, .int .i64 0)]) (mem' := [(1, r52 a0_Log_o a0_Log), (2, r47 a0_Lasts_o a0_Lasts), (3, r42 a0_Items_o a0_Items), (4, .cells ((fr1 0).x) 28 [.int .i64 a0_Les, .int .i64 a0_Tail.Epoch, .int .i64 a0_Tail.N, .slice a0_Log_o a0_Log.length a0_Log_c, .slice a0_Lasts_o a0_Lasts.length a0_Lasts_c, .slice a0_Items_o a0_Items.length a0_Items_c]), (5, .cells ((fr12 2).x) 23 [.int .i64 c5_0_1, .int .i64 c5_1_1])]) [1, 3, 57, 58, 59] [(1, 1), (2, 2), (3, 3), (4, 4), (5, 5)] (by kernel_rfl) (by kernel_rfl) rfl ?_
            refine loopL_elim hm (fun st157 fn158 hst159 hfn160 hm => ?_)
            refine GS.loopInv (ι := List S_api_Item × Nat) (I := fun ⟨rs155, v59_1⟩ => a0_Items.drop v59_1 = rs155 ∧ loopL st157 fn158 rs155 v59_1 () = some y) (μ := fun ⟨rs155, v59_1⟩ => rs155.length) (E := fun ⟨rs155, v59_1⟩ => [(1, .pointer (some ⟨(fr1 0).x, 0, none⟩)), (3, .pointer (some ⟨(fr12 2).x, 0, none⟩)), (57, .slice a0_Items_o a0_Items.length a0_Items_c), (58, .int .i64 ((a0_Items.length : Nat) : Int)), (59, .int .i64 ((v59_1 : Nat) : Int))]) (M := fun ⟨rs155, v59_1⟩ => [(1, r52 a0_Log_o a0_Log), (2, r47 a0_Lasts_o a0_Lasts), (3, r42 a0_Items_o a0_Items), (4, .cells ((fr1 0).x) 28 [.int .i64 a0_Les, .int .i64 a0_Tail.Epoch, .int .i64 a0_Tail.N, .slice a0_Log_o a0_Log.length a0_Log_c, .slice a0_Lasts_o a0_Lasts.length a0_Lasts_c, .slice a0_Items_o a0_Items.length a0_Items_c]), (5, .cells ((fr12 2).x) 23 [.int .i64 c5_0_1, .int .i64 c5_1_1])]) ?_ ⟨a0_Items, 0⟩ ⟨List.drop_zero .., hm⟩
            rintro ⟨rs155, v59_1⟩ ⟨hd130, hm⟩ ih156
            cases rs155 with
            | nil =>
              replace hm := (hfn160 _ _).symm.trans hm
              try dsimp only at hm
              refine GS.seq ?_
              refine GS.region (env' := fun _ => [(1, .pointer (some ⟨(fr1 0).x, 0, none⟩)), (3, .pointer (some ⟨(fr12 2).x, 0, none⟩)), (57, .slice a0_Items_o a0_Items.length a0_Items_c), (58, .int .i64 ((a0_Items.length : Nat) : Int)), (59, .int .i64 ((v59_1 : Nat) : Int)), (60, .bool (decide (((v59_1 : Nat) : Int) < ((a0_Items.length : Nat) : Int))))]) (mem' := fun _ => [(1, r52 a0_Log_o a0_Log), (2, r47 a0_Lasts_o a0_Lasts), (3, r42 a0_Items_o a0_Items), (4, .cells ((fr1 0).x) 28 [.int .i64 a0_Les, .int .i64 a0_Tail.Epoch, .int .i64 a0_Tail.N, .slice a0_Log_o a0_Log.length a0_Log_c, .slice a0_Lasts_o a0_Lasts.length a0_Lasts_c, .slice a0_Items_o a0_Items.length a0_Items_c]), (5, .cells ((fr12 2).x) 23 [.int .i64 c5_0_1, .int .i64 c5_1_1])]) (RunsTo.mk [] [1, 3, 57, 58, 59, 60] [1, 2, 3, 4, 5] (fun _ => []) (fun _ => by kernel_rfl) (fun _ => trivial)) ?_
              intro _
              refine GS.seq ?_
              refine GS.cond (t := decide (((v59_1 : Nat) : Int) < ((a0_Items.length : Nat) : Int))) rfl rfl (fun h153 => absb h153 (drop_dec0 hd130)) (fun _ => ?_)
              refine GS.exit rfl ?_
              refine GS.seq ?_
              refine GS.seq ?_
              refine GS.region (env' := fun _ => [(3, .pointer (some ⟨(fr12 2).x, 0, none⟩)), (87, .slice a0_Lasts_o a0_Lasts.length a0_Lasts_c), (88, .int .i64 ((a0_Lasts.length : Nat) : Int)), (89, .int .i64 0)]) (mem' := fun _ => [(2, r47 a0_Lasts_o a0_Lasts), (5, .cells ((fr12 2).x) 23 [.int .i64 c5_0_1, .int .i64 c5_1_1])]) (RunsTo.mk [(1, { act := .load 4 0 0 [] })] [3, 87, 88, 89] [2, 5] (fun _ => [(fr1 0).x = (fr1 0).x]) (fun _ => by kernel_rfl) (fun _ => ⟨rfl, trivial⟩)) ?_
              intro _
              refine GS.block ?_
              refine GS.loop ?_
              refine grd_elim hm (fun g196 hm => ?_)
              refine GS.rekey (env' := [(3, .pointer (some ⟨(fr12 2).x, 0, none⟩)), (87, .slice a0_Lasts_o a0_Lasts.length a0_Lasts_c), (88, .int .i64 ((a0_Lasts.length : Nat) : Int)), (89, .int .i64 0)]) (mem' := [(2, r47 a0_Lasts_o a0_Lasts), (5, .cells ((fr12 2).x) 23 [.int .i64 c5_0_1, .int .i64 c5_1_1])]) [3, 87, 88, 89] [(2, 2), (5, 5)] (by kernel_rfl) (by kernel_rfl) rfl ?_
              refine loopL_elim hm (fun st218 fn219 hst220 hfn221 hm => ?_)
              refine GS.loopInv (ι := List S_api_Last × Nat) (I := fun ⟨rs216, v89_1⟩ => a0_Lasts.drop v89_1 = rs216 ∧ loopL st218 fn219 rs216 v89_1 () = some y) (μ := fun ⟨rs216, v89_1⟩ => rs216.length) (E := fun ⟨rs216, v89_1⟩ => [(3, .pointer (some ⟨(fr12 2).x, 0, none⟩)), (87, .slice a0_Lasts_o a0_Lasts.length a0_Lasts_c), (88, .int .i64 ((a0_Lasts.length : Nat) : Int)), (89, .int .i64 ((v89_1 : Nat) : Int))]) (M := fun ⟨rs216, v89_1⟩ => [(2, r47 a0_Lasts_o a0_Lasts), (5, .cells ((fr12 2).x) 23 [.int .i64 c5_0_1, .int .i64 c5_1_1])]) ?_ ⟨a0_Lasts, 0⟩ ⟨List.drop_zero .., hm⟩
              rintro ⟨rs216, v89_1⟩ ⟨hd195, hm⟩ ih217
              cases rs216 with
              | nil =>
                replace hm := (hfn221 _ _).symm.trans hm
                try dsimp only at hm
                refine GS.seq ?_
                refine GS.region (env' := fun _ => [(3, .pointer (some ⟨(fr12 2).x, 0, none⟩)), (87, .slice a0_Lasts_o a0_Lasts.length a0_Lasts_c), (88, .int .i64 ((a0_Lasts.length : Nat) : Int)), (89, .int .i64 ((v89_1 : Nat) : Int)), (90, .bool (decide (((v89_1 : Nat) : Int) < ((a0_Lasts.length : Nat) : Int))))]) (mem' := fun _ => [(2, r47 a0_Lasts_o a0_Lasts), (5, .cells ((fr12 2).x) 23 [.int .i64 c5_0_1, .int .i64 c5_1_1])]) (RunsTo.mk [] [3, 87, 88, 89, 90] [2, 5] (fun _ => []) (fun _ => by kernel_rfl) (fun _ => trivial)) ?_
                intro _
                refine GS.seq ?_
                refine GS.cond (t := decide (((v89_1 : Nat) : Int) < ((a0_Lasts.length : Nat) : Int))) rfl rfl (fun h214 => absb h214 (drop_dec0 hd195)) (fun _ => ?_)
                refine GS.exit rfl ?_
                refine GS.seq ?_
                refine GS.region (env' := fun _ => [(2, .int .i64 0)]) (mem' := fun _ => []) (RunsTo.mk [] [2] [] (fun _ => []) (fun _ => by kernel_rfl) (fun _ => trivial)) ?_
                intro _
                have hy := Option.some.inj hm
                subst hy
                refine GS.ret (fn := Try.f21) [0] [.int .i64 0] [] rfl Try.func21 (by kernel_rfl) trivial (fun w' hs => ?_)
                exact ⟨(), rfl, hs.turnedG (ks := []) rfl rfl (ownAllG rfl)⟩
              | cons x197 rs216 =>
                replace hm := (hst220 _ _ _ _).symm.trans hm
                try dsimp only at hm
                refine GS.seq ?_
                refine GS.region (env' := fun _ => [(3, .pointer (some ⟨(fr12 2).x, 0, none⟩)), (87, .slice a0_Lasts_o a0_Lasts.length a0_Lasts_c), (88, .int .i64 ((a0_Lasts.length : Nat) : Int)), (89, .int .i64 ((v89_1 : Nat) : Int)), (90, .bool (decide (((v89_1 : Nat) : Int) < ((a0_Lasts.length : Nat) : Int))))]) (mem' := fun _ => [(2, r47 a0_Lasts_o a0_Lasts), (5, .cells ((fr12 2).x) 23 [.int .i64 c5_0_1, .int .i64 c5_1_1])]) (RunsTo.mk [] [3, 87, 88, 89, 90] [2, 5] (fun _ => []) (fun _ => by kernel_rfl) (fun _ => trivial)) ?_
                intro _
                refine GS.seq ?_
                refine GS.cond (t := decide (((v89_1 : Nat) : Int) < ((a0_Lasts.length : Nat) : Int))) rfl rfl (fun _ => ?_) (fun h199 => absb (drop_dec hd195) h199)
                refine GS.skip ?_
                refine GS.seq ?_
                refine GS.block ?_
                refine GS.seq ?_
                refine GS.region (env' := fun fr200 => [(3, .pointer (some ⟨(fr12 2).x, 0, none⟩)), (9, .pointer (some ⟨(fr200 2).x, 0, none⟩)), (87, .slice a0_Lasts_o a0_Lasts.length a0_Lasts_c), (88, .int .i64 ((a0_Lasts.length : Nat) : Int)), (89, .int .i64 ((v89_1 : Nat) : Int))]) (mem' := fun fr200 => [(2, r47 a0_Lasts_o a0_Lasts), (5, .cells ((fr12 2).x) 23 [.int .i64 c5_0_1, .int .i64 c5_1_1]), (6, .cells ((fr200 2).x) 47 [.int .i64 x197.Client, .int .i64 x197.Number, .int .i64 x197.Errno, .int .i64 x197.Version.Epoch, .int .i64 x197.Version.N])]) (RunsTo.mk [(0, { act := .idx 2 v89_1 }), (1, { act := .load 2 v89_1 0 [.int .i64 x197.Client, .int .i64 x197.Number, .int .i64 x197.Errno, .int .i64 x197.Version.Epoch, .int .i64 x197.Version.N] }), (2, { act := .new .var, key := some 6 }), (3, { act := .store 0 0 [], key := some 6 })] [3, 9, 87, 88, 89] [2, 5, 6] (fun fr200 => [a0_Lasts_o = a0_Lasts_o, a0_Lasts.length = (List.map S_api_Last.row a0_Lasts).length, (((v89_1 : Nat) : Int) : Int) = ((v89_1 : Nat) : Int), v89_1 < a0_Lasts.length, blk a0_Lasts_o = blk a0_Lasts_o, offs a0_Lasts_o + v89_1 * 5 = offs a0_Lasts_o + (v89_1 * 5 + 0), (List.map S_api_Last.row a0_Lasts)[v89_1]? = some [.int .i64 x197.Client, .int .i64 x197.Number, .int .i64 x197.Errno, .int .i64 x197.Version.Epoch, .int .i64 x197.Version.N], (fr200 2).x = (fr200 2).x, ((.agg #[.int .i64 x197.Client, .int .i64 x197.Number, .int .i64 x197.Errno, .int .i64 x197.Version.Epoch, .int .i64 x197.Version.N]) : Value).cells.toList.all Value.oneCell' = true]) (fun fr200 => by kernel_rfl) (fun fr200 => ⟨rfl, mlen S_api_Last.row a0_Lasts, rfl, (drop_lt hd195), rfl, rfl, map_drop S_api_Last.row hd195, rfl, rfl, trivial⟩)) ?_
                intro fr200
                refine GS.seq ?_
                refine jn_elim hm (fun J207 hJ209 hm => ?_)
                refine GS.cut (ι := Bool) (I := fun (v102_3 : Bool) => J207 v102_3 = some y) (E := fun (v102_3 : Bool) => [(3, .pointer (some ⟨(fr12 2).x, 0, none⟩)), (87, .slice a0_Lasts_o a0_Lasts.length a0_Lasts_c), (88, .int .i64 ((a0_Lasts.length : Nat) : Int)), (89, .int .i64 ((v89_1 : Nat) : Int)), (102, .bool v102_3)]) (M := fun (v102_3 : Bool) => [(2, r47 a0_Lasts_o a0_Lasts), (5, .cells ((fr12 2).x) 23 [.int .i64 c5_0_1, .int .i64 c5_1_1])]) ?_ ?_
                rotate_left
                · intro H208
                  refine bnd_elim hm (fun y202 e203 hm => ?_)
                  refine br_elim hm (fun h204 hm => ?_) (fun h204 hm => ?_)
                  · skip
                    refine GS.region (env' := fun _ => [(3, .pointer (some ⟨(fr12 2).x, 0, none⟩)), (87, .slice a0_Lasts_o a0_Lasts.length a0_Lasts_c), (88, .int .i64 ((a0_Lasts.length : Nat) : Int)), (89, .int .i64 ((v89_1 : Nat) : Int)), (102, .bool true)]) (mem' := fun _ => [(2, r47 a0_Lasts_o a0_Lasts), (5, .cells ((fr12 2).x) 23 [.int .i64 c5_0_1, .int .i64 c5_1_1])]) (RunsTo.mk [(1, { act := .load 6 0 0 [] }), (2, { act := .call [] (.bool y202) }), (3, { sp := some (.bool true) })] [3, 87, 88, 89, 102] [2, 5] (fun _ => [(fr200 2).x = (fr200 2).x, CallOK Try.prog 33 #[.agg #[.int .i64 x197.Version.Epoch, .int .i64 x197.Version.N]] (.bool y202) [], ((.bool y202) : Value) = .bool true]) (fun _ => by kernel_rfl) (fun _ => ⟨rfl, (w_pglog_below F x197.Version e203).ok trivial, bool_eq h204, trivial⟩)) ?_
                    intro _
                    refine GS.rekey (env' := [(3, .pointer (some ⟨(fr12 2).x, 0, none⟩)), (87, .slice a0_Lasts_o a0_Lasts.length a0_Lasts_c), (88, .int .i64 ((a0_Lasts.length : Nat) : Int)), (89, .int .i64 ((v89_1 : Nat) : Int)), (102, .bool true)]) (mem' := [(2, r47 a0_Lasts_o a0_Lasts), (5, .cells ((fr12 2).x) 23 [.int .i64 c5_0_1, .int .i64 c5_1_1])]) [3, 87, 88, 89, 102] [(2, 2), (5, 5)] (by kernel_rfl) (by kernel_rfl) rfl ?_
                    exact H208 true hm
                  · skip
                    refine bnd_elim hm (fun y205 e206 hm => ?_)
                    refine GS.region (env' := fun _ => [(3, .pointer (some ⟨(fr12 2).x, 0, none⟩)), (87, .slice a0_Lasts_o a0_Lasts.length a0_Lasts_c), (88, .int .i64 ((a0_Lasts.length : Nat) : Int)), (89, .int .i64 ((v89_1 : Nat) : Int)), (102, .bool (decide (y205 > 0)))]) (mem' := fun _ => [(2, r47 a0_Lasts_o a0_Lasts), (5, .cells ((fr12 2).x) 23 [.int .i64 c5_0_1, .int .i64 c5_1_1])]) (RunsTo.mk [(1, { act := .load 6 0 0 [] }), (2, { act := .call [] (.bool y202) }), (3, { sp := some (.bool false) }), (5, { act := .load 6 0 0 [] }), (6, { act := .load 5 0 0 [] }), (7, { act := .call [] (.int .i64 y205) })] [3, 87, 88, 89, 102] [2, 5] (fun _ => [(fr200 2).x = (fr200 2).x, CallOK Try.prog 33 #[.agg #[.int .i64 x197.Version.Epoch, .int .i64 x197.Version.N]] (.bool y202) [], ((.bool y202) : Value) = .bool false, (fr200 2).x = (fr200 2).x, (fr12 2).x = (fr12 2).x, CallOK Try.prog 7 #[.agg #[.int .i64 x197.Version.Epoch, .int .i64 x197.Version.N], .agg #[.int .i64 c5_0_1, .int .i64 c5_1_1]] (.int .i64 y205) []]) (fun _ => by kernel_rfl) (fun _ => ⟨rfl, (w_pglog_below F x197.Version e203).ok trivial, bool_eq h204, rfl, rfl, (w_pglog_Cmp F x197.Version (S_api_Version.mk c5_0_1 c5_1_1) e206).ok trivial, trivial⟩)) ?_
                    intro _
                    refine GS.rekey (env' := [(3, .pointer (some ⟨(fr12 2).x, 0, none⟩)), (87, .slice a0_Lasts_o a0_Lasts.length a0_Lasts_c), (88, .int .i64 ((a0_Lasts.length : Nat) : Int)), (89, .int .i64 ((v89_1 : Nat) : Int)), (102, .bool (decide (y205 > 0)))]) (mem' := [(2, r47 a0_Lasts_o a0_Lasts), (5, .cells ((fr12 2).x) 23 [.int .i64 c5_0_1, .int .i64 c5_1_1])]) [3, 87, 88, 89, 102] [(2, 2), (5, 5)] (by kernel_rfl) (by kernel_rfl) rfl ?_
                    exact H208 (decide (y205 > 0)) hm
                · rintro v102_3 hm
                  replace hm := (hJ209 _).symm.trans hm
                  try dsimp only at hm
                  refine GS.cond (t := v102_3) rfl rfl (fun h210 => ?_) (fun h210 => ?_)
                  · replace hm := br_t h210 hm
                    refine GS.seq ?_
                    refine GS.region (env' := fun _ => [(2, .int .i64 22)]) (mem' := fun _ => []) (RunsTo.mk [] [2] [] (fun _ => []) (fun _ => by kernel_rfl) (fun _ => trivial)) ?_
                    intro _
                    have hy := Option.some.inj hm
                    subst hy
                    refine GS.ret (fn := Try.f21) [0] [.int .i64 22] [] rfl Try.func21 (by kernel_rfl) trivial (fun w' hs => ?_)
                    exact ⟨(), rfl, hs.turnedG (ks := []) rfl rfl (ownAllG rfl)⟩
                  · replace hm := br_f h210 hm
                    refine GS.skip ?_
                    refine GS.inBlock ?_
                    refine GS.region (env' := fun _ => [(3, .pointer (some ⟨(fr12 2).x, 0, none⟩)), (87, .slice a0_Lasts_o a0_Lasts.length a0_Lasts_c), (88, .int .i64 ((a0_Lasts.length : Nat) : Int)), (89, .int .i64 ((v89_1 + 1 : Nat) : Int))]) (mem' := fun _ => [(2, r47 a0_Lasts_o a0_Lasts), (5, .cells ((fr12 2).x) 23 [.int .i64 c5_0_1, .int .i64 c5_1_1])]) (RunsTo.mk [(0, { sp := some (.int .i64 ((v89_1 + 1 : Nat) : Int)) })] [3, 87, 88, 89] [2, 5] (fun _ => [((.int .i64 (IntKind.i64.wrap (((v89_1 : Nat) : Int) + 1))) : Value) = .int .i64 ((v89_1 + 1 : Nat) : Int)]) (fun _ => by kernel_rfl) (fun _ => ⟨natw (drop_lt hd195) g196, trivial⟩)) ?_
                    intro _
                    refine GS.inLoop ?_
                    refine GS.rekey (env' := [(3, .pointer (some ⟨(fr12 2).x, 0, none⟩)), (87, .slice a0_Lasts_o a0_Lasts.length a0_Lasts_c), (88, .int .i64 ((a0_Lasts.length : Nat) : Int)), (89, .int .i64 ((v89_1 + 1 : Nat) : Int))]) (mem' := [(2, r47 a0_Lasts_o a0_Lasts), (5, .cells ((fr12 2).x) 23 [.int .i64 c5_0_1, .int .i64 c5_1_1])]) [3, 87, 88, 89] [(2, 2), (5, 5)] (by kernel_rfl) (by kernel_rfl) rfl ?_
                    exact ih217 ⟨rs216, v89_1 + 1⟩ ⟨drop_next hd195, hm⟩ (Nat.lt_succ_self _)
            | cons x132 rs155 =>
              replace hm := (hst159 _ _ _ _).symm.trans hm
              try dsimp only at hm
              refine GS.seq ?_
              refine GS.region (env' := fun _ => [(1, .pointer (some ⟨(fr1 0).x, 0, none⟩)), (3, .pointer (some ⟨(fr12 2).x, 0, none⟩)), (57, .slice a0_Items_o a0_Items.length a0_Items_c), (58, .int .i64 ((a0_Items.length : Nat) : Int)), (59, .int .i64 ((v59_1 : Nat) : Int)), (60, .bool (decide (((v59_1 : Nat) : Int) < ((a0_Items.length : Nat) : Int))))]) (mem' := fun _ => [(1, r52 a0_Log_o a0_Log), (2, r47 a0_Lasts_o a0_Lasts), (3, r42 a0_Items_o a0_Items), (4, .cells ((fr1 0).x) 28 [.int .i64 a0_Les, .int .i64 a0_Tail.Epoch, .int .i64 a0_Tail.N, .slice a0_Log_o a0_Log.length a0_Log_c, .slice a0_Lasts_o a0_Lasts.length a0_Lasts_c, .slice a0_Items_o a0_Items.length a0_Items_c]), (5, .cells ((fr12 2).x) 23 [.int .i64 c5_0_1, .int .i64 c5_1_1])]) (RunsTo.mk [] [1, 3, 57, 58, 59, 60] [1, 2, 3, 4, 5] (fun _ => []) (fun _ => by kernel_rfl) (fun _ => trivial)) ?_
              intro _
              refine GS.seq ?_
              refine GS.cond (t := decide (((v59_1 : Nat) : Int) < ((a0_Items.length : Nat) : Int))) rfl rfl (fun _ => ?_) (fun h134 => absb (drop_dec hd130) h134)
              refine GS.skip ?_
              refine GS.seq ?_
              refine GS.block ?_
              refine GS.seq ?_
              refine GS.region (env' := fun fr135 => [(1, .pointer (some ⟨(fr1 0).x, 0, none⟩)), (3, .pointer (some ⟨(fr12 2).x, 0, none⟩)), (7, .pointer (some ⟨(fr135 2).x, 0, none⟩)), (57, .slice a0_Items_o a0_Items.length a0_Items_c), (58, .int .i64 ((a0_Items.length : Nat) : Int)), (59, .int .i64 ((v59_1 : Nat) : Int))]) (mem' := fun fr135 => [(1, r52 a0_Log_o a0_Log), (2, r47 a0_Lasts_o a0_Lasts), (3, r42 a0_Items_o a0_Items), (4, .cells ((fr1 0).x) 28 [.int .i64 a0_Les, .int .i64 a0_Tail.Epoch, .int .i64 a0_Tail.N, .slice a0_Log_o a0_Log.length a0_Log_c, .slice a0_Lasts_o a0_Lasts.length a0_Lasts_c, .slice a0_Items_o a0_Items.length a0_Items_c]), (5, .cells ((fr12 2).x) 23 [.int .i64 c5_0_1, .int .i64 c5_1_1]), (6, .cells ((fr135 2).x) 42 [.string x132.Name, .int .i64 x132.Version.Epoch, .int .i64 x132.Version.N, .int .u32 x132.Crc])]) (RunsTo.mk [(0, { act := .idx 3 v59_1 }), (1, { act := .load 3 v59_1 0 [.string x132.Name, .int .i64 x132.Version.Epoch, .int .i64 x132.Version.N, .int .u32 x132.Crc] }), (2, { act := .new .var, key := some 6 }), (3, { act := .store 0 0 [], key := some 6 })] [1, 3, 7, 57, 58, 59] [1, 2, 3, 4, 5, 6] (fun fr135 => [a0_Items_o = a0_Items_o, a0_Items.length = (List.map S_api_Item.row a0_Items).length, (((v59_1 : Nat) : Int) : Int) = ((v59_1 : Nat) : Int), v59_1 < a0_Items.length, blk a0_Items_o = blk a0_Items_o, offs a0_Items_o + v59_1 * 4 = offs a0_Items_o + (v59_1 * 4 + 0), (List.map S_api_Item.row a0_Items)[v59_1]? = some [.string x132.Name, .int .i64 x132.Version.Epoch, .int .i64 x132.Version.N, .int .u32 x132.Crc], (fr135 2).x = (fr135 2).x, ((.agg #[.string x132.Name, .int .i64 x132.Version.Epoch, .int .i64 x132.Version.N, .int .u32 x132.Crc]) : Value).cells.toList.all Value.oneCell' = true]) (fun fr135 => by kernel_rfl) (fun fr135 => ⟨rfl, mlen S_api_Item.row a0_Items, rfl, (drop_lt hd130), rfl, rfl, map_drop S_api_Item.row hd130, rfl, rfl, trivial⟩)) ?_
              intro fr135
              refine GS.seq ?_
              refine jn_elim hm (fun J146 hJ148 hm => ?_)
              refine GS.cut (ι := Bool) (I := fun (v84_3 : Bool) => J146 v84_3 = some y) (E := fun (v84_3 : Bool) => [(1, .pointer (some ⟨(fr1 0).x, 0, none⟩)), (3, .pointer (some ⟨(fr12 2).x, 0, none⟩)), (57, .slice a0_Items_o a0_Items.length a0_Items_c), (58, .int .i64 ((a0_Items.length : Nat) : Int)), (59, .int .i64 ((v59_1 : Nat) : Int)), (84, .bool v84_3)]) (M := fun (v84_3 : Bool) => [(1, r52 a0_Log_o a0_Log), (2, r47 a0_Lasts_o a0_Lasts), (3, r42 a0_Items_o a0_Items), (4, .cells ((fr1 0).x) 28 [.int .i64 a0_Les, .int .i64 a0_Tail.Epoch, .int .i64 a0_Tail.N, .slice a0_Log_o a0_Log.length a0_Log_c, .slice a0_Lasts_o a0_Lasts.length a0_Lasts_c, .slice a0_Items_o a0_Items.length a0_Items_c]), (5, .cells ((fr12 2).x) 23 [.int .i64 c5_0_1, .int .i64 c5_1_1])]) ?_ ?_
              rotate_left
              · intro H147
                refine bnd_elim hm (fun y137 e138 hm => ?_)
                refine br_elim hm (fun h139 hm => ?_) (fun h139 hm => ?_)
                · skip
                  refine GS.region (env' := fun _ => [(1, .pointer (some ⟨(fr1 0).x, 0, none⟩)), (3, .pointer (some ⟨(fr12 2).x, 0, none⟩)), (57, .slice a0_Items_o a0_Items.length a0_Items_c), (58, .int .i64 ((a0_Items.length : Nat) : Int)), (59, .int .i64 ((v59_1 : Nat) : Int)), (84, .bool true)]) (mem' := fun _ => [(1, r52 a0_Log_o a0_Log), (2, r47 a0_Lasts_o a0_Lasts), (3, r42 a0_Items_o a0_Items), (4, .cells ((fr1 0).x) 28 [.int .i64 a0_Les, .int .i64 a0_Tail.Epoch, .int .i64 a0_Tail.N, .slice a0_Log_o a0_Log.length a0_Log_c, .slice a0_Lasts_o a0_Lasts.length a0_Lasts_c, .slice a0_Items_o a0_Items.length a0_Items_c]), (5, .cells ((fr12 2).x) 23 [.int .i64 c5_0_1, .int .i64 c5_1_1])]) (RunsTo.mk [(1, { act := .load 6 0 0 [] }), (2, { act := .call [] (.bool y137) }), (4, { sp := some (.bool true) })] [1, 3, 57, 58, 59, 84] [1, 2, 3, 4, 5] (fun _ => [(fr135 2).x = (fr135 2).x, CallOK Try.prog 38 #[.string x132.Name] (.bool y137) [], ((.bool (!y137)) : Value) = .bool true]) (fun _ => by kernel_rfl) (fun _ => ⟨rfl, (w_place_Good F x132.Name e138).ok trivial, bool_eq h139, trivial⟩)) ?_
                  intro _
                  refine GS.rekey (env' := [(1, .pointer (some ⟨(fr1 0).x, 0, none⟩)), (3, .pointer (some ⟨(fr12 2).x, 0, none⟩)), (57, .slice a0_Items_o a0_Items.length a0_Items_c), (58, .int .i64 ((a0_Items.length : Nat) : Int)), (59, .int .i64 ((v59_1 : Nat) : Int)), (84, .bool true)]) (mem' := [(1, r52 a0_Log_o a0_Log), (2, r47 a0_Lasts_o a0_Lasts), (3, r42 a0_Items_o a0_Items), (4, .cells ((fr1 0).x) 28 [.int .i64 a0_Les, .int .i64 a0_Tail.Epoch, .int .i64 a0_Tail.N, .slice a0_Log_o a0_Log.length a0_Log_c, .slice a0_Lasts_o a0_Lasts.length a0_Lasts_c, .slice a0_Items_o a0_Items.length a0_Items_c]), (5, .cells ((fr12 2).x) 23 [.int .i64 c5_0_1, .int .i64 c5_1_1])]) [1, 3, 57, 58, 59, 84] [(1, 1), (2, 2), (3, 3), (4, 4), (5, 5)] (by kernel_rfl) (by kernel_rfl) rfl ?_
                  exact H147 true hm
                · skip
                  refine bnd_elim hm (fun y140 e141 hm => ?_)
                  refine br_elim hm (fun h142 hm => ?_) (fun h142 hm => ?_)
                  · skip
                    refine GS.region (env' := fun _ => [(1, .pointer (some ⟨(fr1 0).x, 0, none⟩)), (3, .pointer (some ⟨(fr12 2).x, 0, none⟩)), (57, .slice a0_Items_o a0_Items.length a0_Items_c), (58, .int .i64 ((a0_Items.length : Nat) : Int)), (59, .int .i64 ((v59_1 : Nat) : Int)), (84, .bool true)]) (mem' := fun _ => [(1, r52 a0_Log_o a0_Log), (2, r47 a0_Lasts_o a0_Lasts), (3, r42 a0_Items_o a0_Items), (4, .cells ((fr1 0).x) 28 [.int .i64 a0_Les, .int .i64 a0_Tail.Epoch, .int .i64 a0_Tail.N, .slice a0_Log_o a0_Log.length a0_Log_c, .slice a0_Lasts_o a0_Lasts.length a0_Lasts_c, .slice a0_Items_o a0_Items.length a0_Items_c]), (5, .cells ((fr12 2).x) 23 [.int .i64 c5_0_1, .int .i64 c5_1_1])]) (RunsTo.mk [(1, { act := .load 6 0 0 [] }), (2, { act := .call [] (.bool y137) }), (4, { sp := some (.bool false) }), (6, { act := .load 6 0 0 [] }), (7, { act := .call [] (.bool y140) }), (9, { sp := some (.bool true) })] [1, 3, 57, 58, 59, 84] [1, 2, 3, 4, 5] (fun _ => [(fr135 2).x = (fr135 2).x, CallOK Try.prog 38 #[.string x132.Name] (.bool y137) [], ((.bool (!y137)) : Value) = .bool false, (fr135 2).x = (fr135 2).x, CallOK Try.prog 33 #[.agg #[.int .i64 x132.Version.Epoch, .int .i64 x132.Version.N]] (.bool y140) [], ((.bool y140) : Value) = .bool true]) (fun _ => by kernel_rfl) (fun _ => ⟨rfl, (w_place_Good F x132.Name e138).ok trivial, bool_eq h139, rfl, (w_pglog_below F x132.Version e141).ok trivial, bool_eq h142, trivial⟩)) ?_
                    intro _
                    refine GS.rekey (env' := [(1, .pointer (some ⟨(fr1 0).x, 0, none⟩)), (3, .pointer (some ⟨(fr12 2).x, 0, none⟩)), (57, .slice a0_Items_o a0_Items.length a0_Items_c), (58, .int .i64 ((a0_Items.length : Nat) : Int)), (59, .int .i64 ((v59_1 : Nat) : Int)), (84, .bool true)]) (mem' := [(1, r52 a0_Log_o a0_Log), (2, r47 a0_Lasts_o a0_Lasts), (3, r42 a0_Items_o a0_Items), (4, .cells ((fr1 0).x) 28 [.int .i64 a0_Les, .int .i64 a0_Tail.Epoch, .int .i64 a0_Tail.N, .slice a0_Log_o a0_Log.length a0_Log_c, .slice a0_Lasts_o a0_Lasts.length a0_Lasts_c, .slice a0_Items_o a0_Items.length a0_Items_c]), (5, .cells ((fr12 2).x) 23 [.int .i64 c5_0_1, .int .i64 c5_1_1])]) [1, 3, 57, 58, 59, 84] [(1, 1), (2, 2), (3, 3), (4, 4), (5, 5)] (by kernel_rfl) (by kernel_rfl) rfl ?_
                    exact H147 true hm
                  · skip
                    refine br_elim hm (fun h143 hm => ?_) (fun h143 hm => ?_)
                    · skip
                      refine GS.region (env' := fun _ => [(1, .pointer (some ⟨(fr1 0).x, 0, none⟩)), (3, .pointer (some ⟨(fr12 2).x, 0, none⟩)), (57, .slice a0_Items_o a0_Items.length a0_Items_c), (58, .int .i64 ((a0_Items.length : Nat) : Int)), (59, .int .i64 ((v59_1 : Nat) : Int)), (84, .bool true)]) (mem' := fun _ => [(1, r52 a0_Log_o a0_Log), (2, r47 a0_Lasts_o a0_Lasts), (3, r42 a0_Items_o a0_Items), (4, .cells ((fr1 0).x) 28 [.int .i64 a0_Les, .int .i64 a0_Tail.Epoch, .int .i64 a0_Tail.N, .slice a0_Log_o a0_Log.length a0_Log_c, .slice a0_Lasts_o a0_Lasts.length a0_Lasts_c, .slice a0_Items_o a0_Items.length a0_Items_c]), (5, .cells ((fr12 2).x) 23 [.int .i64 c5_0_1, .int .i64 c5_1_1])]) (RunsTo.mk [(1, { act := .load 6 0 0 [] }), (2, { act := .call [] (.bool y137) }), (4, { sp := some (.bool false) }), (6, { act := .load 6 0 0 [] }), (7, { act := .call [] (.bool y140) }), (9, { sp := some (.bool false) }), (11, { act := .load 6 0 0 [] }), (13, { act := .eq }), (15, { sp := some (.bool true) })] [1, 3, 57, 58, 59, 84] [1, 2, 3, 4, 5] (fun _ => [(fr135 2).x = (fr135 2).x, CallOK Try.prog 38 #[.string x132.Name] (.bool y137) [], ((.bool (!y137)) : Value) = .bool false, (fr135 2).x = (fr135 2).x, CallOK Try.prog 33 #[.agg #[.int .i64 x132.Version.Epoch, .int .i64 x132.Version.N]] (.bool y140) [], ((.bool y140) : Value) = .bool false, (fr135 2).x = (fr135 2).x, ((.bool (S_api_Version.beq x132.Version (S_api_Version.mk 0 0))) : Value) = .bool true]) (fun _ => by kernel_rfl) (fun _ => ⟨rfl, (w_place_Good F x132.Name e138).ok trivial, bool_eq h139, rfl, (w_pglog_below F x132.Version e141).ok trivial, bool_eq h142, rfl, bool_eq h143, trivial⟩)) ?_
                      intro _
                      refine GS.rekey (env' := [(1, .pointer (some ⟨(fr1 0).x, 0, none⟩)), (3, .pointer (some ⟨(fr12 2).x, 0, none⟩)), (57, .slice a0_Items_o a0_Items.length a0_Items_c), (58, .int .i64 ((a0_Items.length : Nat) : Int)), (59, .int .i64 ((v59_1 : Nat) : Int)), (84, .bool true)]) (mem' := [(1, r52 a0_Log_o a0_Log), (2, r47 a0_Lasts_o a0_Lasts), (3, r42 a0_Items_o a0_Items), (4, .cells ((fr1 0).x) 28 [.int .i64 a0_Les, .int .i64 a0_Tail.Epoch, .int .i64 a0_Tail.N, .slice a0_Log_o a0_Log.length a0_Log_c, .slice a0_Lasts_o a0_Lasts.length a0_Lasts_c, .slice a0_Items_o a0_Items.length a0_Items_c]), (5, .cells ((fr12 2).x) 23 [.int .i64 c5_0_1, .int .i64 c5_1_1])]) [1, 3, 57, 58, 59, 84] [(1, 1), (2, 2), (3, 3), (4, 4), (5, 5)] (by kernel_rfl) (by kernel_rfl) rfl ?_
                      exact H147 true hm
                    · skip
                      refine bnd_elim hm (fun y144 e145 hm => ?_)
                      refine GS.region (env' := fun _ => [(1, .pointer (some ⟨(fr1 0).x, 0, none⟩)), (3, .pointer (some ⟨(fr12 2).x, 0, none⟩)), (57, .slice a0_Items_o a0_Items.length a0_Items_c), (58, .int .i64 ((a0_Items.length : Nat) : Int)), (59, .int .i64 ((v59_1 : Nat) : Int)), (84, .bool (decide (y144 > 0)))]) (mem' := fun _ => [(1, r52 a0_Log_o a0_Log), (2, r47 a0_Lasts_o a0_Lasts), (3, r42 a0_Items_o a0_Items), (4, .cells ((fr1 0).x) 28 [.int .i64 a0_Les, .int .i64 a0_Tail.Epoch, .int .i64 a0_Tail.N, .slice a0_Log_o a0_Log.length a0_Log_c, .slice a0_Lasts_o a0_Lasts.length a0_Lasts_c, .slice a0_Items_o a0_Items.length a0_Items_c]), (5, .cells ((fr12 2).x) 23 [.int .i64 c5_0_1, .int .i64 c5_1_1])]) (RunsTo.mk [(1, { act := .load 6 0 0 [] }), (2, { act := .call [] (.bool y137) }), (4, { sp := some (.bool false) }), (6, { act := .load 6 0 0 [] }), (7, { act := .call [] (.bool y140) }), (9, { sp := some (.bool false) }), (11, { act := .load 6 0 0 [] }), (13, { act := .eq }), (15, { sp := some (.bool false) }), (17, { act := .load 6 0 0 [] }), (18, { act := .load 5 0 0 [] }), (19, { act := .call [] (.int .i64 y144) })] [1, 3, 57, 58, 59, 84] [1, 2, 3, 4, 5] (fun _ => [(fr135 2).x = (fr135 2).x, CallOK Try.prog 38 #[.string x132.Name] (.bool y137) [], ((.bool (!y137)) : Value) = .bool false, (fr135 2).x = (fr135 2).x, CallOK Try.prog 33 #[.agg #[.int .i64 x132.Version.Epoch, .int .i64 x132.Version.N]] (.bool y140) [], ((.bool y140) : Value) = .bool false, (fr135 2).x = (fr135 2).x, ((.bool (S_api_Version.beq x132.Version (S_api_Version.mk 0 0))) : Value) = .bool false, (fr135 2).x = (fr135 2).x, (fr12 2).x = (fr12 2).x, CallOK Try.prog 7 #[.agg #[.int .i64 x132.Version.Epoch, .int .i64 x132.Version.N], .agg #[.int .i64 c5_0_1, .int .i64 c5_1_1]] (.int .i64 y144) []]) (fun _ => by kernel_rfl) (fun _ => ⟨rfl, (w_place_Good F x132.Name e138).ok trivial, bool_eq h139, rfl, (w_pglog_below F x132.Version e141).ok trivial, bool_eq h142, rfl, bool_eq h143, rfl, rfl, (w_pglog_Cmp F x132.Version (S_api_Version.mk c5_0_1 c5_1_1) e145).ok trivial, trivial⟩)) ?_
                      intro _
                      refine GS.rekey (env' := [(1, .pointer (some ⟨(fr1 0).x, 0, none⟩)), (3, .pointer (some ⟨(fr12 2).x, 0, none⟩)), (57, .slice a0_Items_o a0_Items.length a0_Items_c), (58, .int .i64 ((a0_Items.length : Nat) : Int)), (59, .int .i64 ((v59_1 : Nat) : Int)), (84, .bool (decide (y144 > 0)))]) (mem' := [(1, r52 a0_Log_o a0_Log), (2, r47 a0_Lasts_o a0_Lasts), (3, r42 a0_Items_o a0_Items), (4, .cells ((fr1 0).x) 28 [.int .i64 a0_Les, .int .i64 a0_Tail.Epoch, .int .i64 a0_Tail.N, .slice a0_Log_o a0_Log.length a0_Log_c, .slice a0_Lasts_o a0_Lasts.length a0_Lasts_c, .slice a0_Items_o a0_Items.length a0_Items_c]), (5, .cells ((fr12 2).x) 23 [.int .i64 c5_0_1, .int .i64 c5_1_1])]) [1, 3, 57, 58, 59, 84] [(1, 1), (2, 2), (3, 3), (4, 4), (5, 5)] (by kernel_rfl) (by kernel_rfl) rfl ?_
                      exact H147 (decide (y144 > 0)) hm
              · rintro v84_3 hm
                replace hm := (hJ148 _).symm.trans hm
                try dsimp only at hm
                refine GS.cond (t := v84_3) rfl rfl (fun h149 => ?_) (fun h149 => ?_)
                · replace hm := br_t h149 hm
                  refine GS.seq ?_
                  refine GS.region (env' := fun _ => [(2, .int .i64 22)]) (mem' := fun _ => []) (RunsTo.mk [] [2] [] (fun _ => []) (fun _ => by kernel_rfl) (fun _ => trivial)) ?_
                  intro _
                  have hy := Option.some.inj hm
                  subst hy
                  refine GS.ret (fn := Try.f21) [0] [.int .i64 22] [] rfl Try.func21 (by kernel_rfl) trivial (fun w' hs => ?_)
                  exact ⟨(), rfl, hs.turnedG (ks := []) rfl rfl (ownAllG rfl)⟩
                · replace hm := br_f h149 hm
                  refine GS.skip ?_
                  refine GS.inBlock ?_
                  refine GS.region (env' := fun _ => [(1, .pointer (some ⟨(fr1 0).x, 0, none⟩)), (3, .pointer (some ⟨(fr12 2).x, 0, none⟩)), (57, .slice a0_Items_o a0_Items.length a0_Items_c), (58, .int .i64 ((a0_Items.length : Nat) : Int)), (59, .int .i64 ((v59_1 + 1 : Nat) : Int))]) (mem' := fun _ => [(1, r52 a0_Log_o a0_Log), (2, r47 a0_Lasts_o a0_Lasts), (3, r42 a0_Items_o a0_Items), (4, .cells ((fr1 0).x) 28 [.int .i64 a0_Les, .int .i64 a0_Tail.Epoch, .int .i64 a0_Tail.N, .slice a0_Log_o a0_Log.length a0_Log_c, .slice a0_Lasts_o a0_Lasts.length a0_Lasts_c, .slice a0_Items_o a0_Items.length a0_Items_c]), (5, .cells ((fr12 2).x) 23 [.int .i64 c5_0_1, .int .i64 c5_1_1])]) (RunsTo.mk [(0, { sp := some (.int .i64 ((v59_1 + 1 : Nat) : Int)) })] [1, 3, 57, 58, 59] [1, 2, 3, 4, 5] (fun _ => [((.int .i64 (IntKind.i64.wrap (((v59_1 : Nat) : Int) + 1))) : Value) = .int .i64 ((v59_1 + 1 : Nat) : Int)]) (fun _ => by kernel_rfl) (fun _ => ⟨natw (drop_lt hd130) g131, trivial⟩)) ?_
                  intro _
                  refine GS.inLoop ?_
                  refine GS.rekey (env' := [(1, .pointer (some ⟨(fr1 0).x, 0, none⟩)), (3, .pointer (some ⟨(fr12 2).x, 0, none⟩)), (57, .slice a0_Items_o a0_Items.length a0_Items_c), (58, .int .i64 ((a0_Items.length : Nat) : Int)), (59, .int .i64 ((v59_1 + 1 : Nat) : Int))]) (mem' := [(1, r52 a0_Log_o a0_Log), (2, r47 a0_Lasts_o a0_Lasts), (3, r42 a0_Items_o a0_Items), (4, .cells ((fr1 0).x) 28 [.int .i64 a0_Les, .int .i64 a0_Tail.Epoch, .int .i64 a0_Tail.N, .slice a0_Log_o a0_Log.length a0_Log_c, .slice a0_Lasts_o a0_Lasts.length a0_Lasts_c, .slice a0_Items_o a0_Items.length a0_Items_c]), (5, .cells ((fr12 2).x) 23 [.int .i64 c5_0_1, .int .i64 c5_1_1])]) [1, 3, 57, 58, 59] [(1, 1), (2, 2), (3, 3), (4, 4), (5, 5)] (by kernel_rfl) (by kernel_rfl) rfl ?_
                  exact ih156 ⟨rs155, v59_1 + 1⟩ ⟨drop_next hd130, hm⟩ (Nat.lt_succ_self _)
      | cons x51 rs71 =>
        replace hm := (hst75 _ _ _ _).symm.trans hm
        try dsimp only at hm
        refine GS.seq ?_
        refine GS.region (env' := fun _ => [(1, .pointer (some ⟨(fr1 0).x, 0, none⟩)), (3, .pointer (some ⟨(fr12 2).x, 0, none⟩)), (27, .slice a0_Log_o a0_Log.length a0_Log_c), (28, .int .i64 ((a0_Log.length : Nat) : Int)), (29, .int .i64 ((v29_1 : Nat) : Int)), (30, .bool (decide (((v29_1 : Nat) : Int) < ((a0_Log.length : Nat) : Int))))]) (mem' := fun _ => [(1, r52 a0_Log_o a0_Log), (2, r47 a0_Lasts_o a0_Lasts), (3, r42 a0_Items_o a0_Items), (4, .cells ((fr1 0).x) 28 [.int .i64 a0_Les, .int .i64 a0_Tail.Epoch, .int .i64 a0_Tail.N, .slice a0_Log_o a0_Log.length a0_Log_c, .slice a0_Lasts_o a0_Lasts.length a0_Lasts_c, .slice a0_Items_o a0_Items.length a0_Items_c]), (5, .cells ((fr12 2).x) 23 [.int .i64 c5_0_1, .int .i64 c5_1_1])]) (RunsTo.mk [] [1, 3, 27, 28, 29, 30] [1, 2, 3, 4, 5] (fun _ => []) (fun _ => by kernel_rfl) (fun _ => trivial)) ?_
        intro _
        refine GS.seq ?_
        refine GS.cond (t := decide (((v29_1 : Nat) : Int) < ((a0_Log.length : Nat) : Int))) rfl rfl (fun _ => ?_) (fun h53 => absb (drop_dec hd49) h53)
        refine GS.skip ?_
        refine GS.seq ?_
        refine GS.block ?_
        refine GS.seq ?_
        refine GS.region (env' := fun fr54 => [(1, .pointer (some ⟨(fr1 0).x, 0, none⟩)), (3, .pointer (some ⟨(fr12 2).x, 0, none⟩)), (5, .pointer (some ⟨(fr54 2).x, 0, none⟩)), (27, .slice a0_Log_o a0_Log.length a0_Log_c), (28, .int .i64 ((a0_Log.length : Nat) : Int)), (29, .int .i64 ((v29_1 : Nat) : Int))]) (mem' := fun fr54 => [(1, r52 a0_Log_o a0_Log), (2, r47 a0_Lasts_o a0_Lasts), (3, r42 a0_Items_o a0_Items), (4, .cells ((fr1 0).x) 28 [.int .i64 a0_Les, .int .i64 a0_Tail.Epoch, .int .i64 a0_Tail.N, .slice a0_Log_o a0_Log.length a0_Log_c, .slice a0_Lasts_o a0_Lasts.length a0_Lasts_c, .slice a0_Items_o a0_Items.length a0_Items_c]), (5, .cells ((fr12 2).x) 23 [.int .i64 c5_0_1, .int .i64 c5_1_1]), (6, .cells ((fr54 2).x) 52 [.int .i64 x51.Version.Epoch, .int .i64 x51.Version.N, .bool x51.Remove, .int .i64 x51.Errno, .string x51.Name, .int .i64 x51.Client, .int .i64 x51.Number])]) (RunsTo.mk [(0, { act := .idx 1 v29_1 }), (1, { act := .load 1 v29_1 0 [.int .i64 x51.Version.Epoch, .int .i64 x51.Version.N, .bool x51.Remove, .int .i64 x51.Errno, .string x51.Name, .int .i64 x51.Client, .int .i64 x51.Number] }), (2, { act := .new .var, key := some 6 }), (3, { act := .store 0 0 [], key := some 6 })] [1, 3, 5, 27, 28, 29] [1, 2, 3, 4, 5, 6] (fun fr54 => [a0_Log_o = a0_Log_o, a0_Log.length = (List.map S_api_Entry.row a0_Log).length, (((v29_1 : Nat) : Int) : Int) = ((v29_1 : Nat) : Int), v29_1 < a0_Log.length, blk a0_Log_o = blk a0_Log_o, offs a0_Log_o + v29_1 * 7 = offs a0_Log_o + (v29_1 * 7 + 0), (List.map S_api_Entry.row a0_Log)[v29_1]? = some [.int .i64 x51.Version.Epoch, .int .i64 x51.Version.N, .bool x51.Remove, .int .i64 x51.Errno, .string x51.Name, .int .i64 x51.Client, .int .i64 x51.Number], (fr54 2).x = (fr54 2).x, ((.agg #[.int .i64 x51.Version.Epoch, .int .i64 x51.Version.N, .bool x51.Remove, .int .i64 x51.Errno, .string x51.Name, .int .i64 x51.Client, .int .i64 x51.Number]) : Value).cells.toList.all Value.oneCell' = true]) (fun fr54 => by kernel_rfl) (fun fr54 => ⟨rfl, mlen S_api_Entry.row a0_Log, rfl, (drop_lt hd49), rfl, rfl, map_drop S_api_Entry.row hd49, rfl, rfl, trivial⟩)) ?_
        intro fr54
        refine GS.seq ?_
        refine GS.seq ?_
        refine jn_elim hm (fun J61 hJ63 hm => ?_)
        refine GS.cut (ι := Bool) (I := fun (v42_3 : Bool) => J61 v42_3 = some y) (E := fun (v42_3 : Bool) => [(1, .pointer (some ⟨(fr1 0).x, 0, none⟩)), (3, .pointer (some ⟨(fr12 2).x, 0, none⟩)), (5, .pointer (some ⟨(fr54 2).x, 0, none⟩)), (27, .slice a0_Log_o a0_Log.length a0_Log_c), (28, .int .i64 ((a0_Log.length : Nat) : Int)), (29, .int .i64 ((v29_1 : Nat) : Int)), (42, .bool v42_3)]) (M := fun (v42_3 : Bool) => [(1, r52 a0_Log_o a0_Log), (2, r47 a0_Lasts_o a0_Lasts), (3, r42 a0_Items_o a0_Items), (4, .cells ((fr1 0).x) 28 [.int .i64 a0_Les, .int .i64 a0_Tail.Epoch, .int .i64 a0_Tail.N, .slice a0_Log_o a0_Log.length a0_Log_c, .slice a0_Lasts_o a0_Lasts.length a0_Lasts_c, .slice a0_Items_o a0_Items.length a0_Items_c]), (5, .cells ((fr12 2).x) 23 [.int .i64 c5_0_1, .int .i64 c5_1_1]), (6, .cells ((fr54 2).x) 52 [.int .i64 x51.Version.Epoch, .int .i64 x51.Version.N, .bool x51.Remove, .int .i64 x51.Errno, .string x51.Name, .int .i64 x51.Client, .int .i64 x51.Number])]) ?_ ?_
        rotate_left
        · intro H62
          refine bnd_elim hm (fun y56 e57 hm => ?_)
          refine br_elim hm (fun h58 hm => ?_) (fun h58 hm => ?_)
          · skip
            refine GS.region (env' := fun _ => [(1, .pointer (some ⟨(fr1 0).x, 0, none⟩)), (3, .pointer (some ⟨(fr12 2).x, 0, none⟩)), (5, .pointer (some ⟨(fr54 2).x, 0, none⟩)), (27, .slice a0_Log_o a0_Log.length a0_Log_c), (28, .int .i64 ((a0_Log.length : Nat) : Int)), (29, .int .i64 ((v29_1 : Nat) : Int)), (42, .bool true)]) (mem' := fun _ => [(1, r52 a0_Log_o a0_Log), (2, r47 a0_Lasts_o a0_Lasts), (3, r42 a0_Items_o a0_Items), (4, .cells ((fr1 0).x) 28 [.int .i64 a0_Les, .int .i64 a0_Tail.Epoch, .int .i64 a0_Tail.N, .slice a0_Log_o a0_Log.length a0_Log_c, .slice a0_Lasts_o a0_Lasts.length a0_Lasts_c, .slice a0_Items_o a0_Items.length a0_Items_c]), (5, .cells ((fr12 2).x) 23 [.int .i64 c5_0_1, .int .i64 c5_1_1]), (6, .cells ((fr54 2).x) 52 [.int .i64 x51.Version.Epoch, .int .i64 x51.Version.N, .bool x51.Remove, .int .i64 x51.Errno, .string x51.Name, .int .i64 x51.Client, .int .i64 x51.Number])]) (RunsTo.mk [(1, { act := .load 6 0 0 [] }), (2, { act := .call [] (.bool y56) }), (3, { sp := some (.bool true) })] [1, 3, 5, 27, 28, 29, 42] [1, 2, 3, 4, 5, 6] (fun _ => [(fr54 2).x = (fr54 2).x, CallOK Try.prog 33 #[.agg #[.int .i64 x51.Version.Epoch, .int .i64 x51.Version.N]] (.bool y56) [], ((.bool y56) : Value) = .bool true]) (fun _ => by kernel_rfl) (fun _ => ⟨rfl, (w_pglog_below F x51.Version e57).ok trivial, bool_eq h58, trivial⟩)) ?_
            intro _
            refine GS.rekey (env' := [(1, .pointer (some ⟨(fr1 0).x, 0, none⟩)), (3, .pointer (some ⟨(fr12 2).x, 0, none⟩)), (5, .pointer (some ⟨(fr54 2).x, 0, none⟩)), (27, .slice a0_Log_o a0_Log.length a0_Log_c), (28, .int .i64 ((a0_Log.length : Nat) : Int)), (29, .int .i64 ((v29_1 : Nat) : Int)), (42, .bool true)]) (mem' := [(1, r52 a0_Log_o a0_Log), (2, r47 a0_Lasts_o a0_Lasts), (3, r42 a0_Items_o a0_Items), (4, .cells ((fr1 0).x) 28 [.int .i64 a0_Les, .int .i64 a0_Tail.Epoch, .int .i64 a0_Tail.N, .slice a0_Log_o a0_Log.length a0_Log_c, .slice a0_Lasts_o a0_Lasts.length a0_Lasts_c, .slice a0_Items_o a0_Items.length a0_Items_c]), (5, .cells ((fr12 2).x) 23 [.int .i64 c5_0_1, .int .i64 c5_1_1]), (6, .cells ((fr54 2).x) 52 [.int .i64 x51.Version.Epoch, .int .i64 x51.Version.N, .bool x51.Remove, .int .i64 x51.Errno, .string x51.Name, .int .i64 x51.Client, .int .i64 x51.Number])]) [1, 3, 5, 27, 28, 29, 42] [(1, 1), (2, 2), (3, 3), (4, 4), (5, 5), (6, 6)] (by kernel_rfl) (by kernel_rfl) rfl ?_
            exact H62 true hm
          · skip
            refine bnd_elim hm (fun y59 e60 hm => ?_)
            refine GS.region (env' := fun _ => [(1, .pointer (some ⟨(fr1 0).x, 0, none⟩)), (3, .pointer (some ⟨(fr12 2).x, 0, none⟩)), (5, .pointer (some ⟨(fr54 2).x, 0, none⟩)), (27, .slice a0_Log_o a0_Log.length a0_Log_c), (28, .int .i64 ((a0_Log.length : Nat) : Int)), (29, .int .i64 ((v29_1 : Nat) : Int)), (42, .bool (decide (y59 ≤ 0)))]) (mem' := fun _ => [(1, r52 a0_Log_o a0_Log), (2, r47 a0_Lasts_o a0_Lasts), (3, r42 a0_Items_o a0_Items), (4, .cells ((fr1 0).x) 28 [.int .i64 a0_Les, .int .i64 a0_Tail.Epoch, .int .i64 a0_Tail.N, .slice a0_Log_o a0_Log.length a0_Log_c, .slice a0_Lasts_o a0_Lasts.length a0_Lasts_c, .slice a0_Items_o a0_Items.length a0_Items_c]), (5, .cells ((fr12 2).x) 23 [.int .i64 c5_0_1, .int .i64 c5_1_1]), (6, .cells ((fr54 2).x) 52 [.int .i64 x51.Version.Epoch, .int .i64 x51.Version.N, .bool x51.Remove, .int .i64 x51.Errno, .string x51.Name, .int .i64 x51.Client, .int .i64 x51.Number])]) (RunsTo.mk [(1, { act := .load 6 0 0 [] }), (2, { act := .call [] (.bool y56) }), (3, { sp := some (.bool false) }), (5, { act := .load 6 0 0 [] }), (6, { act := .load 5 0 0 [] }), (7, { act := .call [] (.int .i64 y59) })] [1, 3, 5, 27, 28, 29, 42] [1, 2, 3, 4, 5, 6] (fun _ => [(fr54 2).x = (fr54 2).x, CallOK Try.prog 33 #[.agg #[.int .i64 x51.Version.Epoch, .int .i64 x51.Version.N]] (.bool y56) [], ((.bool y56) : Value) = .bool false, (fr54 2).x = (fr54 2).x, (fr12 2).x = (fr12 2).x, CallOK Try.prog 7 #[.agg #[.int .i64 x51.Version.Epoch, .int .i64 x51.Version.N], .agg #[.int .i64 c5_0_1, .int .i64 c5_1_1]] (.int .i64 y59) []]) (fun _ => by kernel_rfl) (fun _ => ⟨rfl, (w_pglog_below F x51.Version e57).ok trivial, bool_eq h58, rfl, rfl, (w_pglog_Cmp F x51.Version (S_api_Version.mk c5_0_1 c5_1_1) e60).ok trivial, trivial⟩)) ?_
            intro _
            refine GS.rekey (env' := [(1, .pointer (some ⟨(fr1 0).x, 0, none⟩)), (3, .pointer (some ⟨(fr12 2).x, 0, none⟩)), (5, .pointer (some ⟨(fr54 2).x, 0, none⟩)), (27, .slice a0_Log_o a0_Log.length a0_Log_c), (28, .int .i64 ((a0_Log.length : Nat) : Int)), (29, .int .i64 ((v29_1 : Nat) : Int)), (42, .bool (decide (y59 ≤ 0)))]) (mem' := [(1, r52 a0_Log_o a0_Log), (2, r47 a0_Lasts_o a0_Lasts), (3, r42 a0_Items_o a0_Items), (4, .cells ((fr1 0).x) 28 [.int .i64 a0_Les, .int .i64 a0_Tail.Epoch, .int .i64 a0_Tail.N, .slice a0_Log_o a0_Log.length a0_Log_c, .slice a0_Lasts_o a0_Lasts.length a0_Lasts_c, .slice a0_Items_o a0_Items.length a0_Items_c]), (5, .cells ((fr12 2).x) 23 [.int .i64 c5_0_1, .int .i64 c5_1_1]), (6, .cells ((fr54 2).x) 52 [.int .i64 x51.Version.Epoch, .int .i64 x51.Version.N, .bool x51.Remove, .int .i64 x51.Errno, .string x51.Name, .int .i64 x51.Client, .int .i64 x51.Number])]) [1, 3, 5, 27, 28, 29, 42] [(1, 1), (2, 2), (3, 3), (4, 4), (5, 5), (6, 6)] (by kernel_rfl) (by kernel_rfl) rfl ?_
            exact H62 (decide (y59 ≤ 0)) hm
        · rintro v42_3 hm
          replace hm := (hJ63 _).symm.trans hm
          try dsimp only at hm
          refine GS.cond (t := v42_3) rfl rfl (fun h64 => ?_) (fun h64 => ?_)
          · replace hm := br_t h64 hm
            refine GS.seq ?_
            refine GS.region (env' := fun _ => [(2, .int .i64 22)]) (mem' := fun _ => []) (RunsTo.mk [] [2] [] (fun _ => []) (fun _ => by kernel_rfl) (fun _ => trivial)) ?_
            intro _
            have hy := Option.some.inj hm
            subst hy
            refine GS.ret (fn := Try.f21) [0] [.int .i64 22] [] rfl Try.func21 (by kernel_rfl) trivial (fun w' hs => ?_)
            exact ⟨(), rfl, hs.turnedG (ks := []) rfl rfl (ownAllG rfl)⟩
          · replace hm := br_f h64 hm
            refine GS.skip ?_
            refine GS.region (env' := fun _ => [(1, .pointer (some ⟨(fr1 0).x, 0, none⟩)), (3, .pointer (some ⟨(fr12 2).x, 0, none⟩)), (27, .slice a0_Log_o a0_Log.length a0_Log_c), (28, .int .i64 ((a0_Log.length : Nat) : Int)), (29, .int .i64 ((v29_1 : Nat) : Int))]) (mem' := fun _ => [(1, r52 a0_Log_o a0_Log), (2, r47 a0_Lasts_o a0_Lasts), (3, r42 a0_Items_o a0_Items), (4, .cells ((fr1 0).x) 28 [.int .i64 a0_Les, .int .i64 a0_Tail.Epoch, .int .i64 a0_Tail.N, .slice a0_Log_o a0_Log.length a0_Log_c, .slice a0_Lasts_o a0_Lasts.length a0_Lasts_c, .slice a0_Items_o a0_Items.length a0_Items_c]), (5, .cells ((fr12 2).x) 23 [.int .i64 x51.Version.Epoch, .int .i64 x51.Version.N])]) (RunsTo.mk [(1, { act := .load 6 0 0 [] }), (2, { act := .store 0 0 [], key := some 5 })] [1, 3, 27, 28, 29] [1, 2, 3, 4, 5] (fun _ => [(fr54 2).x = (fr54 2).x, (fr12 2).x = (fr12 2).x, ((.agg #[.int .i64 x51.Version.Epoch, .int .i64 x51.Version.N]) : Value).cells.toList.all Value.oneCell' = true]) (fun _ => by kernel_rfl) (fun _ => ⟨rfl, rfl, rfl, trivial⟩)) ?_
            intro _
            refine GS.inBlock ?_
            refine GS.region (env' := fun _ => [(1, .pointer (some ⟨(fr1 0).x, 0, none⟩)), (3, .pointer (some ⟨(fr12 2).x, 0, none⟩)), (27, .slice a0_Log_o a0_Log.length a0_Log_c), (28, .int .i64 ((a0_Log.length : Nat) : Int)), (29, .int .i64 ((v29_1 + 1 : Nat) : Int))]) (mem' := fun _ => [(1, r52 a0_Log_o a0_Log), (2, r47 a0_Lasts_o a0_Lasts), (3, r42 a0_Items_o a0_Items), (4, .cells ((fr1 0).x) 28 [.int .i64 a0_Les, .int .i64 a0_Tail.Epoch, .int .i64 a0_Tail.N, .slice a0_Log_o a0_Log.length a0_Log_c, .slice a0_Lasts_o a0_Lasts.length a0_Lasts_c, .slice a0_Items_o a0_Items.length a0_Items_c]), (5, .cells ((fr12 2).x) 23 [.int .i64 x51.Version.Epoch, .int .i64 x51.Version.N])]) (RunsTo.mk [(0, { sp := some (.int .i64 ((v29_1 + 1 : Nat) : Int)) })] [1, 3, 27, 28, 29] [1, 2, 3, 4, 5] (fun _ => [((.int .i64 (IntKind.i64.wrap (((v29_1 : Nat) : Int) + 1))) : Value) = .int .i64 ((v29_1 + 1 : Nat) : Int)]) (fun _ => by kernel_rfl) (fun _ => ⟨natw (drop_lt hd49) g50, trivial⟩)) ?_
            intro _
            refine GS.inLoop ?_
            refine GS.rekey (env' := [(1, .pointer (some ⟨(fr1 0).x, 0, none⟩)), (3, .pointer (some ⟨(fr12 2).x, 0, none⟩)), (27, .slice a0_Log_o a0_Log.length a0_Log_c), (28, .int .i64 ((a0_Log.length : Nat) : Int)), (29, .int .i64 ((v29_1 + 1 : Nat) : Int))]) (mem' := [(1, r52 a0_Log_o a0_Log), (2, r47 a0_Lasts_o a0_Lasts), (3, r42 a0_Items_o a0_Items), (4, .cells ((fr1 0).x) 28 [.int .i64 a0_Les, .int .i64 a0_Tail.Epoch, .int .i64 a0_Tail.N, .slice a0_Log_o a0_Log.length a0_Log_c, .slice a0_Lasts_o a0_Lasts.length a0_Lasts_c, .slice a0_Items_o a0_Items.length a0_Items_c]), (5, .cells ((fr12 2).x) 23 [.int .i64 x51.Version.Epoch, .int .i64 x51.Version.N])]) [1, 3, 27, 28, 29] [(1, 1), (2, 2), (3, 3), (4, 4), (5, 5)] (by kernel_rfl) (by kernel_rfl) rfl ?_
            exact ih72 ⟨rs71, v29_1 + 1, x51.Version.Epoch, x51.Version.N⟩ ⟨drop_next hd49, hm⟩ (Nat.lt_succ_self _)

end Go.Proofs.Ytmoaiokgbjkaaaa
