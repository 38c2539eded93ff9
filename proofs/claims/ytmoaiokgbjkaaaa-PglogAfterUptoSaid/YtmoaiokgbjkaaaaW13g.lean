/-
  CHAPTER 13: the functions do what their models say (7).
-/
import Derived.Test.YtmoaiokgbjkaaaaW13f
set_option linter.unusedVariables false
set_option linter.unusedSimpArgs false
set_option maxRecDepth 100000
namespace Go.Proofs.Ytmoaiokgbjkaaaa
open Go Go.RowKit Sx

theorem w_tholeref13_Find (F : Nat) (a0_Les : Int) (a0_Tail : S_api_Version) (a0_Log_o : Option Addr) (a0_Log_c : Nat) (a0_Log : List S_api_Entry) (a0_Lasts_o : Option Addr) (a0_Lasts_c : Nat) (a0_Lasts : List S_api_Last) (a0_Items_o : Option Addr) (a0_Items_c : Nat) (a0_Items : List S_api_Item) (a1 : ByteArray) {y : S_api_Item × Bool} (hm : m_tholeref13_Find F a0_Les a0_Tail a0_Log a0_Lasts a0_Items a1 = some y) : CallG Try.prog 16 #[.agg #[.int .i64 a0_Les, .int .i64 a0_Tail.Epoch, .int .i64 a0_Tail.N, .slice a0_Log_o a0_Log.length a0_Log_c, .slice a0_Lasts_o a0_Lasts.length a0_Lasts_c, .slice a0_Items_o a0_Items.length a0_Items_c], .string a1] (X := Unit) (fun (_ : Unit) => .tuple #[.agg #[.string y.1.Name, .int .i64 y.1.Version.Epoch, .int .i64 y.1.Version.N, .int .u32 y.1.Crc], .bool y.2]) [] [r52 a0_Log_o a0_Log, r47 a0_Lasts_o a0_Lasts, r42 a0_Items_o a0_Items] (fun (_ : Unit) => []) := by
  intro w hg
  rw [m_tholeref13_Find] at hm
  refine GS.start (S := mayT []) (mem := [(1, r52 a0_Log_o a0_Log), (2, r47 a0_Lasts_o a0_Lasts), (3, r42 a0_Items_o a0_Items)]) Try.func16 rfl Try.ntmps16 (Nat.le_of_ble_eq_true rfl) (hg.start rfl) ?_
  refine GS.conv (env' := [(0, .agg #[.int .i64 a0_Les, .int .i64 a0_Tail.Epoch, .int .i64 a0_Tail.N, .slice a0_Log_o a0_Log.length a0_Log_c, .slice a0_Lasts_o a0_Lasts.length a0_Lasts_c, .slice a0_Items_o a0_Items.length a0_Items_c]), (1, .string a1)]) rfl rfl ?_
  refine GS.seq ?_
  refine GS.region (env' := fun fr1 => [(1, .string a1), (2, .pointer (some ⟨(fr1 0).x, 0, none⟩)), (4, .pointer (some ⟨(fr1 1).x, 0, none⟩))]) (mem' := fun fr1 => [(1, r52 a0_Log_o a0_Log), (2, r47 a0_Lasts_o a0_Lasts), (3, r42 a0_Items_o a0_Items), (4, .cells ((fr1 0).x) 28 [.int .i64 a0_Les, .int .i64 a0_Tail.Epoch, .int .i64 a0_Tail.N, .slice a0_Log_o a0_Log.length a0_Log_c, .slice a0_Lasts_o a0_Lasts.length a0_Lasts_c, .slice a0_Items_o a0_Items.length a0_Items_c]), (5, .cells ((fr1 1).x) 42 [.string (ByteArray.mk #[]), .int .i64 0, .int .i64 0, .int .u32 0])]) (RunsTo.mk [(0, { act := .new .var, key := some 4 }), (1, { act := .new .var, key := some 5 })] [1, 2, 4] [1, 2, 3, 4, 5] (fun fr1 => []) (fun fr1 => by kernel_rfl) (fun fr1 => trivial)) ?_
  intro fr1
  refine GS.seq ?_
  refine GS.seq ?_
  refine GS.region (env' := fun _ => [(1, .string a1), (4, .pointer (some ⟨(fr1 1).x, 0, none⟩)), (9, .slice a0_Items_o a0_Items.length a0_Items_c), (10, .int .i64 ((a0_Items.length : Nat) : Int)), (11, .int .i64 0)]) (mem' := fun _ => [(3, r42 a0_Items_o a0_Items), (5, .cells ((fr1 1).x) 42 [.string (ByteArray.mk #[]), .int .i64 0, .int .i64 0, .int .u32 0])]) (RunsTo.mk [(1, { act := .load 4 0 0 [] })] [1, 4, 9, 10, 11] [3, 5] (fun _ => [(fr1 0).x = (fr1 0).x]) (fun _ => by kernel_rfl) (fun _ => ⟨rfl, trivial⟩)) ?_
  intro _
  refine GS.block ?_
  refine GS.loop ?_
  refine grd_elim hm (fun g21 hm => ?_)
  refine GS.rekey (env' := [(1, .string a1), (4, .pointer (some ⟨(fr1 1).x, 0, none⟩)), (9, .slice a0_Items_o a0_Items.length a0_Items_c), (10, .int .i64 ((a0_Items.length : Nat) : Int)), (11, .int .i64 0)]) (mem' := [(3, r42 a0_Items_o a0_Items), (5, .cells ((fr1 1).x) 42 [.string (ByteArray.mk #[]), .int .i64 0, .int .i64 0, .int .u32 0])]) [1, 4, 9, 10, 11] [(3, 3), (5, 5)] (by kernel_rfl) (by kernel_rfl) rfl ?_
  refine loopL_elim hm (fun st35 fn36 hst37 hfn38 hm => ?_)
  refine GS.loopInv (ι := List S_api_Item × Nat) (I := fun ⟨rs33, v11_1⟩ => a0_Items.drop v11_1 = rs33 ∧ loopL st35 fn36 rs33 v11_1 () = some y) (μ := fun ⟨rs33, v11_1⟩ => rs33.length) (E := fun ⟨rs33, v11_1⟩ => [(1, .string a1), (4, .pointer (some ⟨(fr1 1).x, 0, none⟩)), (9, .slice a0_Items_o a0_Items.length a0_Items_c), (10, .int .i64 ((a0_Items.length : Nat) : Int)), (11, .int .i64 ((v11_1 : Nat) : Int))]) (M := fun ⟨rs33, v11_1⟩ => [(3, r42 a0_Items_o a0_Items), (5, .cells ((fr1 1).x) 42 [.string (ByteArray.mk #[]), .int .i64 0, .int .i64 0, .int .u32 0])]) ?_ ⟨a0_Items, 0⟩ ⟨List.drop_zero .., hm⟩
  rintro ⟨rs33, v11_1⟩ ⟨hd20, hm⟩ ih34
  cases rs33 with
  | nil =>
    replace hm := (hfn38 _ _).symm.trans hm
    try dsimp only at hm
    refine GS.seq ?_
    refine GS.region (env' := fun _ => [(1, .string a1), (4, .pointer (some ⟨(fr1 1).x, 0, none⟩)), (9, .slice a0_Items_o a0_Items.length a0_Items_c), (10, .int .i64 ((a0_Items.length : Nat) : Int)), (11, .int .i64 ((v11_1 : Nat) : Int)), (12, .bool (decide (((v11_1 : Nat) : Int) < ((a0_Items.length : Nat) : Int))))]) (mem' := fun _ => [(3, r42 a0_Items_o a0_Items), (5, .cells ((fr1 1).x) 42 [.string (ByteArray.mk #[]), .int .i64 0, .int .i64 0, .int .u32 0])]) (RunsTo.mk [] [1, 4, 9, 10, 11, 12] [3, 5] (fun _ => []) (fun _ => by kernel_rfl) (fun _ => trivial)) ?_
    intro _
    refine GS.seq ?_
    refine GS.cond (t := decide (((v11_1 : Nat) : Int) < ((a0_Items.length : Nat) : Int))) rfl rfl (fun h31 => absb h31 (drop_dec0 hd20)) (fun _ => ?_)
    refine GS.exit rfl ?_
    refine GS.seq ?_
    refine GS.region (env' := fun _ => [(4, .pointer (some ⟨(fr1 1).x, 0, none⟩)), (5, .bool false)]) (mem' := fun _ => [(5, .cells ((fr1 1).x) 42 [.string (ByteArray.mk #[]), .int .i64 0, .int .i64 0, .int .u32 0])]) (RunsTo.mk [(1, { act := .store 0 0 [], key := some 5 })] [4, 5] [5] (fun _ => [(fr1 1).x = (fr1 1).x, ((.agg #[.string (ByteArray.mk #[]), .int .i64 0, .int .i64 0, .int .u32 0]) : Value).cells.toList.all Value.oneCell' = true]) (fun _ => by kernel_rfl) (fun _ => ⟨rfl, rfl, trivial⟩)) ?_
    intro _
    have hy := Option.some.inj hm
    subst hy
    refine GS.ret (fn := Try.f16) [5, 0] [.agg #[.string (ByteArray.mk #[]), .int .i64 0, .int .i64 0, .int .u32 0], .bool false] [(fr1 1).x = (fr1 1).x] rfl Try.func16 (by kernel_rfl) ⟨rfl, trivial⟩ (fun w' hs => ?_)
    exact ⟨(), rfl, hs.turnedG (ks := []) rfl rfl (ownAllG rfl)⟩
  | cons x22 rs33 =>
    replace hm := (hst37 _ _ _ _).symm.trans hm
    try dsimp only at hm
    refine GS.seq ?_
    refine GS.region (env' := fun _ => [(1, .string a1), (4, .pointer (some ⟨(fr1 1).x, 0, none⟩)), (9, .slice a0_Items_o a0_Items.length a0_Items_c), (10, .int .i64 ((a0_Items.length : Nat) : Int)), (11, .int .i64 ((v11_1 : Nat) : Int)), (12, .bool (decide (((v11_1 : Nat) : Int) < ((a0_Items.length : Nat) : Int))))]) (mem' := fun _ => [(3, r42 a0_Items_o a0_Items), (5, .cells ((fr1 1).x) 42 [.string (ByteArray.mk #[]), .int .i64 0, .int .i64 0, .int .u32 0])]) (RunsTo.mk [] [1, 4, 9, 10, 11, 12] [3, 5] (fun _ => []) (fun _ => by kernel_rfl) (fun _ => trivial)) ?_
    intro _
    refine GS.seq ?_
    refine GS.cond (t := decide (((v11_1 : Nat) : Int) < ((a0_Items.length : Nat) : Int))) rfl rfl (fun _ => ?_) (fun h24 => absb (drop_dec hd20) h24)
    refine GS.skip ?_
    refine GS.seq ?_
    refine GS.block ?_
    refine GS.seq ?_
    refine GS.region (env' := fun fr25 => [(1, .string a1), (4, .pointer (some ⟨(fr1 1).x, 0, none⟩)), (7, .pointer (some ⟨(fr25 2).x, 0, none⟩)), (9, .slice a0_Items_o a0_Items.length a0_Items_c), (10, .int .i64 ((a0_Items.length : Nat) : Int)), (11, .int .i64 ((v11_1 : Nat) : Int))]) (mem' := fun fr25 => [(3, r42 a0_Items_o a0_Items), (5, .cells ((fr1 1).x) 42 [.string (ByteArray.mk #[]), .int .i64 0, .int .i64 0, .int .u32 0]), (6, .cells ((fr25 2).x) 42 [.string x22.Name, .int .i64 x22.Version.Epoch, .int .i64 x22.Version.N, .int .u32 x22.Crc])]) (RunsTo.mk [(0, { act := .idx 3 v11_1 }), (1, { act := .load 3 v11_1 0 [.string x22.Name, .int .i64 x22.Version.Epoch, .int .i64 x22.Version.N, .int .u32 x22.Crc] }), (2, { act := .new .var, key := some 6 }), (3, { act := .store 0 0 [], key := some 6 })] [1, 4, 7, 9, 10, 11] [3, 5, 6] (fun fr25 => [a0_Items_o = a0_Items_o, a0_Items.length = (List.map S_api_Item.row a0_Items).length, (((v11_1 : Nat) : Int) : Int) = ((v11_1 : Nat) : Int), v11_1 < a0_Items.length, blk a0_Items_o = blk a0_Items_o, offs a0_Items_o + v11_1 * 4 = offs a0_Items_o + (v11_1 * 4 + 0), (List.map S_api_Item.row a0_Items)[v11_1]? = some [.string x22.Name, .int .i64 x22.Version.Epoch, .int .i64 x22.Version.N, .int .u32 x22.Crc], (fr25 2).x = (fr25 2).x, ((.agg #[.string x22.Name, .int .i64 x22.Version.Epoch, .int .i64 x22.Version.N, .int .u32 x22.Crc]) : Value).cells.toList.all Value.oneCell' = true]) (fun fr25 => by kernel_rfl) (fun fr25 => ⟨rfl, mlen S_api_Item.row a0_Items, rfl, (drop_lt hd20), rfl, rfl, map_drop S_api_Item.row hd20, rfl, rfl, trivial⟩)) ?_
    intro fr25
    refine GS.seq ?_
    refine GS.region (env' := fun _ => [(1, .string a1), (4, .pointer (some ⟨(fr1 1).x, 0, none⟩)), (7, .pointer (some ⟨(fr25 2).x, 0, none⟩)), (9, .slice a0_Items_o a0_Items.length a0_Items_c), (10, .int .i64 ((a0_Items.length : Nat) : Int)), (11, .int .i64 ((v11_1 : Nat) : Int)), (18, .bool (x22.Name.toList == a1.toList))]) (mem' := fun _ => [(3, r42 a0_Items_o a0_Items), (5, .cells ((fr1 1).x) 42 [.string (ByteArray.mk #[]), .int .i64 0, .int .i64 0, .int .u32 0]), (6, .cells ((fr25 2).x) 42 [.string x22.Name, .int .i64 x22.Version.Epoch, .int .i64 x22.Version.N, .int .u32 x22.Crc])]) (RunsTo.mk [(1, { act := .load 6 0 0 [] })] [1, 4, 7, 9, 10, 11, 18] [3, 5, 6] (fun _ => [(fr25 2).x = (fr25 2).x]) (fun _ => by kernel_rfl) (fun _ => ⟨rfl, trivial⟩)) ?_
    intro _
    refine GS.cond (t := x22.Name.toList == a1.toList) rfl rfl (fun h27 => ?_) (fun h27 => ?_)
    · replace hm := br_t h27 hm
      refine GS.seq ?_
      refine GS.region (env' := fun _ => [(4, .pointer (some ⟨(fr1 1).x, 0, none⟩)), (5, .bool true)]) (mem' := fun _ => [(5, .cells ((fr1 1).x) 42 [.string x22.Name, .int .i64 x22.Version.Epoch, .int .i64 x22.Version.N, .int .u32 x22.Crc])]) (RunsTo.mk [(0, { act := .load 6 0 0 [] }), (1, { act := .store 0 0 [], key := some 5 })] [4, 5] [5] (fun _ => [(fr25 2).x = (fr25 2).x, (fr1 1).x = (fr1 1).x, ((.agg #[.string x22.Name, .int .i64 x22.Version.Epoch, .int .i64 x22.Version.N, .int .u32 x22.Crc]) : Value).cells.toList.all Value.oneCell' = true]) (fun _ => by kernel_rfl) (fun _ => ⟨rfl, rfl, rfl, trivial⟩)) ?_
      intro _
      have hy := Option.some.inj hm
      subst hy
      refine GS.ret (fn := Try.f16) [5, 0] [.agg #[.string x22.Name, .int .i64 x22.Version.Epoch, .int .i64 x22.Version.N, .int .u32 x22.Crc], .bool true] [(fr1 1).x = (fr1 1).x] rfl Try.func16 (by kernel_rfl) ⟨rfl, trivial⟩ (fun w' hs => ?_)
      exact ⟨(), rfl, hs.turnedG (ks := []) rfl rfl (ownAllG rfl)⟩
    · replace hm := br_f h27 hm
      refine GS.skip ?_
      refine GS.inBlock ?_
      refine GS.region (env' := fun _ => [(1, .string a1), (4, .pointer (some ⟨(fr1 1).x, 0, none⟩)), (9, .slice a0_Items_o a0_Items.length a0_Items_c), (10, .int .i64 ((a0_Items.length : Nat) : Int)), (11, .int .i64 ((v11_1 + 1 : Nat) : Int))]) (mem' := fun _ => [(3, r42 a0_Items_o a0_Items), (5, .cells ((fr1 1).x) 42 [.string (ByteArray.mk #[]), .int .i64 0, .int .i64 0, .int .u32 0])]) (RunsTo.mk [(0, { sp := some (.int .i64 ((v11_1 + 1 : Nat) : Int)) })] [1, 4, 9, 10, 11] [3, 5] (fun _ => [((.int .i64 (IntKind.i64.wrap (((v11_1 : Nat) : Int) + 1))) : Value) = .int .i64 ((v11_1 + 1 : Nat) : Int)]) (fun _ => by kernel_rfl) (fun _ => ⟨natw (drop_lt hd20) g21, trivial⟩)) ?_
      intro _
      refine GS.inLoop ?_
      refine GS.rekey (env' := [(1, .string a1), (4, .pointer (some ⟨(fr1 1).x, 0, none⟩)), (9, .slice a0_Items_o a0_Items.length a0_Items_c), (10, .int .i64 ((a0_Items.length : Nat) : Int)), (11, .int .i64 ((v11_1 + 1 : Nat) : Int))]) (mem' := [(3, r42 a0_Items_o a0_Items), (5, .cells ((fr1 1).x) 42 [.string (ByteArray.mk #[]), .int .i64 0, .int .i64 0, .int .u32 0])]) [1, 4, 9, 10, 11] [(3, 3), (5, 5)] (by kernel_rfl) (by kernel_rfl) rfl ?_
      exact ih34 ⟨rs33, v11_1 + 1⟩ ⟨drop_next hd20, hm⟩ (Nat.lt_succ_self _)

theorem w_tholeref13_Seen (F : Nat) (a0_Les : Int) (a0_Tail : S_api_Version) (a0_Log_o : Option Addr) (a0_Log_c : Nat) (a0_Log : List S_api_Entry) (a0_Lasts_o : Option Addr) (a0_Lasts_c : Nat) (a0_Lasts : List S_api_Last) (a0_Items_o : Option Addr) (a0_Items_c : Nat) (a0_Items : List S_api_Item) (a1 : Int) (a2 : Int) {y : S_api_Last × Int} (hm : m_tholeref13_Seen F a0_Les a0_Tail a0_Log a0_Lasts a0_Items a1 a2 = some y) : CallG Try.prog 18 #[.agg #[.int .i64 a0_Les, .int .i64 a0_Tail.Epoch, .int .i64 a0_Tail.N, .slice a0_Log_o a0_Log.length a0_Log_c, .slice a0_Lasts_o a0_Lasts.length a0_Lasts_c, .slice a0_Items_o a0_Items.length a0_Items_c], .int .i64 a1, .int .i64 a2] (X := Unit) (fun (_ : Unit) => .tuple #[.agg #[.int .i64 y.1.Client, .int .i64 y.1.Number, .int .i64 y.1.Errno, .int .i64 y.1.Version.Epoch, .int .i64 y.1.Version.N], .int .i64 y.2]) [] [r52 a0_Log_o a0_Log, r47 a0_Lasts_o a0_Lasts, r42 a0_Items_o a0_Items] (fun (_ : Unit) => []) := by
  intro w hg
  rw [m_tholeref13_Seen] at hm
  refine GS.start (S := mayT []) (mem := [(1, r52 a0_Log_o a0_Log), (2, r47 a0_Lasts_o a0_Lasts), (3, r42 a0_Items_o a0_Items)]) Try.func18 rfl Try.ntmps18 (Nat.le_of_ble_eq_true rfl) (hg.start rfl) ?_
  refine GS.conv (env' := [(0, .agg #[.int .i64 a0_Les, .int .i64 a0_Tail.Epoch, .int .i64 a0_Tail.N, .slice a0_Log_o a0_Log.length a0_Log_c, .slice a0_Lasts_o a0_Lasts.length a0_Lasts_c, .slice a0_Items_o a0_Items.length a0_Items_c]), (1, .int .i64 a1), (2, .int .i64 a2)]) rfl rfl ?_
  refine GS.seq ?_
  refine GS.region (env' := fun fr1 => [(1, .int .i64 a1), (2, .int .i64 a2), (3, .pointer (some ⟨(fr1 0).x, 0, none⟩)), (6, .pointer (some ⟨(fr1 1).x, 0, none⟩))]) (mem' := fun fr1 => [(1, r52 a0_Log_o a0_Log), (2, r47 a0_Lasts_o a0_Lasts), (3, r42 a0_Items_o a0_Items), (4, .cells ((fr1 0).x) 28 [.int .i64 a0_Les, .int .i64 a0_Tail.Epoch, .int .i64 a0_Tail.N, .slice a0_Log_o a0_Log.length a0_Log_c, .slice a0_Lasts_o a0_Lasts.length a0_Lasts_c, .slice a0_Items_o a0_Items.length a0_Items_c]), (5, .cells ((fr1 1).x) 47 [.int .i64 0, .int .i64 0, .int .i64 0, .int .i64 0, .int .i64 0])]) (RunsTo.mk [(0, { act := .new .var, key := some 4 }), (1, { act := .new .var, key := some 5 })] [1, 2, 3, 6] [1, 2, 3, 4, 5] (fun fr1 => []) (fun fr1 => by kernel_rfl) (fun fr1 => trivial)) ?_
  intro fr1
  refine GS.seq ?_
  refine GS.seq ?_
  refine GS.region (env' := fun _ => [(1, .int .i64 a1), (2, .int .i64 a2), (6, .pointer (some ⟨(fr1 1).x, 0, none⟩)), (11, .slice a0_Lasts_o a0_Lasts.length a0_Lasts_c), (12, .int .i64 ((a0_Lasts.length : Nat) : Int)), (13, .int .i64 0)]) (mem' := fun _ => [(2, r47 a0_Lasts_o a0_Lasts), (5, .cells ((fr1 1).x) 47 [.int .i64 0, .int .i64 0, .int .i64 0, .int .i64 0, .int .i64 0])]) (RunsTo.mk [(1, { act := .load 4 0 0 [] })] [1, 2, 6, 11, 12, 13] [2, 5] (fun _ => [(fr1 0).x = (fr1 0).x]) (fun _ => by kernel_rfl) (fun _ => ⟨rfl, trivial⟩)) ?_
  intro _
  refine GS.block ?_
  refine GS.loop ?_
  refine grd_elim hm (fun g33 hm => ?_)
  refine GS.rekey (env' := [(1, .int .i64 a1), (2, .int .i64 a2), (6, .pointer (some ⟨(fr1 1).x, 0, none⟩)), (11, .slice a0_Lasts_o a0_Lasts.length a0_Lasts_c), (12, .int .i64 ((a0_Lasts.length : Nat) : Int)), (13, .int .i64 0)]) (mem' := [(2, r47 a0_Lasts_o a0_Lasts), (5, .cells ((fr1 1).x) 47 [.int .i64 0, .int .i64 0, .int .i64 0, .int .i64 0, .int .i64 0])]) [1, 2, 6, 11, 12, 13] [(2, 2), (5, 5)] (by kernel_rfl) (by kernel_rfl) rfl ?_
  refine loopL_elim hm (fun st53 fn54 hst55 hfn56 hm => ?_)
  refine GS.loopInv (ι := List S_api_Last × Nat) (I := fun ⟨rs51, v13_1⟩ => a0_Lasts.drop v13_1 = rs51 ∧ loopL st53 fn54 rs51 v13_1 () = some y) (μ := fun ⟨rs51, v13_1⟩ => rs51.length) (E := fun ⟨rs51, v13_1⟩ => [(1, .int .i64 a1), (2, .int .i64 a2), (6, .pointer (some ⟨(fr1 1).x, 0, none⟩)), (11, .slice a0_Lasts_o a0_Lasts.length a0_Lasts_c), (12, .int .i64 ((a0_Lasts.length : Nat) : Int)), (13, .int .i64 ((v13_1 : Nat) : Int))]) (M := fun ⟨rs51, v13_1⟩ => [(2, r47 a0_Lasts_o a0_Lasts), (5, .cells ((fr1 1).x) 47 [.int .i64 0, .int .i64 0, .int .i64 0, .int .i64 0, .int .i64 0])]) ?_ ⟨a0_Lasts, 0⟩ ⟨List.drop_zero .., hm⟩
  rintro ⟨rs51, v13_1⟩ ⟨hd32, hm⟩ ih52
  cases rs51 with
  | nil =>
    replace hm := (hfn56 _ _).symm.trans hm
    try dsimp only at hm
    refine GS.seq ?_
    refine GS.region (env' := fun _ => [(1, .int .i64 a1), (2, .int .i64 a2), (6, .pointer (some ⟨(fr1 1).x, 0, none⟩)), (11, .slice a0_Lasts_o a0_Lasts.length a0_Lasts_c), (12, .int .i64 ((a0_Lasts.length : Nat) : Int)), (13, .int .i64 ((v13_1 : Nat) : Int)), (14, .bool (decide (((v13_1 : Nat) : Int) < ((a0_Lasts.length : Nat) : Int))))]) (mem' := fun _ => [(2, r47 a0_Lasts_o a0_Lasts), (5, .cells ((fr1 1).x) 47 [.int .i64 0, .int .i64 0, .int .i64 0, .int .i64 0, .int .i64 0])]) (RunsTo.mk [] [1, 2, 6, 11, 12, 13, 14] [2, 5] (fun _ => []) (fun _ => by kernel_rfl) (fun _ => trivial)) ?_
    intro _
    refine GS.seq ?_
    refine GS.cond (t := decide (((v13_1 : Nat) : Int) < ((a0_Lasts.length : Nat) : Int))) rfl rfl (fun h49 => absb h49 (drop_dec0 hd32)) (fun _ => ?_)
    refine GS.exit rfl ?_
    refine GS.seq ?_
    refine GS.region (env' := fun _ => [(6, .pointer (some ⟨(fr1 1).x, 0, none⟩)), (7, .int .i64 0)]) (mem' := fun _ => [(5, .cells ((fr1 1).x) 47 [.int .i64 0, .int .i64 0, .int .i64 0, .int .i64 0, .int .i64 0])]) (RunsTo.mk [(1, { act := .store 0 0 [], key := some 5 })] [6, 7] [5] (fun _ => [(fr1 1).x = (fr1 1).x, ((.agg #[.int .i64 0, .int .i64 0, .int .i64 0, .int .i64 0, .int .i64 0]) : Value).cells.toList.all Value.oneCell' = true]) (fun _ => by kernel_rfl) (fun _ => ⟨rfl, rfl, trivial⟩)) ?_
    intro _
    have hy := Option.some.inj hm
    subst hy
    refine GS.ret (fn := Try.f18) [5, 0] [.agg #[.int .i64 0, .int .i64 0, .int .i64 0, .int .i64 0, .int .i64 0], .int .i64 0] [(fr1 1).x = (fr1 1).x] rfl Try.func18 (by kernel_rfl) ⟨rfl, trivial⟩ (fun w' hs => ?_)
    exact ⟨(), rfl, hs.turnedG (ks := []) rfl rfl (ownAllG rfl)⟩
  | cons x34 rs51 =>
    replace hm := (hst55 _ _ _ _).symm.trans hm
    try dsimp only at hm
    refine GS.seq ?_
    refine GS.region (env' := fun _ => [(1, .int .i64 a1), (2, .int .i64 a2), (6, .pointer (some ⟨(fr1 1).x, 0, none⟩)), (11, .slice a0_Lasts_o a0_Lasts.length a0_Lasts_c), (12, .int .i64 ((a0_Lasts.length : Nat) : Int)), (13, .int .i64 ((v13_1 : Nat) : Int)), (14, .bool (decide (((v13_1 : Nat) : Int) < ((a0_Lasts.length : Nat) : Int))))]) (mem' := fun _ => [(2, r47 a0_Lasts_o a0_Lasts), (5, .cells ((fr1 1).x) 47 [.int .i64 0, .int .i64 0, .int .i64 0, .int .i64 0, .int .i64 0])]) (RunsTo.mk [] [1, 2, 6, 11, 12, 13, 14] [2, 5] (fun _ => []) (fun _ => by kernel_rfl) (fun _ => trivial)) ?_
    intro _
    refine GS.seq ?_
    refine GS.cond (t := decide (((v13_1 : Nat) : Int) < ((a0_Lasts.length : Nat) : Int))) rfl rfl (fun _ => ?_) (fun h36 => absb (drop_dec hd32) h36)
    refine GS.skip ?_
    refine GS.seq ?_
    refine GS.block ?_
    refine GS.seq ?_
    refine GS.region (env' := fun fr37 => [(1, .int .i64 a1), (2, .int .i64 a2), (6, .pointer (some ⟨(fr1 1).x, 0, none⟩)), (9, .pointer (some ⟨(fr37 2).x, 0, none⟩)), (11, .slice a0_Lasts_o a0_Lasts.length a0_Lasts_c), (12, .int .i64 ((a0_Lasts.length : Nat) : Int)), (13, .int .i64 ((v13_1 : Nat) : Int))]) (mem' := fun fr37 => [(2, r47 a0_Lasts_o a0_Lasts), (5, .cells ((fr1 1).x) 47 [.int .i64 0, .int .i64 0, .int .i64 0, .int .i64 0, .int .i64 0]), (6, .cells ((fr37 2).x) 47 [.int .i64 x34.Client, .int .i64 x34.Number, .int .i64 x34.Errno, .int .i64 x34.Version.Epoch, .int .i64 x34.Version.N])]) (RunsTo.mk [(0, { act := .idx 2 v13_1 }), (1, { act := .load 2 v13_1 0 [.int .i64 x34.Client, .int .i64 x34.Number, .int .i64 x34.Errno, .int .i64 x34.Version.Epoch, .int .i64 x34.Version.N] }), (2, { act := .new .var, key := some 6 }), (3, { act := .store 0 0 [], key := some 6 })] [1, 2, 6, 9, 11, 12, 13] [2, 5, 6] (fun fr37 => [a0_Lasts_o = a0_Lasts_o, a0_Lasts.length = (List.map S_api_Last.row a0_Lasts).length, (((v13_1 : Nat) : Int) : Int) = ((v13_1 : Nat) : Int), v13_1 < a0_Lasts.length, blk a0_Lasts_o = blk a0_Lasts_o, offs a0_Lasts_o + v13_1 * 5 = offs a0_Lasts_o + (v13_1 * 5 + 0), (List.map S_api_Last.row a0_Lasts)[v13_1]? = some [.int .i64 x34.Client, .int .i64 x34.Number, .int .i64 x34.Errno, .int .i64 x34.Version.Epoch, .int .i64 x34.Version.N], (fr37 2).x = (fr37 2).x, ((.agg #[.int .i64 x34.Client, .int .i64 x34.Number, .int .i64 x34.Errno, .int .i64 x34.Version.Epoch, .int .i64 x34.Version.N]) : Value).cells.toList.all Value.oneCell' = true]) (fun fr37 => by kernel_rfl) (fun fr37 => ⟨rfl, mlen S_api_Last.row a0_Lasts, rfl, (drop_lt hd32), rfl, rfl, map_drop S_api_Last.row hd32, rfl, rfl, trivial⟩)) ?_
    intro fr37
    refine GS.seq ?_
    refine GS.seq ?_
    refine GS.region (env' := fun _ => [(1, .int .i64 a1), (2, .int .i64 a2), (6, .pointer (some ⟨(fr1 1).x, 0, none⟩)), (9, .pointer (some ⟨(fr37 2).x, 0, none⟩)), (11, .slice a0_Lasts_o a0_Lasts.length a0_Lasts_c), (12, .int .i64 ((a0_Lasts.length : Nat) : Int)), (13, .int .i64 ((v13_1 : Nat) : Int)), (20, .bool (x34.Client != a1))]) (mem' := fun _ => [(2, r47 a0_Lasts_o a0_Lasts), (5, .cells ((fr1 1).x) 47 [.int .i64 0, .int .i64 0, .int .i64 0, .int .i64 0, .int .i64 0]), (6, .cells ((fr37 2).x) 47 [.int .i64 x34.Client, .int .i64 x34.Number, .int .i64 x34.Errno, .int .i64 x34.Version.Epoch, .int .i64 x34.Version.N])]) (RunsTo.mk [(1, { act := .load 6 0 0 [] })] [1, 2, 6, 9, 11, 12, 13, 20] [2, 5, 6] (fun _ => [(fr37 2).x = (fr37 2).x]) (fun _ => by kernel_rfl) (fun _ => ⟨rfl, trivial⟩)) ?_
    intro _
    refine GS.cond (t := x34.Client != a1) rfl rfl (fun h39 => ?_) (fun h39 => ?_)
    · replace hm := br_t h39 hm
      refine GS.exit rfl ?_
      refine GS.region (env' := fun _ => [(1, .int .i64 a1), (2, .int .i64 a2), (6, .pointer (some ⟨(fr1 1).x, 0, none⟩)), (11, .slice a0_Lasts_o a0_Lasts.length a0_Lasts_c), (12, .int .i64 ((a0_Lasts.length : Nat) : Int)), (13, .int .i64 ((v13_1 + 1 : Nat) : Int))]) (mem' := fun _ => [(2, r47 a0_Lasts_o a0_Lasts), (5, .cells ((fr1 1).x) 47 [.int .i64 0, .int .i64 0, .int .i64 0, .int .i64 0, .int .i64 0])]) (RunsTo.mk [(0, { sp := some (.int .i64 ((v13_1 + 1 : Nat) : Int)) })] [1, 2, 6, 11, 12, 13] [2, 5] (fun _ => [((.int .i64 (IntKind.i64.wrap (((v13_1 : Nat) : Int) + 1))) : Value) = .int .i64 ((v13_1 + 1 : Nat) : Int)]) (fun _ => by kernel_rfl) (fun _ => ⟨natw (drop_lt hd32) g33, trivial⟩)) ?_
      intro _
      refine GS.inLoop ?_
      refine GS.rekey (env' := [(1, .int .i64 a1), (2, .int .i64 a2), (6, .pointer (some ⟨(fr1 1).x, 0, none⟩)), (11, .slice a0_Lasts_o a0_Lasts.length a0_Lasts_c), (12, .int .i64 ((a0_Lasts.length : Nat) : Int)), (13, .int .i64 ((v13_1 + 1 : Nat) : Int))]) (mem' := [(2, r47 a0_Lasts_o a0_Lasts), (5, .cells ((fr1 1).x) 47 [.int .i64 0, .int .i64 0, .int .i64 0, .int .i64 0, .int .i64 0])]) [1, 2, 6, 11, 12, 13] [(2, 2), (5, 5)] (by kernel_rfl) (by kernel_rfl) rfl ?_
      exact ih52 ⟨rs51, v13_1 + 1⟩ ⟨drop_next hd32, hm⟩ (Nat.lt_succ_self _)
    · replace hm := br_f h39 hm
      refine GS.skip ?_
      refine GS.seq ?_
      refine GS.block ?_
      refine GS.seq ?_
      refine GS.region (env' := fun _ => [(2, .int .i64 a2), (6, .pointer (some ⟨(fr1 1).x, 0, none⟩)), (9, .pointer (some ⟨(fr37 2).x, 0, none⟩)), (21, .bool (a2 == x34.Number))]) (mem' := fun _ => [(5, .cells ((fr1 1).x) 47 [.int .i64 0, .int .i64 0, .int .i64 0, .int .i64 0, .int .i64 0]), (6, .cells ((fr37 2).x) 47 [.int .i64 x34.Client, .int .i64 x34.Number, .int .i64 x34.Errno, .int .i64 x34.Version.Epoch, .int .i64 x34.Version.N])]) (RunsTo.mk [(2, { act := .load 6 0 0 [] })] [2, 6, 9, 21] [5, 6] (fun _ => [(fr37 2).x = (fr37 2).x]) (fun _ => by kernel_rfl) (fun _ => ⟨rfl, trivial⟩)) ?_
      intro _
      refine GS.cond (t := a2 == x34.Number) rfl rfl (fun h41 => ?_) (fun h41 => ?_)
      · replace hm := br_t h41 hm
        refine GS.seq ?_
        refine GS.region (env' := fun _ => [(6, .pointer (some ⟨(fr1 1).x, 0, none⟩)), (7, .int .i64 1)]) (mem' := fun _ => [(5, .cells ((fr1 1).x) 47 [.int .i64 x34.Client, .int .i64 x34.Number, .int .i64 x34.Errno, .int .i64 x34.Version.Epoch, .int .i64 x34.Version.N])]) (RunsTo.mk [(0, { act := .load 6 0 0 [] }), (1, { act := .store 0 0 [], key := some 5 })] [6, 7] [5] (fun _ => [(fr37 2).x = (fr37 2).x, (fr1 1).x = (fr1 1).x, ((.agg #[.int .i64 x34.Client, .int .i64 x34.Number, .int .i64 x34.Errno, .int .i64 x34.Version.Epoch, .int .i64 x34.Version.N]) : Value).cells.toList.all Value.oneCell' = true]) (fun _ => by kernel_rfl) (fun _ => ⟨rfl, rfl, rfl, trivial⟩)) ?_
        intro _
        have hy := Option.some.inj hm
        subst hy
        refine GS.ret (fn := Try.f18) [5, 0] [.agg #[.int .i64 x34.Client, .int .i64 x34.Number, .int .i64 x34.Errno, .int .i64 x34.Version.Epoch, .int .i64 x34.Version.N], .int .i64 1] [(fr1 1).x = (fr1 1).x] rfl Try.func18 (by kernel_rfl) ⟨rfl, trivial⟩ (fun w' hs => ?_)
        exact ⟨(), rfl, hs.turnedG (ks := []) rfl rfl (ownAllG rfl)⟩
      · replace hm := br_f h41 hm
        refine GS.seq ?_
        refine GS.region (env' := fun _ => [(6, .pointer (some ⟨(fr1 1).x, 0, none⟩)), (9, .pointer (some ⟨(fr37 2).x, 0, none⟩)), (27, .bool (decide (a2 < x34.Number)))]) (mem' := fun _ => [(5, .cells ((fr1 1).x) 47 [.int .i64 0, .int .i64 0, .int .i64 0, .int .i64 0, .int .i64 0]), (6, .cells ((fr37 2).x) 47 [.int .i64 x34.Client, .int .i64 x34.Number, .int .i64 x34.Errno, .int .i64 x34.Version.Epoch, .int .i64 x34.Version.N])]) (RunsTo.mk [(2, { act := .load 6 0 0 [] })] [6, 9, 27] [5, 6] (fun _ => [(fr37 2).x = (fr37 2).x]) (fun _ => by kernel_rfl) (fun _ => ⟨rfl, trivial⟩)) ?_
        intro _
        refine GS.cond (t := decide (a2 < x34.Number)) rfl rfl (fun h44 => ?_) (fun h44 => ?_)
        · replace hm := br_t h44 hm
          refine GS.seq ?_
          refine GS.region (env' := fun _ => [(6, .pointer (some ⟨(fr1 1).x, 0, none⟩)), (7, .int .i64 2)]) (mem' := fun _ => [(5, .cells ((fr1 1).x) 47 [.int .i64 x34.Client, .int .i64 x34.Number, .int .i64 x34.Errno, .int .i64 x34.Version.Epoch, .int .i64 x34.Version.N])]) (RunsTo.mk [(0, { act := .load 6 0 0 [] }), (1, { act := .store 0 0 [], key := some 5 })] [6, 7] [5] (fun _ => [(fr37 2).x = (fr37 2).x, (fr1 1).x = (fr1 1).x, ((.agg #[.int .i64 x34.Client, .int .i64 x34.Number, .int .i64 x34.Errno, .int .i64 x34.Version.Epoch, .int .i64 x34.Version.N]) : Value).cells.toList.all Value.oneCell' = true]) (fun _ => by kernel_rfl) (fun _ => ⟨rfl, rfl, rfl, trivial⟩)) ?_
          intro _
          have hy := Option.some.inj hm
          subst hy
          refine GS.ret (fn := Try.f18) [5, 0] [.agg #[.int .i64 x34.Client, .int .i64 x34.Number, .int .i64 x34.Errno, .int .i64 x34.Version.Epoch, .int .i64 x34.Version.N], .int .i64 2] [(fr1 1).x = (fr1 1).x] rfl Try.func18 (by kernel_rfl) ⟨rfl, trivial⟩ (fun w' hs => ?_)
          exact ⟨(), rfl, hs.turnedG (ks := []) rfl rfl (ownAllG rfl)⟩
        · replace hm := br_f h44 hm
          refine GS.skip ?_
          refine GS.inBlock ?_
          refine GS.seq ?_
          refine GS.region (env' := fun _ => [(6, .pointer (some ⟨(fr1 1).x, 0, none⟩)), (7, .int .i64 0)]) (mem' := fun _ => [(5, .cells ((fr1 1).x) 47 [.int .i64 0, .int .i64 0, .int .i64 0, .int .i64 0, .int .i64 0])]) (RunsTo.mk [(1, { act := .store 0 0 [], key := some 5 })] [6, 7] [5] (fun _ => [(fr1 1).x = (fr1 1).x, ((.agg #[.int .i64 0, .int .i64 0, .int .i64 0, .int .i64 0, .int .i64 0]) : Value).cells.toList.all Value.oneCell' = true]) (fun _ => by kernel_rfl) (fun _ => ⟨rfl, rfl, trivial⟩)) ?_
          intro _
          have hy := Option.some.inj hm
          subst hy
          refine GS.ret (fn := Try.f18) [5, 0] [.agg #[.int .i64 0, .int .i64 0, .int .i64 0, .int .i64 0, .int .i64 0], .int .i64 0] [(fr1 1).x = (fr1 1).x] rfl Try.func18 (by kernel_rfl) ⟨rfl, trivial⟩ (fun w' hs => ?_)
          exact ⟨(), rfl, hs.turnedG (ks := []) rfl rfl (ownAllG rfl)⟩

theorem w_tholelaw13_entries (F : Nat) (a0_o : Option Addr) (a0_c : Nat) (a0 : List S_api_Entry) (a1_o : Option Addr) (a1_c : Nat) (a1 : List S_api_Entry) {y : Bool} (hm : m_tholelaw13_entries F a0 a1 = some y) : CallG Try.prog 19 #[.slice a0_o a0.length a0_c, .slice a1_o a1.length a1_c] (X := Unit) (fun (_ : Unit) => .bool y) [] [r52 a0_o a0, r52 a1_o a1] (fun (_ : Unit) => []) := by
  intro w hg
  rw [m_tholelaw13_entries] at hm
  refine GS.start (S := mayT []) (mem := [(1, r52 a0_o a0), (2, r52 a1_o a1)]) Try.func19 rfl Try.ntmps19 (Nat.le_of_ble_eq_true rfl) (hg.start rfl) ?_
  refine GS.conv (env' := [(0, .slice a0_o a0.length a0_c), (1, .slice a1_o a1.length a1_c)]) rfl rfl ?_
  refine GS.seq ?_
  refine GS.region (env' := fun _ => [(0, .slice a0_o a0.length a0_c), (1, .slice a1_o a1.length a1_c)]) (mem' := fun _ => [(1, r52 a0_o a0), (2, r52 a1_o a1)]) (RunsTo.mk [] [0, 1] [1, 2] (fun _ => []) (fun _ => by kernel_rfl) (fun _ => trivial)) ?_
  intro _
  refine GS.seq ?_
  refine GS.seq ?_
  refine GS.region (env' := fun _ => [(0, .slice a0_o a0.length a0_c), (1, .slice a1_o a1.length a1_c), (10, .bool (((a0.length : Nat) : Int) != ((a1.length : Nat) : Int)))]) (mem' := fun _ => [(1, r52 a0_o a0), (2, r52 a1_o a1)]) (RunsTo.mk [] [0, 1, 10] [1, 2] (fun _ => []) (fun _ => by kernel_rfl) (fun _ => trivial)) ?_
  intro _
  refine GS.cond (t := ((a0.length : Nat) : Int) != ((a1.length : Nat) : Int)) rfl rfl (fun h3 => ?_) (fun h3 => ?_)
  · replace hm := br_t h3 hm
    refine GS.seq ?_
    refine GS.region (env' := fun _ => [(4, .bool false)]) (mem' := fun _ => []) (RunsTo.mk [] [4] [] (fun _ => []) (fun _ => by kernel_rfl) (fun _ => trivial)) ?_
    intro _
    have hy := Option.some.inj hm
    subst hy
    refine GS.ret (fn := Try.f19) [0] [.bool false] [] rfl Try.func19 (by kernel_rfl) trivial (fun w' hs => ?_)
    exact ⟨(), rfl, hs.turnedG (ks := []) rfl rfl (ownAllG rfl)⟩
  · replace hm := br_f h3 hm
    refine GS.skip ?_
    refine GS.seq ?_
    refine GS.seq ?_
    refine GS.region (env' := fun _ => [(0, .slice a0_o a0.length a0_c), (1, .slice a1_o a1.length a1_c), (12, .int .i64 ((a0.length : Nat) : Int)), (13, .int .i64 0)]) (mem' := fun _ => [(1, r52 a0_o a0), (2, r52 a1_o a1)]) (RunsTo.mk [] [0, 1, 12, 13] [1, 2] (fun _ => []) (fun _ => by kernel_rfl) (fun _ => trivial)) ?_
    intro _
    refine GS.block ?_
    refine GS.loop ?_
    refine grd_elim hm (fun g26 hm => ?_)
    refine GS.rekey (env' := [(0, .slice a0_o a0.length a0_c), (1, .slice a1_o a1.length a1_c), (12, .int .i64 ((a0.length : Nat) : Int)), (13, .int .i64 0)]) (mem' := [(1, r52 a0_o a0), (2, r52 a1_o a1)]) [0, 1, 12, 13] [(1, 1), (2, 2)] (by kernel_rfl) (by kernel_rfl) rfl ?_
    refine loopL_elim hm (fun st41 fn42 hst43 hfn44 hm => ?_)
    refine GS.loopInv (ι := List S_api_Entry × Nat) (I := fun ⟨rs39, v13_1⟩ => a0.drop v13_1 = rs39 ∧ loopL st41 fn42 rs39 v13_1 () = some y) (μ := fun ⟨rs39, v13_1⟩ => rs39.length) (E := fun ⟨rs39, v13_1⟩ => [(0, .slice a0_o a0.length a0_c), (1, .slice a1_o a1.length a1_c), (12, .int .i64 ((a0.length : Nat) : Int)), (13, .int .i64 ((v13_1 : Nat) : Int))]) (M := fun ⟨rs39, v13_1⟩ => [(1, r52 a0_o a0), (2, r52 a1_o a1)]) ?_ ⟨a0, 0⟩ ⟨List.drop_zero .., hm⟩
    rintro ⟨rs39, v13_1⟩ ⟨hd25, hm⟩ ih40
    cases rs39 with
    | nil =>
      replace hm := (hfn44 _ _).symm.trans hm
      try dsimp only at hm
      refine GS.seq ?_
      refine GS.region (env' := fun _ => [(0, .slice a0_o a0.length a0_c), (1, .slice a1_o a1.length a1_c), (12, .int .i64 ((a0.length : Nat) : Int)), (13, .int .i64 ((v13_1 : Nat) : Int)), (14, .bool (decide (((v13_1 : Nat) : Int) < ((a0.length : Nat) : Int))))]) (mem' := fun _ => [(1, r52 a0_o a0), (2, r52 a1_o a1)]) (RunsTo.mk [] [0, 1, 12, 13, 14] [1, 2] (fun _ => []) (fun _ => by kernel_rfl) (fun _ => trivial)) ?_
      intro _
      refine GS.seq ?_
      refine GS.cond (t := decide (((v13_1 : Nat) : Int) < ((a0.length : Nat) : Int))) rfl rfl (fun h37 => absb h37 (drop_dec0 hd25)) (fun _ => ?_)
      refine GS.exit rfl ?_
      refine GS.seq ?_
      refine GS.region (env' := fun _ => [(4, .bool true)]) (mem' := fun _ => []) (RunsTo.mk [] [4] [] (fun _ => []) (fun _ => by kernel_rfl) (fun _ => trivial)) ?_
      intro _
      have hy := Option.some.inj hm
      subst hy
      refine GS.ret (fn := Try.f19) [0] [.bool true] [] rfl Try.func19 (by kernel_rfl) trivial (fun w' hs => ?_)
      exact ⟨(), rfl, hs.turnedG (ks := []) rfl rfl (ownAllG rfl)⟩
    | cons x27 rs39 =>
      replace hm := (hst43 _ _ _ _).symm.trans hm
      try dsimp only at hm
      refine GS.seq ?_
      refine GS.region (env' := fun _ => [(0, .slice a0_o a0.length a0_c), (1, .slice a1_o a1.length a1_c), (12, .int .i64 ((a0.length : Nat) : Int)), (13, .int .i64 ((v13_1 : Nat) : Int)), (14, .bool (decide (((v13_1 : Nat) : Int) < ((a0.length : Nat) : Int))))]) (mem' := fun _ => [(1, r52 a0_o a0), (2, r52 a1_o a1)]) (RunsTo.mk [] [0, 1, 12, 13, 14] [1, 2] (fun _ => []) (fun _ => by kernel_rfl) (fun _ => trivial)) ?_
      intro _
      refine GS.seq ?_
      refine GS.cond (t := decide (((v13_1 : Nat) : Int) < ((a0.length : Nat) : Int))) rfl rfl (fun _ => ?_) (fun h29 => absb (drop_dec hd25) h29)
      refine GS.skip ?_
      refine GS.seq ?_
      refine GS.block ?_
      refine GS.seq ?_
      refine GS.region (env' := fun _ => [(0, .slice a0_o a0.length a0_c), (1, .slice a1_o a1.length a1_c), (5, .int .i64 ((v13_1 : Nat) : Int)), (12, .int .i64 ((a0.length : Nat) : Int)), (13, .int .i64 ((v13_1 : Nat) : Int))]) (mem' := fun _ => [(1, r52 a0_o a0), (2, r52 a1_o a1)]) (RunsTo.mk [] [0, 1, 5, 12, 13] [1, 2] (fun _ => []) (fun _ => by kernel_rfl) (fun _ => trivial)) ?_
      intro _
      refine GS.seq ?_
      refine grd_elim hm (fun g32 hm => ?_)
      refine GS.region (env' := fun _ => [(0, .slice a0_o a0.length a0_c), (1, .slice a1_o a1.length a1_c), (12, .int .i64 ((a0.length : Nat) : Int)), (13, .int .i64 ((v13_1 : Nat) : Int)), (24, .bool (!(S_api_Entry.beq x27 (a1.getD v13_1 dS_api_Entry))))]) (mem' := fun _ => [(1, r52 a0_o a0), (2, r52 a1_o a1)]) (RunsTo.mkd [(2, { act := .idx 1 v13_1 }), (3, { act := .load 1 v13_1 0 [.int .i64 x27.Version.Epoch, .int .i64 x27.Version.N, .bool x27.Remove, .int .i64 x27.Errno, .string x27.Name, .int .i64 x27.Client, .int .i64 x27.Number] }), (6, { act := .idx 2 v13_1 }), (7, { act := .load 2 v13_1 0 [.int .i64 (((a1.getD v13_1 dS_api_Entry).Version).Epoch), .int .i64 (((a1.getD v13_1 dS_api_Entry).Version).N), .bool ((a1.getD v13_1 dS_api_Entry).Remove), .int .i64 ((a1.getD v13_1 dS_api_Entry).Errno), .string ((a1.getD v13_1 dS_api_Entry).Name), .int .i64 ((a1.getD v13_1 dS_api_Entry).Client), .int .i64 ((a1.getD v13_1 dS_api_Entry).Number)] }), (8, { act := .eq })] [0, 1, 12, 13, 24] [1, 2] (fun _ => [a0_o = a0_o, a0.length = (List.map S_api_Entry.row a0).length, (((v13_1 : Nat) : Int) : Int) = ((v13_1 : Nat) : Int), v13_1 < a0.length, blk a0_o = blk a0_o, offs a0_o + v13_1 * 7 = offs a0_o + (v13_1 * 7 + 0), (List.map S_api_Entry.row a0)[v13_1]? = some [.int .i64 x27.Version.Epoch, .int .i64 x27.Version.N, .bool x27.Remove, .int .i64 x27.Errno, .string x27.Name, .int .i64 x27.Client, .int .i64 x27.Number], a1_o = a1_o, a1.length = (List.map S_api_Entry.row a1).length, (((v13_1 : Nat) : Int) : Int) = ((v13_1 : Nat) : Int), v13_1 < a1.length, blk a1_o = blk a1_o, offs a1_o + v13_1 * 7 = offs a1_o + (v13_1 * 7 + 0), (List.map S_api_Entry.row a1)[v13_1]? = some [.int .i64 (((a1.getD v13_1 dS_api_Entry).Version).Epoch), .int .i64 (((a1.getD v13_1 dS_api_Entry).Version).N), .bool ((a1.getD v13_1 dS_api_Entry).Remove), .int .i64 ((a1.getD v13_1 dS_api_Entry).Errno), .string ((a1.getD v13_1 dS_api_Entry).Name), .int .i64 ((a1.getD v13_1 dS_api_Entry).Client), .int .i64 ((a1.getD v13_1 dS_api_Entry).Number)]]) (by kernel_rfl) (by kernel_rfl) (fun _ => by kernel_rfl) (fun _ => ⟨rfl, mlen S_api_Entry.row a0, rfl, (drop_lt hd25), rfl, rfl, map_drop S_api_Entry.row hd25, rfl, mlen S_api_Entry.row a1, rfl, g32, rfl, rfl, map_at S_api_Entry.row dS_api_Entry g32, trivial⟩)) ?_
      intro _
      refine GS.cond (t := !(S_api_Entry.beq x27 (a1.getD v13_1 dS_api_Entry))) rfl rfl (fun h33 => ?_) (fun h33 => ?_)
      · replace hm := br_t h33 hm
        refine GS.seq ?_
        refine GS.region (env' := fun _ => [(4, .bool false)]) (mem' := fun _ => []) (RunsTo.mk [] [4] [] (fun _ => []) (fun _ => by kernel_rfl) (fun _ => trivial)) ?_
        intro _
        have hy := Option.some.inj hm
        subst hy
        refine GS.ret (fn := Try.f19) [0] [.bool false] [] rfl Try.func19 (by kernel_rfl) trivial (fun w' hs => ?_)
        exact ⟨(), rfl, hs.turnedG (ks := []) rfl rfl (ownAllG rfl)⟩
      · replace hm := br_f h33 hm
        refine GS.skip ?_
        refine GS.inBlock ?_
        refine GS.region (env' := fun _ => [(0, .slice a0_o a0.length a0_c), (1, .slice a1_o a1.length a1_c), (12, .int .i64 ((a0.length : Nat) : Int)), (13, .int .i64 ((v13_1 + 1 : Nat) : Int))]) (mem' := fun _ => [(1, r52 a0_o a0), (2, r52 a1_o a1)]) (RunsTo.mk [(0, { sp := some (.int .i64 ((v13_1 + 1 : Nat) : Int)) })] [0, 1, 12, 13] [1, 2] (fun _ => [((.int .i64 (IntKind.i64.wrap (((v13_1 : Nat) : Int) + 1))) : Value) = .int .i64 ((v13_1 + 1 : Nat) : Int)]) (fun _ => by kernel_rfl) (fun _ => ⟨natw (drop_lt hd25) g26, trivial⟩)) ?_
        intro _
        refine GS.inLoop ?_
        refine GS.rekey (env' := [(0, .slice a0_o a0.length a0_c), (1, .slice a1_o a1.length a1_c), (12, .int .i64 ((a0.length : Nat) : Int)), (13, .int .i64 ((v13_1 + 1 : Nat) : Int))]) (mem' := [(1, r52 a0_o a0), (2, r52 a1_o a1)]) [0, 1, 12, 13] [(1, 1), (2, 2)] (by kernel_rfl) (by kernel_rfl) rfl ?_
        exact ih40 ⟨rs39, v13_1 + 1⟩ ⟨drop_next hd25, hm⟩ (Nat.lt_succ_self _)

theorem w_tholeref13_below (F : Nat) (a0 : S_api_Version) {y : Bool} (hm : m_tholeref13_below F a0 = some y) : CallG Try.prog 39 #[.agg #[.int .i64 a0.Epoch, .int .i64 a0.N]] (X := Unit) (fun (_ : Unit) => .bool y) [] [] (fun (_ : Unit) => []) := by
  intro w hg
  rw [m_tholeref13_below] at hm
  refine GS.start (S := mayT []) (mem := []) Try.func39 rfl Try.ntmps39 (Nat.le_of_ble_eq_true rfl) (hg.start rfl) ?_
  refine GS.conv (env' := [(0, .agg #[.int .i64 a0.Epoch, .int .i64 a0.N])]) rfl rfl ?_
  refine GS.seq ?_
  refine GS.region (env' := fun fr1 => [(1, .pointer (some ⟨(fr1 0).x, 0, none⟩))]) (mem' := fun fr1 => [(1, .cells ((fr1 0).x) 23 [.int .i64 a0.Epoch, .int .i64 a0.N])]) (RunsTo.mk [(0, { act := .new .var, key := some 1 })] [1] [1] (fun fr1 => []) (fun fr1 => by kernel_rfl) (fun fr1 => trivial)) ?_
  intro fr1
  refine GS.seq ?_
  refine br_elim hm (fun h3 hm => ?_) (fun h3 hm => ?_)
  · skip
    refine GS.region (env' := fun _ => [(2, .bool true)]) (mem' := fun _ => []) (RunsTo.mk [(1, { act := .load 1 0 0 [] }), (3, { sp := some (.bool true) })] [2] [] (fun _ => [(fr1 0).x = (fr1 0).x, ((.bool (decide (a0.Epoch < 0))) : Value) = .bool true]) (fun _ => by kernel_rfl) (fun _ => ⟨rfl, bool_eq h3, trivial⟩)) ?_
    intro _
    have hy := Option.some.inj hm
    subst hy
    refine GS.ret (fn := Try.f39) [0] [.bool true] [] rfl Try.func39 (by kernel_rfl) trivial (fun w' hs => ?_)
    exact ⟨(), rfl, hs.turnedG (ks := []) rfl rfl (ownAllG rfl)⟩
  · skip
    refine GS.region (env' := fun _ => [(2, .bool (decide (a0.N < 0)))]) (mem' := fun _ => []) (RunsTo.mk [(1, { act := .load 1 0 0 [] }), (3, { sp := some (.bool false) }), (5, { act := .load 1 0 0 [] })] [2] [] (fun _ => [(fr1 0).x = (fr1 0).x, ((.bool (decide (a0.Epoch < 0))) : Value) = .bool false, (fr1 0).x = (fr1 0).x]) (fun _ => by kernel_rfl) (fun _ => ⟨rfl, bool_eq h3, rfl, trivial⟩)) ?_
    intro _
    have hy := Option.some.inj hm
    subst hy
    refine GS.ret (fn := Try.f39) [0] [.bool (decide (a0.N < 0))] [] rfl Try.func39 (by kernel_rfl) trivial (fun w' hs => ?_)
    exact ⟨(), rfl, hs.turnedG (ks := []) rfl rfl (ownAllG rfl)⟩

theorem w_tholeref09_Good (F : Nat) (a0 : ByteArray) {y : Bool} (hm : m_tholeref09_Good F a0 = some y) : CallG Try.prog 40 #[.string a0] (X := Unit) (fun (_ : Unit) => .bool y) [] [] (fun (_ : Unit) => []) := by
  intro w hg
  rw [m_tholeref09_Good] at hm
  refine GS.start (S := mayT []) (mem := []) Try.func40 rfl Try.ntmps40 (Nat.le_of_ble_eq_true rfl) (hg.start rfl) ?_
  refine GS.conv (env' := [(0, .string a0)]) rfl rfl ?_
  refine GS.seq ?_
  refine GS.region (env' := fun _ => [(0, .string a0)]) (mem' := fun _ => []) (RunsTo.mk [] [0] [] (fun _ => []) (fun _ => by kernel_rfl) (fun _ => trivial)) ?_
  intro _
  refine GS.seq ?_
  refine GS.seq ?_
  refine GS.region (env' := fun _ => [(0, .string a0), (3, .int .i64 0)]) (mem' := fun _ => []) (RunsTo.mk [] [0, 3] [] (fun _ => []) (fun _ => by kernel_rfl) (fun _ => trivial)) ?_
  intro _
  refine GS.block ?_
  refine GS.loop ?_
  refine grd_elim hm (fun g27 hm => ?_)
  refine GS.rekey (env' := [(0, .string a0), (3, .int .i64 0)]) (mem' := []) [0, 3] [] (by kernel_rfl) (by kernel_rfl) rfl ?_
  refine loopC_elim hm (fun st44 fn45 hst46 hfn47 hm => ?_)
  refine GS.loopInv (ι := Nat × Nat) (I := fun ⟨rs42, v3_1⟩ => ((((a0.size : Nat) : Int)) - ((v3_1 : Nat) : Int) : Int).toNat = rs42 ∧ loopC st44 fn45 rs42 v3_1 () = some y) (μ := fun ⟨rs42, v3_1⟩ => rs42) (E := fun ⟨rs42, v3_1⟩ => [(0, .string a0), (3, .int .i64 ((v3_1 : Nat) : Int))]) (M := fun ⟨rs42, v3_1⟩ => []) ?_ ⟨(Int.toNat (((a0.size : Nat) : Int) - ((0 : Nat) : Int))), 0⟩ ⟨rfl, hm⟩
  rintro ⟨rs42, v3_1⟩ ⟨hd26, hm⟩ ih43
  cases rs42 with
  | zero =>
    replace hm := (hfn47 _ _).symm.trans hm
    try dsimp only at hm
    refine GS.seq ?_
    refine GS.seq ?_
    refine GS.region (env' := fun _ => [(0, .string a0), (3, .int .i64 ((v3_1 : Nat) : Int)), (7, .bool (decide (((v3_1 : Nat) : Int) < ((a0.size : Nat) : Int))))]) (mem' := fun _ => []) (RunsTo.mk [] [0, 3, 7] [] (fun _ => []) (fun _ => by kernel_rfl) (fun _ => trivial)) ?_
    intro _
    refine GS.cond (t := decide (((v3_1 : Nat) : Int) < ((a0.size : Nat) : Int))) rfl rfl (fun h40 => absb h40 (cnt0 hd26)) (fun _ => ?_)
    refine GS.exit rfl ?_
    refine GS.seq ?_
    refine br_elim hm (fun h49 hm => ?_) (fun h49 hm => ?_)
    · skip
      refine GS.region (env' := fun _ => [(2, .bool (decide (((a0.size : Nat) : Int) ≤ 64)))]) (mem' := fun _ => []) (RunsTo.mk [(3, { sp := some (.bool true) })] [2] [] (fun _ => [((.bool (decide (((a0.size : Nat) : Int) ≥ 1))) : Value) = .bool true]) (fun _ => by kernel_rfl) (fun _ => ⟨bool_eq h49, trivial⟩)) ?_
      intro _
      have hy := Option.some.inj hm
      subst hy
      refine GS.ret (fn := Try.f40) [0] [.bool (decide (((a0.size : Nat) : Int) ≤ 64))] [] rfl Try.func40 (by kernel_rfl) trivial (fun w' hs => ?_)
      exact ⟨(), rfl, hs.turnedG (ks := []) rfl rfl (ownAllG rfl)⟩
    · skip
      refine GS.region (env' := fun _ => [(2, .bool false)]) (mem' := fun _ => []) (RunsTo.mk [(3, { sp := some (.bool false) })] [2] [] (fun _ => [((.bool (decide (((a0.size : Nat) : Int) ≥ 1))) : Value) = .bool false]) (fun _ => by kernel_rfl) (fun _ => ⟨bool_eq h49, trivial⟩)) ?_
      intro _
      have hy := Option.some.inj hm
      subst hy
      refine GS.ret (fn := Try.f40) [0] [.bool false] [] rfl Try.func40 (by kernel_rfl) trivial (fun w' hs => ?_)
      exact ⟨(), rfl, hs.turnedG (ks := []) rfl rfl (ownAllG rfl)⟩
  | succ rs42 =>
    replace hm := (hst46 _ _ _).symm.trans hm
    try dsimp only at hm
    refine GS.seq ?_
    refine GS.seq ?_
    refine GS.region (env' := fun _ => [(0, .string a0), (3, .int .i64 ((v3_1 : Nat) : Int)), (7, .bool (decide (((v3_1 : Nat) : Int) < ((a0.size : Nat) : Int))))]) (mem' := fun _ => []) (RunsTo.mk [] [0, 3, 7] [] (fun _ => []) (fun _ => by kernel_rfl) (fun _ => trivial)) ?_
    intro _
    refine GS.cond (t := decide (((v3_1 : Nat) : Int) < ((a0.size : Nat) : Int))) rfl rfl (fun _ => ?_) (fun h29 => absb (cnt1 hd26) h29)
    refine GS.skip ?_
    refine GS.seq ?_
    refine GS.block ?_
    refine GS.seq ?_
    refine jn_elim hm (fun J33 hJ35 hm => ?_)
    refine GS.cut (ι := Bool) (I := fun (v19_3 : Bool) => J33 v19_3 = some y) (E := fun (v19_3 : Bool) => [(0, .string a0), (3, .int .i64 ((v3_1 : Nat) : Int)), (19, .bool v19_3)]) (M := fun (v19_3 : Bool) => []) ?_ ?_
    rotate_left
    · intro H34
      refine grd_elim hm (fun g31 hm => ?_)
      refine br_elim hm (fun h32 hm => ?_) (fun h32 hm => ?_)
      · skip
        refine GS.region (env' := fun _ => [(0, .string a0), (3, .int .i64 ((v3_1 : Nat) : Int)), (19, .bool true)]) (mem' := fun _ => []) (RunsTo.mk [(2, { act := .elt v3_1 }), (4, { sp := some (.bool true) })] [0, 3, 19] [] (fun _ => [(((v3_1 : Nat) : Int) : Int) = ((v3_1 : Nat) : Int), v3_1 < a0.size, ((.bool (decide ((((a0.data.getD v3_1 0).toNat : Nat) : Int) < 33))) : Value) = .bool true]) (fun _ => by kernel_rfl) (fun _ => ⟨rfl, g31, bool_eq h32, trivial⟩)) ?_
        intro _
        refine GS.rekey (env' := [(0, .string a0), (3, .int .i64 ((v3_1 : Nat) : Int)), (19, .bool true)]) (mem' := []) [0, 3, 19] [] (by kernel_rfl) (by kernel_rfl) rfl ?_
        exact H34 true hm
      · skip
        refine GS.region (env' := fun _ => [(0, .string a0), (3, .int .i64 ((v3_1 : Nat) : Int)), (19, .bool (decide ((((a0.data.getD v3_1 0).toNat : Nat) : Int) > 126)))]) (mem' := fun _ => []) (RunsTo.mk [(2, { act := .elt v3_1 }), (4, { sp := some (.bool false) }), (7, { act := .elt v3_1 })] [0, 3, 19] [] (fun _ => [(((v3_1 : Nat) : Int) : Int) = ((v3_1 : Nat) : Int), v3_1 < a0.size, ((.bool (decide ((((a0.data.getD v3_1 0).toNat : Nat) : Int) < 33))) : Value) = .bool false, (((v3_1 : Nat) : Int) : Int) = ((v3_1 : Nat) : Int), v3_1 < a0.size]) (fun _ => by kernel_rfl) (fun _ => ⟨rfl, g31, bool_eq h32, rfl, g31, trivial⟩)) ?_
        intro _
        refine GS.rekey (env' := [(0, .string a0), (3, .int .i64 ((v3_1 : Nat) : Int)), (19, .bool (decide ((((a0.data.getD v3_1 0).toNat : Nat) : Int) > 126)))]) (mem' := []) [0, 3, 19] [] (by kernel_rfl) (by kernel_rfl) rfl ?_
        exact H34 (decide ((((a0.data.getD v3_1 0).toNat : Nat) : Int) > 126)) hm
    · rintro v19_3 hm
      replace hm := (hJ35 _).symm.trans hm
      try dsimp only at hm
      refine GS.cond (t := v19_3) rfl rfl (fun h36 => ?_) (fun h36 => ?_)
      · replace hm := br_t h36 hm
        refine GS.seq ?_
        refine GS.region (env' := fun _ => [(2, .bool false)]) (mem' := fun _ => []) (RunsTo.mk [] [2] [] (fun _ => []) (fun _ => by kernel_rfl) (fun _ => trivial)) ?_
        intro _
        have hy := Option.some.inj hm
        subst hy
        refine GS.ret (fn := Try.f40) [0] [.bool false] [] rfl Try.func40 (by kernel_rfl) trivial (fun w' hs => ?_)
        exact ⟨(), rfl, hs.turnedG (ks := []) rfl rfl (ownAllG rfl)⟩
      · replace hm := br_f h36 hm
        refine GS.skip ?_
        refine GS.inBlock ?_
        refine GS.region (env' := fun _ => [(0, .string a0), (3, .int .i64 ((v3_1 + 1 : Nat) : Int))]) (mem' := fun _ => []) (RunsTo.mk [(1, { sp := some (.int .i64 ((v3_1 + 1 : Nat) : Int)) })] [0, 3] [] (fun _ => [((.int .i64 (IntKind.i64.wrap (((v3_1 : Nat) : Int) + 1))) : Value) = .int .i64 ((v3_1 + 1 : Nat) : Int)]) (fun _ => by kernel_rfl) (fun _ => ⟨natwB (cnt1 hd26) g27, trivial⟩)) ?_
        intro _
        refine GS.inLoop ?_
        refine GS.rekey (env' := [(0, .string a0), (3, .int .i64 ((v3_1 + 1 : Nat) : Int))]) (mem' := []) [0, 3] [] (by kernel_rfl) (by kernel_rfl) rfl ?_
        exact ih43 ⟨rs42, v3_1 + 1⟩ ⟨cntN hd26, hm⟩ (Nat.lt_succ_self _)

end Go.Proofs.Ytmoaiokgbjkaaaa
