/-
  CHAPTER 14b: the functions do what their models say (4).
-/
import Derived.Test.YtdelhcdknglibaaM14b
set_option linter.unusedVariables false
set_option linter.unusedSimpArgs false
set_option maxRecDepth 100000
namespace Go.Proofs.Ytdelhcdknglibaa
open Go Go.RowKit Sx

theorem w_tholeref13_Cmp (F : Nat) (a0 : S_api_Version) (a1 : S_api_Version) {y : Int} (hm : m_tholeref13_Cmp F a0 a1 = some y) : CallG Try.prog 31 #[.agg #[.int .i64 a0.Epoch, .int .i64 a0.N], .agg #[.int .i64 a1.Epoch, .int .i64 a1.N]] (X := Unit) (fun (_ : Unit) => .int .i64 y) [] [] (fun (_ : Unit) => []) := by
  intro w hg
  rw [m_tholeref13_Cmp] at hm
  refine GS.start (S := mayT [] []) (mem := []) Try.func31 rfl Try.ntmps31 (Nat.le_of_ble_eq_true rfl) (hg.start rfl) ?_
  refine GS.conv (env' := [(0, .agg #[.int .i64 a0.Epoch, .int .i64 a0.N]), (1, .agg #[.int .i64 a1.Epoch, .int .i64 a1.N])]) rfl rfl ?_
  refine GS.seq ?_
  refine GS.region (env' := fun fr1 => [(2, .pointer (some ⟨(fr1 0).x, 0, none⟩)), (3, .pointer (some ⟨(fr1 1).x, 0, none⟩))]) (mem' := fun fr1 => [(1, .cells ((fr1 0).x) 23 [.int .i64 a0.Epoch, .int .i64 a0.N]), (2, .cells ((fr1 1).x) 23 [.int .i64 a1.Epoch, .int .i64 a1.N])]) (RunsTo.mk [(0, { act := .new .var, key := some 1 }), (1, { act := .new .var, key := some 2 })] [2, 3] [1, 2] (fun fr1 => []) (fun fr1 => by kernel_rfl) (fun fr1 => trivial)) ?_
  intro fr1
  refine GS.seq ?_
  refine GS.block ?_
  refine GS.seq ?_
  refine GS.seq ?_
  refine GS.region (env' := fun _ => [(2, .pointer (some ⟨(fr1 0).x, 0, none⟩)), (3, .pointer (some ⟨(fr1 1).x, 0, none⟩)), (5, .bool (decide (a0.Epoch < a1.Epoch)))]) (mem' := fun _ => [(1, .cells ((fr1 0).x) 23 [.int .i64 a0.Epoch, .int .i64 a0.N]), (2, .cells ((fr1 1).x) 23 [.int .i64 a1.Epoch, .int .i64 a1.N])]) (RunsTo.mk [(1, { act := .load 1 0 0 [] }), (3, { act := .load 2 0 0 [] })] [2, 3, 5] [1, 2] (fun _ => [(fr1 0).x = (fr1 0).x, (fr1 1).x = (fr1 1).x]) (fun _ => by kernel_rfl) (fun _ => ⟨rfl, rfl, trivial⟩)) ?_
  intro _
  refine jn_elim hm (fun J9 hJ11 hm => ?_)
  refine GS.cut (ι := Bool) (I := fun (v5_2 : Bool) => J9 v5_2 = some y) (E := fun (v5_2 : Bool) => [(2, .pointer (some ⟨(fr1 0).x, 0, none⟩)), (3, .pointer (some ⟨(fr1 1).x, 0, none⟩)), (5, .bool v5_2)]) (M := fun (v5_2 : Bool) => [(1, .cells ((fr1 0).x) 23 [.int .i64 a0.Epoch, .int .i64 a0.N]), (2, .cells ((fr1 1).x) 23 [.int .i64 a1.Epoch, .int .i64 a1.N])]) ?_ ?_
  rotate_left
  · intro H10
    refine GS.cond (t := decide (a0.Epoch < a1.Epoch)) rfl rfl (fun h3 => ?_) (fun h3 => ?_)
    · replace hm := br_t h3 hm
      refine GS.skip ?_
      refine GS.rekey (env' := [(2, .pointer (some ⟨(fr1 0).x, 0, none⟩)), (3, .pointer (some ⟨(fr1 1).x, 0, none⟩)), (5, .bool (decide (a0.Epoch < a1.Epoch)))]) (mem' := [(1, .cells ((fr1 0).x) 23 [.int .i64 a0.Epoch, .int .i64 a0.N]), (2, .cells ((fr1 1).x) 23 [.int .i64 a1.Epoch, .int .i64 a1.N])]) [2, 3, 5] [(1, 1), (2, 2)] (by kernel_rfl) (by kernel_rfl) rfl ?_
      exact H10 (decide (a0.Epoch < a1.Epoch)) hm
    · replace hm := br_f h3 hm
      refine br_elim hm (fun h5 hm => ?_) (fun h5 hm => ?_)
      · skip
        refine GS.region (env' := fun _ => [(2, .pointer (some ⟨(fr1 0).x, 0, none⟩)), (3, .pointer (some ⟨(fr1 1).x, 0, none⟩)), (5, .bool (decide (a0.N < a1.N)))]) (mem' := fun _ => [(1, .cells ((fr1 0).x) 23 [.int .i64 a0.Epoch, .int .i64 a0.N]), (2, .cells ((fr1 1).x) 23 [.int .i64 a1.Epoch, .int .i64 a1.N])]) (RunsTo.mk [(1, { act := .load 1 0 0 [] }), (3, { act := .load 2 0 0 [] }), (5, { sp := some (.bool true) }), (7, { act := .load 1 0 0 [] }), (9, { act := .load 2 0 0 [] })] [2, 3, 5] [1, 2] (fun _ => [(fr1 0).x = (fr1 0).x, (fr1 1).x = (fr1 1).x, ((.bool (a0.Epoch == a1.Epoch)) : Value) = .bool true, (fr1 0).x = (fr1 0).x, (fr1 1).x = (fr1 1).x]) (fun _ => by kernel_rfl) (fun _ => ⟨rfl, rfl, bool_eq h5, rfl, rfl, trivial⟩)) ?_
        intro _
        refine GS.rekey (env' := [(2, .pointer (some ⟨(fr1 0).x, 0, none⟩)), (3, .pointer (some ⟨(fr1 1).x, 0, none⟩)), (5, .bool (decide (a0.N < a1.N)))]) (mem' := [(1, .cells ((fr1 0).x) 23 [.int .i64 a0.Epoch, .int .i64 a0.N]), (2, .cells ((fr1 1).x) 23 [.int .i64 a1.Epoch, .int .i64 a1.N])]) [2, 3, 5] [(1, 1), (2, 2)] (by kernel_rfl) (by kernel_rfl) rfl ?_
        exact H10 (decide (a0.N < a1.N)) hm
      · skip
        refine GS.region (env' := fun _ => [(2, .pointer (some ⟨(fr1 0).x, 0, none⟩)), (3, .pointer (some ⟨(fr1 1).x, 0, none⟩)), (5, .bool false)]) (mem' := fun _ => [(1, .cells ((fr1 0).x) 23 [.int .i64 a0.Epoch, .int .i64 a0.N]), (2, .cells ((fr1 1).x) 23 [.int .i64 a1.Epoch, .int .i64 a1.N])]) (RunsTo.mk [(1, { act := .load 1 0 0 [] }), (3, { act := .load 2 0 0 [] }), (5, { sp := some (.bool false) })] [2, 3, 5] [1, 2] (fun _ => [(fr1 0).x = (fr1 0).x, (fr1 1).x = (fr1 1).x, ((.bool (a0.Epoch == a1.Epoch)) : Value) = .bool false]) (fun _ => by kernel_rfl) (fun _ => ⟨rfl, rfl, bool_eq h5, trivial⟩)) ?_
        intro _
        refine GS.rekey (env' := [(2, .pointer (some ⟨(fr1 0).x, 0, none⟩)), (3, .pointer (some ⟨(fr1 1).x, 0, none⟩)), (5, .bool false)]) (mem' := [(1, .cells ((fr1 0).x) 23 [.int .i64 a0.Epoch, .int .i64 a0.N]), (2, .cells ((fr1 1).x) 23 [.int .i64 a1.Epoch, .int .i64 a1.N])]) [2, 3, 5] [(1, 1), (2, 2)] (by kernel_rfl) (by kernel_rfl) rfl ?_
        exact H10 false hm
  · rintro v5_2 hm
    replace hm := (hJ11 _).symm.trans hm
    try dsimp only at hm
    refine GS.cond (t := v5_2) rfl rfl (fun h12 => ?_) (fun h12 => ?_)
    · replace hm := br_t h12 hm
      refine GS.seq ?_
      refine GS.region (env' := fun _ => [(4, .int .i64 (-1))]) (mem' := fun _ => []) (RunsTo.mk [] [4] [] (fun _ => []) (fun _ => by kernel_rfl) (fun _ => trivial)) ?_
      intro _
      have hy := Option.some.inj hm
      subst hy
      refine GS.ret (fn := Try.f31) [0] [.int .i64 (-1)] [] rfl Try.func31 (by kernel_rfl) trivial (fun w' hs => ?_)
      exact ⟨(), rfl, hs.turnedG (ks := []) rfl rfl⟩
    · replace hm := br_f h12 hm
      refine GS.seq ?_
      refine GS.region (env' := fun _ => [(23, .bool (S_api_Version.beq a0 a1))]) (mem' := fun _ => []) (RunsTo.mk [(0, { act := .load 1 0 0 [] }), (1, { act := .load 2 0 0 [] }), (2, { act := .eq })] [23] [] (fun _ => [(fr1 0).x = (fr1 0).x, (fr1 1).x = (fr1 1).x]) (fun _ => by kernel_rfl) (fun _ => ⟨rfl, rfl, trivial⟩)) ?_
      intro _
      refine GS.cond (t := S_api_Version.beq a0 a1) rfl rfl (fun h15 => ?_) (fun h15 => ?_)
      · replace hm := br_t h15 hm
        refine GS.seq ?_
        refine GS.region (env' := fun _ => [(4, .int .i64 0)]) (mem' := fun _ => []) (RunsTo.mk [] [4] [] (fun _ => []) (fun _ => by kernel_rfl) (fun _ => trivial)) ?_
        intro _
        have hy := Option.some.inj hm
        subst hy
        refine GS.ret (fn := Try.f31) [0] [.int .i64 0] [] rfl Try.func31 (by kernel_rfl) trivial (fun w' hs => ?_)
        exact ⟨(), rfl, hs.turnedG (ks := []) rfl rfl⟩
      · replace hm := br_f h15 hm
        refine GS.skip ?_
        refine GS.inBlock ?_
        refine GS.seq ?_
        refine GS.region (env' := fun _ => [(4, .int .i64 1)]) (mem' := fun _ => []) (RunsTo.mk [] [4] [] (fun _ => []) (fun _ => by kernel_rfl) (fun _ => trivial)) ?_
        intro _
        have hy := Option.some.inj hm
        subst hy
        refine GS.ret (fn := Try.f31) [0] [.int .i64 1] [] rfl Try.func31 (by kernel_rfl) trivial (fun w' hs => ?_)
        exact ⟨(), rfl, hs.turnedG (ks := []) rfl rfl⟩

theorem w_tholeref13_Find (F : Nat) (a0_Les : Int) (a0_Tail : S_api_Version) (a0_Log_o : Option Addr) (a0_Log_c : Nat) (a0_Log : List S_api_Entry) (a0_Lasts_o : Option Addr) (a0_Lasts_c : Nat) (a0_Lasts : List S_api_Last) (a0_Items_o : Option Addr) (a0_Items_c : Nat) (a0_Items : List S_api_Item) (a1 : ByteArray) {y : S_api_Item × Bool} (hm : m_tholeref13_Find F a0_Les a0_Tail a0_Log a0_Lasts a0_Items a1 = some y) : CallG Try.prog 36 #[.agg #[.int .i64 a0_Les, .int .i64 a0_Tail.Epoch, .int .i64 a0_Tail.N, .slice a0_Log_o a0_Log.length a0_Log_c, .slice a0_Lasts_o a0_Lasts.length a0_Lasts_c, .slice a0_Items_o a0_Items.length a0_Items_c], .string a1] (X := Unit) (fun (_ : Unit) => .tuple #[.agg #[.string y.1.Name, .int .i64 y.1.Version.Epoch, .int .i64 y.1.Version.N, .int .u32 y.1.Crc], .bool y.2]) [] [r53 a0_Log_o a0_Log, r83 a0_Lasts_o a0_Lasts, r45 a0_Items_o a0_Items] (fun (_ : Unit) => []) := by
  intro w hg
  rw [m_tholeref13_Find] at hm
  refine GS.start (S := mayT [] [r53 a0_Log_o a0_Log, r83 a0_Lasts_o a0_Lasts, r45 a0_Items_o a0_Items]) (mem := [(1, r53 a0_Log_o a0_Log), (2, r83 a0_Lasts_o a0_Lasts), (3, r45 a0_Items_o a0_Items)]) Try.func36 rfl Try.ntmps36 (Nat.le_of_ble_eq_true rfl) (hg.start rfl) ?_
  refine GS.conv (env' := [(0, .agg #[.int .i64 a0_Les, .int .i64 a0_Tail.Epoch, .int .i64 a0_Tail.N, .slice a0_Log_o a0_Log.length a0_Log_c, .slice a0_Lasts_o a0_Lasts.length a0_Lasts_c, .slice a0_Items_o a0_Items.length a0_Items_c]), (1, .string a1)]) rfl rfl ?_
  refine GS.seq ?_
  refine GS.region (env' := fun fr1 => [(1, .string a1), (2, .pointer (some ⟨(fr1 0).x, 0, none⟩)), (4, .pointer (some ⟨(fr1 1).x, 0, none⟩))]) (mem' := fun fr1 => [(1, r53 a0_Log_o a0_Log), (2, r83 a0_Lasts_o a0_Lasts), (3, r45 a0_Items_o a0_Items), (4, .cells ((fr1 0).x) 28 [.int .i64 a0_Les, .int .i64 a0_Tail.Epoch, .int .i64 a0_Tail.N, .slice a0_Log_o a0_Log.length a0_Log_c, .slice a0_Lasts_o a0_Lasts.length a0_Lasts_c, .slice a0_Items_o a0_Items.length a0_Items_c]), (5, .cells ((fr1 1).x) 45 [.string (ByteArray.mk #[]), .int .i64 0, .int .i64 0, .int .u32 0])]) (RunsTo.mk [(0, { act := .new .var, key := some 4 }), (1, { act := .new .var, key := some 5 })] [1, 2, 4] [1, 2, 3, 4, 5] (fun fr1 => []) (fun fr1 => by kernel_rfl) (fun fr1 => trivial)) ?_
  intro fr1
  refine GS.seq ?_
  refine GS.seq ?_
  refine GS.region (env' := fun _ => [(1, .string a1), (4, .pointer (some ⟨(fr1 1).x, 0, none⟩)), (9, .slice a0_Items_o a0_Items.length a0_Items_c), (10, .int .i64 ((a0_Items.length : Nat) : Int)), (11, .int .i64 0)]) (mem' := fun _ => [(3, r45 a0_Items_o a0_Items), (5, .cells ((fr1 1).x) 45 [.string (ByteArray.mk #[]), .int .i64 0, .int .i64 0, .int .u32 0])]) (RunsTo.mk [(1, { act := .load 4 0 0 [] })] [1, 4, 9, 10, 11] [3, 5] (fun _ => [(fr1 0).x = (fr1 0).x]) (fun _ => by kernel_rfl) (fun _ => ⟨rfl, trivial⟩)) ?_
  intro _
  refine GS.block ?_
  refine GS.loop ?_
  refine grd_elim hm (fun g21 hm => ?_)
  refine GS.rekey (env' := [(1, .string a1), (4, .pointer (some ⟨(fr1 1).x, 0, none⟩)), (9, .slice a0_Items_o a0_Items.length a0_Items_c), (10, .int .i64 ((a0_Items.length : Nat) : Int)), (11, .int .i64 0)]) (mem' := [(3, r45 a0_Items_o a0_Items), (5, .cells ((fr1 1).x) 45 [.string (ByteArray.mk #[]), .int .i64 0, .int .i64 0, .int .u32 0])]) [1, 4, 9, 10, 11] [(3, 3), (5, 5)] (by kernel_rfl) (by kernel_rfl) rfl ?_
  refine loopL_elim hm (fun st35 fn36 hst37 hfn38 hm => ?_)
  refine GS.loopInv (ι := List S_api_Item × Nat) (I := fun ⟨rs33, v11_1⟩ => a0_Items.drop v11_1 = rs33 ∧ loopL st35 fn36 rs33 v11_1 () = some y) (μ := fun ⟨rs33, v11_1⟩ => rs33.length) (E := fun ⟨rs33, v11_1⟩ => [(1, .string a1), (4, .pointer (some ⟨(fr1 1).x, 0, none⟩)), (9, .slice a0_Items_o a0_Items.length a0_Items_c), (10, .int .i64 ((a0_Items.length : Nat) : Int)), (11, .int .i64 ((v11_1 : Nat) : Int))]) (M := fun ⟨rs33, v11_1⟩ => [(3, r45 a0_Items_o a0_Items), (5, .cells ((fr1 1).x) 45 [.string (ByteArray.mk #[]), .int .i64 0, .int .i64 0, .int .u32 0])]) ?_ ⟨a0_Items, 0⟩ ⟨List.drop_zero .., hm⟩
  rintro ⟨rs33, v11_1⟩ ⟨hd20, hm⟩ ih34
  cases rs33 with
  | nil =>
    replace hm := (hfn38 _ _).symm.trans hm
    try dsimp only at hm
    refine GS.seq ?_
    refine GS.region (env' := fun _ => [(1, .string a1), (4, .pointer (some ⟨(fr1 1).x, 0, none⟩)), (9, .slice a0_Items_o a0_Items.length a0_Items_c), (10, .int .i64 ((a0_Items.length : Nat) : Int)), (11, .int .i64 ((v11_1 : Nat) : Int)), (12, .bool (decide (((v11_1 : Nat) : Int) < ((a0_Items.length : Nat) : Int))))]) (mem' := fun _ => [(3, r45 a0_Items_o a0_Items), (5, .cells ((fr1 1).x) 45 [.string (ByteArray.mk #[]), .int .i64 0, .int .i64 0, .int .u32 0])]) (RunsTo.mk [] [1, 4, 9, 10, 11, 12] [3, 5] (fun _ => []) (fun _ => by kernel_rfl) (fun _ => trivial)) ?_
    intro _
    refine GS.seq ?_
    refine GS.cond (t := decide (((v11_1 : Nat) : Int) < ((a0_Items.length : Nat) : Int))) rfl rfl (fun h31 => absb h31 (drop_dec0 hd20)) (fun _ => ?_)
    refine GS.exit rfl ?_
    refine GS.seq ?_
    refine GS.region (env' := fun _ => [(4, .pointer (some ⟨(fr1 1).x, 0, none⟩)), (5, .bool false)]) (mem' := fun _ => [(5, .cells ((fr1 1).x) 45 [.string (ByteArray.mk #[]), .int .i64 0, .int .i64 0, .int .u32 0])]) (RunsTo.mk [(1, { act := .store 0 0 [], key := some 5 })] [4, 5] [5] (fun _ => [(fr1 1).x = (fr1 1).x, ((.agg #[.string (ByteArray.mk #[]), .int .i64 0, .int .i64 0, .int .u32 0]) : Value).cells.toList.all Value.oneCell' = true]) (fun _ => by kernel_rfl) (fun _ => ⟨rfl, rfl, trivial⟩)) ?_
    intro _
    have hy := Option.some.inj hm
    subst hy
    refine GS.ret (fn := Try.f36) [5, 0] [.agg #[.string (ByteArray.mk #[]), .int .i64 0, .int .i64 0, .int .u32 0], .bool false] [(fr1 1).x = (fr1 1).x] rfl Try.func36 (by kernel_rfl) ⟨rfl, trivial⟩ (fun w' hs => ?_)
    exact ⟨(), rfl, hs.turnedG (ks := []) rfl rfl⟩
  | cons x22 rs33 =>
    replace hm := (hst37 _ _ _ _).symm.trans hm
    try dsimp only at hm
    refine GS.seq ?_
    refine GS.region (env' := fun _ => [(1, .string a1), (4, .pointer (some ⟨(fr1 1).x, 0, none⟩)), (9, .slice a0_Items_o a0_Items.length a0_Items_c), (10, .int .i64 ((a0_Items.length : Nat) : Int)), (11, .int .i64 ((v11_1 : Nat) : Int)), (12, .bool (decide (((v11_1 : Nat) : Int) < ((a0_Items.length : Nat) : Int))))]) (mem' := fun _ => [(3, r45 a0_Items_o a0_Items), (5, .cells ((fr1 1).x) 45 [.string (ByteArray.mk #[]), .int .i64 0, .int .i64 0, .int .u32 0])]) (RunsTo.mk [] [1, 4, 9, 10, 11, 12] [3, 5] (fun _ => []) (fun _ => by kernel_rfl) (fun _ => trivial)) ?_
    intro _
    refine GS.seq ?_
    refine GS.cond (t := decide (((v11_1 : Nat) : Int) < ((a0_Items.length : Nat) : Int))) rfl rfl (fun _ => ?_) (fun h24 => absb (drop_dec hd20) h24)
    refine GS.skip ?_
    refine GS.seq ?_
    refine GS.block ?_
    refine GS.seq ?_
    refine GS.region (env' := fun fr25 => [(1, .string a1), (4, .pointer (some ⟨(fr1 1).x, 0, none⟩)), (7, .pointer (some ⟨(fr25 2).x, 0, none⟩)), (9, .slice a0_Items_o a0_Items.length a0_Items_c), (10, .int .i64 ((a0_Items.length : Nat) : Int)), (11, .int .i64 ((v11_1 : Nat) : Int))]) (mem' := fun fr25 => [(3, r45 a0_Items_o a0_Items), (5, .cells ((fr1 1).x) 45 [.string (ByteArray.mk #[]), .int .i64 0, .int .i64 0, .int .u32 0]), (6, .cells ((fr25 2).x) 45 [.string x22.Name, .int .i64 x22.Version.Epoch, .int .i64 x22.Version.N, .int .u32 x22.Crc])]) (RunsTo.mk [(0, { act := .idx 3 v11_1 }), (1, { act := .load 3 v11_1 0 [.string x22.Name, .int .i64 x22.Version.Epoch, .int .i64 x22.Version.N, .int .u32 x22.Crc] }), (2, { act := .new .var, key := some 6 }), (3, { act := .store 0 0 [], key := some 6 })] [1, 4, 7, 9, 10, 11] [3, 5, 6] (fun fr25 => [a0_Items_o = a0_Items_o, a0_Items.length = (List.map S_api_Item.row a0_Items).length, (((v11_1 : Nat) : Int) : Int) = ((v11_1 : Nat) : Int), v11_1 < a0_Items.length, blk a0_Items_o = blk a0_Items_o, offs a0_Items_o + v11_1 * 4 = offs a0_Items_o + (v11_1 * 4 + 0), (List.map S_api_Item.row a0_Items)[v11_1]? = some [.string x22.Name, .int .i64 x22.Version.Epoch, .int .i64 x22.Version.N, .int .u32 x22.Crc], (fr25 2).x = (fr25 2).x, ((.agg #[.string x22.Name, .int .i64 x22.Version.Epoch, .int .i64 x22.Version.N, .int .u32 x22.Crc]) : Value).cells.toList.all Value.oneCell' = true]) (fun fr25 => by kernel_rfl) (fun fr25 => ⟨rfl, mlen S_api_Item.row a0_Items, rfl, (drop_lt hd20), rfl, rfl, map_drop S_api_Item.row hd20, rfl, rfl, trivial⟩)) ?_
    intro fr25
    refine GS.seq ?_
    refine GS.region (env' := fun _ => [(1, .string a1), (4, .pointer (some ⟨(fr1 1).x, 0, none⟩)), (7, .pointer (some ⟨(fr25 2).x, 0, none⟩)), (9, .slice a0_Items_o a0_Items.length a0_Items_c), (10, .int .i64 ((a0_Items.length : Nat) : Int)), (11, .int .i64 ((v11_1 : Nat) : Int)), (18, .bool (x22.Name.toList == a1.toList))]) (mem' := fun _ => [(3, r45 a0_Items_o a0_Items), (5, .cells ((fr1 1).x) 45 [.string (ByteArray.mk #[]), .int .i64 0, .int .i64 0, .int .u32 0]), (6, .cells ((fr25 2).x) 45 [.string x22.Name, .int .i64 x22.Version.Epoch, .int .i64 x22.Version.N, .int .u32 x22.Crc])]) (RunsTo.mk [(1, { act := .load 6 0 0 [] })] [1, 4, 7, 9, 10, 11, 18] [3, 5, 6] (fun _ => [(fr25 2).x = (fr25 2).x]) (fun _ => by kernel_rfl) (fun _ => ⟨rfl, trivial⟩)) ?_
    intro _
    refine GS.cond (t := x22.Name.toList == a1.toList) rfl rfl (fun h27 => ?_) (fun h27 => ?_)
    · replace hm := br_t h27 hm
      refine GS.seq ?_
      refine GS.region (env' := fun _ => [(4, .pointer (some ⟨(fr1 1).x, 0, none⟩)), (5, .bool true)]) (mem' := fun _ => [(5, .cells ((fr1 1).x) 45 [.string x22.Name, .int .i64 x22.Version.Epoch, .int .i64 x22.Version.N, .int .u32 x22.Crc])]) (RunsTo.mk [(0, { act := .load 6 0 0 [] }), (1, { act := .store 0 0 [], key := some 5 })] [4, 5] [5] (fun _ => [(fr25 2).x = (fr25 2).x, (fr1 1).x = (fr1 1).x, ((.agg #[.string x22.Name, .int .i64 x22.Version.Epoch, .int .i64 x22.Version.N, .int .u32 x22.Crc]) : Value).cells.toList.all Value.oneCell' = true]) (fun _ => by kernel_rfl) (fun _ => ⟨rfl, rfl, rfl, trivial⟩)) ?_
      intro _
      have hy := Option.some.inj hm
      subst hy
      refine GS.ret (fn := Try.f36) [5, 0] [.agg #[.string x22.Name, .int .i64 x22.Version.Epoch, .int .i64 x22.Version.N, .int .u32 x22.Crc], .bool true] [(fr1 1).x = (fr1 1).x] rfl Try.func36 (by kernel_rfl) ⟨rfl, trivial⟩ (fun w' hs => ?_)
      exact ⟨(), rfl, hs.turnedG (ks := []) rfl rfl⟩
    · replace hm := br_f h27 hm
      refine GS.skip ?_
      refine GS.inBlock ?_
      refine GS.region (env' := fun _ => [(1, .string a1), (4, .pointer (some ⟨(fr1 1).x, 0, none⟩)), (9, .slice a0_Items_o a0_Items.length a0_Items_c), (10, .int .i64 ((a0_Items.length : Nat) : Int)), (11, .int .i64 ((v11_1 + 1 : Nat) : Int))]) (mem' := fun _ => [(3, r45 a0_Items_o a0_Items), (5, .cells ((fr1 1).x) 45 [.string (ByteArray.mk #[]), .int .i64 0, .int .i64 0, .int .u32 0])]) (RunsTo.mk [(0, { sp := some (.int .i64 ((v11_1 + 1 : Nat) : Int)) })] [1, 4, 9, 10, 11] [3, 5] (fun _ => [((.int .i64 (IntKind.i64.wrap (((v11_1 : Nat) : Int) + 1))) : Value) = .int .i64 ((v11_1 + 1 : Nat) : Int)]) (fun _ => by kernel_rfl) (fun _ => ⟨natw (drop_lt hd20) g21, trivial⟩)) ?_
      intro _
      refine GS.inLoop ?_
      refine GS.rekey (env' := [(1, .string a1), (4, .pointer (some ⟨(fr1 1).x, 0, none⟩)), (9, .slice a0_Items_o a0_Items.length a0_Items_c), (10, .int .i64 ((a0_Items.length : Nat) : Int)), (11, .int .i64 ((v11_1 + 1 : Nat) : Int))]) (mem' := [(3, r45 a0_Items_o a0_Items), (5, .cells ((fr1 1).x) 45 [.string (ByteArray.mk #[]), .int .i64 0, .int .i64 0, .int .u32 0])]) [1, 4, 9, 10, 11] [(3, 3), (5, 5)] (by kernel_rfl) (by kernel_rfl) rfl ?_
      exact ih34 ⟨rs33, v11_1 + 1⟩ ⟨drop_next hd20, hm⟩ (Nat.lt_succ_self _)

end Go.Proofs.Ytdelhcdknglibaa
