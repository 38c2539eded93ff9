/-
  CHAPTER 21e: the functions do what their models say (1).
-/
import Derived.Test.YtcegkgbceogflaaM21e
set_option linter.unusedVariables false
set_option linter.unusedSimpArgs false
set_option maxRecDepth 100000
set_option maxHeartbeats 8000000
namespace Go.Proofs.Ytcegkgbceogflaa
open Go Go.RowKit Sx

theorem w_tholelaw21_item (F : Nat) {y : Unit} (hm : m_tholelaw21_item F = some y) : CallG Try.prog 19 #[.int .u32 7] (X := Unit) (fun (_ : Unit) => .agg ((kc2)).toArray) [] [] (fun (_ : Unit) => []) := by
  intro w hg
  rw [m_tholelaw21_item] at hm
  refine GS.start (S := mayT [] []) (mem := []) Try.func19 rfl Try.ntmps19 (Nat.le_of_ble_eq_true rfl) (hg.start rfl) ?_
  refine GS.conv (env' := [(0, .int .u32 7)]) rfl rfl ?_
  refine GS.seq ?_
  refine GS.rz (fun fr1 => [(0, .int .u32 7), (2, .pointer (some ⟨(fr1 0).x, 0, none⟩))]) (fun fr1 => [(1, .cells ((fr1 0).x) 75 (kc1))]) [(0, { act := .new .var, key := some 1 })] [0, 2] [1] (fun fr1 => by kernel_rfl) ?_
  intro fr1
  refine GS.seq ?_
  refine GS.rg (fun _ => [(2, .pointer (some ⟨(fr1 0).x, 0, none⟩))]) (fun _ => [(1, .cells ((fr1 0).x) 75 (kc2))]) [(3, { act := .store 0 0 [], key := some 1 })] [2] [1] (fun _ => [(fr1 0).x = (fr1 0).x, ((.agg ((kc2)).toArray) : Value).cells.toList.all Value.oneCell' = true]) (fun _ => by kernel_rfl) (fun _ => ⟨rfl, rfl, trivial⟩) ?_
  intro _
  have hy := Option.some.inj hm
  subst hy
  refine GS.ret (fn := Try.f19) [1] [.agg ((kc2)).toArray] [(fr1 0).x = (fr1 0).x] rfl Try.func19 (by kernel_rfl) ⟨rfl, trivial⟩ (fun w' hs => ?_)
  exact ⟨(), rfl, hs.turnedG (ks := []) rfl rfl⟩

theorem w_tholelaw21_item_2 (F : Nat) {y : Unit} (hm : m_tholelaw21_item_2 F = some y) : CallG Try.prog 19 #[.int .u32 8] (X := Unit) (fun (_ : Unit) => .agg ((kc4)).toArray) [] [] (fun (_ : Unit) => []) := by
  intro w hg
  rw [m_tholelaw21_item_2] at hm
  refine GS.start (S := mayT [] []) (mem := []) Try.func19 rfl Try.ntmps19 (Nat.le_of_ble_eq_true rfl) (hg.start rfl) ?_
  refine GS.conv (env' := [(0, .int .u32 8)]) rfl rfl ?_
  refine GS.seq ?_
  refine GS.rz (fun fr1 => [(0, .int .u32 8), (2, .pointer (some ⟨(fr1 0).x, 0, none⟩))]) (fun fr1 => [(1, .cells ((fr1 0).x) 75 (kc1))]) [(0, { act := .new .var, key := some 1 })] [0, 2] [1] (fun fr1 => by kernel_rfl) ?_
  intro fr1
  refine GS.seq ?_
  refine GS.rg (fun _ => [(2, .pointer (some ⟨(fr1 0).x, 0, none⟩))]) (fun _ => [(1, .cells ((fr1 0).x) 75 (kc4))]) [(3, { act := .store 0 0 [], key := some 1 })] [2] [1] (fun _ => [(fr1 0).x = (fr1 0).x, ((.agg ((kc4)).toArray) : Value).cells.toList.all Value.oneCell' = true]) (fun _ => by kernel_rfl) (fun _ => ⟨rfl, rfl, trivial⟩) ?_
  intro _
  have hy := Option.some.inj hm
  subst hy
  refine GS.ret (fn := Try.f19) [1] [.agg ((kc4)).toArray] [(fr1 0).x = (fr1 0).x] rfl Try.func19 (by kernel_rfl) ⟨rfl, trivial⟩ (fun w' hs => ?_)
  exact ⟨(), rfl, hs.turnedG (ks := []) rfl rfl⟩

theorem w_slices_Index___api_Item_api_Item_ (F : Nat) (a0_o : Option Addr) (a0_c : Nat) {y : Unit} (hm : m_slices_Index___api_Item_api_Item_ F = some y) : CallG Try.prog 38 #[.slice a0_o 1 a0_c, .agg ((kc2)).toArray] (X := Unit) (fun (_ : Unit) => .int .i64 0) [] [.rd a0_o 4 [(kc2)]] (fun (_ : Unit) => []) := by
  intro w hg
  rw [m_slices_Index___api_Item_api_Item_] at hm
  refine GS.start (S := mayT [] [.rd a0_o 4 [(kc2)]]) (mem := [(1, .rd a0_o 4 [(kc2)])]) Try.func38 rfl Try.ntmps38 (Nat.le_of_ble_eq_true rfl) (hg.start rfl) ?_
  refine GS.conv (env' := [(0, .slice a0_o 1 a0_c), (1, .agg ((kc2)).toArray)]) rfl rfl ?_
  refine GS.seq ?_
  refine GS.rz (fun fr1 => [(0, .slice a0_o 1 a0_c), (3, .pointer (some ⟨(fr1 0).x, 0, none⟩))]) (fun fr1 => [(1, .rd a0_o 4 [(kc2)]), (2, .cells ((fr1 0).x) 75 (kc2))]) [(0, { act := .new .var, key := some 2 })] [0, 3] [1, 2] (fun fr1 => by kernel_rfl) ?_
  intro fr1
  refine GS.seq ?_
  refine GS.seq ?_
  refine GS.rzM (fun _ => [(0, .slice a0_o 1 a0_c), (3, .pointer (some ⟨(fr1 0).x, 0, none⟩)), (7, .int .i64 1), (8, .int .i64 0)]) [] [0, 3, 7, 8] [1, 2] (fun _ => by kernel_rfl) ?_
  intro _
  refine GS.block ?_
  refine GS.loop ?_
  refine GS.seq ?_
  refine GS.rzM (fun _ => [(0, .slice a0_o 1 a0_c), (3, .pointer (some ⟨(fr1 0).x, 0, none⟩)), (7, .int .i64 1), (8, .int .i64 0), (9, .bool true)]) [] [0, 3, 7, 8, 9] [1, 2] (fun _ => by kernel_rfl) ?_
  intro _
  refine GS.seq ?_
  refine GS.cond (t := true) rfl rfl (fun _ => ?_) (fun hf => by cases hf)
  refine GS.skip ?_
  refine GS.seq ?_
  refine GS.block ?_
  refine GS.seq ?_
  refine GS.rzM (fun _ => [(0, .slice a0_o 1 a0_c), (3, .pointer (some ⟨(fr1 0).x, 0, none⟩)), (5, .int .i64 0), (7, .int .i64 1), (8, .int .i64 0)]) [] [0, 3, 5, 7, 8] [1, 2] (fun _ => by kernel_rfl) ?_
  intro _
  refine GS.seq ?_
  refine GS.rM (env' := fun _ => [(0, .slice a0_o 1 a0_c), (3, .pointer (some ⟨(fr1 0).x, 0, none⟩)), (5, .int .i64 0), (7, .int .i64 1), (8, .int .i64 0), (16, .bool true)]) (RunsTo.mkd [(0, { act := .load 2 0 0 [] }), (3, { act := .idx 1 0 }), (4, { act := .load 1 0 0 [.string (ByteArray.mk #[97]), .int .i64 1, .int .i64 1, .int .u32 7] }), (5, { act := .eq, sp := some (.bool true) })] [0, 3, 5, 7, 8, 16] [1, 2] (fun _ => [(fr1 0).x = (fr1 0).x, a0_o = a0_o, 1 = ([(kc2)] : List (List Value)).length, (0 : Int) = ((0 : Nat) : Int), 0 < 1, blk a0_o = blk a0_o, offs a0_o + 0 * 4 = offs a0_o + (0 * 4 + 0), ([(kc2)] : List (List Value))[0]? = some [.string (ByteArray.mk #[97]), .int .i64 1, .int .i64 1, .int .u32 7], ((.bool (S_api_Item.beq (S_api_Item.mk (ByteArray.mk #[97]) (S_api_Version.mk 1 1) 7) (S_api_Item.mk (ByteArray.mk #[97]) (S_api_Version.mk 1 1) 7))) : Value) = .bool true]) (by kernel_rfl) (by kernel_rfl) (fun _ => by kernel_rfl) (fun _ => ⟨rfl, rfl, rfl, rfl, (Nat.le_of_ble_eq_true rfl), rfl, rfl, rfl, (by kernel_rfl), trivial⟩)) ?_
  intro _
  refine GS.cond (t := true) rfl rfl (fun _ => ?_) (fun hf => by cases hf)
  refine GS.seq ?_
  refine GS.rz (fun _ => [(4, .int .i64 0)]) (fun _ => []) [] [4] [] (fun _ => by kernel_rfl) ?_
  intro _
  have hy := Option.some.inj hm
  subst hy
  refine GS.ret (fn := Try.f38) [0] [.int .i64 0] [] rfl Try.func38 (by kernel_rfl) trivial (fun w' hs => ?_)
  exact ⟨(), rfl, hs.turnedG (ks := []) rfl rfl⟩

theorem w_slices_Contains___api_Item_api_Item_ (F : Nat) (a0_o : Option Addr) (a0_c : Nat) {y : Unit} (hm : m_slices_Contains___api_Item_api_Item_ F = some y) : CallG Try.prog 32 #[.slice a0_o 1 a0_c, .agg ((kc2)).toArray] (X := Unit) (fun (_ : Unit) => .bool true) [] [.rd a0_o 4 [(kc2)]] (fun (_ : Unit) => []) := by
  intro w hg
  rw [m_slices_Contains___api_Item_api_Item_] at hm
  refine GS.start (S := mayT [] [.rd a0_o 4 [(kc2)]]) (mem := [(1, .rd a0_o 4 [(kc2)])]) Try.func32 rfl Try.ntmps32 (Nat.le_of_ble_eq_true rfl) (hg.start rfl) ?_
  refine GS.conv (env' := [(0, .slice a0_o 1 a0_c), (1, .agg ((kc2)).toArray)]) rfl rfl ?_
  refine GS.seq ?_
  refine GS.rz (fun fr1 => [(0, .slice a0_o 1 a0_c), (3, .pointer (some ⟨(fr1 0).x, 0, none⟩))]) (fun fr1 => [(1, .rd a0_o 4 [(kc2)]), (2, .cells ((fr1 0).x) 75 (kc2))]) [(0, { act := .new .var, key := some 2 })] [0, 3] [1, 2] (fun fr1 => by kernel_rfl) ?_
  intro fr1
  refine GS.seq ?_
  refine bnd_elim hm (fun y3 e4 hm => ?_)
  refine GS.rg (fun _ => [(4, .bool true)]) (fun _ => []) [(1, { act := .load 2 0 0 [] }), (2, { act := .call [1] (.int .i64 0) })] [4] [] (fun _ => [(fr1 0).x = (fr1 0).x, CallOK Try.prog 38 #[.slice a0_o 1 a0_c, .agg ((kc2)).toArray] (.int .i64 0) [some (.rd a0_o 4 [(kc2)])]]) (fun _ => by kernel_rfl) (fun _ => ⟨rfl, (by have h1 := w_slices_Index___api_Item_api_Item_ F a0_o a0_c e4; exact h1.ok ⟨(.inl ⟨.rd a0_o 4 [(kc2)], .head _, Cov.refl _⟩), trivial⟩), trivial⟩) ?_
  intro _
  have hy := Option.some.inj hm
  subst hy
  refine GS.ret (fn := Try.f32) [0] [.bool true] [] rfl Try.func32 (by kernel_rfl) trivial (fun w' hs => ?_)
  exact ⟨(), rfl, hs.turnedG (ks := []) rfl rfl⟩

theorem w_slices_Index___string_string_ (F : Nat) {y : Unit} (hm : m_slices_Index___string_string_ F = some y) : CallG Try.prog 39 #[.slice none 0 0, .string (ByteArray.mk #[97])] (X := Unit) (fun (_ : Unit) => .int .i64 (-1)) [] [] (fun (_ : Unit) => []) := by
  intro w hg
  rw [m_slices_Index___string_string_] at hm
  refine GS.start (S := mayT [] []) (mem := []) Try.func39 rfl Try.ntmps39 (Nat.le_of_ble_eq_true rfl) (hg.start rfl) ?_
  refine GS.conv (env' := [(0, .slice none 0 0), (1, .string (ByteArray.mk #[97]))]) rfl rfl ?_
  refine GS.seq ?_
  refine GS.rzM (fun _ => [(0, .slice none 0 0), (1, .string (ByteArray.mk #[97]))]) [] [0, 1] [] (fun _ => by kernel_rfl) ?_
  intro _
  refine GS.seq ?_
  refine GS.seq ?_
  refine GS.rzM (fun _ => [(0, .slice none 0 0), (1, .string (ByteArray.mk #[97])), (7, .int .i64 0), (8, .int .i64 0)]) [] [0, 1, 7, 8] [] (fun _ => by kernel_rfl) ?_
  intro _
  refine GS.block ?_
  refine GS.loop ?_
  refine GS.seq ?_
  refine GS.rzM (fun _ => [(0, .slice none 0 0), (1, .string (ByteArray.mk #[97])), (7, .int .i64 0), (8, .int .i64 0), (9, .bool false)]) [] [0, 1, 7, 8, 9] [] (fun _ => by kernel_rfl) ?_
  intro _
  refine GS.seq ?_
  refine GS.cond (t := false) rfl rfl (fun hf => by cases hf) (fun _ => ?_)
  refine GS.exit rfl ?_
  refine GS.seq ?_
  refine GS.rzM (fun _ => [(4, .int .i64 (-1))]) [] [4] [] (fun _ => by kernel_rfl) ?_
  intro _
  have hy := Option.some.inj hm
  subst hy
  refine GS.ret (fn := Try.f39) [0] [.int .i64 (-1)] [] rfl Try.func39 (by kernel_rfl) trivial (fun w' hs => ?_)
  exact ⟨(), rfl, hs.turnedG (ks := []) rfl rfl⟩

theorem w_slices_Contains___string_string_ (F : Nat) {y : Unit} (hm : m_slices_Contains___string_string_ F = some y) : CallG Try.prog 33 #[.slice none 0 0, .string (ByteArray.mk #[97])] (X := Unit) (fun (_ : Unit) => .bool false) [] [] (fun (_ : Unit) => []) := by
  intro w hg
  rw [m_slices_Contains___string_string_] at hm
  refine GS.start (S := mayT [] []) (mem := []) Try.func33 rfl Try.ntmps33 (Nat.le_of_ble_eq_true rfl) (hg.start rfl) ?_
  refine GS.conv (env' := [(0, .slice none 0 0), (1, .string (ByteArray.mk #[97]))]) rfl rfl ?_
  refine GS.seq ?_
  refine GS.rzM (fun _ => [(0, .slice none 0 0), (1, .string (ByteArray.mk #[97]))]) [] [0, 1] [] (fun _ => by kernel_rfl) ?_
  intro _
  refine GS.seq ?_
  refine bnd_elim hm (fun y3 e4 hm => ?_)
  refine GS.rgM (fun _ => [(4, .bool false)]) [(2, { act := .call [] (.int .i64 (-1)) })] [4] [] (fun _ => [CallOK Try.prog 39 #[.slice none 0 0, .string (ByteArray.mk #[97])] (.int .i64 (-1)) []]) (fun _ => by kernel_rfl) (fun _ => ⟨(by have h1 := w_slices_Index___string_string_ F  e4; exact h1.ok trivial), trivial⟩) ?_
  intro _
  have hy := Option.some.inj hm
  subst hy
  refine GS.ret (fn := Try.f33) [0] [.bool false] [] rfl Try.func33 (by kernel_rfl) trivial (fun w' hs => ?_)
  exact ⟨(), rfl, hs.turnedG (ks := []) rfl rfl⟩

theorem w__scrub_Copy__good (F : Nat) (a0_1_o : Option Addr) (a0_1_c : Nat) {y : Unit} (hm : m__scrub_Copy__good F = some y) : CallG Try.prog 26 #[.agg #[.int .i64 0, .slice a0_1_o 1 a0_1_c, .slice none 0 0], .agg ((kc2)).toArray] (X := Unit) (fun (_ : Unit) => .bool true) [] [.rd a0_1_o 4 [(kc2)]] (fun (_ : Unit) => []) := by
  intro w hg
  rw [m__scrub_Copy__good] at hm
  refine GS.start (S := mayT [] [.rd a0_1_o 4 [(kc2)]]) (mem := [(1, .rd a0_1_o 4 [(kc2)])]) Try.func26 rfl Try.ntmps26 (Nat.le_of_ble_eq_true rfl) (hg.start rfl) ?_
  refine GS.conv (env' := [(0, .agg #[.int .i64 0, .slice a0_1_o 1 a0_1_c, .slice none 0 0]), (1, .agg ((kc2)).toArray)]) rfl rfl ?_
  refine GS.seq ?_
  refine GS.rz (fun fr1 => [(2, .pointer (some ⟨(fr1 0).x, 0, none⟩)), (3, .pointer (some ⟨(fr1 1).x, 0, none⟩))]) (fun fr1 => [(1, .rd a0_1_o 4 [(kc2)]), (2, .cells ((fr1 0).x) 60 [.int .i64 0, .slice a0_1_o 1 a0_1_c, .slice none 0 0]), (3, .cells ((fr1 1).x) 75 (kc2))]) [(0, { act := .new .var, key := some 2 }), (1, { act := .new .var, key := some 3 })] [2, 3] [1, 2, 3] (fun fr1 => by kernel_rfl) ?_
  intro fr1
  refine GS.seq ?_
  refine bnd_elim hm (fun y3 e4 hm => ?_)
  refine bnd_elim hm (fun y5 e6 hm => ?_)
  refine GS.rg (fun _ => [(4, .bool true)]) (fun _ => []) [(1, { act := .load 2 0 0 [] }), (2, { act := .load 3 0 0 [] }), (3, { act := .call [1] (.bool true) }), (6, { act := .load 2 0 0 [] }), (8, { act := .load 3 0 0 [] }), (9, { act := .call [] (.bool false) })] [4] [] (fun _ => [(fr1 0).x = (fr1 0).x, (fr1 1).x = (fr1 1).x, CallOK Try.prog 32 #[.slice a0_1_o 1 a0_1_c, .agg ((kc2)).toArray] (.bool true) [some (.rd a0_1_o 4 [(kc2)])], (fr1 0).x = (fr1 0).x, (fr1 1).x = (fr1 1).x, CallOK Try.prog 33 #[.slice none 0 0, .string (ByteArray.mk #[97])] (.bool false) []]) (fun _ => by kernel_rfl) (fun _ => ⟨rfl, rfl, (by have h1 := w_slices_Contains___api_Item_api_Item_ F a0_1_o a0_1_c e4; exact h1.ok ⟨(.inl ⟨.rd a0_1_o 4 [(kc2)], .head _, Cov.refl _⟩), trivial⟩), rfl, rfl, (by have h1 := w_slices_Contains___string_string_ F  e6; exact h1.ok trivial), trivial⟩) ?_
  intro _
  have hy := Option.some.inj hm
  subst hy
  refine GS.ret (fn := Try.f26) [0] [.bool true] [] rfl Try.func26 (by kernel_rfl) trivial (fun w' hs => ?_)
  exact ⟨(), rfl, hs.turnedG (ks := []) rfl rfl⟩

theorem w_scrub_Compare_1 (F : Nat) (a0_1_o : Option Addr) (a0_1_c : Nat) (a1b : Nat) {y : Unit} (hm : m_scrub_Compare_1 F = some y) : CallG Try.prog 25 #[.agg #[.int .i64 0, .slice a0_1_o 1 a0_1_c, .slice none 0 0], .pointer (some ⟨a1b, 0, none⟩)] (X := Unit) (fun (_ : Unit) => .bool true) [] [.rd a0_1_o 4 [(kc2)], .rd (some ⟨a1b, 0, none⟩) 4 [(kc2)]] (fun (_ : Unit) => []) := by
  intro w hg
  rw [m_scrub_Compare_1] at hm
  refine GS.start (S := mayT [] [.rd a0_1_o 4 [(kc2)], .rd (some ⟨a1b, 0, none⟩) 4 [(kc2)]]) (mem := [(1, .rd a0_1_o 4 [(kc2)]), (2, .rd (some ⟨a1b, 0, none⟩) 4 [(kc2)])]) Try.func25 rfl Try.ntmps25 (Nat.le_of_ble_eq_true rfl) (hg.start rfl) ?_
  refine GS.conv (env' := [(0, .agg #[.int .i64 0, .slice a0_1_o 1 a0_1_c, .slice none 0 0]), (1, .pointer (some ⟨a1b, 0, none⟩))]) rfl rfl ?_
  refine GS.seq ?_
  refine GS.rz (fun fr1 => [(1, .pointer (some ⟨a1b, 0, none⟩)), (2, .pointer (some ⟨(fr1 0).x, 0, none⟩))]) (fun fr1 => [(1, .rd a0_1_o 4 [(kc2)]), (2, .rd (some ⟨a1b, 0, none⟩) 4 [(kc2)]), (3, .cells ((fr1 0).x) 60 [.int .i64 0, .slice a0_1_o 1 a0_1_c, .slice none 0 0])]) [(0, { act := .new .var, key := some 3 })] [1, 2] [1, 2, 3] (fun fr1 => by kernel_rfl) ?_
  intro fr1
  refine GS.seq ?_
  refine bnd_elim hm (fun y3 e4 hm => ?_)
  refine GS.rg (fun _ => [(3, .bool true)]) (fun _ => []) [(0, { act := .load 3 0 0 [] }), (1, { act := .load 2 0 0 [.string (ByteArray.mk #[97]), .int .i64 1, .int .i64 1, .int .u32 7] }), (2, { act := .call [1] (.bool true) })] [3] [] (fun _ => [(fr1 0).x = (fr1 0).x, a1b = blk (some ⟨a1b, 0, none⟩), 0 = offs (some ⟨a1b, 0, none⟩) + (0 * 4 + 0), ([(kc2)] : List (List Value))[0]? = some [.string (ByteArray.mk #[97]), .int .i64 1, .int .i64 1, .int .u32 7], CallOK Try.prog 26 #[.agg #[.int .i64 0, .slice a0_1_o 1 a0_1_c, .slice none 0 0], .agg ((kc2)).toArray] (.bool true) [some (.rd a0_1_o 4 [(kc2)])]]) (fun _ => by kernel_rfl) (fun _ => ⟨rfl, rfl, rfl, rfl, (by have h1 := w__scrub_Copy__good F a0_1_o a0_1_c e4; exact h1.ok ⟨(.inl ⟨.rd a0_1_o 4 [(kc2)], .head _, Cov.refl _⟩), trivial⟩), trivial⟩) ?_
  intro _
  have hy := Option.some.inj hm
  subst hy
  refine GS.ret (fn := Try.f25) [0] [.bool true] [] rfl Try.func25 (by kernel_rfl) trivial (fun w' hs => ?_)
  exact ⟨(), rfl, hs.turnedG (ks := []) rfl rfl⟩

theorem w_slices_IndexFunc___scrub_Copy_scrub_Copy_ (F : Nat) (a0_o : Option Addr) (a0_c : Nat) (a0_0_1_o : Option Addr) (a0_0_1_c : Nat) (a0_1_1_o : Option Addr) (a0_1_1_c : Nat) (a1c0b : Nat) {y : Unit} (hm : m_slices_IndexFunc___scrub_Copy_scrub_Copy_ F = some y) : CallG Try.prog 24 #[.slice a0_o 2 a0_c, .func (.func 25) #[] #[.pointer (some ⟨a1c0b, 0, none⟩)]] (X := Unit) (fun (_ : Unit) => .int .i64 0) [] [.rd a0_0_1_o 4 [(kc2)], .rd a0_1_1_o 4 [(kc4)], .rd a0_o 3 [[.int .i64 0, .slice a0_0_1_o 1 a0_0_1_c, .slice none 0 0], [.int .i64 1, .slice a0_1_1_o 1 a0_1_1_c, .slice none 0 0]], .rd (some ⟨a1c0b, 0, none⟩) 4 [(kc2)]] (fun (_ : Unit) => []) := by
  intro w hg
  rw [m_slices_IndexFunc___scrub_Copy_scrub_Copy_] at hm
  refine GS.start (S := mayT [] [.rd a0_0_1_o 4 [(kc2)], .rd a0_1_1_o 4 [(kc4)], .rd a0_o 3 [[.int .i64 0, .slice a0_0_1_o 1 a0_0_1_c, .slice none 0 0], [.int .i64 1, .slice a0_1_1_o 1 a0_1_1_c, .slice none 0 0]], .rd (some ⟨a1c0b, 0, none⟩) 4 [(kc2)]]) (mem := [(1, .rd a0_0_1_o 4 [(kc2)]), (2, .rd a0_1_1_o 4 [(kc4)]), (3, .rd a0_o 3 [[.int .i64 0, .slice a0_0_1_o 1 a0_0_1_c, .slice none 0 0], [.int .i64 1, .slice a0_1_1_o 1 a0_1_1_c, .slice none 0 0]]), (4, .rd (some ⟨a1c0b, 0, none⟩) 4 [(kc2)])]) Try.func24 rfl Try.ntmps24 (Nat.le_of_ble_eq_true rfl) (hg.start rfl) ?_
  refine GS.conv (env' := [(0, .slice a0_o 2 a0_c), (1, .func (.func 25) #[] #[.pointer (some ⟨a1c0b, 0, none⟩)])]) rfl rfl ?_
  refine GS.seq ?_
  refine GS.rzM (fun _ => [(0, .slice a0_o 2 a0_c), (1, .func (.func 25) #[] #[.pointer (some ⟨a1c0b, 0, none⟩)])]) [] [0, 1] [1, 2, 3, 4] (fun _ => by kernel_rfl) ?_
  intro _
  refine GS.seq ?_
  refine GS.seq ?_
  refine GS.rzM (fun _ => [(0, .slice a0_o 2 a0_c), (1, .func (.func 25) #[] #[.pointer (some ⟨a1c0b, 0, none⟩)]), (7, .int .i64 2), (8, .int .i64 0)]) [] [0, 1, 7, 8] [1, 2, 3, 4] (fun _ => by kernel_rfl) ?_
  intro _
  refine GS.block ?_
  refine GS.loop ?_
  refine GS.seq ?_
  refine GS.rzM (fun _ => [(0, .slice a0_o 2 a0_c), (1, .func (.func 25) #[] #[.pointer (some ⟨a1c0b, 0, none⟩)]), (7, .int .i64 2), (8, .int .i64 0), (9, .bool true)]) [] [0, 1, 7, 8, 9] [1, 2, 3, 4] (fun _ => by kernel_rfl) ?_
  intro _
  refine GS.seq ?_
  refine GS.cond (t := true) rfl rfl (fun _ => ?_) (fun hf => by cases hf)
  refine GS.skip ?_
  refine GS.seq ?_
  refine GS.block ?_
  refine GS.seq ?_
  refine GS.rzM (fun _ => [(0, .slice a0_o 2 a0_c), (1, .func (.func 25) #[] #[.pointer (some ⟨a1c0b, 0, none⟩)]), (5, .int .i64 0), (7, .int .i64 2), (8, .int .i64 0)]) [] [0, 1, 5, 7, 8] [1, 2, 3, 4] (fun _ => by kernel_rfl) ?_
  intro _
  refine GS.seq ?_
  refine bnd_elim hm (fun y6 e7 hm => ?_)
  refine GS.rgM (fun _ => [(0, .slice a0_o 2 a0_c), (1, .func (.func 25) #[] #[.pointer (some ⟨a1c0b, 0, none⟩)]), (5, .int .i64 0), (7, .int .i64 2), (8, .int .i64 0), (16, .bool true)]) [(3, { act := .idx 3 0 }), (4, { act := .load 3 0 0 [.int .i64 0, .slice a0_0_1_o 1 a0_0_1_c, .slice none 0 0] }), (5, { act := .call [1, 4] (.bool true) })] [0, 1, 5, 7, 8, 16] [1, 2, 3, 4] (fun _ => [a0_o = a0_o, 2 = ([[.int .i64 0, .slice a0_0_1_o 1 a0_0_1_c, .slice none 0 0], [.int .i64 1, .slice a0_1_1_o 1 a0_1_1_c, .slice none 0 0]] : List (List Value)).length, (0 : Int) = ((0 : Nat) : Int), 0 < 2, blk a0_o = blk a0_o, offs a0_o + 0 * 3 = offs a0_o + (0 * 3 + 0), ([[.int .i64 0, .slice a0_0_1_o 1 a0_0_1_c, .slice none 0 0], [.int .i64 1, .slice a0_1_1_o 1 a0_1_1_c, .slice none 0 0]] : List (List Value))[0]? = some [.int .i64 0, .slice a0_0_1_o 1 a0_0_1_c, .slice none 0 0], CallOK Try.prog 25 #[.agg #[.int .i64 0, .slice a0_0_1_o 1 a0_0_1_c, .slice none 0 0], .pointer (some ⟨a1c0b, 0, none⟩)] (.bool true) [some (.rd a0_0_1_o 4 [(kc2)]), some (.rd (some ⟨a1c0b, 0, none⟩) 4 [(kc2)])]]) (fun _ => by kernel_rfl) (fun _ => ⟨rfl, rfl, rfl, (Nat.le_of_ble_eq_true rfl), rfl, rfl, rfl, (by have h1 := w_scrub_Compare_1 F a0_0_1_o a0_0_1_c a1c0b e7; exact h1.ok ⟨(.inl ⟨.rd a0_0_1_o 4 [(kc2)], .head _, Cov.refl _⟩), (.inl ⟨.rd (some ⟨a1c0b, 0, none⟩) 4 [(kc2)], (.tail _ (.head _)), Cov.refl _⟩), trivial⟩), trivial⟩) ?_
  intro _
  refine GS.cond (t := true) rfl rfl (fun _ => ?_) (fun hf => by cases hf)
  refine GS.seq ?_
  refine GS.rz (fun _ => [(4, .int .i64 0)]) (fun _ => []) [] [4] [] (fun _ => by kernel_rfl) ?_
  intro _
  have hy := Option.some.inj hm
  subst hy
  refine GS.ret (fn := Try.f24) [0] [.int .i64 0] [] rfl Try.func24 (by kernel_rfl) trivial (fun w' hs => ?_)
  exact ⟨(), rfl, hs.turnedG (ks := []) rfl rfl⟩

theorem w_slices_Index___api_Item_api_Item__2 (F : Nat) (a0_o : Option Addr) (a0_c : Nat) {y : Unit} (hm : m_slices_Index___api_Item_api_Item__2 F = some y) : CallG Try.prog 38 #[.slice a0_o 1 a0_c, .agg ((kc2)).toArray] (X := Unit) (fun (_ : Unit) => .int .i64 (-1)) [] [.rd a0_o 4 [(kc4)]] (fun (_ : Unit) => []) := by
  intro w hg
  rw [m_slices_Index___api_Item_api_Item__2] at hm
  refine GS.start (S := mayT [] [.rd a0_o 4 [(kc4)]]) (mem := [(1, .rd a0_o 4 [(kc4)])]) Try.func38 rfl Try.ntmps38 (Nat.le_of_ble_eq_true rfl) (hg.start rfl) ?_
  refine GS.conv (env' := [(0, .slice a0_o 1 a0_c), (1, .agg ((kc2)).toArray)]) rfl rfl ?_
  refine GS.seq ?_
  refine GS.rz (fun fr1 => [(0, .slice a0_o 1 a0_c), (3, .pointer (some ⟨(fr1 0).x, 0, none⟩))]) (fun fr1 => [(1, .rd a0_o 4 [(kc4)]), (2, .cells ((fr1 0).x) 75 (kc2))]) [(0, { act := .new .var, key := some 2 })] [0, 3] [1, 2] (fun fr1 => by kernel_rfl) ?_
  intro fr1
  refine GS.seq ?_
  refine GS.seq ?_
  refine GS.rzM (fun _ => [(0, .slice a0_o 1 a0_c), (3, .pointer (some ⟨(fr1 0).x, 0, none⟩)), (7, .int .i64 1), (8, .int .i64 0)]) [] [0, 3, 7, 8] [1, 2] (fun _ => by kernel_rfl) ?_
  intro _
  refine GS.block ?_
  refine GS.loop ?_
  refine GS.seq ?_
  refine GS.rzM (fun _ => [(0, .slice a0_o 1 a0_c), (3, .pointer (some ⟨(fr1 0).x, 0, none⟩)), (7, .int .i64 1), (8, .int .i64 0), (9, .bool true)]) [] [0, 3, 7, 8, 9] [1, 2] (fun _ => by kernel_rfl) ?_
  intro _
  refine GS.seq ?_
  refine GS.cond (t := true) rfl rfl (fun _ => ?_) (fun hf => by cases hf)
  refine GS.skip ?_
  refine GS.seq ?_
  refine GS.block ?_
  refine GS.seq ?_
  refine GS.rzM (fun _ => [(0, .slice a0_o 1 a0_c), (3, .pointer (some ⟨(fr1 0).x, 0, none⟩)), (5, .int .i64 0), (7, .int .i64 1), (8, .int .i64 0)]) [] [0, 3, 5, 7, 8] [1, 2] (fun _ => by kernel_rfl) ?_
  intro _
  refine GS.seq ?_
  refine GS.rM (env' := fun _ => [(0, .slice a0_o 1 a0_c), (3, .pointer (some ⟨(fr1 0).x, 0, none⟩)), (5, .int .i64 0), (7, .int .i64 1), (8, .int .i64 0), (16, .bool false)]) (RunsTo.mkd [(0, { act := .load 2 0 0 [] }), (3, { act := .idx 1 0 }), (4, { act := .load 1 0 0 [.string (ByteArray.mk #[97]), .int .i64 1, .int .i64 1, .int .u32 8] }), (5, { act := .eq, sp := some (.bool false) })] [0, 3, 5, 7, 8, 16] [1, 2] (fun _ => [(fr1 0).x = (fr1 0).x, a0_o = a0_o, 1 = ([(kc4)] : List (List Value)).length, (0 : Int) = ((0 : Nat) : Int), 0 < 1, blk a0_o = blk a0_o, offs a0_o + 0 * 4 = offs a0_o + (0 * 4 + 0), ([(kc4)] : List (List Value))[0]? = some [.string (ByteArray.mk #[97]), .int .i64 1, .int .i64 1, .int .u32 8], ((.bool (S_api_Item.beq (S_api_Item.mk (ByteArray.mk #[97]) (S_api_Version.mk 1 1) 7) (S_api_Item.mk (ByteArray.mk #[97]) (S_api_Version.mk 1 1) 8))) : Value) = .bool false]) (by kernel_rfl) (by kernel_rfl) (fun _ => by kernel_rfl) (fun _ => ⟨rfl, rfl, rfl, rfl, (Nat.le_of_ble_eq_true rfl), rfl, rfl, rfl, (by kernel_rfl), trivial⟩)) ?_
  intro _
  refine GS.cond (t := false) rfl rfl (fun hf => by cases hf) (fun _ => ?_)
  refine GS.skip ?_
  refine GS.inBlock ?_
  refine GS.rzM (fun _ => [(0, .slice a0_o 1 a0_c), (3, .pointer (some ⟨(fr1 0).x, 0, none⟩)), (7, .int .i64 1), (8, .int .i64 1)]) [] [0, 3, 7, 8] [1, 2] (fun _ => by kernel_rfl) ?_
  intro _
  refine GS.inLoop ?_
  refine GS.seq ?_
  refine GS.rzM (fun _ => [(0, .slice a0_o 1 a0_c), (3, .pointer (some ⟨(fr1 0).x, 0, none⟩)), (7, .int .i64 1), (8, .int .i64 1), (9, .bool false)]) [] [0, 3, 7, 8, 9] [1, 2] (fun _ => by kernel_rfl) ?_
  intro _
  refine GS.seq ?_
  refine GS.cond (t := false) rfl rfl (fun hf => by cases hf) (fun _ => ?_)
  refine GS.exit rfl ?_
  refine GS.seq ?_
  refine GS.rz (fun _ => [(4, .int .i64 (-1))]) (fun _ => []) [] [4] [] (fun _ => by kernel_rfl) ?_
  intro _
  have hy := Option.some.inj hm
  subst hy
  refine GS.ret (fn := Try.f38) [0] [.int .i64 (-1)] [] rfl Try.func38 (by kernel_rfl) trivial (fun w' hs => ?_)
  exact ⟨(), rfl, hs.turnedG (ks := []) rfl rfl⟩

theorem w_slices_Contains___api_Item_api_Item__2 (F : Nat) (a0_o : Option Addr) (a0_c : Nat) {y : Unit} (hm : m_slices_Contains___api_Item_api_Item__2 F = some y) : CallG Try.prog 32 #[.slice a0_o 1 a0_c, .agg ((kc2)).toArray] (X := Unit) (fun (_ : Unit) => .bool false) [] [.rd a0_o 4 [(kc4)]] (fun (_ : Unit) => []) := by
  intro w hg
  rw [m_slices_Contains___api_Item_api_Item__2] at hm
  refine GS.start (S := mayT [] [.rd a0_o 4 [(kc4)]]) (mem := [(1, .rd a0_o 4 [(kc4)])]) Try.func32 rfl Try.ntmps32 (Nat.le_of_ble_eq_true rfl) (hg.start rfl) ?_
  refine GS.conv (env' := [(0, .slice a0_o 1 a0_c), (1, .agg ((kc2)).toArray)]) rfl rfl ?_
  refine GS.seq ?_
  refine GS.rz (fun fr1 => [(0, .slice a0_o 1 a0_c), (3, .pointer (some ⟨(fr1 0).x, 0, none⟩))]) (fun fr1 => [(1, .rd a0_o 4 [(kc4)]), (2, .cells ((fr1 0).x) 75 (kc2))]) [(0, { act := .new .var, key := some 2 })] [0, 3] [1, 2] (fun fr1 => by kernel_rfl) ?_
  intro fr1
  refine GS.seq ?_
  refine bnd_elim hm (fun y3 e4 hm => ?_)
  refine GS.rg (fun _ => [(4, .bool false)]) (fun _ => []) [(1, { act := .load 2 0 0 [] }), (2, { act := .call [1] (.int .i64 (-1)) })] [4] [] (fun _ => [(fr1 0).x = (fr1 0).x, CallOK Try.prog 38 #[.slice a0_o 1 a0_c, .agg ((kc2)).toArray] (.int .i64 (-1)) [some (.rd a0_o 4 [(kc4)])]]) (fun _ => by kernel_rfl) (fun _ => ⟨rfl, (by have h1 := w_slices_Index___api_Item_api_Item__2 F a0_o a0_c e4; exact h1.ok ⟨(.inl ⟨.rd a0_o 4 [(kc4)], .head _, Cov.refl _⟩), trivial⟩), trivial⟩) ?_
  intro _
  have hy := Option.some.inj hm
  subst hy
  refine GS.ret (fn := Try.f32) [0] [.bool false] [] rfl Try.func32 (by kernel_rfl) trivial (fun w' hs => ?_)
  exact ⟨(), rfl, hs.turnedG (ks := []) rfl rfl⟩

theorem w__scrub_Copy__good_2 (F : Nat) (a0_1_o : Option Addr) (a0_1_c : Nat) {y : Unit} (hm : m__scrub_Copy__good_2 F = some y) : CallG Try.prog 26 #[.agg #[.int .i64 1, .slice a0_1_o 1 a0_1_c, .slice none 0 0], .agg ((kc2)).toArray] (X := Unit) (fun (_ : Unit) => .bool false) [] [.rd a0_1_o 4 [(kc4)]] (fun (_ : Unit) => []) := by
  intro w hg
  rw [m__scrub_Copy__good_2] at hm
  refine GS.start (S := mayT [] [.rd a0_1_o 4 [(kc4)]]) (mem := [(1, .rd a0_1_o 4 [(kc4)])]) Try.func26 rfl Try.ntmps26 (Nat.le_of_ble_eq_true rfl) (hg.start rfl) ?_
  refine GS.conv (env' := [(0, .agg #[.int .i64 1, .slice a0_1_o 1 a0_1_c, .slice none 0 0]), (1, .agg ((kc2)).toArray)]) rfl rfl ?_
  refine GS.seq ?_
  refine GS.rz (fun fr1 => [(2, .pointer (some ⟨(fr1 0).x, 0, none⟩)), (3, .pointer (some ⟨(fr1 1).x, 0, none⟩))]) (fun fr1 => [(1, .rd a0_1_o 4 [(kc4)]), (2, .cells ((fr1 0).x) 60 [.int .i64 1, .slice a0_1_o 1 a0_1_c, .slice none 0 0]), (3, .cells ((fr1 1).x) 75 (kc2))]) [(0, { act := .new .var, key := some 2 }), (1, { act := .new .var, key := some 3 })] [2, 3] [1, 2, 3] (fun fr1 => by kernel_rfl) ?_
  intro fr1
  refine GS.seq ?_
  refine bnd_elim hm (fun y3 e4 hm => ?_)
  refine GS.rg (fun _ => [(4, .bool false)]) (fun _ => []) [(1, { act := .load 2 0 0 [] }), (2, { act := .load 3 0 0 [] }), (3, { act := .call [1] (.bool false) })] [4] [] (fun _ => [(fr1 0).x = (fr1 0).x, (fr1 1).x = (fr1 1).x, CallOK Try.prog 32 #[.slice a0_1_o 1 a0_1_c, .agg ((kc2)).toArray] (.bool false) [some (.rd a0_1_o 4 [(kc4)])]]) (fun _ => by kernel_rfl) (fun _ => ⟨rfl, rfl, (by have h1 := w_slices_Contains___api_Item_api_Item__2 F a0_1_o a0_1_c e4; exact h1.ok ⟨(.inl ⟨.rd a0_1_o 4 [(kc4)], .head _, Cov.refl _⟩), trivial⟩), trivial⟩) ?_
  intro _
  have hy := Option.some.inj hm
  subst hy
  refine GS.ret (fn := Try.f26) [0] [.bool false] [] rfl Try.func26 (by kernel_rfl) trivial (fun w' hs => ?_)
  exact ⟨(), rfl, hs.turnedG (ks := []) rfl rfl⟩

theorem w_math_bits_Len64 (F : Nat) {y : Unit} (hm : m_math_bits_Len64 F = some y) : CallG Try.prog 50 #[.int .u64 1] (X := Unit) (fun (_ : Unit) => .int .i64 1) [] [] (fun (_ : Unit) => []) := by
  intro w hg
  rw [m_math_bits_Len64] at hm
  refine GS.start (S := mayT [] []) (mem := []) Try.func50 rfl Try.ntmps50 (Nat.le_of_ble_eq_true rfl) (hg.start rfl) ?_
  refine GS.conv (env' := [(0, .int .u64 1)]) rfl rfl ?_
  refine GS.seq ?_
  refine GS.rzM (fun _ => [(0, .int .u64 1), (2, .int .i64 0)]) [] [0, 2] [] (fun _ => by kernel_rfl) ?_
  intro _
  refine GS.seq ?_
  refine GS.seq ?_
  refine GS.rzM (fun _ => [(0, .int .u64 1), (2, .int .i64 0), (4, .bool false)]) [] [0, 2, 4] [] (fun _ => by kernel_rfl) ?_
  intro _
  refine GS.cond (t := false) rfl rfl (fun hf => by cases hf) (fun _ => ?_)
  refine GS.skip ?_
  refine GS.seq ?_
  refine GS.seq ?_
  refine GS.rzM (fun _ => [(0, .int .u64 1), (2, .int .i64 0), (8, .bool false)]) [] [0, 2, 8] [] (fun _ => by kernel_rfl) ?_
  intro _
  refine GS.cond (t := false) rfl rfl (fun hf => by cases hf) (fun _ => ?_)
  refine GS.skip ?_
  refine GS.seq ?_
  refine GS.seq ?_
  refine GS.rzM (fun _ => [(0, .int .u64 1), (2, .int .i64 0), (14, .bool false)]) [] [0, 2, 14] [] (fun _ => by kernel_rfl) ?_
  intro _
  refine GS.cond (t := false) rfl rfl (fun hf => by cases hf) (fun _ => ?_)
  refine GS.skip ?_
  refine GS.seq ?_
  refine GS.rgM (fun _ => [(2, .int .i64 1)]) [(3, { act := .elt 1, sp := some (.int .u8 1) })] [2] [] (fun _ => [(1 : Int) = ((1 : Nat) : Int), 1 < (ByteArray.mk #[0, 1, 2, 2, 3, 3, 3, 3, 4, 4, 4, 4, 4, 4, 4, 4, 5, 5, 5, 5, 5, 5, 5, 5, 5, 5, 5, 5, 5, 5, 5, 5, 6, 6, 6, 6, 6, 6, 6, 6, 6, 6, 6, 6, 6, 6, 6, 6, 6, 6, 6, 6, 6, 6, 6, 6, 6, 6, 6, 6, 6, 6, 6, 6, 7, 7, 7, 7, 7, 7, 7, 7, 7, 7, 7, 7, 7, 7, 7, 7, 7, 7, 7, 7, 7, 7, 7, 7, 7, 7, 7, 7, 7, 7, 7, 7, 7, 7, 7, 7, 7, 7, 7, 7, 7, 7, 7, 7, 7, 7, 7, 7, 7, 7, 7, 7, 7, 7, 7, 7, 7, 7, 7, 7, 7, 7, 7, 7, 8, 8, 8, 8, 8, 8, 8, 8, 8, 8, 8, 8, 8, 8, 8, 8, 8, 8, 8, 8, 8, 8, 8, 8, 8, 8, 8, 8, 8, 8, 8, 8, 8, 8, 8, 8, 8, 8, 8, 8, 8, 8, 8, 8, 8, 8, 8, 8, 8, 8, 8, 8, 8, 8, 8, 8, 8, 8, 8, 8, 8, 8, 8, 8, 8, 8, 8, 8, 8, 8, 8, 8, 8, 8, 8, 8, 8, 8, 8, 8, 8, 8, 8, 8, 8, 8, 8, 8, 8, 8, 8, 8, 8, 8, 8, 8, 8, 8, 8, 8, 8, 8, 8, 8, 8, 8, 8, 8, 8, 8, 8, 8, 8, 8, 8, 8, 8, 8, 8, 8, 8, 8, 8, 8, 8, 8, 8, 8]).size, ((.int .u8 ((((ByteArray.mk #[0, 1, 2, 2, 3, 3, 3, 3, 4, 4, 4, 4, 4, 4, 4, 4, 5, 5, 5, 5, 5, 5, 5, 5, 5, 5, 5, 5, 5, 5, 5, 5, 6, 6, 6, 6, 6, 6, 6, 6, 6, 6, 6, 6, 6, 6, 6, 6, 6, 6, 6, 6, 6, 6, 6, 6, 6, 6, 6, 6, 6, 6, 6, 6, 7, 7, 7, 7, 7, 7, 7, 7, 7, 7, 7, 7, 7, 7, 7, 7, 7, 7, 7, 7, 7, 7, 7, 7, 7, 7, 7, 7, 7, 7, 7, 7, 7, 7, 7, 7, 7, 7, 7, 7, 7, 7, 7, 7, 7, 7, 7, 7, 7, 7, 7, 7, 7, 7, 7, 7, 7, 7, 7, 7, 7, 7, 7, 7, 8, 8, 8, 8, 8, 8, 8, 8, 8, 8, 8, 8, 8, 8, 8, 8, 8, 8, 8, 8, 8, 8, 8, 8, 8, 8, 8, 8, 8, 8, 8, 8, 8, 8, 8, 8, 8, 8, 8, 8, 8, 8, 8, 8, 8, 8, 8, 8, 8, 8, 8, 8, 8, 8, 8, 8, 8, 8, 8, 8, 8, 8, 8, 8, 8, 8, 8, 8, 8, 8, 8, 8, 8, 8, 8, 8, 8, 8, 8, 8, 8, 8, 8, 8, 8, 8, 8, 8, 8, 8, 8, 8, 8, 8, 8, 8, 8, 8, 8, 8, 8, 8, 8, 8, 8, 8, 8, 8, 8, 8, 8, 8, 8, 8, 8, 8, 8, 8, 8, 8, 8, 8, 8, 8, 8, 8, 8, 8]).data.getD 1 0).toNat : Nat) : Int)) : Value) = .int .u8 1]) (fun _ => by kernel_rfl) (fun _ => ⟨rfl, (Nat.le_of_ble_eq_true rfl), (by kernel_rfl), trivial⟩) ?_
  intro _
  have hy := Option.some.inj hm
  subst hy
  refine GS.ret (fn := Try.f50) [0] [.int .i64 1] [] rfl Try.func50 (by kernel_rfl) trivial (fun w' hs => ?_)
  exact ⟨(), rfl, hs.turnedG (ks := []) rfl rfl⟩

theorem w_math_bits_Len (F : Nat) {y : Unit} (hm : m_math_bits_Len F = some y) : CallG Try.prog 35 #[.int .u64 1] (X := Unit) (fun (_ : Unit) => .int .i64 1) [] [] (fun (_ : Unit) => []) := by
  intro w hg
  rw [m_math_bits_Len] at hm
  refine GS.start (S := mayT [] []) (mem := []) Try.func35 rfl Try.ntmps35 (Nat.le_of_ble_eq_true rfl) (hg.start rfl) ?_
  refine GS.conv (env' := [(0, .int .u64 1)]) rfl rfl ?_
  refine GS.seq ?_
  refine GS.rzM (fun _ => [(0, .int .u64 1)]) [] [0] [] (fun _ => by kernel_rfl) ?_
  intro _
  refine GS.seq ?_
  refine GS.cond (t := false) rfl rfl (fun hf => by cases hf) (fun _ => ?_)
  refine GS.skip ?_
  refine GS.seq ?_
  refine bnd_elim hm (fun y3 e4 hm => ?_)
  refine GS.rgM (fun _ => [(2, .int .i64 1)]) [(1, { act := .call [] (.int .i64 1) })] [2] [] (fun _ => [CallOK Try.prog 50 #[.int .u64 1] (.int .i64 1) []]) (fun _ => by kernel_rfl) (fun _ => ⟨(by have h1 := w_math_bits_Len64 F  e4; exact h1.ok trivial), trivial⟩) ?_
  intro _
  have hy := Option.some.inj hm
  subst hy
  refine GS.ret (fn := Try.f35) [0] [.int .i64 1] [] rfl Try.func35 (by kernel_rfl) trivial (fun w' hs => ?_)
  exact ⟨(), rfl, hs.turnedG (ks := []) rfl rfl⟩

theorem w_slices_insertionSortOrdered_int_ (F : Nat) (a0_o : Option Addr) (a0_c : Nat) {y : Unit} (hm : m_slices_insertionSortOrdered_int_ F = some y) : CallG Try.prog 40 #[.slice a0_o 1 a0_c, .int .i64 0, .int .i64 1] (X := Unit) (fun (_ : Unit) => .tuple #[]) [] [.rd a0_o 1 [[.int .i64 1]]] (fun (_ : Unit) => []) := by
  intro w hg
  rw [m_slices_insertionSortOrdered_int_] at hm
  refine GS.start (S := mayT [] [.rd a0_o 1 [[.int .i64 1]]]) (mem := [(1, .rd a0_o 1 [[.int .i64 1]])]) Try.func40 rfl Try.ntmps40 (Nat.le_of_ble_eq_true rfl) (hg.start rfl) ?_
  refine GS.conv (env' := [(0, .slice a0_o 1 a0_c), (1, .int .i64 0), (2, .int .i64 1)]) rfl rfl ?_
  refine GS.seq ?_
  refine GS.rzM (fun _ => [(0, .slice a0_o 1 a0_c), (1, .int .i64 0), (2, .int .i64 1), (6, .int .i64 1)]) [] [0, 1, 2, 6] [1] (fun _ => by kernel_rfl) ?_
  intro _
  refine GS.block ?_
  refine GS.loop ?_
  refine GS.seq ?_
  refine GS.seq ?_
  refine GS.rzM (fun _ => [(0, .slice a0_o 1 a0_c), (1, .int .i64 0), (2, .int .i64 1), (6, .int .i64 1), (12, .bool false)]) [] [0, 1, 2, 6, 12] [1] (fun _ => by kernel_rfl) ?_
  intro _
  refine GS.cond (t := false) rfl rfl (fun hf => by cases hf) (fun _ => ?_)
  refine GS.exit rfl ?_
  have hy := Option.some.inj hm
  subst hy
  refine GS.end_ (fn := Try.f40) [] [] [] rfl Try.func40 (by kernel_rfl) trivial (fun w' hs => ?_)
  exact ⟨(), rfl, hs.turnedG (ks := []) rfl rfl⟩

theorem w_slices_pdqsortOrdered_int_ (F : Nat) (a0_o : Option Addr) (a0_c : Nat) {y : Unit} (hm : m_slices_pdqsortOrdered_int_ F = some y) : CallG Try.prog 34 #[.slice a0_o 1 a0_c, .int .i64 0, .int .i64 1, .int .i64 1] (X := Unit) (fun (_ : Unit) => .tuple #[]) [] [.rd a0_o 1 [[.int .i64 1]]] (fun (_ : Unit) => []) := by
  intro w hg
  rw [m_slices_pdqsortOrdered_int_] at hm
  refine GS.start (S := mayT [] [.rd a0_o 1 [[.int .i64 1]]]) (mem := [(1, .rd a0_o 1 [[.int .i64 1]])]) Try.func34 rfl Try.ntmps34 (Nat.le_of_ble_eq_true rfl) (hg.start rfl) ?_
  refine GS.conv (env' := [(0, .slice a0_o 1 a0_c), (1, .int .i64 0), (2, .int .i64 1), (3, .int .i64 1)]) rfl rfl ?_
  refine GS.seq ?_
  refine GS.rzM (fun _ => [(0, .slice a0_o 1 a0_c), (1, .int .i64 0), (2, .int .i64 1), (3, .int .i64 1), (8, .bool true)]) [] [0, 1, 2, 3, 8] [1] (fun _ => by kernel_rfl) ?_
  intro _
  refine GS.seq ?_
  refine GS.rzM (fun _ => [(0, .slice a0_o 1 a0_c), (1, .int .i64 0), (2, .int .i64 1), (3, .int .i64 1), (8, .bool true), (9, .bool true)]) [] [0, 1, 2, 3, 8, 9] [1] (fun _ => by kernel_rfl) ?_
  intro _
  refine GS.block ?_
  refine GS.loop ?_
  refine GS.block ?_
  refine GS.seq ?_
  refine GS.rzM (fun _ => [(0, .slice a0_o 1 a0_c), (1, .int .i64 0), (2, .int .i64 1), (3, .int .i64 1), (8, .bool true), (9, .bool true), (10, .int .i64 1)]) [] [0, 1, 2, 3, 8, 9, 10] [1] (fun _ => by kernel_rfl) ?_
  intro _
  refine GS.seq ?_
  refine GS.seq ?_
  refine GS.rzM (fun _ => [(0, .slice a0_o 1 a0_c), (1, .int .i64 0), (2, .int .i64 1), (3, .int .i64 1), (8, .bool true), (9, .bool true), (10, .int .i64 1), (23, .bool true)]) [] [0, 1, 2, 3, 8, 9, 10, 23] [1] (fun _ => by kernel_rfl) ?_
  intro _
  refine GS.cond (t := true) rfl rfl (fun _ => ?_) (fun hf => by cases hf)
  refine GS.seq ?_
  refine bnd_elim hm (fun y6 e7 hm => ?_)
  refine GS.rg (fun _ => []) (fun _ => []) [(3, { act := .call [1] (.tuple #[]) })] [] [] (fun _ => [CallOK Try.prog 40 #[.slice a0_o 1 a0_c, .int .i64 0, .int .i64 1] (.tuple #[]) [some (.rd a0_o 1 [[.int .i64 1]])]]) (fun _ => by kernel_rfl) (fun _ => ⟨(by have h1 := w_slices_insertionSortOrdered_int_ F a0_o a0_c e7; exact h1.ok ⟨(.inl ⟨.rd a0_o 1 [[.int .i64 1]], .head _, Cov.refl _⟩), trivial⟩), trivial⟩) ?_
  intro _
  have hy := Option.some.inj hm
  subst hy
  refine GS.ret (fn := Try.f34) [] [] [] rfl Try.func34 (by kernel_rfl) trivial (fun w' hs => ?_)
  exact ⟨(), rfl, hs.turnedG (ks := []) rfl rfl⟩

theorem w_slices_Sort___int_int_ (F : Nat) (a0_o : Option Addr) (a0_c : Nat) {y : Unit} (hm : m_slices_Sort___int_int_ F = some y) : CallG Try.prog 27 #[.slice a0_o 1 a0_c] (X := Unit) (fun (_ : Unit) => .tuple #[]) [] [.rd a0_o 1 [[.int .i64 1]]] (fun (_ : Unit) => []) := by
  intro w hg
  rw [m_slices_Sort___int_int_] at hm
  refine GS.start (S := mayT [] [.rd a0_o 1 [[.int .i64 1]]]) (mem := [(1, .rd a0_o 1 [[.int .i64 1]])]) Try.func27 rfl Try.ntmps27 (Nat.le_of_ble_eq_true rfl) (hg.start rfl) ?_
  refine GS.conv (env' := [(0, .slice a0_o 1 a0_c)]) rfl rfl ?_
  refine GS.seq ?_
  refine GS.rzM (fun _ => [(0, .slice a0_o 1 a0_c), (2, .int .i64 1)]) [] [0, 2] [1] (fun _ => by kernel_rfl) ?_
  intro _
  refine bnd_elim hm (fun y3 e4 hm => ?_)
  refine bnd_elim hm (fun y5 e6 hm => ?_)
  refine GS.rg (fun _ => []) (fun _ => []) [(4, { act := .call [] (.int .i64 1) }), (5, { act := .call [1] (.tuple #[]) })] [] [] (fun _ => [CallOK Try.prog 35 #[.int .u64 1] (.int .i64 1) [], CallOK Try.prog 34 #[.slice a0_o 1 a0_c, .int .i64 0, .int .i64 1, .int .i64 1] (.tuple #[]) [some (.rd a0_o 1 [[.int .i64 1]])]]) (fun _ => by kernel_rfl) (fun _ => ⟨(by have h1 := w_math_bits_Len F  e4; exact h1.ok trivial), (by have h1 := w_slices_pdqsortOrdered_int_ F a0_o a0_c e6; exact h1.ok ⟨(.inl ⟨.rd a0_o 1 [[.int .i64 1]], .head _, Cov.refl _⟩), trivial⟩), trivial⟩) ?_
  intro _
  have hy := Option.some.inj hm
  subst hy
  refine GS.end_ (fn := Try.f27) [] [] [] rfl Try.func27 (by kernel_rfl) trivial (fun w' hs => ?_)
  exact ⟨(), rfl, hs.turnedG (ks := []) rfl rfl⟩

theorem w_slices_insertionSortCmpFunc_scrub_Fix_ (F : Nat) (a0_o : Option Addr) (a0_c : Nat) (a0_0_4_o : Option Addr) (a0_0_4_c : Nat) {y : Unit} (hm : m_slices_insertionSortCmpFunc_scrub_Fix_ F = some y) : CallG Try.prog 51 #[.slice a0_o 1 a0_c, .int .i64 0, .int .i64 1, .func (.func 29) #[] #[]] (X := Unit) (fun (_ : Unit) => .tuple #[]) [] [.rd a0_0_4_o 1 [[.int .i64 1]], .rd a0_o 5 [(kc6 a0_0_4_o a0_0_4_c)]] (fun (_ : Unit) => []) := by
  intro w hg
  rw [m_slices_insertionSortCmpFunc_scrub_Fix_] at hm
  refine GS.start (S := mayT [] [.rd a0_0_4_o 1 [[.int .i64 1]], .rd a0_o 5 [(kc6 a0_0_4_o a0_0_4_c)]]) (mem := [(1, .rd a0_0_4_o 1 [[.int .i64 1]]), (2, .rd a0_o 5 [(kc6 a0_0_4_o a0_0_4_c)])]) Try.func51 rfl Try.ntmps51 (Nat.le_of_ble_eq_true rfl) (hg.start rfl) ?_
  refine GS.conv (env' := [(0, .slice a0_o 1 a0_c), (1, .int .i64 0), (2, .int .i64 1), (3, .func (.func 29) #[] #[])]) rfl rfl ?_
  refine GS.seq ?_
  refine GS.rzM (fun _ => [(0, .slice a0_o 1 a0_c), (1, .int .i64 0), (2, .int .i64 1), (3, .func (.func 29) #[] #[]), (8, .int .i64 1)]) [] [0, 1, 2, 3, 8] [1, 2] (fun _ => by kernel_rfl) ?_
  intro _
  refine GS.block ?_
  refine GS.loop ?_
  refine GS.seq ?_
  refine GS.seq ?_
  refine GS.rzM (fun _ => [(0, .slice a0_o 1 a0_c), (1, .int .i64 0), (2, .int .i64 1), (3, .func (.func 29) #[] #[]), (8, .int .i64 1), (14, .bool false)]) [] [0, 1, 2, 3, 8, 14] [1, 2] (fun _ => by kernel_rfl) ?_
  intro _
  refine GS.cond (t := false) rfl rfl (fun hf => by cases hf) (fun _ => ?_)
  refine GS.exit rfl ?_
  have hy := Option.some.inj hm
  subst hy
  refine GS.end_ (fn := Try.f51) [] [] [] rfl Try.func51 (by kernel_rfl) trivial (fun w' hs => ?_)
  exact ⟨(), rfl, hs.turnedG (ks := []) rfl rfl⟩

theorem w_slices_stableCmpFunc_scrub_Fix_ (F : Nat) (a0_o : Option Addr) (a0_c : Nat) (a0_0_4_o : Option Addr) (a0_0_4_c : Nat) {y : Unit} (hm : m_slices_stableCmpFunc_scrub_Fix_ F = some y) : CallG Try.prog 36 #[.slice a0_o 1 a0_c, .int .i64 1, .func (.func 29) #[] #[]] (X := Unit) (fun (_ : Unit) => .tuple #[]) [] [.rd a0_0_4_o 1 [[.int .i64 1]], .rd a0_o 5 [(kc6 a0_0_4_o a0_0_4_c)]] (fun (_ : Unit) => []) := by
  intro w hg
  rw [m_slices_stableCmpFunc_scrub_Fix_] at hm
  refine GS.start (S := mayT [] [.rd a0_0_4_o 1 [[.int .i64 1]], .rd a0_o 5 [(kc6 a0_0_4_o a0_0_4_c)]]) (mem := [(1, .rd a0_0_4_o 1 [[.int .i64 1]]), (2, .rd a0_o 5 [(kc6 a0_0_4_o a0_0_4_c)])]) Try.func36 rfl Try.ntmps36 (Nat.le_of_ble_eq_true rfl) (hg.start rfl) ?_
  refine GS.conv (env' := [(0, .slice a0_o 1 a0_c), (1, .int .i64 1), (2, .func (.func 29) #[] #[])]) rfl rfl ?_
  refine GS.seq ?_
  refine GS.rzM (fun _ => [(0, .slice a0_o 1 a0_c), (1, .int .i64 1), (2, .func (.func 29) #[] #[]), (6, .int .i64 20)]) [] [0, 1, 2, 6] [1, 2] (fun _ => by kernel_rfl) ?_
  intro _
  refine GS.seq ?_
  refine GS.rzM (fun _ => [(0, .slice a0_o 1 a0_c), (1, .int .i64 1), (2, .func (.func 29) #[] #[]), (6, .int .i64 20), (7, .int .i64 0), (8, .int .i64 20)]) [] [0, 1, 2, 6, 7, 8] [1, 2] (fun _ => by kernel_rfl) ?_
  intro _
  refine GS.seq ?_
  refine GS.block ?_
  refine GS.loop ?_
  refine GS.seq ?_
  refine GS.seq ?_
  refine GS.rzM (fun _ => [(0, .slice a0_o 1 a0_c), (1, .int .i64 1), (2, .func (.func 29) #[] #[]), (6, .int .i64 20), (7, .int .i64 0), (8, .int .i64 20), (13, .bool false)]) [] [0, 1, 2, 6, 7, 8, 13] [1, 2] (fun _ => by kernel_rfl) ?_
  intro _
  refine GS.cond (t := false) rfl rfl (fun hf => by cases hf) (fun _ => ?_)
  refine GS.exit rfl ?_
  refine GS.seq ?_
  refine bnd_elim hm (fun y5 e6 hm => ?_)
  refine GS.rgM (fun _ => [(0, .slice a0_o 1 a0_c), (1, .int .i64 1), (2, .func (.func 29) #[] #[]), (6, .int .i64 20)]) [(4, { act := .call [1, 2] (.tuple #[]) })] [0, 1, 2, 6] [1, 2] (fun _ => [CallOK Try.prog 51 #[.slice a0_o 1 a0_c, .int .i64 0, .int .i64 1, .func (.func 29) #[] #[]] (.tuple #[]) [some (.rd a0_0_4_o 1 [[.int .i64 1]]), some (.rd a0_o 5 [(kc6 a0_0_4_o a0_0_4_c)])]]) (fun _ => by kernel_rfl) (fun _ => ⟨(by have h1 := w_slices_insertionSortCmpFunc_scrub_Fix_ F a0_o a0_c a0_0_4_o a0_0_4_c e6; exact h1.ok ⟨(.inl ⟨.rd a0_0_4_o 1 [[.int .i64 1]], .head _, Cov.refl _⟩), (.inl ⟨.rd a0_o 5 [(kc6 a0_0_4_o a0_0_4_c)], (.tail _ (.head _)), Cov.refl _⟩), trivial⟩), trivial⟩) ?_
  intro _
  refine GS.block ?_
  refine GS.loop ?_
  refine GS.seq ?_
  refine GS.seq ?_
  refine GS.rzM (fun _ => [(0, .slice a0_o 1 a0_c), (1, .int .i64 1), (2, .func (.func 29) #[] #[]), (6, .int .i64 20), (30, .bool false)]) [] [0, 1, 2, 6, 30] [1, 2] (fun _ => by kernel_rfl) ?_
  intro _
  refine GS.cond (t := false) rfl rfl (fun hf => by cases hf) (fun _ => ?_)
  refine GS.exit rfl ?_
  have hy := Option.some.inj hm
  subst hy
  refine GS.end_ (fn := Try.f36) [] [] [] rfl Try.func36 (by kernel_rfl) trivial (fun w' hs => ?_)
  exact ⟨(), rfl, hs.turnedG (ks := []) rfl rfl⟩

theorem w_slices_SortStableFunc___scrub_Fix_scrub_Fix_ (F : Nat) (a0_o : Option Addr) (a0_c : Nat) (a0_0_4_o : Option Addr) (a0_0_4_c : Nat) {y : Unit} (hm : m_slices_SortStableFunc___scrub_Fix_scrub_Fix_ F = some y) : CallG Try.prog 28 #[.slice a0_o 1 a0_c, .func (.func 29) #[] #[]] (X := Unit) (fun (_ : Unit) => .tuple #[]) [] [.rd a0_0_4_o 1 [[.int .i64 1]], .rd a0_o 5 [(kc6 a0_0_4_o a0_0_4_c)]] (fun (_ : Unit) => []) := by
  intro w hg
  rw [m_slices_SortStableFunc___scrub_Fix_scrub_Fix_] at hm
  refine GS.start (S := mayT [] [.rd a0_0_4_o 1 [[.int .i64 1]], .rd a0_o 5 [(kc6 a0_0_4_o a0_0_4_c)]]) (mem := [(1, .rd a0_0_4_o 1 [[.int .i64 1]]), (2, .rd a0_o 5 [(kc6 a0_0_4_o a0_0_4_c)])]) Try.func28 rfl Try.ntmps28 (Nat.le_of_ble_eq_true rfl) (hg.start rfl) ?_
  refine GS.conv (env' := [(0, .slice a0_o 1 a0_c), (1, .func (.func 29) #[] #[])]) rfl rfl ?_
  refine bnd_elim hm (fun y2 e3 hm => ?_)
  refine GS.rg (fun _ => []) (fun _ => []) [(4, { act := .call [1, 2] (.tuple #[]) })] [] [] (fun _ => [CallOK Try.prog 36 #[.slice a0_o 1 a0_c, .int .i64 1, .func (.func 29) #[] #[]] (.tuple #[]) [some (.rd a0_0_4_o 1 [[.int .i64 1]]), some (.rd a0_o 5 [(kc6 a0_0_4_o a0_0_4_c)])]]) (fun _ => by kernel_rfl) (fun _ => ⟨(by have h1 := w_slices_stableCmpFunc_scrub_Fix_ F a0_o a0_c a0_0_4_o a0_0_4_c e3; exact h1.ok ⟨(.inl ⟨.rd a0_0_4_o 1 [[.int .i64 1]], .head _, Cov.refl _⟩), (.inl ⟨.rd a0_o 5 [(kc6 a0_0_4_o a0_0_4_c)], (.tail _ (.head _)), Cov.refl _⟩), trivial⟩), trivial⟩) ?_
  intro _
  have hy := Option.some.inj hm
  subst hy
  refine GS.end_ (fn := Try.f28) [] [] [] rfl Try.func28 (by kernel_rfl) trivial (fun w' hs => ?_)
  exact ⟨(), rfl, hs.turnedG (ks := []) rfl rfl⟩

theorem w_math_bits_Len64_2 (F : Nat) {y : Unit} (hm : m_math_bits_Len64_2 F = some y) : CallG Try.prog 50 #[.int .u64 0] (X := Unit) (fun (_ : Unit) => .int .i64 0) [] [] (fun (_ : Unit) => []) := by
  intro w hg
  rw [m_math_bits_Len64_2] at hm
  refine GS.start (S := mayT [] []) (mem := []) Try.func50 rfl Try.ntmps50 (Nat.le_of_ble_eq_true rfl) (hg.start rfl) ?_
  refine GS.conv (env' := [(0, .int .u64 0)]) rfl rfl ?_
  refine GS.seq ?_
  refine GS.rzM (fun _ => [(0, .int .u64 0), (2, .int .i64 0)]) [] [0, 2] [] (fun _ => by kernel_rfl) ?_
  intro _
  refine GS.seq ?_
  refine GS.seq ?_
  refine GS.rzM (fun _ => [(0, .int .u64 0), (2, .int .i64 0), (4, .bool false)]) [] [0, 2, 4] [] (fun _ => by kernel_rfl) ?_
  intro _
  refine GS.cond (t := false) rfl rfl (fun hf => by cases hf) (fun _ => ?_)
  refine GS.skip ?_
  refine GS.seq ?_
  refine GS.seq ?_
  refine GS.rzM (fun _ => [(0, .int .u64 0), (2, .int .i64 0), (8, .bool false)]) [] [0, 2, 8] [] (fun _ => by kernel_rfl) ?_
  intro _
  refine GS.cond (t := false) rfl rfl (fun hf => by cases hf) (fun _ => ?_)
  refine GS.skip ?_
  refine GS.seq ?_
  refine GS.seq ?_
  refine GS.rzM (fun _ => [(0, .int .u64 0), (2, .int .i64 0), (14, .bool false)]) [] [0, 2, 14] [] (fun _ => by kernel_rfl) ?_
  intro _
  refine GS.cond (t := false) rfl rfl (fun hf => by cases hf) (fun _ => ?_)
  refine GS.skip ?_
  refine GS.seq ?_
  refine GS.rgM (fun _ => [(2, .int .i64 0)]) [(3, { act := .elt 0, sp := some (.int .u8 0) })] [2] [] (fun _ => [(0 : Int) = ((0 : Nat) : Int), 0 < (ByteArray.mk #[0, 1, 2, 2, 3, 3, 3, 3, 4, 4, 4, 4, 4, 4, 4, 4, 5, 5, 5, 5, 5, 5, 5, 5, 5, 5, 5, 5, 5, 5, 5, 5, 6, 6, 6, 6, 6, 6, 6, 6, 6, 6, 6, 6, 6, 6, 6, 6, 6, 6, 6, 6, 6, 6, 6, 6, 6, 6, 6, 6, 6, 6, 6, 6, 7, 7, 7, 7, 7, 7, 7, 7, 7, 7, 7, 7, 7, 7, 7, 7, 7, 7, 7, 7, 7, 7, 7, 7, 7, 7, 7, 7, 7, 7, 7, 7, 7, 7, 7, 7, 7, 7, 7, 7, 7, 7, 7, 7, 7, 7, 7, 7, 7, 7, 7, 7, 7, 7, 7, 7, 7, 7, 7, 7, 7, 7, 7, 7, 8, 8, 8, 8, 8, 8, 8, 8, 8, 8, 8, 8, 8, 8, 8, 8, 8, 8, 8, 8, 8, 8, 8, 8, 8, 8, 8, 8, 8, 8, 8, 8, 8, 8, 8, 8, 8, 8, 8, 8, 8, 8, 8, 8, 8, 8, 8, 8, 8, 8, 8, 8, 8, 8, 8, 8, 8, 8, 8, 8, 8, 8, 8, 8, 8, 8, 8, 8, 8, 8, 8, 8, 8, 8, 8, 8, 8, 8, 8, 8, 8, 8, 8, 8, 8, 8, 8, 8, 8, 8, 8, 8, 8, 8, 8, 8, 8, 8, 8, 8, 8, 8, 8, 8, 8, 8, 8, 8, 8, 8, 8, 8, 8, 8, 8, 8, 8, 8, 8, 8, 8, 8, 8, 8, 8, 8, 8, 8]).size, ((.int .u8 ((((ByteArray.mk #[0, 1, 2, 2, 3, 3, 3, 3, 4, 4, 4, 4, 4, 4, 4, 4, 5, 5, 5, 5, 5, 5, 5, 5, 5, 5, 5, 5, 5, 5, 5, 5, 6, 6, 6, 6, 6, 6, 6, 6, 6, 6, 6, 6, 6, 6, 6, 6, 6, 6, 6, 6, 6, 6, 6, 6, 6, 6, 6, 6, 6, 6, 6, 6, 7, 7, 7, 7, 7, 7, 7, 7, 7, 7, 7, 7, 7, 7, 7, 7, 7, 7, 7, 7, 7, 7, 7, 7, 7, 7, 7, 7, 7, 7, 7, 7, 7, 7, 7, 7, 7, 7, 7, 7, 7, 7, 7, 7, 7, 7, 7, 7, 7, 7, 7, 7, 7, 7, 7, 7, 7, 7, 7, 7, 7, 7, 7, 7, 8, 8, 8, 8, 8, 8, 8, 8, 8, 8, 8, 8, 8, 8, 8, 8, 8, 8, 8, 8, 8, 8, 8, 8, 8, 8, 8, 8, 8, 8, 8, 8, 8, 8, 8, 8, 8, 8, 8, 8, 8, 8, 8, 8, 8, 8, 8, 8, 8, 8, 8, 8, 8, 8, 8, 8, 8, 8, 8, 8, 8, 8, 8, 8, 8, 8, 8, 8, 8, 8, 8, 8, 8, 8, 8, 8, 8, 8, 8, 8, 8, 8, 8, 8, 8, 8, 8, 8, 8, 8, 8, 8, 8, 8, 8, 8, 8, 8, 8, 8, 8, 8, 8, 8, 8, 8, 8, 8, 8, 8, 8, 8, 8, 8, 8, 8, 8, 8, 8, 8, 8, 8, 8, 8, 8, 8, 8, 8]).data.getD 0 0).toNat : Nat) : Int)) : Value) = .int .u8 0]) (fun _ => by kernel_rfl) (fun _ => ⟨rfl, (Nat.le_of_ble_eq_true rfl), (by kernel_rfl), trivial⟩) ?_
  intro _
  have hy := Option.some.inj hm
  subst hy
  refine GS.ret (fn := Try.f50) [0] [.int .i64 0] [] rfl Try.func50 (by kernel_rfl) trivial (fun w' hs => ?_)
  exact ⟨(), rfl, hs.turnedG (ks := []) rfl rfl⟩

theorem w_math_bits_Len_2 (F : Nat) {y : Unit} (hm : m_math_bits_Len_2 F = some y) : CallG Try.prog 35 #[.int .u64 0] (X := Unit) (fun (_ : Unit) => .int .i64 0) [] [] (fun (_ : Unit) => []) := by
  intro w hg
  rw [m_math_bits_Len_2] at hm
  refine GS.start (S := mayT [] []) (mem := []) Try.func35 rfl Try.ntmps35 (Nat.le_of_ble_eq_true rfl) (hg.start rfl) ?_
  refine GS.conv (env' := [(0, .int .u64 0)]) rfl rfl ?_
  refine GS.seq ?_
  refine GS.rzM (fun _ => [(0, .int .u64 0)]) [] [0] [] (fun _ => by kernel_rfl) ?_
  intro _
  refine GS.seq ?_
  refine GS.cond (t := false) rfl rfl (fun hf => by cases hf) (fun _ => ?_)
  refine GS.skip ?_
  refine GS.seq ?_
  refine bnd_elim hm (fun y3 e4 hm => ?_)
  refine GS.rgM (fun _ => [(2, .int .i64 0)]) [(1, { act := .call [] (.int .i64 0) })] [2] [] (fun _ => [CallOK Try.prog 50 #[.int .u64 0] (.int .i64 0) []]) (fun _ => by kernel_rfl) (fun _ => ⟨(by have h1 := w_math_bits_Len64_2 F  e4; exact h1.ok trivial), trivial⟩) ?_
  intro _
  have hy := Option.some.inj hm
  subst hy
  refine GS.ret (fn := Try.f35) [0] [.int .i64 0] [] rfl Try.func35 (by kernel_rfl) trivial (fun w' hs => ?_)
  exact ⟨(), rfl, hs.turnedG (ks := []) rfl rfl⟩

theorem w_slices_insertionSortOrdered_string_ (F : Nat) {y : Unit} (hm : m_slices_insertionSortOrdered_string_ F = some y) : CallG Try.prog 53 #[.slice none 0 0, .int .i64 0, .int .i64 0] (X := Unit) (fun (_ : Unit) => .tuple #[]) [] [] (fun (_ : Unit) => []) := by
  intro w hg
  rw [m_slices_insertionSortOrdered_string_] at hm
  refine GS.start (S := mayT [] []) (mem := []) Try.func53 rfl Try.ntmps53 (Nat.le_of_ble_eq_true rfl) (hg.start rfl) ?_
  refine GS.conv (env' := [(0, .slice none 0 0), (1, .int .i64 0), (2, .int .i64 0)]) rfl rfl ?_
  refine GS.seq ?_
  refine GS.rzM (fun _ => [(0, .slice none 0 0), (1, .int .i64 0), (2, .int .i64 0), (6, .int .i64 1)]) [] [0, 1, 2, 6] [] (fun _ => by kernel_rfl) ?_
  intro _
  refine GS.block ?_
  refine GS.loop ?_
  refine GS.seq ?_
  refine GS.seq ?_
  refine GS.rzM (fun _ => [(0, .slice none 0 0), (1, .int .i64 0), (2, .int .i64 0), (6, .int .i64 1), (12, .bool false)]) [] [0, 1, 2, 6, 12] [] (fun _ => by kernel_rfl) ?_
  intro _
  refine GS.cond (t := false) rfl rfl (fun hf => by cases hf) (fun _ => ?_)
  refine GS.exit rfl ?_
  have hy := Option.some.inj hm
  subst hy
  refine GS.end_ (fn := Try.f53) [] [] [] rfl Try.func53 (by kernel_rfl) trivial (fun w' hs => ?_)
  exact ⟨(), rfl, hs.turnedG (ks := []) rfl rfl⟩

theorem w_slices_pdqsortOrdered_string_ (F : Nat) {y : Unit} (hm : m_slices_pdqsortOrdered_string_ F = some y) : CallG Try.prog 37 #[.slice none 0 0, .int .i64 0, .int .i64 0, .int .i64 0] (X := Unit) (fun (_ : Unit) => .tuple #[]) [] [] (fun (_ : Unit) => []) := by
  intro w hg
  rw [m_slices_pdqsortOrdered_string_] at hm
  refine GS.start (S := mayT [] []) (mem := []) Try.func37 rfl Try.ntmps37 (Nat.le_of_ble_eq_true rfl) (hg.start rfl) ?_
  refine GS.conv (env' := [(0, .slice none 0 0), (1, .int .i64 0), (2, .int .i64 0), (3, .int .i64 0)]) rfl rfl ?_
  refine GS.seq ?_
  refine GS.rzM (fun _ => [(0, .slice none 0 0), (1, .int .i64 0), (2, .int .i64 0), (3, .int .i64 0), (8, .bool true)]) [] [0, 1, 2, 3, 8] [] (fun _ => by kernel_rfl) ?_
  intro _
  refine GS.seq ?_
  refine GS.rzM (fun _ => [(0, .slice none 0 0), (1, .int .i64 0), (2, .int .i64 0), (3, .int .i64 0), (8, .bool true), (9, .bool true)]) [] [0, 1, 2, 3, 8, 9] [] (fun _ => by kernel_rfl) ?_
  intro _
  refine GS.block ?_
  refine GS.loop ?_
  refine GS.block ?_
  refine GS.seq ?_
  refine GS.rzM (fun _ => [(0, .slice none 0 0), (1, .int .i64 0), (2, .int .i64 0), (3, .int .i64 0), (8, .bool true), (9, .bool true), (10, .int .i64 0)]) [] [0, 1, 2, 3, 8, 9, 10] [] (fun _ => by kernel_rfl) ?_
  intro _
  refine GS.seq ?_
  refine GS.seq ?_
  refine GS.rzM (fun _ => [(0, .slice none 0 0), (1, .int .i64 0), (2, .int .i64 0), (3, .int .i64 0), (8, .bool true), (9, .bool true), (10, .int .i64 0), (23, .bool true)]) [] [0, 1, 2, 3, 8, 9, 10, 23] [] (fun _ => by kernel_rfl) ?_
  intro _
  refine GS.cond (t := true) rfl rfl (fun _ => ?_) (fun hf => by cases hf)
  refine GS.seq ?_
  refine bnd_elim hm (fun y6 e7 hm => ?_)
  refine GS.rgM (fun _ => []) [(3, { act := .call [] (.tuple #[]) })] [] [] (fun _ => [CallOK Try.prog 53 #[.slice none 0 0, .int .i64 0, .int .i64 0] (.tuple #[]) []]) (fun _ => by kernel_rfl) (fun _ => ⟨(by have h1 := w_slices_insertionSortOrdered_string_ F  e7; exact h1.ok trivial), trivial⟩) ?_
  intro _
  have hy := Option.some.inj hm
  subst hy
  refine GS.ret (fn := Try.f37) [] [] [] rfl Try.func37 (by kernel_rfl) trivial (fun w' hs => ?_)
  exact ⟨(), rfl, hs.turnedG (ks := []) rfl rfl⟩

theorem w_slices_Sort___string_string_ (F : Nat) {y : Unit} (hm : m_slices_Sort___string_string_ F = some y) : CallG Try.prog 31 #[.slice none 0 0] (X := Unit) (fun (_ : Unit) => .tuple #[]) [] [] (fun (_ : Unit) => []) := by
  intro w hg
  rw [m_slices_Sort___string_string_] at hm
  refine GS.start (S := mayT [] []) (mem := []) Try.func31 rfl Try.ntmps31 (Nat.le_of_ble_eq_true rfl) (hg.start rfl) ?_
  refine GS.conv (env' := [(0, .slice none 0 0)]) rfl rfl ?_
  refine GS.seq ?_
  refine GS.rzM (fun _ => [(0, .slice none 0 0), (2, .int .i64 0)]) [] [0, 2] [] (fun _ => by kernel_rfl) ?_
  intro _
  refine bnd_elim hm (fun y3 e4 hm => ?_)
  refine bnd_elim hm (fun y5 e6 hm => ?_)
  refine GS.rgM (fun _ => []) [(4, { act := .call [] (.int .i64 0) }), (5, { act := .call [] (.tuple #[]) })] [] [] (fun _ => [CallOK Try.prog 35 #[.int .u64 0] (.int .i64 0) [], CallOK Try.prog 37 #[.slice none 0 0, .int .i64 0, .int .i64 0, .int .i64 0] (.tuple #[]) []]) (fun _ => by kernel_rfl) (fun _ => ⟨(by have h1 := w_math_bits_Len_2 F  e4; exact h1.ok trivial), (by have h1 := w_slices_pdqsortOrdered_string_ F  e6; exact h1.ok trivial), trivial⟩) ?_
  intro _
  have hy := Option.some.inj hm
  subst hy
  refine GS.end_ (fn := Try.f31) [] [] [] rfl Try.func31 (by kernel_rfl) trivial (fun w' hs => ?_)
  exact ⟨(), rfl, hs.turnedG (ks := []) rfl rfl⟩

theorem w_scrub_Compare (F : Nat) (a0_5_o : Option Addr) (a0_5_c : Nat) (a1_o : Option Addr) (a1_c : Nat) (a1_0_1_o : Option Addr) (a1_0_1_c : Nat) (a1_1_1_o : Option Addr) (a1_1_1_c : Nat) {y : Unit} (hm : m_scrub_Compare F = some y) : CallG Try.prog 20 #[.agg ((kc5 a0_5_o a0_5_c)).toArray, .slice a1_o 2 a1_c] (X := Option Addr × Nat × Option Addr × Nat) (fun ⟨x0, x1, x2, x3⟩ => .tuple #[.slice x0 1 x1, .slice none 0 0]) [] [.rd a0_5_o 4 [(kc2)], .rd a1_0_1_o 4 [(kc2)], .rd a1_1_1_o 4 [(kc4)], .rd a1_o 3 [[.int .i64 0, .slice a1_0_1_o 1 a1_0_1_c, .slice none 0 0], [.int .i64 1, .slice a1_1_1_o 1 a1_1_1_c, .slice none 0 0]]] (fun ⟨x0, x1, x2, x3⟩ => [.osl x0 x1 78 5 [(kc6 x2 x3)], .osl x2 x3 3 1 [[.int .i64 1]]]) := by
  intro w hg
  rw [m_scrub_Compare] at hm
  refine GS.start (S := mayT [] [.rd a0_5_o 4 [(kc2)], .rd a1_0_1_o 4 [(kc2)], .rd a1_1_1_o 4 [(kc4)], .rd a1_o 3 [[.int .i64 0, .slice a1_0_1_o 1 a1_0_1_c, .slice none 0 0], [.int .i64 1, .slice a1_1_1_o 1 a1_1_1_c, .slice none 0 0]]]) (mem := [(1, .rd a0_5_o 4 [(kc2)]), (2, .rd a1_0_1_o 4 [(kc2)]), (3, .rd a1_1_1_o 4 [(kc4)]), (4, .rd a1_o 3 [[.int .i64 0, .slice a1_0_1_o 1 a1_0_1_c, .slice none 0 0], [.int .i64 1, .slice a1_1_1_o 1 a1_1_1_c, .slice none 0 0]])]) Try.func20 rfl Try.ntmps20 (Nat.le_of_ble_eq_true rfl) (hg.start rfl) ?_
  refine GS.conv (env' := [(0, .agg ((kc5 a0_5_o a0_5_c)).toArray), (1, .slice a1_o 2 a1_c)]) rfl rfl ?_
  refine GS.seq ?_
  refine GS.rz (fun fr1 => [(1, .slice a1_o 2 a1_c), (2, .pointer (some ⟨(fr1 0).x, 0, none⟩))]) (fun fr1 => [(1, .rd a0_5_o 4 [(kc2)]), (2, .rd a1_0_1_o 4 [(kc2)]), (3, .rd a1_1_1_o 4 [(kc4)]), (4, .rd a1_o 3 [[.int .i64 0, .slice a1_0_1_o 1 a1_0_1_c, .slice none 0 0], [.int .i64 1, .slice a1_1_1_o 1 a1_1_1_c, .slice none 0 0]]), (5, .cells ((fr1 0).x) 37 (kc5 a0_5_o a0_5_c))]) [(0, { act := .new .var, key := some 5 })] [1, 2] [1, 2, 3, 4, 5] (fun fr1 => by kernel_rfl) ?_
  intro fr1
  refine GS.seq ?_
  refine GS.rzM (fun _ => [(1, .slice a1_o 2 a1_c), (2, .pointer (some ⟨(fr1 0).x, 0, none⟩)), (6, .slice none 0 0)]) [] [1, 2, 6] [1, 2, 3, 4, 5] (fun _ => by kernel_rfl) ?_
  intro _
  refine GS.seq ?_
  refine GS.rzM (fun _ => [(1, .slice a1_o 2 a1_c), (2, .pointer (some ⟨(fr1 0).x, 0, none⟩)), (6, .slice none 0 0), (7, .slice none 0 0)]) [] [1, 2, 6, 7] [1, 2, 3, 4, 5] (fun _ => by kernel_rfl) ?_
  intro _
  refine GS.seq ?_
  refine GS.seq ?_
  refine GS.rg (fun _ => [(1, .slice a1_o 2 a1_c), (6, .slice none 0 0), (7, .slice none 0 0), (15, .slice a0_5_o 1 a0_5_c), (16, .int .i64 1), (17, .int .i64 0)]) (fun _ => [(1, .rd a0_5_o 4 [(kc2)]), (2, .rd a1_0_1_o 4 [(kc2)]), (3, .rd a1_1_1_o 4 [(kc4)]), (4, .rd a1_o 3 [[.int .i64 0, .slice a1_0_1_o 1 a1_0_1_c, .slice none 0 0], [.int .i64 1, .slice a1_1_1_o 1 a1_1_1_c, .slice none 0 0]])]) [(1, { act := .load 5 0 0 [] })] [1, 6, 7, 15, 16, 17] [1, 2, 3, 4] (fun _ => [(fr1 0).x = (fr1 0).x]) (fun _ => by kernel_rfl) (fun _ => ⟨rfl, trivial⟩) ?_
  intro _
  refine GS.block ?_
  refine GS.loop ?_
  refine GS.seq ?_
  refine GS.rzM (fun _ => [(1, .slice a1_o 2 a1_c), (6, .slice none 0 0), (7, .slice none 0 0), (15, .slice a0_5_o 1 a0_5_c), (16, .int .i64 1), (17, .int .i64 0), (18, .bool true)]) [] [1, 6, 7, 15, 16, 17, 18] [1, 2, 3, 4] (fun _ => by kernel_rfl) ?_
  intro _
  refine GS.seq ?_
  refine GS.cond (t := true) rfl rfl (fun _ => ?_) (fun hf => by cases hf)
  refine GS.skip ?_
  refine GS.seq ?_
  refine GS.block ?_
  refine GS.seq ?_
  refine GS.rg (fun fr6 => [(1, .slice a1_o 2 a1_c), (6, .slice none 0 0), (7, .slice none 0 0), (9, .pointer (some ⟨(fr6 2).x, 0, none⟩)), (15, .slice a0_5_o 1 a0_5_c), (16, .int .i64 1), (17, .int .i64 0)]) (fun fr6 => [(1, .rd a0_5_o 4 [(kc2)]), (2, .rd a1_0_1_o 4 [(kc2)]), (3, .rd a1_1_1_o 4 [(kc4)]), (4, .rd a1_o 3 [[.int .i64 0, .slice a1_0_1_o 1 a1_0_1_c, .slice none 0 0], [.int .i64 1, .slice a1_1_1_o 1 a1_1_1_c, .slice none 0 0]]), (6, .cells ((fr6 2).x) 75 (kc2))]) [(0, { act := .idx 1 0 }), (1, { act := .load 1 0 0 [.string (ByteArray.mk #[97]), .int .i64 1, .int .i64 1, .int .u32 7] }), (2, { act := .new .var, key := some 6 }), (3, { act := .store 0 0 [], key := some 6 })] [1, 6, 7, 9, 15, 16, 17] [1, 2, 3, 4, 6] (fun fr6 => [a0_5_o = a0_5_o, 1 = ([(kc2)] : List (List Value)).length, (0 : Int) = ((0 : Nat) : Int), 0 < 1, blk a0_5_o = blk a0_5_o, offs a0_5_o + 0 * 4 = offs a0_5_o + (0 * 4 + 0), ([(kc2)] : List (List Value))[0]? = some [.string (ByteArray.mk #[97]), .int .i64 1, .int .i64 1, .int .u32 7], (fr6 2).x = (fr6 2).x, ((.agg ((kc2)).toArray) : Value).cells.toList.all Value.oneCell' = true]) (fun fr6 => by kernel_rfl) (fun fr6 => ⟨rfl, rfl, rfl, (Nat.le_of_ble_eq_true rfl), rfl, rfl, rfl, rfl, rfl, trivial⟩) ?_
  intro fr6
  refine GS.seq ?_
  refine bnd_elim hm (fun y8 e9 hm => ?_)
  refine GS.rgM (fun _ => [(1, .slice a1_o 2 a1_c), (6, .slice none 0 0), (7, .slice none 0 0), (9, .pointer (some ⟨(fr6 2).x, 0, none⟩)), (10, .int .i64 0), (15, .slice a0_5_o 1 a0_5_c), (16, .int .i64 1), (17, .int .i64 0)]) [(2, { act := .call [2, 3, 4, 6] (.int .i64 0) })] [1, 6, 7, 9, 10, 15, 16, 17] [1, 2, 3, 4, 6] (fun _ => [CallOK Try.prog 24 #[.slice a1_o 2 a1_c, .func (.func 25) #[] #[.pointer (some ⟨(fr6 2).x, 0, none⟩)]] (.int .i64 0) [some (.rd a1_0_1_o 4 [(kc2)]), some (.rd a1_1_1_o 4 [(kc4)]), some (.rd a1_o 3 [[.int .i64 0, .slice a1_0_1_o 1 a1_0_1_c, .slice none 0 0], [.int .i64 1, .slice a1_1_1_o 1 a1_1_1_c, .slice none 0 0]]), some (.cells ((fr6 2).x) 75 (kc2))]]) (fun _ => by kernel_rfl) (fun _ => ⟨(by have h1 := w_slices_IndexFunc___scrub_Copy_scrub_Copy_ F a1_o a1_c a1_0_1_o a1_0_1_c a1_1_1_o a1_1_1_c (fr6 2).x e9; exact h1.ok ⟨(.inl ⟨.rd a1_0_1_o 4 [(kc2)], .head _, Cov.refl _⟩), (.inl ⟨.rd a1_1_1_o 4 [(kc4)], (.tail _ (.head _)), Cov.refl _⟩), (.inl ⟨.rd a1_o 3 [[.int .i64 0, .slice a1_0_1_o 1 a1_0_1_c, .slice none 0 0], [.int .i64 1, .slice a1_1_1_o 1 a1_1_1_c, .slice none 0 0]], (.tail _ (.tail _ (.head _))), Cov.refl _⟩), (.inl ⟨.cells ((fr6 2).x) 75 (kc2), (.tail _ (.tail _ (.tail _ (.head _)))), Cov.cells_rd⟩), trivial⟩), trivial⟩) ?_
  intro _
  refine GS.seq ?_
  refine GS.seq ?_
  refine GS.rzM (fun _ => [(1, .slice a1_o 2 a1_c), (6, .slice none 0 0), (7, .slice none 0 0), (9, .pointer (some ⟨(fr6 2).x, 0, none⟩)), (10, .int .i64 0), (15, .slice a0_5_o 1 a0_5_c), (16, .int .i64 1), (17, .int .i64 0), (25, .bool false)]) [] [1, 6, 7, 9, 10, 15, 16, 17, 25] [1, 2, 3, 4, 6] (fun _ => by kernel_rfl) ?_
  intro _
  refine GS.cond (t := false) rfl rfl (fun hf => by cases hf) (fun _ => ?_)
  refine GS.skip ?_
  refine GS.seq ?_
  refine GS.rzM (fun _ => [(1, .slice a1_o 2 a1_c), (6, .slice none 0 0), (7, .slice none 0 0), (9, .pointer (some ⟨(fr6 2).x, 0, none⟩)), (10, .int .i64 0), (11, .slice none 0 0), (15, .slice a0_5_o 1 a0_5_c), (16, .int .i64 1), (17, .int .i64 0)]) [] [1, 6, 7, 9, 10, 11, 15, 16, 17] [1, 2, 3, 4, 6] (fun _ => by kernel_rfl) ?_
  intro _
  refine GS.seq ?_
  refine GS.seq ?_
  refine GS.rzM (fun _ => [(1, .slice a1_o 2 a1_c), (6, .slice none 0 0), (7, .slice none 0 0), (9, .pointer (some ⟨(fr6 2).x, 0, none⟩)), (10, .int .i64 0), (11, .slice none 0 0), (15, .slice a0_5_o 1 a0_5_c), (16, .int .i64 1), (17, .int .i64 0), (31, .slice a1_o 2 a1_c), (32, .int .i64 2), (33, .int .i64 0)]) [] [1, 6, 7, 9, 10, 11, 15, 16, 17, 31, 32, 33] [1, 2, 3, 4, 6] (fun _ => by kernel_rfl) ?_
  intro _
  refine GS.block ?_
  refine GS.loop ?_
  refine GS.seq ?_
  refine GS.rzM (fun _ => [(1, .slice a1_o 2 a1_c), (6, .slice none 0 0), (7, .slice none 0 0), (9, .pointer (some ⟨(fr6 2).x, 0, none⟩)), (10, .int .i64 0), (11, .slice none 0 0), (15, .slice a0_5_o 1 a0_5_c), (16, .int .i64 1), (17, .int .i64 0), (31, .slice a1_o 2 a1_c), (32, .int .i64 2), (33, .int .i64 0), (34, .bool true)]) [] [1, 6, 7, 9, 10, 11, 15, 16, 17, 31, 32, 33, 34] [1, 2, 3, 4, 6] (fun _ => by kernel_rfl) ?_
  intro _
  refine GS.seq ?_
  refine GS.cond (t := true) rfl rfl (fun _ => ?_) (fun hf => by cases hf)
  refine GS.skip ?_
  refine GS.seq ?_
  refine GS.block ?_
  refine GS.seq ?_
  refine GS.rg (fun fr14 => [(1, .slice a1_o 2 a1_c), (6, .slice none 0 0), (7, .slice none 0 0), (9, .pointer (some ⟨(fr6 2).x, 0, none⟩)), (10, .int .i64 0), (11, .slice none 0 0), (13, .pointer (some ⟨(fr14 2).x, 0, none⟩)), (15, .slice a0_5_o 1 a0_5_c), (16, .int .i64 1), (17, .int .i64 0), (31, .slice a1_o 2 a1_c), (32, .int .i64 2), (33, .int .i64 0)]) (fun fr14 => [(1, .rd a0_5_o 4 [(kc2)]), (2, .rd a1_0_1_o 4 [(kc2)]), (3, .rd a1_1_1_o 4 [(kc4)]), (4, .rd a1_o 3 [[.int .i64 0, .slice a1_0_1_o 1 a1_0_1_c, .slice none 0 0], [.int .i64 1, .slice a1_1_1_o 1 a1_1_1_c, .slice none 0 0]]), (6, .cells ((fr6 2).x) 75 (kc2)), (7, .cells ((fr14 2).x) 60 [.int .i64 0, .slice a1_0_1_o 1 a1_0_1_c, .slice none 0 0])]) [(0, { act := .idx 4 0 }), (1, { act := .load 4 0 0 [.int .i64 0, .slice a1_0_1_o 1 a1_0_1_c, .slice none 0 0] }), (2, { act := .new .var, key := some 7 }), (3, { act := .store 0 0 [], key := some 7 })] [1, 6, 7, 9, 10, 11, 13, 15, 16, 17, 31, 32, 33] [1, 2, 3, 4, 6, 7] (fun fr14 => [a1_o = a1_o, 2 = ([[.int .i64 0, .slice a1_0_1_o 1 a1_0_1_c, .slice none 0 0], [.int .i64 1, .slice a1_1_1_o 1 a1_1_1_c, .slice none 0 0]] : List (List Value)).length, (0 : Int) = ((0 : Nat) : Int), 0 < 2, blk a1_o = blk a1_o, offs a1_o + 0 * 3 = offs a1_o + (0 * 3 + 0), ([[.int .i64 0, .slice a1_0_1_o 1 a1_0_1_c, .slice none 0 0], [.int .i64 1, .slice a1_1_1_o 1 a1_1_1_c, .slice none 0 0]] : List (List Value))[0]? = some [.int .i64 0, .slice a1_0_1_o 1 a1_0_1_c, .slice none 0 0], (fr14 2).x = (fr14 2).x, ((.agg #[.int .i64 0, .slice a1_0_1_o 1 a1_0_1_c, .slice none 0 0]) : Value).cells.toList.all Value.oneCell' = true]) (fun fr14 => by kernel_rfl) (fun fr14 => ⟨rfl, rfl, rfl, (Nat.le_of_ble_eq_true rfl), rfl, rfl, rfl, rfl, rfl, trivial⟩) ?_
  intro fr14
  refine GS.seq ?_
  refine bnd_elim hm (fun y16 e17 hm => ?_)
  refine GS.rgM (fun _ => [(1, .slice a1_o 2 a1_c), (6, .slice none 0 0), (7, .slice none 0 0), (9, .pointer (some ⟨(fr6 2).x, 0, none⟩)), (10, .int .i64 0), (11, .slice none 0 0), (13, .pointer (some ⟨(fr14 2).x, 0, none⟩)), (15, .slice a0_5_o 1 a0_5_c), (16, .int .i64 1), (17, .int .i64 0), (31, .slice a1_o 2 a1_c), (32, .int .i64 2), (33, .int .i64 0), (40, .bool false)]) [(0, { act := .load 7 0 0 [] }), (1, { act := .load 6 0 0 [] }), (2, { act := .call [2] (.bool true) })] [1, 6, 7, 9, 10, 11, 13, 15, 16, 17, 31, 32, 33, 40] [1, 2, 3, 4, 6, 7] (fun _ => [(fr14 2).x = (fr14 2).x, (fr6 2).x = (fr6 2).x, CallOK Try.prog 26 #[.agg #[.int .i64 0, .slice a1_0_1_o 1 a1_0_1_c, .slice none 0 0], .agg ((kc2)).toArray] (.bool true) [some (.rd a1_0_1_o 4 [(kc2)])]]) (fun _ => by kernel_rfl) (fun _ => ⟨rfl, rfl, (by have h1 := w__scrub_Copy__good F a1_0_1_o a1_0_1_c e17; exact h1.ok ⟨(.inl ⟨.rd a1_0_1_o 4 [(kc2)], .head _, Cov.refl _⟩), trivial⟩), trivial⟩) ?_
  intro _
  refine GS.cond (t := false) rfl rfl (fun hf => by cases hf) (fun _ => ?_)
  refine GS.skip ?_
  refine GS.inBlock ?_
  refine GS.rz (fun _ => [(1, .slice a1_o 2 a1_c), (6, .slice none 0 0), (7, .slice none 0 0), (9, .pointer (some ⟨(fr6 2).x, 0, none⟩)), (10, .int .i64 0), (11, .slice none 0 0), (15, .slice a0_5_o 1 a0_5_c), (16, .int .i64 1), (17, .int .i64 0), (31, .slice a1_o 2 a1_c), (32, .int .i64 2), (33, .int .i64 1)]) (fun _ => [(1, .rd a0_5_o 4 [(kc2)]), (2, .rd a1_0_1_o 4 [(kc2)]), (3, .rd a1_1_1_o 4 [(kc4)]), (4, .rd a1_o 3 [[.int .i64 0, .slice a1_0_1_o 1 a1_0_1_c, .slice none 0 0], [.int .i64 1, .slice a1_1_1_o 1 a1_1_1_c, .slice none 0 0]]), (6, .cells ((fr6 2).x) 75 (kc2))]) [] [1, 6, 7, 9, 10, 11, 15, 16, 17, 31, 32, 33] [1, 2, 3, 4, 6] (fun _ => by kernel_rfl) ?_
  intro _
  refine GS.inLoop ?_
  refine GS.seq ?_
  refine GS.rzM (fun _ => [(1, .slice a1_o 2 a1_c), (6, .slice none 0 0), (7, .slice none 0 0), (9, .pointer (some ⟨(fr6 2).x, 0, none⟩)), (10, .int .i64 0), (11, .slice none 0 0), (15, .slice a0_5_o 1 a0_5_c), (16, .int .i64 1), (17, .int .i64 0), (31, .slice a1_o 2 a1_c), (32, .int .i64 2), (33, .int .i64 1), (34, .bool true)]) [] [1, 6, 7, 9, 10, 11, 15, 16, 17, 31, 32, 33, 34] [1, 2, 3, 4, 6] (fun _ => by kernel_rfl) ?_
  intro _
  refine GS.seq ?_
  refine GS.cond (t := true) rfl rfl (fun _ => ?_) (fun hf => by cases hf)
  refine GS.skip ?_
  refine GS.seq ?_
  refine GS.block ?_
  refine GS.seq ?_
  refine GS.rg (fun fr20 => [(1, .slice a1_o 2 a1_c), (6, .slice none 0 0), (7, .slice none 0 0), (9, .pointer (some ⟨(fr6 2).x, 0, none⟩)), (10, .int .i64 0), (11, .slice none 0 0), (13, .pointer (some ⟨(fr20 2).x, 0, none⟩)), (15, .slice a0_5_o 1 a0_5_c), (16, .int .i64 1), (17, .int .i64 0), (31, .slice a1_o 2 a1_c), (32, .int .i64 2), (33, .int .i64 1)]) (fun fr20 => [(1, .rd a0_5_o 4 [(kc2)]), (2, .rd a1_0_1_o 4 [(kc2)]), (3, .rd a1_1_1_o 4 [(kc4)]), (4, .rd a1_o 3 [[.int .i64 0, .slice a1_0_1_o 1 a1_0_1_c, .slice none 0 0], [.int .i64 1, .slice a1_1_1_o 1 a1_1_1_c, .slice none 0 0]]), (6, .cells ((fr6 2).x) 75 (kc2)), (8, .cells ((fr20 2).x) 60 [.int .i64 1, .slice a1_1_1_o 1 a1_1_1_c, .slice none 0 0])]) [(0, { act := .idx 4 1 }), (1, { act := .load 4 1 0 [.int .i64 1, .slice a1_1_1_o 1 a1_1_1_c, .slice none 0 0] }), (2, { act := .new .var, key := some 8 }), (3, { act := .store 0 0 [], key := some 8 })] [1, 6, 7, 9, 10, 11, 13, 15, 16, 17, 31, 32, 33] [1, 2, 3, 4, 6, 8] (fun fr20 => [a1_o = a1_o, 2 = ([[.int .i64 0, .slice a1_0_1_o 1 a1_0_1_c, .slice none 0 0], [.int .i64 1, .slice a1_1_1_o 1 a1_1_1_c, .slice none 0 0]] : List (List Value)).length, (1 : Int) = ((1 : Nat) : Int), 1 < 2, blk a1_o = blk a1_o, offs a1_o + 1 * 3 = offs a1_o + (1 * 3 + 0), ([[.int .i64 0, .slice a1_0_1_o 1 a1_0_1_c, .slice none 0 0], [.int .i64 1, .slice a1_1_1_o 1 a1_1_1_c, .slice none 0 0]] : List (List Value))[1]? = some [.int .i64 1, .slice a1_1_1_o 1 a1_1_1_c, .slice none 0 0], (fr20 2).x = (fr20 2).x, ((.agg #[.int .i64 1, .slice a1_1_1_o 1 a1_1_1_c, .slice none 0 0]) : Value).cells.toList.all Value.oneCell' = true]) (fun fr20 => by kernel_rfl) (fun fr20 => ⟨rfl, rfl, rfl, (Nat.le_of_ble_eq_true rfl), rfl, rfl, rfl, rfl, rfl, trivial⟩) ?_
  intro fr20
  refine GS.seq ?_
  refine bnd_elim hm (fun y22 e23 hm => ?_)
  refine GS.rgM (fun _ => [(1, .slice a1_o 2 a1_c), (6, .slice none 0 0), (7, .slice none 0 0), (9, .pointer (some ⟨(fr6 2).x, 0, none⟩)), (10, .int .i64 0), (11, .slice none 0 0), (13, .pointer (some ⟨(fr20 2).x, 0, none⟩)), (15, .slice a0_5_o 1 a0_5_c), (16, .int .i64 1), (17, .int .i64 0), (31, .slice a1_o 2 a1_c), (32, .int .i64 2), (33, .int .i64 1), (40, .bool true)]) [(0, { act := .load 8 0 0 [] }), (1, { act := .load 6 0 0 [] }), (2, { act := .call [3] (.bool false) })] [1, 6, 7, 9, 10, 11, 13, 15, 16, 17, 31, 32, 33, 40] [1, 2, 3, 4, 6, 8] (fun _ => [(fr20 2).x = (fr20 2).x, (fr6 2).x = (fr6 2).x, CallOK Try.prog 26 #[.agg #[.int .i64 1, .slice a1_1_1_o 1 a1_1_1_c, .slice none 0 0], .agg ((kc2)).toArray] (.bool false) [some (.rd a1_1_1_o 4 [(kc4)])]]) (fun _ => by kernel_rfl) (fun _ => ⟨rfl, rfl, (by have h1 := w__scrub_Copy__good_2 F a1_1_1_o a1_1_1_c e23; exact h1.ok ⟨(.inl ⟨.rd a1_1_1_o 4 [(kc4)], .head _, Cov.refl _⟩), trivial⟩), trivial⟩) ?_
  intro _
  refine GS.cond (t := true) rfl rfl (fun _ => ?_) (fun hf => by cases hf)
  refine GS.rg (fun fr24 => [(1, .slice a1_o 2 a1_c), (6, .slice none 0 0), (7, .slice none 0 0), (9, .pointer (some ⟨(fr6 2).x, 0, none⟩)), (10, .int .i64 0), (11, .slice ((fr24 4).ob) 1 ((fr24 4).cap)), (15, .slice a0_5_o 1 a0_5_c), (16, .int .i64 1), (17, .int .i64 0), (31, .slice a1_o 2 a1_c), (32, .int .i64 2), (33, .int .i64 1)]) (fun fr24 => [(1, .rd a0_5_o 4 [(kc2)]), (2, .rd a1_0_1_o 4 [(kc2)]), (3, .rd a1_1_1_o 4 [(kc4)]), (4, .rd a1_o 3 [[.int .i64 0, .slice a1_0_1_o 1 a1_0_1_c, .slice none 0 0], [.int .i64 1, .slice a1_1_1_o 1 a1_1_1_c, .slice none 0 0]]), (6, .cells ((fr6 2).x) 75 (kc2)), (10, .osl ((fr24 4).ob) ((fr24 4).cap) 3 1 ([[.int .i64 1]] : List (List Value)))]) [(2, { act := .load 8 0 0 [] }), (3, { act := .new (.row 1 1), key := some 9 }), (4, { act := .app (some 9), key := some 10, spf := some (fun f => .slice (f.ob) 1 (f.cap)) })] [1, 6, 7, 9, 10, 11, 15, 16, 17, 31, 32, 33] [1, 2, 3, 4, 6, 10] (fun fr24 => [(fr20 2).x = (fr20 2).x, (some (Addr.mk (fr24 3).x 0 none)) = (some (Addr.mk (fr24 3).x 0 none)), 1 = ([[.int .i64 1]] : List (List Value)).length, 0 = 0, 0 = 0, ([[.int .i64 1]] : List (List Value)).length * (8 + 1) ≤ 70368744177664, ((.slice ((fr24 4).ob) (0 + ([[.int .i64 1]] : List (List Value)).length) ((fr24 4).cap)) : Value) = .slice ((fr24 4).ob) 1 ((fr24 4).cap)]) (fun fr24 => by kernel_rfl) (fun fr24 => ⟨rfl, rfl, rfl, rfl, rfl, (show 1 * (8 + 1) ≤ 70368744177664 by decide), rfl, trivial⟩) ?_
  intro fr24
  refine GS.conv (mem' := [(1, .rd a0_5_o 4 [(kc2)]), (2, .rd a1_0_1_o 4 [(kc2)]), (3, .rd a1_1_1_o 4 [(kc4)]), (4, .rd a1_o 3 [[.int .i64 0, .slice a1_0_1_o 1 a1_0_1_c, .slice none 0 0], [.int .i64 1, .slice a1_1_1_o 1 a1_1_1_c, .slice none 0 0]]), (6, .cells ((fr6 2).x) 75 (kc2)), (10, .osl ((fr24 4).ob) ((fr24 4).cap) 3 1 [[.int .i64 1]])]) rfl (congrArg (fun rr : List (List Value) => ([(1, .rd a0_5_o 4 [(kc2)]), (2, .rd a1_0_1_o 4 [(kc2)]), (3, .rd a1_1_1_o 4 [(kc4)]), (4, .rd a1_o 3 [[.int .i64 0, .slice a1_0_1_o 1 a1_0_1_c, .slice none 0 0], [.int .i64 1, .slice a1_1_1_o 1 a1_1_1_c, .slice none 0 0]]), (6, .cells ((fr6 2).x) 75 (kc2)), (10, .osl ((fr24 4).ob) ((fr24 4).cap) 3 1 rr)] : List (Nat × Ent))) (show ([[.int .i64 1]] : List (List Value)) = ([[.int .i64 1]] : List (List Value)) from rfl)) ?_
  refine GS.inBlock ?_
  refine GS.rzM (fun _ => [(1, .slice a1_o 2 a1_c), (6, .slice none 0 0), (7, .slice none 0 0), (9, .pointer (some ⟨(fr6 2).x, 0, none⟩)), (10, .int .i64 0), (11, .slice ((fr24 4).ob) 1 ((fr24 4).cap)), (15, .slice a0_5_o 1 a0_5_c), (16, .int .i64 1), (17, .int .i64 0), (31, .slice a1_o 2 a1_c), (32, .int .i64 2), (33, .int .i64 2)]) [] [1, 6, 7, 9, 10, 11, 15, 16, 17, 31, 32, 33] [1, 2, 3, 4, 6, 10] (fun _ => by kernel_rfl) ?_
  intro _
  refine GS.inLoop ?_
  refine GS.seq ?_
  refine GS.rzM (fun _ => [(1, .slice a1_o 2 a1_c), (6, .slice none 0 0), (7, .slice none 0 0), (9, .pointer (some ⟨(fr6 2).x, 0, none⟩)), (10, .int .i64 0), (11, .slice ((fr24 4).ob) 1 ((fr24 4).cap)), (15, .slice a0_5_o 1 a0_5_c), (16, .int .i64 1), (17, .int .i64 0), (31, .slice a1_o 2 a1_c), (32, .int .i64 2), (33, .int .i64 2), (34, .bool false)]) [] [1, 6, 7, 9, 10, 11, 15, 16, 17, 31, 32, 33, 34] [1, 2, 3, 4, 6, 10] (fun _ => by kernel_rfl) ?_
  intro _
  refine GS.seq ?_
  refine GS.cond (t := false) rfl rfl (fun hf => by cases hf) (fun _ => ?_)
  refine GS.exit rfl ?_
  refine GS.seq ?_
  refine GS.rzM (fun _ => [(1, .slice a1_o 2 a1_c), (6, .slice none 0 0), (7, .slice none 0 0), (9, .pointer (some ⟨(fr6 2).x, 0, none⟩)), (10, .int .i64 0), (11, .slice ((fr24 4).ob) 1 ((fr24 4).cap)), (15, .slice a0_5_o 1 a0_5_c), (16, .int .i64 1), (17, .int .i64 0), (49, .bool true)]) [] [1, 6, 7, 9, 10, 11, 15, 16, 17, 49] [1, 2, 3, 4, 6, 10] (fun _ => by kernel_rfl) ?_
  intro _
  refine GS.cond (t := true) rfl rfl (fun _ => ?_) (fun hf => by cases hf)
  refine GS.seq ?_
  refine bnd_elim hm (fun y29 e30 hm => ?_)
  refine GS.rgM (fun _ => [(1, .slice a1_o 2 a1_c), (6, .slice none 0 0), (7, .slice none 0 0), (9, .pointer (some ⟨(fr6 2).x, 0, none⟩)), (10, .int .i64 0), (11, .slice ((fr24 4).ob) 1 ((fr24 4).cap)), (15, .slice a0_5_o 1 a0_5_c), (16, .int .i64 1), (17, .int .i64 0)]) [(1, { act := .call [10] (.tuple #[]) })] [1, 6, 7, 9, 10, 11, 15, 16, 17] [1, 2, 3, 4, 6, 10] (fun _ => [CallOK Try.prog 27 #[.slice ((fr24 4).ob) 1 ((fr24 4).cap)] (.tuple #[]) [some (.osl ((fr24 4).ob) ((fr24 4).cap) 3 1 [[.int .i64 1]])]]) (fun _ => by kernel_rfl) (fun _ => ⟨(by have h1 := w_slices_Sort___int_int_ F ((fr24 4).ob) ((fr24 4).cap) e30; exact h1.ok ⟨(.inl ⟨.osl ((fr24 4).ob) ((fr24 4).cap) 3 1 [[.int .i64 1]], .head _, Cov.osl_rd⟩), trivial⟩), trivial⟩) ?_
  intro _
  refine GS.region (env' := fun fr31 => [(1, .slice a1_o 2 a1_c), (6, .slice ((fr31 13).ob) 1 ((fr31 13).cap)), (7, .slice none 0 0), (15, .slice a0_5_o 1 a0_5_c), (16, .int .i64 1), (17, .int .i64 0)]) (mem' := fun fr31 => [(1, .rd a0_5_o 4 [(kc2)]), (2, .rd a1_0_1_o 4 [(kc2)]), (3, .rd a1_1_1_o 4 [(kc4)]), (4, .rd a1_o 3 [[.int .i64 0, .slice a1_0_1_o 1 a1_0_1_c, .slice none 0 0], [.int .i64 1, .slice a1_1_1_o 1 a1_1_1_c, .slice none 0 0]]), (10, .osl ((fr24 4).ob) ((fr24 4).cap) 3 1 [[.int .i64 1]]), (12, .osl ((fr31 13).ob) ((fr31 13).cap) 78 5 ([(kc6 ((fr24 4).ob) ((fr24 4).cap))] : List (List Value)))]) (RunsTo.mkd [(2, { act := .load 6 0 0 [] }), (4, { act := .load 6 0 0 [] }), (7, { act := .idx 4 0 }), (9, { act := .load 4 0 0 [.int .i64 0, .slice a1_0_1_o 1 a1_0_1_c, .slice none 0 0] }), (12, { act := .new (.row 1 5), key := some 11 }), (13, { act := .app (some 11), key := some 12, spf := some (fun f => .slice (f.ob) 1 (f.cap)) })] [1, 6, 7, 15, 16, 17] [1, 2, 3, 4, 10, 12] (fun fr31 => [(fr6 2).x = (fr6 2).x, (fr6 2).x = (fr6 2).x, a1_o = a1_o, 2 = ([[.int .i64 0, .slice a1_0_1_o 1 a1_0_1_c, .slice none 0 0], [.int .i64 1, .slice a1_1_1_o 1 a1_1_1_c, .slice none 0 0]] : List (List Value)).length, (0 : Int) = ((0 : Nat) : Int), 0 < 2, blk a1_o = blk a1_o, offs a1_o + 0 * 3 = offs a1_o + (0 * 3 + 0), ([[.int .i64 0, .slice a1_0_1_o 1 a1_0_1_c, .slice none 0 0], [.int .i64 1, .slice a1_1_1_o 1 a1_1_1_c, .slice none 0 0]] : List (List Value))[0]? = some [.int .i64 0, .slice a1_0_1_o 1 a1_0_1_c, .slice none 0 0], (some (Addr.mk (fr31 12).x 0 none)) = (some (Addr.mk (fr31 12).x 0 none)), 1 = ([(kc6 ((fr24 4).ob) ((fr24 4).cap))] : List (List Value)).length, 0 = 0, 0 = 0, ([(kc6 ((fr24 4).ob) ((fr24 4).cap))] : List (List Value)).length * (64 + 1) ≤ 70368744177664, ((.slice ((fr31 13).ob) (0 + ([(kc6 ((fr24 4).ob) ((fr24 4).cap))] : List (List Value)).length) ((fr31 13).cap)) : Value) = .slice ((fr31 13).ob) 1 ((fr31 13).cap)]) (by kernel_rfl) (by kernel_rfl) (fun fr31 => by kernel_rfl) (fun fr31 => ⟨rfl, rfl, rfl, rfl, rfl, (Nat.le_of_ble_eq_true rfl), rfl, rfl, rfl, rfl, rfl, rfl, rfl, (show 1 * (64 + 1) ≤ 70368744177664 by decide), rfl, trivial⟩)) ?_
  intro fr31
  refine GS.conv (mem' := [(1, .rd a0_5_o 4 [(kc2)]), (2, .rd a1_0_1_o 4 [(kc2)]), (3, .rd a1_1_1_o 4 [(kc4)]), (4, .rd a1_o 3 [[.int .i64 0, .slice a1_0_1_o 1 a1_0_1_c, .slice none 0 0], [.int .i64 1, .slice a1_1_1_o 1 a1_1_1_c, .slice none 0 0]]), (10, .osl ((fr24 4).ob) ((fr24 4).cap) 3 1 [[.int .i64 1]]), (12, .osl ((fr31 13).ob) ((fr31 13).cap) 78 5 [(kc6 ((fr24 4).ob) ((fr24 4).cap))])]) rfl (congrArg (fun rr : List (List Value) => ([(1, .rd a0_5_o 4 [(kc2)]), (2, .rd a1_0_1_o 4 [(kc2)]), (3, .rd a1_1_1_o 4 [(kc4)]), (4, .rd a1_o 3 [[.int .i64 0, .slice a1_0_1_o 1 a1_0_1_c, .slice none 0 0], [.int .i64 1, .slice a1_1_1_o 1 a1_1_1_c, .slice none 0 0]]), (10, .osl ((fr24 4).ob) ((fr24 4).cap) 3 1 [[.int .i64 1]]), (12, .osl ((fr31 13).ob) ((fr31 13).cap) 78 5 rr)] : List (Nat × Ent))) (show ([(kc6 ((fr24 4).ob) ((fr24 4).cap))] : List (List Value)) = ([(kc6 ((fr24 4).ob) ((fr24 4).cap))] : List (List Value)) from rfl)) ?_
  refine GS.inBlock ?_
  refine GS.rzM (fun _ => [(1, .slice a1_o 2 a1_c), (6, .slice ((fr31 13).ob) 1 ((fr31 13).cap)), (7, .slice none 0 0), (15, .slice a0_5_o 1 a0_5_c), (16, .int .i64 1), (17, .int .i64 1)]) [] [1, 6, 7, 15, 16, 17] [1, 2, 3, 4, 10, 12] (fun _ => by kernel_rfl) ?_
  intro _
  refine GS.inLoop ?_
  refine GS.seq ?_
  refine GS.rzM (fun _ => [(1, .slice a1_o 2 a1_c), (6, .slice ((fr31 13).ob) 1 ((fr31 13).cap)), (7, .slice none 0 0), (15, .slice a0_5_o 1 a0_5_c), (16, .int .i64 1), (17, .int .i64 1), (18, .bool false)]) [] [1, 6, 7, 15, 16, 17, 18] [1, 2, 3, 4, 10, 12] (fun _ => by kernel_rfl) ?_
  intro _
  refine GS.seq ?_
  refine GS.cond (t := false) rfl rfl (fun hf => by cases hf) (fun _ => ?_)
  refine GS.exit rfl ?_
  refine GS.seq ?_
  refine bnd_elim hm (fun y35 e36 hm => ?_)
  refine GS.rg (fun _ => [(6, .slice ((fr31 13).ob) 1 ((fr31 13).cap)), (7, .slice none 0 0)]) (fun _ => [(10, .osl ((fr24 4).ob) ((fr24 4).cap) 3 1 [[.int .i64 1]]), (12, .osl ((fr31 13).ob) ((fr31 13).cap) 78 5 [(kc6 ((fr24 4).ob) ((fr24 4).cap))])]) [(1, { act := .call [10, 12] (.tuple #[]) })] [6, 7] [10, 12] (fun _ => [CallOK Try.prog 28 #[.slice ((fr31 13).ob) 1 ((fr31 13).cap), .func (.func 29) #[] #[]] (.tuple #[]) [some (.osl ((fr24 4).ob) ((fr24 4).cap) 3 1 [[.int .i64 1]]), some (.osl ((fr31 13).ob) ((fr31 13).cap) 78 5 [(kc6 ((fr24 4).ob) ((fr24 4).cap))])]]) (fun _ => by kernel_rfl) (fun _ => ⟨(by have h1 := w_slices_SortStableFunc___scrub_Fix_scrub_Fix_ F ((fr31 13).ob) ((fr31 13).cap) ((fr24 4).ob) ((fr24 4).cap) e36; exact h1.ok ⟨(.inl ⟨.osl ((fr24 4).ob) ((fr24 4).cap) 3 1 [[.int .i64 1]], .head _, Cov.osl_rd⟩), (.inl ⟨.osl ((fr31 13).ob) ((fr31 13).cap) 78 5 [(kc6 ((fr24 4).ob) ((fr24 4).cap))], (.tail _ (.head _)), Cov.osl_rd⟩), trivial⟩), trivial⟩) ?_
  intro _
  refine GS.seq ?_
  refine bnd_elim hm (fun y38 e39 hm => ?_)
  refine GS.rgM (fun _ => [(6, .slice ((fr31 13).ob) 1 ((fr31 13).cap)), (7, .slice none 0 0)]) [(1, { act := .call [] (.tuple #[]) })] [6, 7] [10, 12] (fun _ => [CallOK Try.prog 31 #[.slice none 0 0] (.tuple #[]) []]) (fun _ => by kernel_rfl) (fun _ => ⟨(by have h1 := w_slices_Sort___string_string_ F  e39; exact h1.ok trivial), trivial⟩) ?_
  intro _
  refine GS.seq ?_
  refine GS.rzM (fun _ => [(4, .slice ((fr31 13).ob) 1 ((fr31 13).cap)), (5, .slice none 0 0)]) [] [4, 5] [10, 12] (fun _ => by kernel_rfl) ?_
  intro _
  have hy := Option.some.inj hm
  subst hy
  refine GS.ret (fn := Try.f20) [0, 0] [.slice ((fr31 13).ob) 1 ((fr31 13).cap), .slice none 0 0] [] rfl Try.func20 (by kernel_rfl) trivial (fun w' hs => ?_)
  exact ⟨⟨(fr31 13).ob, (fr31 13).cap, (fr24 4).ob, (fr24 4).cap⟩, rfl, hs.turnedG (ks := [12, 10]) rfl rfl⟩

theorem w_tholeref01_Ints (F : Nat) (a0_o : Option Addr) (a0_c : Nat) (a1_o : Option Addr) (a1_c : Nat) {y : Unit} (hm : m_tholeref01_Ints F = some y) : CallG Try.prog 21 #[.slice a0_o 1 a0_c, .slice a1_o 1 a1_c] (X := Unit) (fun (_ : Unit) => .bool true) [] [.rd a0_o 1 [[.int .i64 1]], .rd a1_o 1 [[.int .i64 1]]] (fun (_ : Unit) => []) := by
  intro w hg
  rw [m_tholeref01_Ints] at hm
  refine GS.start (S := mayT [] [.rd a0_o 1 [[.int .i64 1]], .rd a1_o 1 [[.int .i64 1]]]) (mem := [(1, .rd a0_o 1 [[.int .i64 1]]), (2, .rd a1_o 1 [[.int .i64 1]])]) Try.func21 rfl Try.ntmps21 (Nat.le_of_ble_eq_true rfl) (hg.start rfl) ?_
  refine GS.conv (env' := [(0, .slice a0_o 1 a0_c), (1, .slice a1_o 1 a1_c)]) rfl rfl ?_
  refine GS.seq ?_
  refine GS.rzM (fun _ => [(0, .slice a0_o 1 a0_c), (1, .slice a1_o 1 a1_c)]) [] [0, 1] [1, 2] (fun _ => by kernel_rfl) ?_
  intro _
  refine GS.seq ?_
  refine GS.seq ?_
  refine GS.rzM (fun _ => [(0, .slice a0_o 1 a0_c), (1, .slice a1_o 1 a1_c), (10, .bool false)]) [] [0, 1, 10] [1, 2] (fun _ => by kernel_rfl) ?_
  intro _
  refine GS.cond (t := false) rfl rfl (fun hf => by cases hf) (fun _ => ?_)
  refine GS.skip ?_
  refine GS.seq ?_
  refine GS.seq ?_
  refine GS.rzM (fun _ => [(0, .slice a0_o 1 a0_c), (1, .slice a1_o 1 a1_c), (12, .int .i64 1), (13, .int .i64 0)]) [] [0, 1, 12, 13] [1, 2] (fun _ => by kernel_rfl) ?_
  intro _
  refine GS.block ?_
  refine GS.loop ?_
  refine GS.seq ?_
  refine GS.rzM (fun _ => [(0, .slice a0_o 1 a0_c), (1, .slice a1_o 1 a1_c), (12, .int .i64 1), (13, .int .i64 0), (14, .bool true)]) [] [0, 1, 12, 13, 14] [1, 2] (fun _ => by kernel_rfl) ?_
  intro _
  refine GS.seq ?_
  refine GS.cond (t := true) rfl rfl (fun _ => ?_) (fun hf => by cases hf)
  refine GS.skip ?_
  refine GS.seq ?_
  refine GS.block ?_
  refine GS.seq ?_
  refine GS.rzM (fun _ => [(0, .slice a0_o 1 a0_c), (1, .slice a1_o 1 a1_c), (5, .int .i64 0), (12, .int .i64 1), (13, .int .i64 0)]) [] [0, 1, 5, 12, 13] [1, 2] (fun _ => by kernel_rfl) ?_
  intro _
  refine GS.seq ?_
  refine GS.rM (env' := fun _ => [(0, .slice a0_o 1 a0_c), (1, .slice a1_o 1 a1_c), (12, .int .i64 1), (13, .int .i64 0), (24, .bool false)]) (RunsTo.mkd [(2, { act := .idx 1 0 }), (3, { act := .load 1 0 0 [.int .i64 1] }), (6, { act := .idx 2 0 }), (7, { act := .load 2 0 0 [.int .i64 1] })] [0, 1, 12, 13, 24] [1, 2] (fun _ => [a0_o = a0_o, 1 = ([[.int .i64 1]] : List (List Value)).length, (0 : Int) = ((0 : Nat) : Int), 0 < 1, blk a0_o = blk a0_o, offs a0_o + 0 * 1 = offs a0_o + (0 * 1 + 0), ([[.int .i64 1]] : List (List Value))[0]? = some [.int .i64 1], a1_o = a1_o, 1 = ([[.int .i64 1]] : List (List Value)).length, (0 : Int) = ((0 : Nat) : Int), 0 < 1, blk a1_o = blk a1_o, offs a1_o + 0 * 1 = offs a1_o + (0 * 1 + 0), ([[.int .i64 1]] : List (List Value))[0]? = some [.int .i64 1]]) (by kernel_rfl) (by kernel_rfl) (fun _ => by kernel_rfl) (fun _ => ⟨rfl, rfl, rfl, (Nat.le_of_ble_eq_true rfl), rfl, rfl, rfl, rfl, rfl, rfl, (Nat.le_of_ble_eq_true rfl), rfl, rfl, rfl, trivial⟩)) ?_
  intro _
  refine GS.cond (t := false) rfl rfl (fun hf => by cases hf) (fun _ => ?_)
  refine GS.skip ?_
  refine GS.inBlock ?_
  refine GS.rzM (fun _ => [(0, .slice a0_o 1 a0_c), (1, .slice a1_o 1 a1_c), (12, .int .i64 1), (13, .int .i64 1)]) [] [0, 1, 12, 13] [1, 2] (fun _ => by kernel_rfl) ?_
  intro _
  refine GS.inLoop ?_
  refine GS.seq ?_
  refine GS.rzM (fun _ => [(0, .slice a0_o 1 a0_c), (1, .slice a1_o 1 a1_c), (12, .int .i64 1), (13, .int .i64 1), (14, .bool false)]) [] [0, 1, 12, 13, 14] [1, 2] (fun _ => by kernel_rfl) ?_
  intro _
  refine GS.seq ?_
  refine GS.cond (t := false) rfl rfl (fun hf => by cases hf) (fun _ => ?_)
  refine GS.exit rfl ?_
  refine GS.seq ?_
  refine GS.rz (fun _ => [(4, .bool true)]) (fun _ => []) [] [4] [] (fun _ => by kernel_rfl) ?_
  intro _
  have hy := Option.some.inj hm
  subst hy
  refine GS.ret (fn := Try.f21) [0] [.bool true] [] rfl Try.func21 (by kernel_rfl) trivial (fun w' hs => ?_)
  exact ⟨(), rfl, hs.turnedG (ks := []) rfl rfl⟩

theorem w_tholelaw21_lives (F : Nat) {y : Unit} (hm : m_tholelaw21_lives F = some y) : CallG Try.prog 10 #[] (X := Unit) (fun (_ : Unit) => .bool true) [] [] (fun (_ : Unit) => []) := by
  intro w hg
  rw [m_tholelaw21_lives] at hm
  refine GS.start (S := mayT [] []) (mem := []) Try.func10 rfl Try.ntmps10 (Nat.le_of_ble_eq_true rfl) (hg.start rfl) ?_
  refine GS.conv (env' := []) rfl rfl ?_
  refine GS.seq ?_
  refine GS.rzM (fun _ => []) [] [] [] (fun _ => by kernel_rfl) ?_
  intro _
  refine GS.seq ?_
  refine bnd_elim hm (fun y3 e4 hm => ?_)
  refine GS.rg (fun fr2 => [(1, .pointer (some ⟨(fr2 3).x, 0, none⟩))]) (fun fr2 => [(1, .osl (some (Addr.mk (fr2 1).x 0 none)) 1 75 4 [(kc2)]), (2, .cells ((fr2 3).x) 37 (kc3 (some (Addr.mk (fr2 1).x 0 none))))]) [(0, { act := .call [] (.agg ((kc2)).toArray) }), (1, { act := .new (.row 1 4), key := some 1 }), (3, { act := .new .var, key := some 2 }), (4, { act := .store 0 0 [], key := some 2 })] [1] [1, 2] (fun fr2 => [CallOK Try.prog 19 #[.int .u32 7] (.agg ((kc2)).toArray) [], (fr2 3).x = (fr2 3).x, ((.agg ((kc3 (some (Addr.mk (fr2 1).x 0 none)))).toArray) : Value).cells.toList.all Value.oneCell' = true]) (fun fr2 => by kernel_rfl) (fun fr2 => ⟨(by have h1 := w_tholelaw21_item F  e4; exact h1.ok trivial), rfl, rfl, trivial⟩) ?_
  intro fr2
  refine GS.seq ?_
  refine bnd_elim hm (fun y6 e7 hm => ?_)
  refine bnd_elim hm (fun y8 e9 hm => ?_)
  refine bnd_elim hm (fun y10 e11 hm => ?_)
  refine GS.region (env' := fun fr5 => [(2, .slice (((fr5 8).xs.getD 0 (none, 0)).1) 1 (((fr5 8).xs.getD 1 (none, 0)).2)), (3, .slice none 0 0)]) (mem' := fun fr5 => [(8, bag [.osl (((fr5 8).xs.getD 0 (none, 0)).1) (((fr5 8).xs.getD 1 (none, 0)).2) 78 5 [(kc6 (((fr5 8).xs.getD 2 (none, 0)).1) (((fr5 8).xs.getD 3 (none, 0)).2))], .osl (((fr5 8).xs.getD 2 (none, 0)).1) (((fr5 8).xs.getD 3 (none, 0)).2) 3 1 [[.int .i64 1]]])]) (RunsTo.mkd [(0, { act := .load 2 0 0 [] }), (1, { act := .call [] (.agg ((kc2)).toArray) }), (2, { act := .new (.row 1 4), key := some 3 }), (4, { act := .call [] (.agg ((kc4)).toArray) }), (5, { act := .new (.row 1 4), key := some 4 }), (7, { act := .new (.row 2 3), key := some 5 }), (8, { act := .calln [1, 3, 4, 5] (fun f => .tuple #[.slice (f.xs.getD 0 (none, 0)).1 1 (f.xs.getD 1 (none, 0)).2, .slice none 0 0]) (fun f => bag [.osl (f.xs.getD 0 (none, 0)).1 (f.xs.getD 1 (none, 0)).2 78 5 [(kc6 (f.xs.getD 2 (none, 0)).1 (f.xs.getD 3 (none, 0)).2)], .osl (f.xs.getD 2 (none, 0)).1 (f.xs.getD 3 (none, 0)).2 3 1 [[.int .i64 1]]]), key := some 8 })] [2, 3] [8] (fun fr5 => [(fr2 3).x = (fr2 3).x, CallOK Try.prog 19 #[.int .u32 7] (.agg ((kc2)).toArray) [], CallOK Try.prog 19 #[.int .u32 8] (.agg ((kc4)).toArray) [], CallN Try.prog 20 #[.agg ((kc3 (some (Addr.mk (fr2 1).x 0 none)))).toArray, .slice (some (Addr.mk (fr5 7).x 0 none)) 2 2] (fun f => .tuple #[.slice (f.xs.getD 0 (none, 0)).1 1 (f.xs.getD 1 (none, 0)).2, .slice none 0 0]) (fun f => bag [.osl (f.xs.getD 0 (none, 0)).1 (f.xs.getD 1 (none, 0)).2 78 5 [(kc6 (f.xs.getD 2 (none, 0)).1 (f.xs.getD 3 (none, 0)).2)], .osl (f.xs.getD 2 (none, 0)).1 (f.xs.getD 3 (none, 0)).2 3 1 [[.int .i64 1]]]) [some (.osl (some (Addr.mk (fr2 1).x 0 none)) 1 75 4 [(kc2)]), some (.osl (some (Addr.mk (fr5 2).x 0 none)) 1 75 4 [(kc2)]), some (.osl (some (Addr.mk (fr5 5).x 0 none)) 1 75 4 [(kc4)]), some (.osl (some (Addr.mk (fr5 7).x 0 none)) 2 60 3 [[.int .i64 0, .slice (some (Addr.mk (fr5 2).x 0 none)) 1 1, .slice none 0 0], [.int .i64 1, .slice (some (Addr.mk (fr5 5).x 0 none)) 1 1, .slice none 0 0]])]]) (by kernel_rfl) (by kernel_rfl) (fun fr5 => by kernel_rfl) (fun fr5 => ⟨rfl, (by have h1 := w_tholelaw21_item F  e7; exact h1.ok trivial), (by have h1 := w_tholelaw21_item_2 F  e9; exact h1.ok trivial), (by have h1 := w_scrub_Compare F (some (Addr.mk (fr2 1).x 0 none)) 1 (some (Addr.mk (fr5 7).x 0 none)) 2 (some (Addr.mk (fr5 2).x 0 none)) 1 (some (Addr.mk (fr5 5).x 0 none)) 1 e11; exact CallG.toNB (efs := fun f => [.osl (f.xs.getD 0 (none, 0)).1 (f.xs.getD 1 (none, 0)).2 78 5 [(kc6 (f.xs.getD 2 (none, 0)).1 (f.xs.getD 3 (none, 0)).2)], .osl (f.xs.getD 2 (none, 0)).1 (f.xs.getD 3 (none, 0)).2 3 1 [[.int .i64 1]]]) h1 ⟨(.inl ⟨.osl (some (Addr.mk (fr2 1).x 0 none)) 1 75 4 [(kc2)], .head _, Cov.osl_rd⟩), (.inl ⟨.osl (some (Addr.mk (fr5 2).x 0 none)) 1 75 4 [(kc2)], (.tail _ (.head _)), Cov.osl_rd⟩), (.inl ⟨.osl (some (Addr.mk (fr5 5).x 0 none)) 1 75 4 [(kc4)], (.tail _ (.tail _ (.head _))), Cov.osl_rd⟩), (.inl ⟨.osl (some (Addr.mk (fr5 7).x 0 none)) 2 60 3 [[.int .i64 0, .slice (some (Addr.mk (fr5 2).x 0 none)) 1 1, .slice none 0 0], [.int .i64 1, .slice (some (Addr.mk (fr5 5).x 0 none)) 1 1, .slice none 0 0]], (.tail _ (.tail _ (.tail _ (.head _)))), Cov.osl_rd⟩), trivial⟩ (fun x => ⟨0, none, 0, [(x.1, 0), (none, x.2.1), (x.2.2.1, 0), (none, x.2.2.2)], fun _ _ => (none, 0)⟩) (fun _ => rfl) (fun _ => rfl) (fun _ => rfl)), trivial⟩)) ?_
  intro fr5
  refine GS.setMem (mem' := [(9, .osl (((fr5 8).xs.getD 0 (none, 0)).1) (((fr5 8).xs.getD 1 (none, 0)).2) 78 5 [(kc6 (((fr5 8).xs.getD 2 (none, 0)).1) (((fr5 8).xs.getD 3 (none, 0)).2))]), (10, .osl (((fr5 8).xs.getD 2 (none, 0)).1) (((fr5 8).xs.getD 3 (none, 0)).2) 3 1 [[.int .i64 1]])]) (fun w hw => unbag_mem (k := 8) (nk := [9, 10]) (keys := [9, 10]) hw rfl rfl rfl rfl (by kernel_rfl)) ?_
  refine GS.seq ?_
  refine bnd_elim hm (fun y17 e18 hm => ?_)
  refine GS.rg (fun fr16 => [(0, .bool true)]) (fun fr16 => []) [(5, { act := .idx 9 0 }), (7, { act := .load 9 0 0 [.string (ByteArray.mk #[97]), .int .i64 1, .int .i64 1, .int .i64 0, .slice (((fr5 8).xs.getD 2 (none, 0)).1) 1 (((fr5 8).xs.getD 3 (none, 0)).2)] }), (8, { sp := some (.bool true) }), (12, { act := .idx 9 0 }), (14, { act := .load 9 0 3 [.string (ByteArray.mk #[97]), .int .i64 1, .int .i64 1, .int .i64 0, .slice (((fr5 8).xs.getD 2 (none, 0)).1) 1 (((fr5 8).xs.getD 3 (none, 0)).2)] }), (19, { act := .idx 9 0 }), (21, { act := .load 9 0 4 [.string (ByteArray.mk #[97]), .int .i64 1, .int .i64 1, .int .i64 0, .slice (((fr5 8).xs.getD 2 (none, 0)).1) 1 (((fr5 8).xs.getD 3 (none, 0)).2)] }), (22, { act := .new (.row 1 1), key := some 11 }), (23, { act := .call [10, 11] (.bool true) })] [0] [] (fun fr16 => [((fr5 8).xs.getD 0 (none, 0)).1 = ((fr5 8).xs.getD 0 (none, 0)).1, 1 = ([(kc6 (((fr5 8).xs.getD 2 (none, 0)).1) (((fr5 8).xs.getD 3 (none, 0)).2))] : List (List Value)).length, (0 : Int) = ((0 : Nat) : Int), 0 < 1, blk (((fr5 8).xs.getD 0 (none, 0)).1) = blk (((fr5 8).xs.getD 0 (none, 0)).1), offs (((fr5 8).xs.getD 0 (none, 0)).1) + 0 * 5 = offs (((fr5 8).xs.getD 0 (none, 0)).1) + (0 * 5 + 0), ([(kc6 (((fr5 8).xs.getD 2 (none, 0)).1) (((fr5 8).xs.getD 3 (none, 0)).2))] : List (List Value))[0]? = some [.string (ByteArray.mk #[97]), .int .i64 1, .int .i64 1, .int .i64 0, .slice (((fr5 8).xs.getD 2 (none, 0)).1) 1 (((fr5 8).xs.getD 3 (none, 0)).2)], ((.bool ((ByteArray.mk #[97]).toList == (ByteArray.mk #[97]).toList)) : Value) = .bool true, ((fr5 8).xs.getD 0 (none, 0)).1 = ((fr5 8).xs.getD 0 (none, 0)).1, 1 = ([(kc6 (((fr5 8).xs.getD 2 (none, 0)).1) (((fr5 8).xs.getD 3 (none, 0)).2))] : List (List Value)).length, (0 : Int) = ((0 : Nat) : Int), 0 < 1, blk (((fr5 8).xs.getD 0 (none, 0)).1) = blk (((fr5 8).xs.getD 0 (none, 0)).1), offs (((fr5 8).xs.getD 0 (none, 0)).1) + 0 * 5 + 3 = offs (((fr5 8).xs.getD 0 (none, 0)).1) + (0 * 5 + 3), ([(kc6 (((fr5 8).xs.getD 2 (none, 0)).1) (((fr5 8).xs.getD 3 (none, 0)).2))] : List (List Value))[0]? = some [.string (ByteArray.mk #[97]), .int .i64 1, .int .i64 1, .int .i64 0, .slice (((fr5 8).xs.getD 2 (none, 0)).1) 1 (((fr5 8).xs.getD 3 (none, 0)).2)], ((fr5 8).xs.getD 0 (none, 0)).1 = ((fr5 8).xs.getD 0 (none, 0)).1, 1 = ([(kc6 (((fr5 8).xs.getD 2 (none, 0)).1) (((fr5 8).xs.getD 3 (none, 0)).2))] : List (List Value)).length, (0 : Int) = ((0 : Nat) : Int), 0 < 1, blk (((fr5 8).xs.getD 0 (none, 0)).1) = blk (((fr5 8).xs.getD 0 (none, 0)).1), offs (((fr5 8).xs.getD 0 (none, 0)).1) + 0 * 5 + 4 = offs (((fr5 8).xs.getD 0 (none, 0)).1) + (0 * 5 + 4), ([(kc6 (((fr5 8).xs.getD 2 (none, 0)).1) (((fr5 8).xs.getD 3 (none, 0)).2))] : List (List Value))[0]? = some [.string (ByteArray.mk #[97]), .int .i64 1, .int .i64 1, .int .i64 0, .slice (((fr5 8).xs.getD 2 (none, 0)).1) 1 (((fr5 8).xs.getD 3 (none, 0)).2)], CallOK Try.prog 21 #[.slice (((fr5 8).xs.getD 2 (none, 0)).1) 1 (((fr5 8).xs.getD 3 (none, 0)).2), .slice (some (Addr.mk (fr16 22).x 0 none)) 1 1] (.bool true) [some (.osl (((fr5 8).xs.getD 2 (none, 0)).1) (((fr5 8).xs.getD 3 (none, 0)).2) 3 1 [[.int .i64 1]]), some (.osl (some (Addr.mk (fr16 22).x 0 none)) 1 3 1 [[.int .i64 1]])]]) (fun fr16 => by kernel_rfl) (fun fr16 => ⟨rfl, rfl, rfl, (Nat.le_of_ble_eq_true rfl), rfl, rfl, rfl, (by kernel_rfl), rfl, rfl, rfl, (Nat.le_of_ble_eq_true rfl), rfl, (Nat.add_assoc ..), rfl, rfl, rfl, rfl, (Nat.le_of_ble_eq_true rfl), rfl, (Nat.add_assoc ..), rfl, (by have h1 := w_tholeref01_Ints F (((fr5 8).xs.getD 2 (none, 0)).1) (((fr5 8).xs.getD 3 (none, 0)).2) (some (Addr.mk (fr16 22).x 0 none)) 1 e18; exact h1.ok ⟨(.inl ⟨.osl (((fr5 8).xs.getD 2 (none, 0)).1) (((fr5 8).xs.getD 3 (none, 0)).2) 3 1 [[.int .i64 1]], .head _, Cov.osl_rd⟩), (.inl ⟨.osl (some (Addr.mk (fr16 22).x 0 none)) 1 3 1 [[.int .i64 1]], (.tail _ (.head _)), Cov.osl_rd⟩), trivial⟩), trivial⟩) ?_
  intro fr16
  have hy := Option.some.inj hm
  subst hy
  refine GS.ret (fn := Try.f10) [0] [.bool true] [] rfl Try.func10 (by kernel_rfl) trivial (fun w' hs => ?_)
  exact ⟨(), rfl, hs.turnedG (ks := []) rfl rfl⟩

theorem w_slices_Clone___int_int_ (F : Nat) (a0_o : Option Addr) (a0_c : Nat) (a0 : List Int) {y : List Int} (hm : m_slices_Clone___int_int_ F a0 = some y) : CallG Try.prog 18 #[.slice a0_o a0.length a0_c] (X := Option Addr × Nat) (fun ⟨x0, x1⟩ => .slice x0 y.length x1) [] [r3 a0_o a0] (fun ⟨x0, x1⟩ => [o3 x0 x1 y]) := by
  intro w hg
  rw [m_slices_Clone___int_int_] at hm
  refine GS.start (S := mayT [] [r3 a0_o a0]) (mem := [(1, r3 a0_o a0)]) Try.func18 rfl Try.ntmps18 (Nat.le_of_ble_eq_true rfl) (hg.start rfl) ?_
  refine GS.conv (env' := [(0, .slice a0_o a0.length a0_c)]) rfl rfl ?_
  refine GS.seq ?_
  refine GS.rzM (fun _ => [(0, .slice a0_o a0.length a0_c)]) [] [0] [1] (fun _ => by kernel_rfl) ?_
  intro _
  refine GS.seq ?_
  refine GS.seq ?_
  refine GS.rzM (fun _ => [(0, .slice a0_o a0.length a0_c), (4, .bool a0_o.isNone)]) [(1, { act := .nilq })] [0, 4] [1] (fun _ => by kernel_rfl) ?_
  intro _
  refine GS.cond (t := a0_o.isNone) rfl rfl (fun h3 => ?_) (fun h3 => ?_)
  · skip
    refine GS.know (p := a0 = []) (fun w hw => nil_rd (hw.ok 1 _ rfl) h3) (fun hl7 => ?_)
    replace hm : some ([] : List Int) = some y := by rw [hl7] at hm; exact hm
    refine GS.seq ?_
    refine GS.rz (fun _ => [(2, .slice none 0 0)]) (fun _ => []) [] [2] [] (fun _ => by kernel_rfl) ?_
    intro _
    refine GS.setMem (mem' := [(2, o3 none 0 ([] : List Int))]) (fun w hw => Sat.addNil hw rfl) ?_
    have hy := Option.some.inj hm
    subst hy
    refine GS.ret (fn := Try.f18) [0] [.slice none 0 0] [] rfl Try.func18 (by kernel_rfl) trivial (fun w' hs => ?_)
    exact ⟨⟨none, 0⟩, rfl, hs.turnedG (ks := [2]) rfl rfl⟩
  · skip
    refine GS.skip ?_
    refine GS.seq ?_
    refine grd_elim hm (fun g6 hm => ?_)
    refine GS.rg (fun fr5 => [(2, .slice ((fr5 2).ob) ((([] : List Int) ++ a0).length) ((fr5 2).cap))]) (fun fr5 => [(2, .osl ((fr5 2).ob) ((fr5 2).cap) 3 1 (([] : List (List Value)) ++ (List.map rI a0)))]) [(0, { act := .new (.row 0 1), key := some 2, spf := some (fun f => .slice (some (Addr.mk f.x 0 none)) ((([] : List Int) : List Int).length) 0) }), (2, { act := .app (some 1), key := some 2, spf := some (fun f => .slice (f.ob) ((([] : List Int) ++ a0).length) (f.cap)) })] [2] [2] (fun fr5 => [((.slice (some (Addr.mk (fr5 0).x 0 none)) 0 0) : Value) = .slice (some (Addr.mk (fr5 0).x 0 none)) ((([] : List Int) : List Int).length) 0, a0_o = a0_o, a0.length = (List.map rI a0).length, (some (Addr.mk (fr5 0).x 0 none)) = (some (Addr.mk (fr5 0).x 0 none)), 0 = 0, (([] : List Int) : List Int).length = ([] : List (List Value)).length, (([] : List (List Value)).length + (List.map rI a0).length) * (8 + 1) ≤ 70368744177664, (List.map rI a0).flatten.all Value.oneCell' = true, ((.slice ((fr5 2).ob) (((([] : List Int) : List Int).length) + (List.map rI a0).length) ((fr5 2).cap)) : Value) = .slice ((fr5 2).ob) ((([] : List Int) ++ a0).length) ((fr5 2).cap)]) (fun fr5 => by kernel_rfl) (fun fr5 => ⟨rfl, rfl, mlen rI a0, rfl, rfl, (by rw [show ([] : List (List Value)) = List.map rI ([] : List Int) from rfl]; exact mlen rI ([] : List Int)), appb g6 (by rw [show ([] : List (List Value)) = List.map rI ([] : List Int) from rfl]; exact (mlen rI ([] : List Int)).symm) (mlen rI a0).symm, (by rw [show List.map rI a0 = List.map rI a0 from rfl]; exact all_one rI _ (fun _ => rfl)), slen (by simp), trivial⟩) ?_
    intro fr5
    refine GS.conv (mem' := [(2, o3 ((fr5 2).ob) ((fr5 2).cap) (([] : List Int) ++ a0))]) rfl (congrArg (fun rr : List (List Value) => ([(2, .osl ((fr5 2).ob) ((fr5 2).cap) 3 1 rr)] : List (Nat × Ent))) (show ([] : List (List Value)) ++ (List.map rI a0) = List.map rI (([] : List Int) ++ a0) from (by rw [show ([] : List (List Value)) = List.map rI ([] : List Int) from rfl, show List.map rI a0 = List.map rI a0 from rfl]; exact mapp rI _ _))) ?_
    have hy := Option.some.inj hm
    subst hy
    refine GS.ret (fn := Try.f18) [0] [.slice ((fr5 2).ob) ((([] : List Int) ++ a0).length) ((fr5 2).cap)] [] rfl Try.func18 (by kernel_rfl) trivial (fun w' hs => ?_)
    exact ⟨⟨(fr5 2).ob, (fr5 2).cap⟩, rfl, hs.turnedG (ks := [2]) rfl rfl⟩

theorem w_pglog_Copy (F : Nat) (a0_Les : Int) (a0_Tail : S_api_Version) (a0_Log_o : Option Addr) (a0_Log_c : Nat) (a0_Log : List S_api_Entry) (a0_Lasts_o : Option Addr) (a0_Lasts_c : Nat) (a0_Lasts : List S_api_Last) (a0_Items_o : Option Addr) (a0_Items_c : Nat) (a0_Items : List S_api_Item) {y : Int × S_api_Version × List S_api_Entry × List S_api_Last × List S_api_Item} (hm : m_pglog_Copy F a0_Les a0_Tail a0_Log a0_Lasts a0_Items = some y) : CallG Try.prog 22 #[.agg ((kc7 a0_Les a0_Tail.Epoch a0_Tail.N a0_Log_o a0_Log.length a0_Log_c a0_Lasts_o a0_Lasts.length a0_Lasts_c a0_Items_o a0_Items.length a0_Items_c)).toArray] (X := Option Addr × Nat × Option Addr × Nat × Option Addr × Nat) (fun ⟨x0, x1, x2, x3, x4, x5⟩ => .agg ((kc7 y.1 y.2.1.Epoch y.2.1.N x0 y.2.2.1.length x1 x2 y.2.2.2.1.length x3 x4 y.2.2.2.2.length x5)).toArray) [] [r40 a0_Log_o a0_Log, r164 a0_Lasts_o a0_Lasts, r75 a0_Items_o a0_Items] (fun ⟨x0, x1, x2, x3, x4, x5⟩ => [o40 x0 x1 y.2.2.1, o164 x2 x3 y.2.2.2.1, o75 x4 x5 y.2.2.2.2]) := by
  intro w hg
  rw [m_pglog_Copy] at hm
  refine GS.start (S := mayT [] [r40 a0_Log_o a0_Log, r164 a0_Lasts_o a0_Lasts, r75 a0_Items_o a0_Items]) (mem := [(1, r40 a0_Log_o a0_Log), (2, r164 a0_Lasts_o a0_Lasts), (3, r75 a0_Items_o a0_Items)]) Try.func22 rfl Try.ntmps22 (Nat.le_of_ble_eq_true rfl) (hg.start rfl) ?_
  refine GS.conv (env' := [(0, .agg ((kc7 a0_Les a0_Tail.Epoch a0_Tail.N a0_Log_o a0_Log.length a0_Log_c a0_Lasts_o a0_Lasts.length a0_Lasts_c a0_Items_o a0_Items.length a0_Items_c)).toArray)]) rfl rfl ?_
  refine GS.seq ?_
  refine GS.rz (fun fr1 => [(1, .pointer (some ⟨(fr1 0).x, 0, none⟩)), (2, .pointer (some ⟨(fr1 1).x, 0, none⟩))]) (fun fr1 => [(1, r40 a0_Log_o a0_Log), (2, r164 a0_Lasts_o a0_Lasts), (3, r75 a0_Items_o a0_Items), (4, .cells ((fr1 0).x) 37 (kc7 a0_Les a0_Tail.Epoch a0_Tail.N a0_Log_o a0_Log.length a0_Log_c a0_Lasts_o a0_Lasts.length a0_Lasts_c a0_Items_o a0_Items.length a0_Items_c)), (5, .cells ((fr1 1).x) 37 (kc8))]) [(0, { act := .new .var, key := some 4 }), (1, { act := .new .var, key := some 5 })] [1, 2] [1, 2, 3, 4, 5] (fun fr1 => by kernel_rfl) ?_
  intro fr1
  refine GS.seq ?_
  refine grd_elim hm (fun g3 hm => ?_)
  refine GS.rg (fun fr2 => [(1, .pointer (some ⟨(fr1 0).x, 0, none⟩)), (2, .pointer (some ⟨(fr1 1).x, 0, none⟩))]) (fun fr2 => [(2, r164 a0_Lasts_o a0_Lasts), (3, r75 a0_Items_o a0_Items), (4, .cells ((fr1 0).x) 37 (kc7 a0_Les a0_Tail.Epoch a0_Tail.N ((fr2 2).ob) a0_Log.length ((fr2 2).cap) a0_Lasts_o a0_Lasts.length a0_Lasts_c a0_Items_o a0_Items.length a0_Items_c)), (5, .cells ((fr1 1).x) 37 (kc8)), (6, .osl ((fr2 2).ob) ((fr2 2).cap) 40 7 (List.map S_api_Entry.row a0_Log))]) [(1, { act := .load 4 0 0 [] }), (2, { act := .app (some 1), key := some 6, spf := some (fun f => .slice (f.ob) a0_Log.length (f.cap)) }), (4, { act := .store 0 0 [], key := some 4 })] [1, 2] [2, 3, 4, 5, 6] (fun fr2 => [(fr1 0).x = (fr1 0).x, a0_Log_o = a0_Log_o, a0_Log.length = (List.map S_api_Entry.row a0_Log).length, 0 = 0, 0 = 0, (List.map S_api_Entry.row a0_Log).length * (64 + 1) ≤ 70368744177664, ((.slice ((fr2 2).ob) (0 + (List.map S_api_Entry.row a0_Log).length) ((fr2 2).cap)) : Value) = .slice ((fr2 2).ob) a0_Log.length ((fr2 2).cap), (fr1 0).x = (fr1 0).x, ((.slice ((fr2 2).ob) a0_Log.length ((fr2 2).cap)) : Value).cells.toList.all Value.oneCell' = true]) (fun fr2 => by kernel_rfl) (fun fr2 => ⟨rfl, rfl, mlen S_api_Entry.row a0_Log, rfl, rfl, appb0 g3 (mlen S_api_Entry.row a0_Log).symm, slen (by rw [(mlen S_api_Entry.row a0_Log).symm, Nat.zero_add]), rfl, rfl, trivial⟩) ?_
  intro fr2
  refine GS.conv (mem' := [(2, r164 a0_Lasts_o a0_Lasts), (3, r75 a0_Items_o a0_Items), (4, .cells ((fr1 0).x) 37 (kc7 a0_Les a0_Tail.Epoch a0_Tail.N ((fr2 2).ob) a0_Log.length ((fr2 2).cap) a0_Lasts_o a0_Lasts.length a0_Lasts_c a0_Items_o a0_Items.length a0_Items_c)), (5, .cells ((fr1 1).x) 37 (kc8)), (6, o40 ((fr2 2).ob) ((fr2 2).cap) a0_Log)]) rfl (congrArg (fun rr : List (List Value) => ([(2, r164 a0_Lasts_o a0_Lasts), (3, r75 a0_Items_o a0_Items), (4, .cells ((fr1 0).x) 37 (kc7 a0_Les a0_Tail.Epoch a0_Tail.N ((fr2 2).ob) a0_Log.length ((fr2 2).cap) a0_Lasts_o a0_Lasts.length a0_Lasts_c a0_Items_o a0_Items.length a0_Items_c)), (5, .cells ((fr1 1).x) 37 (kc8)), (6, .osl ((fr2 2).ob) ((fr2 2).cap) 40 7 rr)] : List (Nat × Ent))) (show List.map S_api_Entry.row a0_Log = List.map S_api_Entry.row a0_Log from rfl)) ?_
  refine GS.seq ?_
  refine grd_elim hm (fun g5 hm => ?_)
  refine GS.rg (fun fr4 => [(1, .pointer (some ⟨(fr1 0).x, 0, none⟩)), (2, .pointer (some ⟨(fr1 1).x, 0, none⟩))]) (fun fr4 => [(3, r75 a0_Items_o a0_Items), (4, .cells ((fr1 0).x) 37 (kc7 a0_Les a0_Tail.Epoch a0_Tail.N ((fr2 2).ob) a0_Log.length ((fr2 2).cap) ((fr4 2).ob) a0_Lasts.length ((fr4 2).cap) a0_Items_o a0_Items.length a0_Items_c)), (5, .cells ((fr1 1).x) 37 (kc8)), (6, o40 ((fr2 2).ob) ((fr2 2).cap) a0_Log), (7, .osl ((fr4 2).ob) ((fr4 2).cap) 164 5 (List.map S_api_Last.row a0_Lasts))]) [(1, { act := .load 4 0 0 [] }), (2, { act := .app (some 2), key := some 7, spf := some (fun f => .slice (f.ob) a0_Lasts.length (f.cap)) }), (4, { act := .store 0 0 [], key := some 4 })] [1, 2] [3, 4, 5, 6, 7] (fun fr4 => [(fr1 0).x = (fr1 0).x, a0_Lasts_o = a0_Lasts_o, a0_Lasts.length = (List.map S_api_Last.row a0_Lasts).length, 0 = 0, 0 = 0, (List.map S_api_Last.row a0_Lasts).length * (40 + 1) ≤ 70368744177664, ((.slice ((fr4 2).ob) (0 + (List.map S_api_Last.row a0_Lasts).length) ((fr4 2).cap)) : Value) = .slice ((fr4 2).ob) a0_Lasts.length ((fr4 2).cap), (fr1 0).x = (fr1 0).x, ((.slice ((fr4 2).ob) a0_Lasts.length ((fr4 2).cap)) : Value).cells.toList.all Value.oneCell' = true]) (fun fr4 => by kernel_rfl) (fun fr4 => ⟨rfl, rfl, mlen S_api_Last.row a0_Lasts, rfl, rfl, appb0 g5 (mlen S_api_Last.row a0_Lasts).symm, slen (by rw [(mlen S_api_Last.row a0_Lasts).symm, Nat.zero_add]), rfl, rfl, trivial⟩) ?_
  intro fr4
  refine GS.conv (mem' := [(3, r75 a0_Items_o a0_Items), (4, .cells ((fr1 0).x) 37 (kc7 a0_Les a0_Tail.Epoch a0_Tail.N ((fr2 2).ob) a0_Log.length ((fr2 2).cap) ((fr4 2).ob) a0_Lasts.length ((fr4 2).cap) a0_Items_o a0_Items.length a0_Items_c)), (5, .cells ((fr1 1).x) 37 (kc8)), (6, o40 ((fr2 2).ob) ((fr2 2).cap) a0_Log), (7, o164 ((fr4 2).ob) ((fr4 2).cap) a0_Lasts)]) rfl (congrArg (fun rr : List (List Value) => ([(3, r75 a0_Items_o a0_Items), (4, .cells ((fr1 0).x) 37 (kc7 a0_Les a0_Tail.Epoch a0_Tail.N ((fr2 2).ob) a0_Log.length ((fr2 2).cap) ((fr4 2).ob) a0_Lasts.length ((fr4 2).cap) a0_Items_o a0_Items.length a0_Items_c)), (5, .cells ((fr1 1).x) 37 (kc8)), (6, o40 ((fr2 2).ob) ((fr2 2).cap) a0_Log), (7, .osl ((fr4 2).ob) ((fr4 2).cap) 164 5 rr)] : List (Nat × Ent))) (show List.map S_api_Last.row a0_Lasts = List.map S_api_Last.row a0_Lasts from rfl)) ?_
  refine GS.seq ?_
  refine grd_elim hm (fun g7 hm => ?_)
  refine GS.rg (fun fr6 => [(1, .pointer (some ⟨(fr1 0).x, 0, none⟩)), (2, .pointer (some ⟨(fr1 1).x, 0, none⟩))]) (fun fr6 => [(4, .cells ((fr1 0).x) 37 (kc7 a0_Les a0_Tail.Epoch a0_Tail.N ((fr2 2).ob) a0_Log.length ((fr2 2).cap) ((fr4 2).ob) a0_Lasts.length ((fr4 2).cap) ((fr6 2).ob) a0_Items.length ((fr6 2).cap))), (5, .cells ((fr1 1).x) 37 (kc8)), (6, o40 ((fr2 2).ob) ((fr2 2).cap) a0_Log), (7, o164 ((fr4 2).ob) ((fr4 2).cap) a0_Lasts), (8, .osl ((fr6 2).ob) ((fr6 2).cap) 75 4 (List.map S_api_Item.row a0_Items))]) [(1, { act := .load 4 0 0 [] }), (2, { act := .app (some 3), key := some 8, spf := some (fun f => .slice (f.ob) a0_Items.length (f.cap)) }), (4, { act := .store 0 0 [], key := some 4 })] [1, 2] [4, 5, 6, 7, 8] (fun fr6 => [(fr1 0).x = (fr1 0).x, a0_Items_o = a0_Items_o, a0_Items.length = (List.map S_api_Item.row a0_Items).length, 0 = 0, 0 = 0, (List.map S_api_Item.row a0_Items).length * (40 + 1) ≤ 70368744177664, ((.slice ((fr6 2).ob) (0 + (List.map S_api_Item.row a0_Items).length) ((fr6 2).cap)) : Value) = .slice ((fr6 2).ob) a0_Items.length ((fr6 2).cap), (fr1 0).x = (fr1 0).x, ((.slice ((fr6 2).ob) a0_Items.length ((fr6 2).cap)) : Value).cells.toList.all Value.oneCell' = true]) (fun fr6 => by kernel_rfl) (fun fr6 => ⟨rfl, rfl, mlen S_api_Item.row a0_Items, rfl, rfl, appb0 g7 (mlen S_api_Item.row a0_Items).symm, slen (by rw [(mlen S_api_Item.row a0_Items).symm, Nat.zero_add]), rfl, rfl, trivial⟩) ?_
  intro fr6
  refine GS.conv (mem' := [(4, .cells ((fr1 0).x) 37 (kc7 a0_Les a0_Tail.Epoch a0_Tail.N ((fr2 2).ob) a0_Log.length ((fr2 2).cap) ((fr4 2).ob) a0_Lasts.length ((fr4 2).cap) ((fr6 2).ob) a0_Items.length ((fr6 2).cap))), (5, .cells ((fr1 1).x) 37 (kc8)), (6, o40 ((fr2 2).ob) ((fr2 2).cap) a0_Log), (7, o164 ((fr4 2).ob) ((fr4 2).cap) a0_Lasts), (8, o75 ((fr6 2).ob) ((fr6 2).cap) a0_Items)]) rfl (congrArg (fun rr : List (List Value) => ([(4, .cells ((fr1 0).x) 37 (kc7 a0_Les a0_Tail.Epoch a0_Tail.N ((fr2 2).ob) a0_Log.length ((fr2 2).cap) ((fr4 2).ob) a0_Lasts.length ((fr4 2).cap) ((fr6 2).ob) a0_Items.length ((fr6 2).cap))), (5, .cells ((fr1 1).x) 37 (kc8)), (6, o40 ((fr2 2).ob) ((fr2 2).cap) a0_Log), (7, o164 ((fr4 2).ob) ((fr4 2).cap) a0_Lasts), (8, .osl ((fr6 2).ob) ((fr6 2).cap) 75 4 rr)] : List (Nat × Ent))) (show List.map S_api_Item.row a0_Items = List.map S_api_Item.row a0_Items from rfl)) ?_
  refine GS.seq ?_
  refine GS.rg (fun _ => [(2, .pointer (some ⟨(fr1 1).x, 0, none⟩))]) (fun _ => [(5, .cells ((fr1 1).x) 37 (kc7 a0_Les a0_Tail.Epoch a0_Tail.N ((fr2 2).ob) a0_Log.length ((fr2 2).cap) ((fr4 2).ob) a0_Lasts.length ((fr4 2).cap) ((fr6 2).ob) a0_Items.length ((fr6 2).cap))), (6, o40 ((fr2 2).ob) ((fr2 2).cap) a0_Log), (7, o164 ((fr4 2).ob) ((fr4 2).cap) a0_Lasts), (8, o75 ((fr6 2).ob) ((fr6 2).cap) a0_Items)]) [(0, { act := .load 4 0 0 [] }), (1, { act := .store 0 0 [], key := some 5 })] [2] [5, 6, 7, 8] (fun _ => [(fr1 0).x = (fr1 0).x, (fr1 1).x = (fr1 1).x, ((.agg ((kc7 a0_Les a0_Tail.Epoch a0_Tail.N ((fr2 2).ob) a0_Log.length ((fr2 2).cap) ((fr4 2).ob) a0_Lasts.length ((fr4 2).cap) ((fr6 2).ob) a0_Items.length ((fr6 2).cap))).toArray) : Value).cells.toList.all Value.oneCell' = true]) (fun _ => by kernel_rfl) (fun _ => ⟨rfl, rfl, rfl, trivial⟩) ?_
  intro _
  have hy := Option.some.inj hm
  subst hy
  refine GS.ret (fn := Try.f22) [5] [.agg ((kc7 a0_Les a0_Tail.Epoch a0_Tail.N ((fr2 2).ob) a0_Log.length ((fr2 2).cap) ((fr4 2).ob) a0_Lasts.length ((fr4 2).cap) ((fr6 2).ob) a0_Items.length ((fr6 2).cap))).toArray] [(fr1 1).x = (fr1 1).x] rfl Try.func22 (by kernel_rfl) ⟨rfl, trivial⟩ (fun w' hs => ?_)
  exact ⟨⟨(fr2 2).ob, (fr2 2).cap, (fr4 2).ob, (fr4 2).cap, (fr6 2).ob, (fr6 2).cap⟩, rfl, hs.turnedG (ks := [6, 7, 8]) rfl rfl⟩

end Go.Proofs.Ytcegkgbceogflaa
