/-
  CHAPTER 21e: the functions do what their models say (2).
-/
import Derived.Test.YtcegkgbceogflaaM21e
set_option linter.unusedVariables false
set_option linter.unusedSimpArgs false
set_option maxRecDepth 100000
set_option maxHeartbeats 8000000
namespace Go.Proofs.Ytcegkgbceogflaa
open Go Go.RowKit Sx

theorem w_slices_Clone___api_Item_api_Item_ (F : Nat) (a0_o : Option Addr) (a0_c : Nat) (a0 : List S_api_Item) {y : List S_api_Item} (hm : m_slices_Clone___api_Item_api_Item_ F a0 = some y) : CallG Try.prog 15 #[.slice a0_o a0.length a0_c] (X := Option Addr × Nat) (fun ⟨x0, x1⟩ => .slice x0 y.length x1) [] [r75 a0_o a0] (fun ⟨x0, x1⟩ => [o75 x0 x1 y]) := by
  intro w hg
  rw [m_slices_Clone___api_Item_api_Item_] at hm
  refine GS.start (S := mayT [] [r75 a0_o a0]) (mem := [(1, r75 a0_o a0)]) Try.func15 rfl Try.ntmps15 (Nat.le_of_ble_eq_true rfl) (hg.start rfl) ?_
  refine GS.conv (env' := [(0, .slice a0_o a0.length a0_c)]) rfl rfl ?_
  refine GS.seq ?_
  refine GS.rzM (fun _ => [(0, .slice a0_o a0.length a0_c)]) [] [0] [1] (fun _ => by kernel_rfl) ?_
  intro _
  refine GS.seq ?_
  refine GS.seq ?_
  refine GS.rzM (fun _ => [(0, .slice a0_o a0.length a0_c), (4, .bool a0_o.isNone)]) [(1, { act := .nilq })] [0, 4] [1] (fun _ => by kernel_rfl) ?_
  intro _
  refine GS.cond (t := a0_o.isNone) rfl rfl (fun h3 => ?_) (fun h3 => ?_)
  · skip
    refine GS.know (p := a0 = []) (fun w hw => nil_rd (hw.ok 1 _ rfl) h3) (fun hl7 => ?_)
    replace hm : some ([] : List S_api_Item) = some y := by rw [hl7] at hm; exact hm
    refine GS.seq ?_
    refine GS.rz (fun _ => [(2, .slice none 0 0)]) (fun _ => []) [] [2] [] (fun _ => by kernel_rfl) ?_
    intro _
    refine GS.setMem (mem' := [(2, o75 none 0 ([] : List S_api_Item))]) (fun w hw => Sat.addNil hw rfl) ?_
    have hy := Option.some.inj hm
    subst hy
    refine GS.ret (fn := Try.f15) [0] [.slice none 0 0] [] rfl Try.func15 (by kernel_rfl) trivial (fun w' hs => ?_)
    exact ⟨⟨none, 0⟩, rfl, hs.turnedG (ks := [2]) rfl rfl⟩
  · skip
    refine GS.skip ?_
    refine GS.seq ?_
    refine grd_elim hm (fun g6 hm => ?_)
    refine GS.rg (fun fr5 => [(2, .slice ((fr5 2).ob) ((([] : List S_api_Item) ++ a0).length) ((fr5 2).cap))]) (fun fr5 => [(2, .osl ((fr5 2).ob) ((fr5 2).cap) 75 4 (([] : List (List Value)) ++ (List.map S_api_Item.row a0)))]) [(0, { act := .new (.row 0 4), key := some 2, spf := some (fun f => .slice (some (Addr.mk f.x 0 none)) ((([] : List S_api_Item) : List S_api_Item).length) 0) }), (2, { act := .app (some 1), key := some 2, spf := some (fun f => .slice (f.ob) ((([] : List S_api_Item) ++ a0).length) (f.cap)) })] [2] [2] (fun fr5 => [((.slice (some (Addr.mk (fr5 0).x 0 none)) 0 0) : Value) = .slice (some (Addr.mk (fr5 0).x 0 none)) ((([] : List S_api_Item) : List S_api_Item).length) 0, a0_o = a0_o, a0.length = (List.map S_api_Item.row a0).length, (some (Addr.mk (fr5 0).x 0 none)) = (some (Addr.mk (fr5 0).x 0 none)), 0 = 0, (([] : List S_api_Item) : List S_api_Item).length = ([] : List (List Value)).length, (([] : List (List Value)).length + (List.map S_api_Item.row a0).length) * (40 + 1) ≤ 70368744177664, (List.map S_api_Item.row a0).flatten.all Value.oneCell' = true, ((.slice ((fr5 2).ob) (((([] : List S_api_Item) : List S_api_Item).length) + (List.map S_api_Item.row a0).length) ((fr5 2).cap)) : Value) = .slice ((fr5 2).ob) ((([] : List S_api_Item) ++ a0).length) ((fr5 2).cap)]) (fun fr5 => by kernel_rfl) (fun fr5 => ⟨rfl, rfl, mlen S_api_Item.row a0, rfl, rfl, (by rw [show ([] : List (List Value)) = List.map S_api_Item.row ([] : List S_api_Item) from rfl]; exact mlen S_api_Item.row ([] : List S_api_Item)), appb g6 (by rw [show ([] : List (List Value)) = List.map S_api_Item.row ([] : List S_api_Item) from rfl]; exact (mlen S_api_Item.row ([] : List S_api_Item)).symm) (mlen S_api_Item.row a0).symm, (by rw [show List.map S_api_Item.row a0 = List.map S_api_Item.row a0 from rfl]; exact all_one S_api_Item.row _ (fun _ => rfl)), slen (by simp), trivial⟩) ?_
    intro fr5
    refine GS.conv (mem' := [(2, o75 ((fr5 2).ob) ((fr5 2).cap) (([] : List S_api_Item) ++ a0))]) rfl (congrArg (fun rr : List (List Value) => ([(2, .osl ((fr5 2).ob) ((fr5 2).cap) 75 4 rr)] : List (Nat × Ent))) (show ([] : List (List Value)) ++ (List.map S_api_Item.row a0) = List.map S_api_Item.row (([] : List S_api_Item) ++ a0) from (by rw [show ([] : List (List Value)) = List.map S_api_Item.row ([] : List S_api_Item) from rfl, show List.map S_api_Item.row a0 = List.map S_api_Item.row a0 from rfl]; exact mapp S_api_Item.row _ _))) ?_
    have hy := Option.some.inj hm
    subst hy
    refine GS.ret (fn := Try.f15) [0] [.slice ((fr5 2).ob) ((([] : List S_api_Item) ++ a0).length) ((fr5 2).cap)] [] rfl Try.func15 (by kernel_rfl) trivial (fun w' hs => ?_)
    exact ⟨⟨(fr5 2).ob, (fr5 2).cap⟩, rfl, hs.turnedG (ks := [2]) rfl rfl⟩

theorem w_slices_Clone___string_string_ (F : Nat) (a0_o : Option Addr) (a0_c : Nat) (a0 : List ByteArray) {y : List ByteArray} (hm : m_slices_Clone___string_string_ F a0 = some y) : CallG Try.prog 16 #[.slice a0_o a0.length a0_c] (X := Option Addr × Nat) (fun ⟨x0, x1⟩ => .slice x0 y.length x1) [] [r9 a0_o a0] (fun ⟨x0, x1⟩ => [o9 x0 x1 y]) := by
  intro w hg
  rw [m_slices_Clone___string_string_] at hm
  refine GS.start (S := mayT [] [r9 a0_o a0]) (mem := [(1, r9 a0_o a0)]) Try.func16 rfl Try.ntmps16 (Nat.le_of_ble_eq_true rfl) (hg.start rfl) ?_
  refine GS.conv (env' := [(0, .slice a0_o a0.length a0_c)]) rfl rfl ?_
  refine GS.seq ?_
  refine GS.rzM (fun _ => [(0, .slice a0_o a0.length a0_c)]) [] [0] [1] (fun _ => by kernel_rfl) ?_
  intro _
  refine GS.seq ?_
  refine GS.seq ?_
  refine GS.rzM (fun _ => [(0, .slice a0_o a0.length a0_c), (4, .bool a0_o.isNone)]) [(1, { act := .nilq })] [0, 4] [1] (fun _ => by kernel_rfl) ?_
  intro _
  refine GS.cond (t := a0_o.isNone) rfl rfl (fun h3 => ?_) (fun h3 => ?_)
  · skip
    refine GS.know (p := a0 = []) (fun w hw => nil_rd (hw.ok 1 _ rfl) h3) (fun hl7 => ?_)
    replace hm : some ([] : List ByteArray) = some y := by rw [hl7] at hm; exact hm
    refine GS.seq ?_
    refine GS.rz (fun _ => [(2, .slice none 0 0)]) (fun _ => []) [] [2] [] (fun _ => by kernel_rfl) ?_
    intro _
    refine GS.setMem (mem' := [(2, o9 none 0 ([] : List ByteArray))]) (fun w hw => Sat.addNil hw rfl) ?_
    have hy := Option.some.inj hm
    subst hy
    refine GS.ret (fn := Try.f16) [0] [.slice none 0 0] [] rfl Try.func16 (by kernel_rfl) trivial (fun w' hs => ?_)
    exact ⟨⟨none, 0⟩, rfl, hs.turnedG (ks := [2]) rfl rfl⟩
  · skip
    refine GS.skip ?_
    refine GS.seq ?_
    refine grd_elim hm (fun g6 hm => ?_)
    refine GS.rg (fun fr5 => [(2, .slice ((fr5 2).ob) ((([] : List ByteArray) ++ a0).length) ((fr5 2).cap))]) (fun fr5 => [(2, .osl ((fr5 2).ob) ((fr5 2).cap) 9 1 (([] : List (List Value)) ++ (List.map rS a0)))]) [(0, { act := .new (.row 0 1), key := some 2, spf := some (fun f => .slice (some (Addr.mk f.x 0 none)) ((([] : List ByteArray) : List ByteArray).length) 0) }), (2, { act := .app (some 1), key := some 2, spf := some (fun f => .slice (f.ob) ((([] : List ByteArray) ++ a0).length) (f.cap)) })] [2] [2] (fun fr5 => [((.slice (some (Addr.mk (fr5 0).x 0 none)) 0 0) : Value) = .slice (some (Addr.mk (fr5 0).x 0 none)) ((([] : List ByteArray) : List ByteArray).length) 0, a0_o = a0_o, a0.length = (List.map rS a0).length, (some (Addr.mk (fr5 0).x 0 none)) = (some (Addr.mk (fr5 0).x 0 none)), 0 = 0, (([] : List ByteArray) : List ByteArray).length = ([] : List (List Value)).length, (([] : List (List Value)).length + (List.map rS a0).length) * (16 + 1) ≤ 70368744177664, (List.map rS a0).flatten.all Value.oneCell' = true, ((.slice ((fr5 2).ob) (((([] : List ByteArray) : List ByteArray).length) + (List.map rS a0).length) ((fr5 2).cap)) : Value) = .slice ((fr5 2).ob) ((([] : List ByteArray) ++ a0).length) ((fr5 2).cap)]) (fun fr5 => by kernel_rfl) (fun fr5 => ⟨rfl, rfl, mlen rS a0, rfl, rfl, (by rw [show ([] : List (List Value)) = List.map rS ([] : List ByteArray) from rfl]; exact mlen rS ([] : List ByteArray)), appb g6 (by rw [show ([] : List (List Value)) = List.map rS ([] : List ByteArray) from rfl]; exact (mlen rS ([] : List ByteArray)).symm) (mlen rS a0).symm, (by rw [show List.map rS a0 = List.map rS a0 from rfl]; exact all_one rS _ (fun _ => rfl)), slen (by simp), trivial⟩) ?_
    intro fr5
    refine GS.conv (mem' := [(2, o9 ((fr5 2).ob) ((fr5 2).cap) (([] : List ByteArray) ++ a0))]) rfl (congrArg (fun rr : List (List Value) => ([(2, .osl ((fr5 2).ob) ((fr5 2).cap) 9 1 rr)] : List (Nat × Ent))) (show ([] : List (List Value)) ++ (List.map rS a0) = List.map rS (([] : List ByteArray) ++ a0) from (by rw [show ([] : List (List Value)) = List.map rS ([] : List ByteArray) from rfl, show List.map rS a0 = List.map rS a0 from rfl]; exact mapp rS _ _))) ?_
    have hy := Option.some.inj hm
    subst hy
    refine GS.ret (fn := Try.f16) [0] [.slice ((fr5 2).ob) ((([] : List ByteArray) ++ a0).length) ((fr5 2).cap)] [] rfl Try.func16 (by kernel_rfl) trivial (fun w' hs => ?_)
    exact ⟨⟨(fr5 2).ob, (fr5 2).cap⟩, rfl, hs.turnedG (ks := [2]) rfl rfl⟩

theorem w___scrub_Machine__is (F : Nat) (a0b : Nat) (a0_3 : Int) (a0_6 : Int) (a0_7 : Int) (a0_8 : Int) (a0_9 : Int) (a0_47_o : Option Addr) (a0_47_c : Nat) (a0_47 : List Int) (a0_48 : Int) (a0_49 : Int) (a0_50 : Int) (a0_51_o : Option Addr) (a0_51_c : Nat) (a0_51 : List S_api_Entry) (a0_52_o : Option Addr) (a0_52_c : Nat) (a0_52 : List S_api_Last) (a0_53_o : Option Addr) (a0_53_c : Nat) (a0_53 : List S_api_Item) (a0_54b : Nat) (a0_54_c : Nat) (a0_54 : List (Int × S_scrub_Copy)) (a0_55_v : Value) (a0_56_v : Value) {y : Unit} (hm : m___scrub_Machine__is F a0_3 a0_6 a0_7 a0_8 a0_9 a0_47 a0_48 a0_49 a0_50 a0_51 a0_52 a0_53 a0_54 = some y) : CallG Try.prog 12 #[.pointer (some ⟨a0b, 0, none⟩)] (X := Unit) (fun (_ : Unit) => .bool true) [] [r3 a0_47_o a0_47, r40 a0_51_o a0_51, r164 a0_52_o a0_52, r75 a0_53_o a0_53, mC nR60 nJ60 false a0_54b a0_54_c a0_54, .rd (some ⟨a0b, 0, none⟩) 57 [(kc13 a0_3 a0_6 a0_7 a0_8 a0_9 a0_47_o a0_47.length a0_47_c a0_48 a0_49 a0_50 a0_51_o a0_51.length a0_51_c a0_52_o a0_52.length a0_52_c a0_53_o a0_53.length a0_53_c a0_54b a0_55_v a0_56_v)]] (fun (_ : Unit) => []) := by
  intro w hg
  rw [m___scrub_Machine__is] at hm
  refine GS.start (S := mayT [] [r3 a0_47_o a0_47, r40 a0_51_o a0_51, r164 a0_52_o a0_52, r75 a0_53_o a0_53, mC nR60 nJ60 false a0_54b a0_54_c a0_54, .rd (some ⟨a0b, 0, none⟩) 57 [(kc13 a0_3 a0_6 a0_7 a0_8 a0_9 a0_47_o a0_47.length a0_47_c a0_48 a0_49 a0_50 a0_51_o a0_51.length a0_51_c a0_52_o a0_52.length a0_52_c a0_53_o a0_53.length a0_53_c a0_54b a0_55_v a0_56_v)]]) (mem := [(1, r3 a0_47_o a0_47), (2, r40 a0_51_o a0_51), (3, r164 a0_52_o a0_52), (4, r75 a0_53_o a0_53), (5, mC nR60 nJ60 false a0_54b a0_54_c a0_54), (6, .rd (some ⟨a0b, 0, none⟩) 57 [(kc13 a0_3 a0_6 a0_7 a0_8 a0_9 a0_47_o a0_47.length a0_47_c a0_48 a0_49 a0_50 a0_51_o a0_51.length a0_51_c a0_52_o a0_52.length a0_52_c a0_53_o a0_53.length a0_53_c a0_54b a0_55_v a0_56_v)])]) Try.func12 rfl Try.ntmps12 (Nat.le_of_ble_eq_true rfl) (hg.start rfl) ?_
  refine GS.conv (env' := [(0, .pointer (some ⟨a0b, 0, none⟩))]) rfl rfl ?_
  refine GS.seq ?_
  refine GS.rzM (fun _ => [(0, .pointer (some ⟨a0b, 0, none⟩))]) [] [0] [1, 2, 3, 4, 5, 6] (fun _ => by kernel_rfl) ?_
  intro _
  refine GS.seq ?_
  refine GS.rg (fun _ => [(2, .bool true)]) (fun _ => []) [(6, { act := .load 6 0 0 [.bool true, .int .i64 40, .int .i64 2, .int .i64 a0_3, .int .i64 0, .int .i64 0, .int .i64 a0_6, .int .i64 a0_7, .int .i64 a0_8, .int .i64 a0_9, .int .i64 0, .int .i64 0, .int .i64 0, .slice none 0 0, .slice none 0 0, .slice none 0 0, .int .i64 0, .int .i64 0, .int .i64 0, .int .i64 0, .int .i64 0, .int .i64 0, .int .i64 0, .int .i64 0, .int .i64 0, .slice none 0 0, .slice none 0 0, .slice none 0 0, .int .i64 0, .int .i64 0, .bool false, .int .i64 0, .string (ByteArray.mk #[]), .int .i64 0, .int .i64 0, .string (ByteArray.mk #[]), .int .i64 0, .int .i64 0, .slice none 0 0, .int .i64 0, .string (ByteArray.mk #[]), .slice none 0 0, .int .i64 0, .int .i64 0, .slice none 0 0, .slice none 0 0, .int .i64 0, .slice a0_47_o a0_47.length a0_47_c, .int .i64 a0_48, .int .i64 a0_49, .int .i64 a0_50, .slice a0_51_o a0_51.length a0_51_c, .slice a0_52_o a0_52.length a0_52_c, .slice a0_53_o a0_53.length a0_53_c, .map (some a0_54b), a0_55_v, a0_56_v] })] [2] [] (fun _ => [a0b = blk (some ⟨a0b, 0, none⟩), 0 = offs (some ⟨a0b, 0, none⟩) + (0 * 57 + 0), ([(kc13 a0_3 a0_6 a0_7 a0_8 a0_9 a0_47_o a0_47.length a0_47_c a0_48 a0_49 a0_50 a0_51_o a0_51.length a0_51_c a0_52_o a0_52.length a0_52_c a0_53_o a0_53.length a0_53_c a0_54b a0_55_v a0_56_v)] : List (List Value))[0]? = some [.bool true, .int .i64 40, .int .i64 2, .int .i64 a0_3, .int .i64 0, .int .i64 0, .int .i64 a0_6, .int .i64 a0_7, .int .i64 a0_8, .int .i64 a0_9, .int .i64 0, .int .i64 0, .int .i64 0, .slice none 0 0, .slice none 0 0, .slice none 0 0, .int .i64 0, .int .i64 0, .int .i64 0, .int .i64 0, .int .i64 0, .int .i64 0, .int .i64 0, .int .i64 0, .int .i64 0, .slice none 0 0, .slice none 0 0, .slice none 0 0, .int .i64 0, .int .i64 0, .bool false, .int .i64 0, .string (ByteArray.mk #[]), .int .i64 0, .int .i64 0, .string (ByteArray.mk #[]), .int .i64 0, .int .i64 0, .slice none 0 0, .int .i64 0, .string (ByteArray.mk #[]), .slice none 0 0, .int .i64 0, .int .i64 0, .slice none 0 0, .slice none 0 0, .int .i64 0, .slice a0_47_o a0_47.length a0_47_c, .int .i64 a0_48, .int .i64 a0_49, .int .i64 a0_50, .slice a0_51_o a0_51.length a0_51_c, .slice a0_52_o a0_52.length a0_52_c, .slice a0_53_o a0_53.length a0_53_c, .map (some a0_54b), a0_55_v, a0_56_v]]) (fun _ => by kernel_rfl) (fun _ => ⟨rfl, rfl, rfl, trivial⟩) ?_
  intro _
  have hy := Option.some.inj hm
  subst hy
  refine GS.ret (fn := Try.f12) [0] [.bool true] [] rfl Try.func12 (by kernel_rfl) trivial (fun w' hs => ?_)
  exact ⟨(), rfl, hs.turnedG (ks := []) rfl rfl⟩

theorem w___scrub_Machine__left (F : Nat) (a0b : Nat) (a0_3 : Int) (a0_6 : Int) (a0_7 : Int) (a0_8 : Int) (a0_9 : Int) (a0_47_o : Option Addr) (a0_47_c : Nat) (a0_47 : List Int) (a0_48 : Int) (a0_49 : Int) (a0_50 : Int) (a0_51_o : Option Addr) (a0_51_c : Nat) (a0_51 : List S_api_Entry) (a0_52_o : Option Addr) (a0_52_c : Nat) (a0_52 : List S_api_Last) (a0_53_o : Option Addr) (a0_53_c : Nat) (a0_53 : List S_api_Item) (a0_54b : Nat) (a0_54_c : Nat) (a0_54 : List (Int × S_scrub_Copy)) (a0_55_v : Value) (a0_56_v : Value) {y : List Int} (hm : m___scrub_Machine__left F a0_3 a0_6 a0_7 a0_8 a0_9 a0_47 a0_48 a0_49 a0_50 a0_51 a0_52 a0_53 a0_54 = some y) : CallG Try.prog 14 #[.pointer (some ⟨a0b, 0, none⟩)] (X := Option Addr × Nat) (fun ⟨x0, x1⟩ => .slice x0 y.length x1) [] [r3 a0_47_o a0_47, r40 a0_51_o a0_51, r164 a0_52_o a0_52, r75 a0_53_o a0_53, mC nR60 nJ60 false a0_54b a0_54_c a0_54, .rd (some ⟨a0b, 0, none⟩) 57 [(kc13 a0_3 a0_6 a0_7 a0_8 a0_9 a0_47_o a0_47.length a0_47_c a0_48 a0_49 a0_50 a0_51_o a0_51.length a0_51_c a0_52_o a0_52.length a0_52_c a0_53_o a0_53.length a0_53_c a0_54b a0_55_v a0_56_v)]] (fun ⟨x0, x1⟩ => [o3 x0 x1 y]) := by
  intro w hg
  rw [m___scrub_Machine__left] at hm
  refine GS.start (S := mayT [] [r3 a0_47_o a0_47, r40 a0_51_o a0_51, r164 a0_52_o a0_52, r75 a0_53_o a0_53, mC nR60 nJ60 false a0_54b a0_54_c a0_54, .rd (some ⟨a0b, 0, none⟩) 57 [(kc13 a0_3 a0_6 a0_7 a0_8 a0_9 a0_47_o a0_47.length a0_47_c a0_48 a0_49 a0_50 a0_51_o a0_51.length a0_51_c a0_52_o a0_52.length a0_52_c a0_53_o a0_53.length a0_53_c a0_54b a0_55_v a0_56_v)]]) (mem := [(1, r3 a0_47_o a0_47), (2, r40 a0_51_o a0_51), (3, r164 a0_52_o a0_52), (4, r75 a0_53_o a0_53), (5, mC nR60 nJ60 false a0_54b a0_54_c a0_54), (6, .rd (some ⟨a0b, 0, none⟩) 57 [(kc13 a0_3 a0_6 a0_7 a0_8 a0_9 a0_47_o a0_47.length a0_47_c a0_48 a0_49 a0_50 a0_51_o a0_51.length a0_51_c a0_52_o a0_52.length a0_52_c a0_53_o a0_53.length a0_53_c a0_54b a0_55_v a0_56_v)])]) Try.func14 rfl Try.ntmps14 (Nat.le_of_ble_eq_true rfl) (hg.start rfl) ?_
  refine GS.conv (env' := [(0, .pointer (some ⟨a0b, 0, none⟩))]) rfl rfl ?_
  refine GS.seq ?_
  refine GS.rzM (fun _ => [(0, .pointer (some ⟨a0b, 0, none⟩))]) [] [0] [1, 2, 3, 4, 5, 6] (fun _ => by kernel_rfl) ?_
  intro _
  refine GS.seq ?_
  refine GS.rzM (fun _ => [(0, .pointer (some ⟨a0b, 0, none⟩)), (3, .slice none 0 0)]) [] [0, 3] [1, 2, 3, 4, 5, 6] (fun _ => by kernel_rfl) ?_
  intro _
  refine GS.seq ?_
  refine GS.seq ?_
  refine GS.rgM (fun _ => [(0, .pointer (some ⟨a0b, 0, none⟩)), (3, .slice none 0 0), (11, .slice a0_47_o a0_47.length a0_47_c), (12, .int .i64 ((a0_47.length : Nat) : Int)), (13, .int .i64 0)]) [(3, { act := .load 6 0 47 [.bool true, .int .i64 40, .int .i64 2, .int .i64 a0_3, .int .i64 0, .int .i64 0, .int .i64 a0_6, .int .i64 a0_7, .int .i64 a0_8, .int .i64 a0_9, .int .i64 0, .int .i64 0, .int .i64 0, .slice none 0 0, .slice none 0 0, .slice none 0 0, .int .i64 0, .int .i64 0, .int .i64 0, .int .i64 0, .int .i64 0, .int .i64 0, .int .i64 0, .int .i64 0, .int .i64 0, .slice none 0 0, .slice none 0 0, .slice none 0 0, .int .i64 0, .int .i64 0, .bool false, .int .i64 0, .string (ByteArray.mk #[]), .int .i64 0, .int .i64 0, .string (ByteArray.mk #[]), .int .i64 0, .int .i64 0, .slice none 0 0, .int .i64 0, .string (ByteArray.mk #[]), .slice none 0 0, .int .i64 0, .int .i64 0, .slice none 0 0, .slice none 0 0, .int .i64 0, .slice a0_47_o a0_47.length a0_47_c, .int .i64 a0_48, .int .i64 a0_49, .int .i64 a0_50, .slice a0_51_o a0_51.length a0_51_c, .slice a0_52_o a0_52.length a0_52_c, .slice a0_53_o a0_53.length a0_53_c, .map (some a0_54b), a0_55_v, a0_56_v] })] [0, 3, 11, 12, 13] [1, 2, 3, 4, 5, 6] (fun _ => [a0b = blk (some ⟨a0b, 0, none⟩), 47 = offs (some ⟨a0b, 0, none⟩) + (0 * 57 + 47), ([(kc13 a0_3 a0_6 a0_7 a0_8 a0_9 a0_47_o a0_47.length a0_47_c a0_48 a0_49 a0_50 a0_51_o a0_51.length a0_51_c a0_52_o a0_52.length a0_52_c a0_53_o a0_53.length a0_53_c a0_54b a0_55_v a0_56_v)] : List (List Value))[0]? = some [.bool true, .int .i64 40, .int .i64 2, .int .i64 a0_3, .int .i64 0, .int .i64 0, .int .i64 a0_6, .int .i64 a0_7, .int .i64 a0_8, .int .i64 a0_9, .int .i64 0, .int .i64 0, .int .i64 0, .slice none 0 0, .slice none 0 0, .slice none 0 0, .int .i64 0, .int .i64 0, .int .i64 0, .int .i64 0, .int .i64 0, .int .i64 0, .int .i64 0, .int .i64 0, .int .i64 0, .slice none 0 0, .slice none 0 0, .slice none 0 0, .int .i64 0, .int .i64 0, .bool false, .int .i64 0, .string (ByteArray.mk #[]), .int .i64 0, .int .i64 0, .string (ByteArray.mk #[]), .int .i64 0, .int .i64 0, .slice none 0 0, .int .i64 0, .string (ByteArray.mk #[]), .slice none 0 0, .int .i64 0, .int .i64 0, .slice none 0 0, .slice none 0 0, .int .i64 0, .slice a0_47_o a0_47.length a0_47_c, .int .i64 a0_48, .int .i64 a0_49, .int .i64 a0_50, .slice a0_51_o a0_51.length a0_51_c, .slice a0_52_o a0_52.length a0_52_c, .slice a0_53_o a0_53.length a0_53_c, .map (some a0_54b), a0_55_v, a0_56_v]]) (fun _ => by kernel_rfl) (fun _ => ⟨rfl, rfl, rfl, trivial⟩) ?_
  intro _
  refine GS.block ?_
  refine GS.loop ?_
  refine grd_elim hm (fun g62 hm => ?_)
  refine GS.setMem (mem' := [(1, r3 a0_47_o a0_47), (2, r40 a0_51_o a0_51), (3, r164 a0_52_o a0_52), (4, r75 a0_53_o a0_53), (5, mC nR60 nJ60 false a0_54b a0_54_c a0_54), (6, .rd (some ⟨a0b, 0, none⟩) 57 [(kc13 a0_3 a0_6 a0_7 a0_8 a0_9 a0_47_o a0_47.length a0_47_c a0_48 a0_49 a0_50 a0_51_o a0_51.length a0_51_c a0_52_o a0_52.length a0_52_c a0_53_o a0_53.length a0_53_c a0_54b a0_55_v a0_56_v)]), (20001, o3 none 0 ([] : List Int))]) (fun w hw => Sat.addNil hw rfl) ?_
  refine GS.rekey (env' := [(0, .pointer (some ⟨a0b, 0, none⟩)), (3, .slice none 0 0), (11, .slice a0_47_o a0_47.length a0_47_c), (12, .int .i64 ((a0_47.length : Nat) : Int)), (13, .int .i64 0)]) (mem' := [(1, r3 a0_47_o a0_47), (2, r40 a0_51_o a0_51), (3, r164 a0_52_o a0_52), (4, r75 a0_53_o a0_53), (5, mC nR60 nJ60 false a0_54b a0_54_c a0_54), (6, .rd (some ⟨a0b, 0, none⟩) 57 [(kc13 a0_3 a0_6 a0_7 a0_8 a0_9 a0_47_o a0_47.length a0_47_c a0_48 a0_49 a0_50 a0_51_o a0_51.length a0_51_c a0_52_o a0_52.length a0_52_c a0_53_o a0_53.length a0_53_c a0_54b a0_55_v a0_56_v)]), (20000, o3 none 0 ([] : List Int))]) [0, 3, 11, 12, 13] [(1, 1), (2, 2), (3, 3), (4, 4), (5, 5), (6, 6), (20000, 20001)] (by kernel_rfl) (by kernel_rfl) rfl ?_
  refine loopL_elim hm (fun st88 fn89 hst90 hfn91 hm => ?_)
  refine GS.loopInv (ι := List Int × Nat × List Int × Option Addr × Nat) (I := fun ⟨rs86, v13_1, l20000_1, o20000_1, k20000_1⟩ => a0_47.drop v13_1 = rs86 ∧ loopL st88 fn89 rs86 v13_1 l20000_1 = some y) (μ := fun ⟨rs86, v13_1, l20000_1, o20000_1, k20000_1⟩ => rs86.length) (E := fun ⟨rs86, v13_1, l20000_1, o20000_1, k20000_1⟩ => [(0, .pointer (some ⟨a0b, 0, none⟩)), (3, .slice o20000_1 l20000_1.length k20000_1), (11, .slice a0_47_o a0_47.length a0_47_c), (12, .int .i64 ((a0_47.length : Nat) : Int)), (13, .int .i64 ((v13_1 : Nat) : Int))]) (M := fun ⟨rs86, v13_1, l20000_1, o20000_1, k20000_1⟩ => [(1, r3 a0_47_o a0_47), (2, r40 a0_51_o a0_51), (3, r164 a0_52_o a0_52), (4, r75 a0_53_o a0_53), (5, mC nR60 nJ60 false a0_54b a0_54_c a0_54), (6, .rd (some ⟨a0b, 0, none⟩) 57 [(kc13 a0_3 a0_6 a0_7 a0_8 a0_9 a0_47_o a0_47.length a0_47_c a0_48 a0_49 a0_50 a0_51_o a0_51.length a0_51_c a0_52_o a0_52.length a0_52_c a0_53_o a0_53.length a0_53_c a0_54b a0_55_v a0_56_v)]), (20000, o3 o20000_1 k20000_1 l20000_1)]) ?_ ⟨a0_47, 0, ([] : List Int), none, 0⟩ ⟨List.drop_zero .., hm⟩
  rintro ⟨rs86, v13_1, l20000_1, o20000_1, k20000_1⟩ ⟨hd61, hm⟩ ih87
  cases rs86 with
  | nil =>
    replace hm := (hfn91 _ _).symm.trans hm
    try dsimp only at hm
    refine GS.seq ?_
    refine GS.rzM (fun _ => [(0, .pointer (some ⟨a0b, 0, none⟩)), (3, .slice o20000_1 l20000_1.length k20000_1), (11, .slice a0_47_o a0_47.length a0_47_c), (12, .int .i64 ((a0_47.length : Nat) : Int)), (13, .int .i64 ((v13_1 : Nat) : Int)), (14, .bool (decide (((v13_1 : Nat) : Int) < ((a0_47.length : Nat) : Int))))]) [] [0, 3, 11, 12, 13, 14] [1, 2, 3, 4, 5, 6, 20000] (fun _ => by kernel_rfl) ?_
    intro _
    refine GS.seq ?_
    refine GS.cond (t := decide (((v13_1 : Nat) : Int) < ((a0_47.length : Nat) : Int))) rfl rfl (fun h84 => absb h84 (drop_dec0 hd61)) (fun _ => ?_)
    refine GS.exit rfl ?_
    refine GS.seq ?_
    refine GS.rz (fun _ => [(2, .slice o20000_1 l20000_1.length k20000_1)]) (fun _ => [(20000, o3 o20000_1 k20000_1 l20000_1)]) [] [2] [20000] (fun _ => by kernel_rfl) ?_
    intro _
    have hy := Option.some.inj hm
    subst hy
    refine GS.ret (fn := Try.f14) [0] [.slice o20000_1 l20000_1.length k20000_1] [] rfl Try.func14 (by kernel_rfl) trivial (fun w' hs => ?_)
    exact ⟨⟨o20000_1, k20000_1⟩, rfl, hs.turnedG (ks := [20000]) rfl rfl⟩
  | cons x63 rs86 =>
    replace hm := (hst90 _ _ _ _).symm.trans hm
    try dsimp only at hm
    refine GS.seq ?_
    refine GS.rzM (fun _ => [(0, .pointer (some ⟨a0b, 0, none⟩)), (3, .slice o20000_1 l20000_1.length k20000_1), (11, .slice a0_47_o a0_47.length a0_47_c), (12, .int .i64 ((a0_47.length : Nat) : Int)), (13, .int .i64 ((v13_1 : Nat) : Int)), (14, .bool (decide (((v13_1 : Nat) : Int) < ((a0_47.length : Nat) : Int))))]) [] [0, 3, 11, 12, 13, 14] [1, 2, 3, 4, 5, 6, 20000] (fun _ => by kernel_rfl) ?_
    intro _
    refine GS.seq ?_
    refine GS.cond (t := decide (((v13_1 : Nat) : Int) < ((a0_47.length : Nat) : Int))) rfl rfl (fun _ => ?_) (fun h65 => absb (drop_dec hd61) h65)
    refine GS.skip ?_
    refine GS.seq ?_
    refine GS.block ?_
    refine GS.seq ?_
    refine GS.rgM (fun _ => [(0, .pointer (some ⟨a0b, 0, none⟩)), (3, .slice o20000_1 l20000_1.length k20000_1), (5, .int .i64 x63), (11, .slice a0_47_o a0_47.length a0_47_c), (12, .int .i64 ((a0_47.length : Nat) : Int)), (13, .int .i64 ((v13_1 : Nat) : Int))]) [(0, { act := .idx 1 v13_1 }), (1, { act := .load 1 v13_1 0 [.int .i64 x63] })] [0, 3, 5, 11, 12, 13] [1, 2, 3, 4, 5, 6, 20000] (fun _ => [a0_47_o = a0_47_o, a0_47.length = (List.map rI a0_47).length, (((v13_1 : Nat) : Int) : Int) = ((v13_1 : Nat) : Int), v13_1 < a0_47.length, blk a0_47_o = blk a0_47_o, offs a0_47_o + v13_1 * 1 = offs a0_47_o + (v13_1 * 1 + 0), (List.map rI a0_47)[v13_1]? = some [.int .i64 x63]]) (fun _ => by kernel_rfl) (fun _ => ⟨rfl, mlen rI a0_47, rfl, (drop_lt hd61), rfl, rfl, map_drop rI hd61, trivial⟩) ?_
    intro _
    refine GS.seq ?_
    refine GS.open_ ?_
    refine GR.rM (i := 0) 5 (env' := fun _ => [(0, .pointer (some ⟨a0b, 0, none⟩)), (3, .slice o20000_1 l20000_1.length k20000_1), (5, .int .i64 x63), (11, .slice a0_47_o a0_47.length a0_47_c), (12, .int .i64 ((a0_47.length : Nat) : Int)), (13, .int .i64 ((v13_1 : Nat) : Int)), (21, .map (some a0_54b)), (22, .int .i64 x63)]) (by kernel_rfl) (RunsTo.mk [(3, { act := .load 6 0 54 [.bool true, .int .i64 40, .int .i64 2, .int .i64 a0_3, .int .i64 0, .int .i64 0, .int .i64 a0_6, .int .i64 a0_7, .int .i64 a0_8, .int .i64 a0_9, .int .i64 0, .int .i64 0, .int .i64 0, .slice none 0 0, .slice none 0 0, .slice none 0 0, .int .i64 0, .int .i64 0, .int .i64 0, .int .i64 0, .int .i64 0, .int .i64 0, .int .i64 0, .int .i64 0, .int .i64 0, .slice none 0 0, .slice none 0 0, .slice none 0 0, .int .i64 0, .int .i64 0, .bool false, .int .i64 0, .string (ByteArray.mk #[]), .int .i64 0, .int .i64 0, .string (ByteArray.mk #[]), .int .i64 0, .int .i64 0, .slice none 0 0, .int .i64 0, .string (ByteArray.mk #[]), .slice none 0 0, .int .i64 0, .int .i64 0, .slice none 0 0, .slice none 0 0, .int .i64 0, .slice a0_47_o a0_47.length a0_47_c, .int .i64 a0_48, .int .i64 a0_49, .int .i64 a0_50, .slice a0_51_o a0_51.length a0_51_c, .slice a0_52_o a0_52.length a0_52_c, .slice a0_53_o a0_53.length a0_53_c, .map (some a0_54b), a0_55_v, a0_56_v] })] [0, 3, 5, 11, 12, 13, 21, 22] [1, 2, 3, 4, 5, 6, 20000] (fun _ => [a0b = blk (some ⟨a0b, 0, none⟩), 54 = offs (some ⟨a0b, 0, none⟩) + (0 * 57 + 54), ([(kc13 a0_3 a0_6 a0_7 a0_8 a0_9 a0_47_o a0_47.length a0_47_c a0_48 a0_49 a0_50 a0_51_o a0_51.length a0_51_c a0_52_o a0_52.length a0_52_c a0_53_o a0_53.length a0_53_c a0_54b a0_55_v a0_56_v)] : List (List Value))[0]? = some [.bool true, .int .i64 40, .int .i64 2, .int .i64 a0_3, .int .i64 0, .int .i64 0, .int .i64 a0_6, .int .i64 a0_7, .int .i64 a0_8, .int .i64 a0_9, .int .i64 0, .int .i64 0, .int .i64 0, .slice none 0 0, .slice none 0 0, .slice none 0 0, .int .i64 0, .int .i64 0, .int .i64 0, .int .i64 0, .int .i64 0, .int .i64 0, .int .i64 0, .int .i64 0, .int .i64 0, .slice none 0 0, .slice none 0 0, .slice none 0 0, .int .i64 0, .int .i64 0, .bool false, .int .i64 0, .string (ByteArray.mk #[]), .int .i64 0, .int .i64 0, .string (ByteArray.mk #[]), .int .i64 0, .int .i64 0, .slice none 0 0, .int .i64 0, .string (ByteArray.mk #[]), .slice none 0 0, .int .i64 0, .int .i64 0, .slice none 0 0, .slice none 0 0, .int .i64 0, .slice a0_47_o a0_47.length a0_47_c, .int .i64 a0_48, .int .i64 a0_49, .int .i64 a0_50, .slice a0_51_o a0_51.length a0_51_c, .slice a0_52_o a0_52.length a0_52_c, .slice a0_53_o a0_53.length a0_53_c, .map (some a0_54b), a0_55_v, a0_56_v]]) (fun _ => by kernel_rfl) (fun _ => ⟨rfl, rfl, rfl, trivial⟩)) ?_
    intro _
    refine GR.prim (X := Hd) (i := 5) (v := fun (g68 : Hd) => .tuple #[.agg #[.int .i64 ((cget dS_scrub_Copy a0_54 x63).Osd), .slice ((g68 0).1) (((cget dS_scrub_Copy a0_54 x63).Items).length) ((g68 0).2), .slice ((g68 1).1) (((cget dS_scrub_Copy a0_54 x63).Bad).length) ((g68 1).2)], .bool (chas a0_54 x63)]) (mem' := fun (g68 : Hd) => [(1, r3 a0_47_o a0_47), (2, r40 a0_51_o a0_51), (3, r164 a0_52_o a0_52), (4, r75 a0_53_o a0_53), (5, mC nR60 nJ60 false a0_54b a0_54_c a0_54), (6, .rd (some ⟨a0b, 0, none⟩) 57 [(kc13 a0_3 a0_6 a0_7 a0_8 a0_9 a0_47_o a0_47.length a0_47_c a0_48 a0_49 a0_50 a0_51_o a0_51.length a0_51_c a0_52_o a0_52.length a0_52_c a0_53_o a0_53.length a0_53_c a0_54b a0_55_v a0_56_v)]), (20000, o3 o20000_1 k20000_1 l20000_1)]) (env' := fun (g68 : Hd) => [(0, .pointer (some ⟨a0b, 0, none⟩)), (3, .slice o20000_1 l20000_1.length k20000_1), (5, .int .i64 x63), (11, .slice a0_47_o a0_47.length a0_47_c), (12, .int .i64 ((a0_47.length : Nat) : Int)), (13, .int .i64 ((v13_1 : Nat) : Int)), (23, .tuple #[.agg #[.int .i64 ((cget dS_scrub_Copy a0_54 x63).Osd), .slice ((g68 0).1) (((cget dS_scrub_Copy a0_54 x63).Items).length) ((g68 0).2), .slice ((g68 1).1) (((cget dS_scrub_Copy a0_54 x63).Bad).length) ((g68 1).2)], .bool (chas a0_54 x63)])]) [0, 3, 5, 11, 12, 13, 23] (by kernel_rfl) (by kernel_rfl) (fun w hw => (mc_has (P := Try.prog) (t := 67) (et := 60) (R := nR60) (J := nJ60) (K := 5) dS_scrub_Copy x63 hw rfl (by kernel_rfl) (by kernel_rfl) nZ60).elim fun x h => h.elim fun w' h => ⟨x, w', exec_lookup rfl h.1, h.2⟩) (by rintro g68; kernel_rfl) ?_
    rintro g68
    refine GR.rM (i := 6) 6 (env' := fun fr69 => [(0, .pointer (some ⟨a0b, 0, none⟩)), (3, .slice o20000_1 l20000_1.length k20000_1), (5, .int .i64 x63), (7, .bool (chas a0_54 x63)), (11, .slice a0_47_o a0_47.length a0_47_c), (12, .int .i64 ((a0_47.length : Nat) : Int)), (13, .int .i64 ((v13_1 : Nat) : Int))]) (by kernel_rfl) (RunsTo.mk [(9, { act := .new .var, key := some 20001 }), (10, { act := .store 0 0 [], key := some 20001 })] [0, 3, 5, 7, 11, 12, 13] [1, 2, 3, 4, 5, 6, 20000] (fun fr69 => [(fr69 9).x = (fr69 9).x, ((.agg #[.int .i64 ((cget dS_scrub_Copy a0_54 x63).Osd), .slice ((g68 0).1) (((cget dS_scrub_Copy a0_54 x63).Items).length) ((g68 0).2), .slice ((g68 1).1) (((cget dS_scrub_Copy a0_54 x63).Bad).length) ((g68 1).2)]) : Value).cells.toList.all Value.oneCell' = true]) (fun fr69 => by kernel_rfl) (fun fr69 => ⟨rfl, rfl, trivial⟩)) ?_
    intro fr69
    refine GR.dn (by kernel_rfl) ?_
    refine GS.seq ?_
    refine GS.rzM (fun _ => [(0, .pointer (some ⟨a0b, 0, none⟩)), (3, .slice o20000_1 l20000_1.length k20000_1), (5, .int .i64 x63), (11, .slice a0_47_o a0_47.length a0_47_c), (12, .int .i64 ((a0_47.length : Nat) : Int)), (13, .int .i64 ((v13_1 : Nat) : Int)), (27, .bool (!(chas a0_54 x63)))]) [] [0, 3, 5, 11, 12, 13, 27] [1, 2, 3, 4, 5, 6, 20000] (fun _ => by kernel_rfl) ?_
    intro _
    refine GS.cond (t := !(chas a0_54 x63)) rfl rfl (fun h71 => ?_) (fun h71 => ?_)
    · replace hm := br_t h71 hm
      refine grd_elim hm (fun g73 hm => ?_)
      refine GS.rg (fun fr72 => [(0, .pointer (some ⟨a0b, 0, none⟩)), (3, .slice ((fr72 3).ob) ((l20000_1 ++ [x63]).length) ((fr72 3).cap)), (11, .slice a0_47_o a0_47.length a0_47_c), (12, .int .i64 ((a0_47.length : Nat) : Int)), (13, .int .i64 ((v13_1 : Nat) : Int))]) (fun fr72 => [(1, r3 a0_47_o a0_47), (2, r40 a0_51_o a0_51), (3, r164 a0_52_o a0_52), (4, r75 a0_53_o a0_53), (5, mC nR60 nJ60 false a0_54b a0_54_c a0_54), (6, .rd (some ⟨a0b, 0, none⟩) 57 [(kc13 a0_3 a0_6 a0_7 a0_8 a0_9 a0_47_o a0_47.length a0_47_c a0_48 a0_49 a0_50 a0_51_o a0_51.length a0_51_c a0_52_o a0_52.length a0_52_c a0_53_o a0_53.length a0_53_c a0_54b a0_55_v a0_56_v)]), (20000, .osl ((fr72 3).ob) ((fr72 3).cap) 3 1 ((List.map rI l20000_1) ++ ([[.int .i64 x63]] : List (List Value))))]) [(2, { act := .new (.row 1 1), key := some 20002 }), (3, { act := .app (some 20002), key := some 20000, spf := some (fun f => .slice (f.ob) ((l20000_1 ++ [x63]).length) (f.cap)) })] [0, 3, 11, 12, 13] [1, 2, 3, 4, 5, 6, 20000] (fun fr72 => [(some (Addr.mk (fr72 2).x 0 none)) = (some (Addr.mk (fr72 2).x 0 none)), 1 = ([[.int .i64 x63]] : List (List Value)).length, o20000_1 = o20000_1, k20000_1 = k20000_1, l20000_1.length = (List.map rI l20000_1).length, ((List.map rI l20000_1).length + ([[.int .i64 x63]] : List (List Value)).length) * (8 + 1) ≤ 70368744177664, ([[.int .i64 x63]] : List (List Value)).flatten.all Value.oneCell' = true, ((.slice ((fr72 3).ob) (l20000_1.length + ([[.int .i64 x63]] : List (List Value)).length) ((fr72 3).cap)) : Value) = .slice ((fr72 3).ob) ((l20000_1 ++ [x63]).length) ((fr72 3).cap)]) (fun fr72 => by kernel_rfl) (fun fr72 => ⟨rfl, rfl, rfl, rfl, mlen rI l20000_1, appb g73 (mlen rI l20000_1).symm (by rw [show ([[.int .i64 x63]] : List (List Value)) = List.map rI [x63] from rfl]; exact (mlen rI [x63]).symm), (by rw [show ([[.int .i64 x63]] : List (List Value)) = List.map rI [x63] from (show ([[.int .i64 x63]] : List (List Value)) = List.map rI [x63] from rfl)]; exact all_one rI _ (fun _ => rfl)), slen (by simp), trivial⟩) ?_
      intro fr72
      refine GS.conv (mem' := [(1, r3 a0_47_o a0_47), (2, r40 a0_51_o a0_51), (3, r164 a0_52_o a0_52), (4, r75 a0_53_o a0_53), (5, mC nR60 nJ60 false a0_54b a0_54_c a0_54), (6, .rd (some ⟨a0b, 0, none⟩) 57 [(kc13 a0_3 a0_6 a0_7 a0_8 a0_9 a0_47_o a0_47.length a0_47_c a0_48 a0_49 a0_50 a0_51_o a0_51.length a0_51_c a0_52_o a0_52.length a0_52_c a0_53_o a0_53.length a0_53_c a0_54b a0_55_v a0_56_v)]), (20000, o3 ((fr72 3).ob) ((fr72 3).cap) (l20000_1 ++ [x63]))]) rfl (congrArg (fun rr : List (List Value) => ([(1, r3 a0_47_o a0_47), (2, r40 a0_51_o a0_51), (3, r164 a0_52_o a0_52), (4, r75 a0_53_o a0_53), (5, mC nR60 nJ60 false a0_54b a0_54_c a0_54), (6, .rd (some ⟨a0b, 0, none⟩) 57 [(kc13 a0_3 a0_6 a0_7 a0_8 a0_9 a0_47_o a0_47.length a0_47_c a0_48 a0_49 a0_50 a0_51_o a0_51.length a0_51_c a0_52_o a0_52.length a0_52_c a0_53_o a0_53.length a0_53_c a0_54b a0_55_v a0_56_v)]), (20000, .osl ((fr72 3).ob) ((fr72 3).cap) 3 1 rr)] : List (Nat × Ent))) (show (List.map rI l20000_1) ++ ([[.int .i64 x63]] : List (List Value)) = List.map rI (l20000_1 ++ [x63]) from (by rw [show List.map rI l20000_1 = List.map rI l20000_1 from rfl, show ([[.int .i64 x63]] : List (List Value)) = List.map rI [x63] from (show ([[.int .i64 x63]] : List (List Value)) = List.map rI [x63] from rfl)]; exact mapp rI _ _))) ?_
      refine GS.inBlock ?_
      refine GS.rgM (fun _ => [(0, .pointer (some ⟨a0b, 0, none⟩)), (3, .slice ((fr72 3).ob) ((l20000_1 ++ [x63]).length) ((fr72 3).cap)), (11, .slice a0_47_o a0_47.length a0_47_c), (12, .int .i64 ((a0_47.length : Nat) : Int)), (13, .int .i64 ((v13_1 + 1 : Nat) : Int))]) [(0, { sp := some (.int .i64 ((v13_1 + 1 : Nat) : Int)) })] [0, 3, 11, 12, 13] [1, 2, 3, 4, 5, 6, 20000] (fun _ => [((.int .i64 (IntKind.i64.wrap (((v13_1 : Nat) : Int) + 1))) : Value) = .int .i64 ((v13_1 + 1 : Nat) : Int)]) (fun _ => by kernel_rfl) (fun _ => ⟨natw (drop_lt hd61) g62, trivial⟩) ?_
      intro _
      refine GS.inLoop ?_
      refine GS.rekey (env' := [(0, .pointer (some ⟨a0b, 0, none⟩)), (3, .slice ((fr72 3).ob) ((l20000_1 ++ [x63]).length) ((fr72 3).cap)), (11, .slice a0_47_o a0_47.length a0_47_c), (12, .int .i64 ((a0_47.length : Nat) : Int)), (13, .int .i64 ((v13_1 + 1 : Nat) : Int))]) (mem' := [(1, r3 a0_47_o a0_47), (2, r40 a0_51_o a0_51), (3, r164 a0_52_o a0_52), (4, r75 a0_53_o a0_53), (5, mC nR60 nJ60 false a0_54b a0_54_c a0_54), (6, .rd (some ⟨a0b, 0, none⟩) 57 [(kc13 a0_3 a0_6 a0_7 a0_8 a0_9 a0_47_o a0_47.length a0_47_c a0_48 a0_49 a0_50 a0_51_o a0_51.length a0_51_c a0_52_o a0_52.length a0_52_c a0_53_o a0_53.length a0_53_c a0_54b a0_55_v a0_56_v)]), (20000, o3 ((fr72 3).ob) ((fr72 3).cap) (l20000_1 ++ [x63]))]) [0, 3, 11, 12, 13] [(1, 1), (2, 2), (3, 3), (4, 4), (5, 5), (6, 6), (20000, 20000)] (by kernel_rfl) (by kernel_rfl) rfl ?_
      exact ih87 ⟨rs86, v13_1 + 1, (l20000_1 ++ [x63]), (fr72 3).ob, (fr72 3).cap⟩ ⟨drop_next hd61, hm⟩ (Nat.lt_succ_self _)
    · replace hm := br_f h71 hm
      refine GS.skip ?_
      refine GS.inBlock ?_
      refine GS.rgM (fun _ => [(0, .pointer (some ⟨a0b, 0, none⟩)), (3, .slice o20000_1 l20000_1.length k20000_1), (11, .slice a0_47_o a0_47.length a0_47_c), (12, .int .i64 ((a0_47.length : Nat) : Int)), (13, .int .i64 ((v13_1 + 1 : Nat) : Int))]) [(0, { sp := some (.int .i64 ((v13_1 + 1 : Nat) : Int)) })] [0, 3, 11, 12, 13] [1, 2, 3, 4, 5, 6, 20000] (fun _ => [((.int .i64 (IntKind.i64.wrap (((v13_1 : Nat) : Int) + 1))) : Value) = .int .i64 ((v13_1 + 1 : Nat) : Int)]) (fun _ => by kernel_rfl) (fun _ => ⟨natw (drop_lt hd61) g62, trivial⟩) ?_
      intro _
      refine GS.inLoop ?_
      refine GS.rekey (env' := [(0, .pointer (some ⟨a0b, 0, none⟩)), (3, .slice o20000_1 l20000_1.length k20000_1), (11, .slice a0_47_o a0_47.length a0_47_c), (12, .int .i64 ((a0_47.length : Nat) : Int)), (13, .int .i64 ((v13_1 + 1 : Nat) : Int))]) (mem' := [(1, r3 a0_47_o a0_47), (2, r40 a0_51_o a0_51), (3, r164 a0_52_o a0_52), (4, r75 a0_53_o a0_53), (5, mC nR60 nJ60 false a0_54b a0_54_c a0_54), (6, .rd (some ⟨a0b, 0, none⟩) 57 [(kc13 a0_3 a0_6 a0_7 a0_8 a0_9 a0_47_o a0_47.length a0_47_c a0_48 a0_49 a0_50 a0_51_o a0_51.length a0_51_c a0_52_o a0_52.length a0_52_c a0_53_o a0_53.length a0_53_c a0_54b a0_55_v a0_56_v)]), (20000, o3 o20000_1 k20000_1 l20000_1)]) [0, 3, 11, 12, 13] [(1, 1), (2, 2), (3, 3), (4, 4), (5, 5), (6, 6), (20000, 20000)] (by kernel_rfl) (by kernel_rfl) rfl ?_
      exact ih87 ⟨rs86, v13_1 + 1, l20000_1, o20000_1, k20000_1⟩ ⟨drop_next hd61, hm⟩ (Nat.lt_succ_self _)

theorem w___scrub_Machine__Done (F : Nat) (a0b : Nat) (a0_3 : Int) (a0_6 : Int) (a0_7 : Int) (a0_8 : Int) (a0_9 : Int) (a0_47_o : Option Addr) (a0_47_c : Nat) (a0_47 : List Int) (a0_48 : Int) (a0_49 : Int) (a0_50 : Int) (a0_51_o : Option Addr) (a0_51_c : Nat) (a0_51 : List S_api_Entry) (a0_52_o : Option Addr) (a0_52_c : Nat) (a0_52 : List S_api_Last) (a0_53_o : Option Addr) (a0_53_c : Nat) (a0_53 : List S_api_Item) (a0_54b : Nat) (a0_54_c : Nat) (a0_54 : List (Int × S_scrub_Copy)) (a0_55_v : Value) (a0_56_v : Value) {y : Bool} (hm : m___scrub_Machine__Done F a0_3 a0_6 a0_7 a0_8 a0_9 a0_47 a0_48 a0_49 a0_50 a0_51 a0_52 a0_53 a0_54 = some y) : CallG Try.prog 7 #[.pointer (some ⟨a0b, 0, none⟩)] (X := Unit) (fun (_ : Unit) => .bool y) [] [r3 a0_47_o a0_47, r40 a0_51_o a0_51, r164 a0_52_o a0_52, r75 a0_53_o a0_53, mC nR60 nJ60 false a0_54b a0_54_c a0_54, .rd (some ⟨a0b, 0, none⟩) 57 [(kc13 a0_3 a0_6 a0_7 a0_8 a0_9 a0_47_o a0_47.length a0_47_c a0_48 a0_49 a0_50 a0_51_o a0_51.length a0_51_c a0_52_o a0_52.length a0_52_c a0_53_o a0_53.length a0_53_c a0_54b a0_55_v a0_56_v)]] (fun (_ : Unit) => []) := by
  intro w hg
  rw [m___scrub_Machine__Done] at hm
  refine GS.start (S := mayT [] [r3 a0_47_o a0_47, r40 a0_51_o a0_51, r164 a0_52_o a0_52, r75 a0_53_o a0_53, mC nR60 nJ60 false a0_54b a0_54_c a0_54, .rd (some ⟨a0b, 0, none⟩) 57 [(kc13 a0_3 a0_6 a0_7 a0_8 a0_9 a0_47_o a0_47.length a0_47_c a0_48 a0_49 a0_50 a0_51_o a0_51.length a0_51_c a0_52_o a0_52.length a0_52_c a0_53_o a0_53.length a0_53_c a0_54b a0_55_v a0_56_v)]]) (mem := [(1, r3 a0_47_o a0_47), (2, r40 a0_51_o a0_51), (3, r164 a0_52_o a0_52), (4, r75 a0_53_o a0_53), (5, mC nR60 nJ60 false a0_54b a0_54_c a0_54), (6, .rd (some ⟨a0b, 0, none⟩) 57 [(kc13 a0_3 a0_6 a0_7 a0_8 a0_9 a0_47_o a0_47.length a0_47_c a0_48 a0_49 a0_50 a0_51_o a0_51.length a0_51_c a0_52_o a0_52.length a0_52_c a0_53_o a0_53.length a0_53_c a0_54b a0_55_v a0_56_v)])]) Try.func7 rfl Try.ntmps7 (Nat.le_of_ble_eq_true rfl) (hg.start rfl) ?_
  refine GS.conv (env' := [(0, .pointer (some ⟨a0b, 0, none⟩))]) rfl rfl ?_
  refine GS.seq ?_
  refine GS.rzM (fun _ => [(0, .pointer (some ⟨a0b, 0, none⟩))]) [] [0] [1, 2, 3, 4, 5, 6] (fun _ => by kernel_rfl) ?_
  intro _
  refine GS.seq ?_
  refine bnd_elim hm (fun y3 e4 hm => ?_)
  refine bnd_elim hm (fun y5 e6 hm => ?_)
  refine GS.open_ ?_
  refine GR.rM (i := 0) 4 (env' := fun _ => [(5, .bool true), (6, .pointer (some ⟨a0b, 0, none⟩))]) (by kernel_rfl) (RunsTo.mk [(1, { act := .call [1, 2, 3, 4, 5, 6] (.bool true) })] [5, 6] [1, 2, 3, 4, 5, 6] (fun _ => [CallOK Try.prog 12 #[.pointer (some ⟨a0b, 0, none⟩)] (.bool true) [some (r3 a0_47_o a0_47), some (r40 a0_51_o a0_51), some (r164 a0_52_o a0_52), some (r75 a0_53_o a0_53), some (mC nR60 nJ60 false a0_54b a0_54_c a0_54), some (.rd (some ⟨a0b, 0, none⟩) 57 [(kc13 a0_3 a0_6 a0_7 a0_8 a0_9 a0_47_o a0_47.length a0_47_c a0_48 a0_49 a0_50 a0_51_o a0_51.length a0_51_c a0_52_o a0_52.length a0_52_c a0_53_o a0_53.length a0_53_c a0_54b a0_55_v a0_56_v)])]]) (fun _ => by kernel_rfl) (fun _ => ⟨(by have h1 := w___scrub_Machine__is F a0b a0_3 a0_6 a0_7 a0_8 a0_9 a0_47_o a0_47_c a0_47 a0_48 a0_49 a0_50 a0_51_o a0_51_c a0_51 a0_52_o a0_52_c a0_52 a0_53_o a0_53_c a0_53 a0_54b a0_54_c a0_54 a0_55_v a0_56_v e4; exact h1.ok ⟨(.inl ⟨r3 a0_47_o a0_47, .head _, Cov.refl _⟩), (.inl ⟨r40 a0_51_o a0_51, (.tail _ (.head _)), Cov.refl _⟩), (.inl ⟨r164 a0_52_o a0_52, (.tail _ (.tail _ (.head _))), Cov.refl _⟩), (.inl ⟨r75 a0_53_o a0_53, (.tail _ (.tail _ (.tail _ (.head _)))), Cov.refl _⟩), (.inl ⟨mC nR60 nJ60 false a0_54b a0_54_c a0_54, (.tail _ (.tail _ (.tail _ (.tail _ (.head _))))), Cov.refl _⟩), (.inl ⟨.rd (some ⟨a0b, 0, none⟩) 57 [(kc13 a0_3 a0_6 a0_7 a0_8 a0_9 a0_47_o a0_47.length a0_47_c a0_48 a0_49 a0_50 a0_51_o a0_51.length a0_51_c a0_52_o a0_52.length a0_52_c a0_53_o a0_53.length a0_53_c a0_54b a0_55_v a0_56_v)], (.tail _ (.tail _ (.tail _ (.tail _ (.tail _ (.head _)))))), Cov.refl _⟩), trivial⟩), trivial⟩)) ?_
  intro _
  refine GR.callG (X := Option Addr × Nat) (i := 4) (g := 14) (args := #[.pointer (some ⟨a0b, 0, none⟩)]) (v := fun ⟨x7, x8⟩ => .slice x7 y5.length x8) (own := []) (ro := [r3 a0_47_o a0_47, r40 a0_51_o a0_51, r164 a0_52_o a0_52, r75 a0_53_o a0_53, mC nR60 nJ60 false a0_54b a0_54_c a0_54, .rd (some ⟨a0b, 0, none⟩) 57 [(kc13 a0_3 a0_6 a0_7 a0_8 a0_9 a0_47_o a0_47.length a0_47_c a0_48 a0_49 a0_50 a0_51_o a0_51.length a0_51_c a0_52_o a0_52.length a0_52_c a0_53_o a0_53.length a0_53_c a0_54b a0_55_v a0_56_v)]]) (es' := fun ⟨x7, x8⟩ => [o3 x7 x8 y5]) (mem' := fun ⟨x7, x8⟩ => [(1, r3 a0_47_o a0_47), (2, r40 a0_51_o a0_51), (3, r164 a0_52_o a0_52), (4, r75 a0_53_o a0_53), (5, mC nR60 nJ60 false a0_54b a0_54_c a0_54), (6, .rd (some ⟨a0b, 0, none⟩) 57 [(kc13 a0_3 a0_6 a0_7 a0_8 a0_9 a0_47_o a0_47.length a0_47_c a0_48 a0_49 a0_50 a0_51_o a0_51.length a0_51_c a0_52_o a0_52.length a0_52_c a0_53_o a0_53.length a0_53_c a0_54b a0_55_v a0_56_v)]), (7, o3 x7 x8 y5)]) (env' := fun ⟨x7, x8⟩ => [(5, .bool true), (7, .slice x7 y5.length x8)]) [] [7] [5, 7] [1, 2, 3, 4, 5, 6, 7] false (by kernel_rfl) (by kernel_rfl) (by kernel_rfl) (by kernel_rfl) (by kernel_rfl) (fun _ => rfl) (fun _ _ => rfl) ⟨(.inl ⟨1, _, rfl, rfl, Cov.refl _, fun h => by cases h⟩), (.inl ⟨2, _, rfl, rfl, Cov.refl _, fun h => by cases h⟩), (.inl ⟨3, _, rfl, rfl, Cov.refl _, fun h => by cases h⟩), (.inl ⟨4, _, rfl, rfl, Cov.refl _, fun h => by cases h⟩), (.inl ⟨5, _, rfl, rfl, Cov.refl _, fun h => by cases h⟩), (.inl ⟨6, _, rfl, rfl, Cov.refl _, fun h => by cases h⟩), trivial⟩ (by rintro ⟨x7, x8⟩; kernel_rfl) (by rintro ⟨x7, x8⟩; kernel_rfl) ((by have h1 := w___scrub_Machine__left F a0b a0_3 a0_6 a0_7 a0_8 a0_9 a0_47_o a0_47_c a0_47 a0_48 a0_49 a0_50 a0_51_o a0_51_c a0_51 a0_52_o a0_52_c a0_52 a0_53_o a0_53_c a0_53 a0_54b a0_54_c a0_54 a0_55_v a0_56_v e6; exact h1)) ?_
  rintro ⟨x7, x8⟩
  refine GR.ru (i := 5) 4 (env' := fun _ => [(2, .bool (((y5.length : Nat) : Int) == 0))]) (mem' := fun _ => []) (by kernel_rfl) (RunsTo.mk [] [2] [] (fun _ => []) (fun _ => by kernel_rfl) (fun _ => trivial)) ?_
  intro _
  refine GR.dn (by kernel_rfl) ?_
  have hy := Option.some.inj hm
  subst hy
  refine GS.ret (fn := Try.f7) [0] [.bool (((y5.length : Nat) : Int) == 0)] [] rfl Try.func7 (by kernel_rfl) trivial (fun w' hs => ?_)
  exact ⟨(), rfl, hs.turnedG (ks := []) rfl rfl⟩

theorem w_slices_Index___api_Item_api_Item__3 (F : Nat) (a0_o : Option Addr) (a0_c : Nat) (a0 : List S_api_Item) (a1 : S_api_Item) {y : Int} (hm : m_slices_Index___api_Item_api_Item__3 F a0 a1 = some y) : CallG Try.prog 38 #[.slice a0_o a0.length a0_c, .agg ((kc14 a1.Name a1.Version.Epoch a1.Version.N a1.Crc)).toArray] (X := Unit) (fun (_ : Unit) => .int .i64 y) [] [r75 a0_o a0] (fun (_ : Unit) => []) := by
  intro w hg
  rw [m_slices_Index___api_Item_api_Item__3] at hm
  refine GS.start (S := mayT [] [r75 a0_o a0]) (mem := [(1, r75 a0_o a0)]) Try.func38 rfl Try.ntmps38 (Nat.le_of_ble_eq_true rfl) (hg.start rfl) ?_
  refine GS.conv (env' := [(0, .slice a0_o a0.length a0_c), (1, .agg ((kc14 a1.Name a1.Version.Epoch a1.Version.N a1.Crc)).toArray)]) rfl rfl ?_
  refine GS.seq ?_
  refine GS.rz (fun fr1 => [(0, .slice a0_o a0.length a0_c), (3, .pointer (some ⟨(fr1 0).x, 0, none⟩))]) (fun fr1 => [(1, r75 a0_o a0), (2, .cells ((fr1 0).x) 75 (kc14 a1.Name a1.Version.Epoch a1.Version.N a1.Crc))]) [(0, { act := .new .var, key := some 2 })] [0, 3] [1, 2] (fun fr1 => by kernel_rfl) ?_
  intro fr1
  refine GS.seq ?_
  refine GS.seq ?_
  refine GS.rzM (fun _ => [(0, .slice a0_o a0.length a0_c), (3, .pointer (some ⟨(fr1 0).x, 0, none⟩)), (7, .int .i64 ((a0.length : Nat) : Int)), (8, .int .i64 0)]) [] [0, 3, 7, 8] [1, 2] (fun _ => by kernel_rfl) ?_
  intro _
  refine GS.block ?_
  refine GS.loop ?_
  refine grd_elim hm (fun g21 hm => ?_)
  refine GS.rekey (env' := [(0, .slice a0_o a0.length a0_c), (3, .pointer (some ⟨(fr1 0).x, 0, none⟩)), (7, .int .i64 ((a0.length : Nat) : Int)), (8, .int .i64 0)]) (mem' := [(1, r75 a0_o a0), (2, .cells ((fr1 0).x) 75 (kc14 a1.Name a1.Version.Epoch a1.Version.N a1.Crc))]) [0, 3, 7, 8] [(1, 1), (2, 2)] (by kernel_rfl) (by kernel_rfl) rfl ?_
  refine loopL_elim hm (fun st35 fn36 hst37 hfn38 hm => ?_)
  refine GS.loopInv (ι := List S_api_Item × Nat) (I := fun ⟨rs33, v8_1⟩ => a0.drop v8_1 = rs33 ∧ loopL st35 fn36 rs33 v8_1 () = some y) (μ := fun ⟨rs33, v8_1⟩ => rs33.length) (E := fun ⟨rs33, v8_1⟩ => [(0, .slice a0_o a0.length a0_c), (3, .pointer (some ⟨(fr1 0).x, 0, none⟩)), (7, .int .i64 ((a0.length : Nat) : Int)), (8, .int .i64 ((v8_1 : Nat) : Int))]) (M := fun ⟨rs33, v8_1⟩ => [(1, r75 a0_o a0), (2, .cells ((fr1 0).x) 75 (kc14 a1.Name a1.Version.Epoch a1.Version.N a1.Crc))]) ?_ ⟨a0, 0⟩ ⟨List.drop_zero .., hm⟩
  rintro ⟨rs33, v8_1⟩ ⟨hd20, hm⟩ ih34
  cases rs33 with
  | nil =>
    replace hm := (hfn38 _ _).symm.trans hm
    try dsimp only at hm
    refine GS.seq ?_
    refine GS.rzM (fun _ => [(0, .slice a0_o a0.length a0_c), (3, .pointer (some ⟨(fr1 0).x, 0, none⟩)), (7, .int .i64 ((a0.length : Nat) : Int)), (8, .int .i64 ((v8_1 : Nat) : Int)), (9, .bool (decide (((v8_1 : Nat) : Int) < ((a0.length : Nat) : Int))))]) [] [0, 3, 7, 8, 9] [1, 2] (fun _ => by kernel_rfl) ?_
    intro _
    refine GS.seq ?_
    refine GS.cond (t := decide (((v8_1 : Nat) : Int) < ((a0.length : Nat) : Int))) rfl rfl (fun h31 => absb h31 (drop_dec0 hd20)) (fun _ => ?_)
    refine GS.exit rfl ?_
    refine GS.seq ?_
    refine GS.rz (fun _ => [(4, .int .i64 (-1))]) (fun _ => []) [] [4] [] (fun _ => by kernel_rfl) ?_
    intro _
    have hy := Option.some.inj hm
    subst hy
    refine GS.ret (fn := Try.f38) [0] [.int .i64 (-1)] [] rfl Try.func38 (by kernel_rfl) trivial (fun w' hs => ?_)
    exact ⟨(), rfl, hs.turnedG (ks := []) rfl rfl⟩
  | cons x22 rs33 =>
    replace hm := (hst37 _ _ _ _).symm.trans hm
    try dsimp only at hm
    refine GS.seq ?_
    refine GS.rzM (fun _ => [(0, .slice a0_o a0.length a0_c), (3, .pointer (some ⟨(fr1 0).x, 0, none⟩)), (7, .int .i64 ((a0.length : Nat) : Int)), (8, .int .i64 ((v8_1 : Nat) : Int)), (9, .bool (decide (((v8_1 : Nat) : Int) < ((a0.length : Nat) : Int))))]) [] [0, 3, 7, 8, 9] [1, 2] (fun _ => by kernel_rfl) ?_
    intro _
    refine GS.seq ?_
    refine GS.cond (t := decide (((v8_1 : Nat) : Int) < ((a0.length : Nat) : Int))) rfl rfl (fun _ => ?_) (fun h24 => absb (drop_dec hd20) h24)
    refine GS.skip ?_
    refine GS.seq ?_
    refine GS.block ?_
    refine GS.seq ?_
    refine GS.rzM (fun _ => [(0, .slice a0_o a0.length a0_c), (3, .pointer (some ⟨(fr1 0).x, 0, none⟩)), (5, .int .i64 ((v8_1 : Nat) : Int)), (7, .int .i64 ((a0.length : Nat) : Int)), (8, .int .i64 ((v8_1 : Nat) : Int))]) [] [0, 3, 5, 7, 8] [1, 2] (fun _ => by kernel_rfl) ?_
    intro _
    refine GS.seq ?_
    refine GS.rM (env' := fun _ => [(0, .slice a0_o a0.length a0_c), (3, .pointer (some ⟨(fr1 0).x, 0, none⟩)), (5, .int .i64 ((v8_1 : Nat) : Int)), (7, .int .i64 ((a0.length : Nat) : Int)), (8, .int .i64 ((v8_1 : Nat) : Int)), (16, .bool (S_api_Item.beq a1 x22))]) (RunsTo.mkd [(0, { act := .load 2 0 0 [] }), (3, { act := .idx 1 v8_1 }), (4, { act := .load 1 v8_1 0 [.string x22.Name, .int .i64 x22.Version.Epoch, .int .i64 x22.Version.N, .int .u32 x22.Crc] }), (5, { act := .eq })] [0, 3, 5, 7, 8, 16] [1, 2] (fun _ => [(fr1 0).x = (fr1 0).x, a0_o = a0_o, a0.length = (List.map S_api_Item.row a0).length, (((v8_1 : Nat) : Int) : Int) = ((v8_1 : Nat) : Int), v8_1 < a0.length, blk a0_o = blk a0_o, offs a0_o + v8_1 * 4 = offs a0_o + (v8_1 * 4 + 0), (List.map S_api_Item.row a0)[v8_1]? = some [.string x22.Name, .int .i64 x22.Version.Epoch, .int .i64 x22.Version.N, .int .u32 x22.Crc]]) (by kernel_rfl) (by kernel_rfl) (fun _ => by kernel_rfl) (fun _ => ⟨rfl, rfl, mlen S_api_Item.row a0, rfl, (drop_lt hd20), rfl, rfl, map_drop S_api_Item.row hd20, trivial⟩)) ?_
    intro _
    refine GS.cond (t := S_api_Item.beq a1 x22) rfl rfl (fun h27 => ?_) (fun h27 => ?_)
    · replace hm := br_t h27 hm
      refine GS.seq ?_
      refine GS.rz (fun _ => [(4, .int .i64 ((v8_1 : Nat) : Int))]) (fun _ => []) [] [4] [] (fun _ => by kernel_rfl) ?_
      intro _
      have hy := Option.some.inj hm
      subst hy
      refine GS.ret (fn := Try.f38) [0] [.int .i64 ((v8_1 : Nat) : Int)] [] rfl Try.func38 (by kernel_rfl) trivial (fun w' hs => ?_)
      exact ⟨(), rfl, hs.turnedG (ks := []) rfl rfl⟩
    · replace hm := br_f h27 hm
      refine GS.skip ?_
      refine GS.inBlock ?_
      refine GS.rgM (fun _ => [(0, .slice a0_o a0.length a0_c), (3, .pointer (some ⟨(fr1 0).x, 0, none⟩)), (7, .int .i64 ((a0.length : Nat) : Int)), (8, .int .i64 ((v8_1 + 1 : Nat) : Int))]) [(0, { sp := some (.int .i64 ((v8_1 + 1 : Nat) : Int)) })] [0, 3, 7, 8] [1, 2] (fun _ => [((.int .i64 (IntKind.i64.wrap (((v8_1 : Nat) : Int) + 1))) : Value) = .int .i64 ((v8_1 + 1 : Nat) : Int)]) (fun _ => by kernel_rfl) (fun _ => ⟨natw (drop_lt hd20) g21, trivial⟩) ?_
      intro _
      refine GS.inLoop ?_
      refine GS.rekey (env' := [(0, .slice a0_o a0.length a0_c), (3, .pointer (some ⟨(fr1 0).x, 0, none⟩)), (7, .int .i64 ((a0.length : Nat) : Int)), (8, .int .i64 ((v8_1 + 1 : Nat) : Int))]) (mem' := [(1, r75 a0_o a0), (2, .cells ((fr1 0).x) 75 (kc14 a1.Name a1.Version.Epoch a1.Version.N a1.Crc))]) [0, 3, 7, 8] [(1, 1), (2, 2)] (by kernel_rfl) (by kernel_rfl) rfl ?_
      exact ih34 ⟨rs33, v8_1 + 1⟩ ⟨drop_next hd20, hm⟩ (Nat.lt_succ_self _)

theorem w_slices_Contains___api_Item_api_Item__3 (F : Nat) (a0_o : Option Addr) (a0_c : Nat) (a0 : List S_api_Item) (a1 : S_api_Item) {y : Bool} (hm : m_slices_Contains___api_Item_api_Item__3 F a0 a1 = some y) : CallG Try.prog 32 #[.slice a0_o a0.length a0_c, .agg ((kc14 a1.Name a1.Version.Epoch a1.Version.N a1.Crc)).toArray] (X := Unit) (fun (_ : Unit) => .bool y) [] [r75 a0_o a0] (fun (_ : Unit) => []) := by
  intro w hg
  rw [m_slices_Contains___api_Item_api_Item__3] at hm
  refine GS.start (S := mayT [] [r75 a0_o a0]) (mem := [(1, r75 a0_o a0)]) Try.func32 rfl Try.ntmps32 (Nat.le_of_ble_eq_true rfl) (hg.start rfl) ?_
  refine GS.conv (env' := [(0, .slice a0_o a0.length a0_c), (1, .agg ((kc14 a1.Name a1.Version.Epoch a1.Version.N a1.Crc)).toArray)]) rfl rfl ?_
  refine GS.seq ?_
  refine GS.rz (fun fr1 => [(0, .slice a0_o a0.length a0_c), (3, .pointer (some ⟨(fr1 0).x, 0, none⟩))]) (fun fr1 => [(1, r75 a0_o a0), (2, .cells ((fr1 0).x) 75 (kc14 a1.Name a1.Version.Epoch a1.Version.N a1.Crc))]) [(0, { act := .new .var, key := some 2 })] [0, 3] [1, 2] (fun fr1 => by kernel_rfl) ?_
  intro fr1
  refine GS.seq ?_
  refine bnd_elim hm (fun y3 e4 hm => ?_)
  refine GS.rg (fun _ => [(4, .bool (decide (y3 ≥ 0)))]) (fun _ => []) [(1, { act := .load 2 0 0 [] }), (2, { act := .call [1] (.int .i64 y3) })] [4] [] (fun _ => [(fr1 0).x = (fr1 0).x, CallOK Try.prog 38 #[.slice a0_o a0.length a0_c, .agg ((kc14 a1.Name a1.Version.Epoch a1.Version.N a1.Crc)).toArray] (.int .i64 y3) [some (r75 a0_o a0)]]) (fun _ => by kernel_rfl) (fun _ => ⟨rfl, (by have h1 := w_slices_Index___api_Item_api_Item__3 F a0_o a0_c a0 a1 e4; exact h1.ok ⟨(.inl ⟨r75 a0_o a0, .head _, Cov.refl _⟩), trivial⟩), trivial⟩) ?_
  intro _
  have hy := Option.some.inj hm
  subst hy
  refine GS.ret (fn := Try.f32) [0] [.bool (decide (y3 ≥ 0))] [] rfl Try.func32 (by kernel_rfl) trivial (fun w' hs => ?_)
  exact ⟨(), rfl, hs.turnedG (ks := []) rfl rfl⟩

theorem w_slices_Index___string_string__2 (F : Nat) (a0_o : Option Addr) (a0_c : Nat) (a0 : List ByteArray) (a1 : ByteArray) {y : Int} (hm : m_slices_Index___string_string__2 F a0 a1 = some y) : CallG Try.prog 39 #[.slice a0_o a0.length a0_c, .string a1] (X := Unit) (fun (_ : Unit) => .int .i64 y) [] [r9 a0_o a0] (fun (_ : Unit) => []) := by
  intro w hg
  rw [m_slices_Index___string_string__2] at hm
  refine GS.start (S := mayT [] [r9 a0_o a0]) (mem := [(1, r9 a0_o a0)]) Try.func39 rfl Try.ntmps39 (Nat.le_of_ble_eq_true rfl) (hg.start rfl) ?_
  refine GS.conv (env' := [(0, .slice a0_o a0.length a0_c), (1, .string a1)]) rfl rfl ?_
  refine GS.seq ?_
  refine GS.rzM (fun _ => [(0, .slice a0_o a0.length a0_c), (1, .string a1)]) [] [0, 1] [1] (fun _ => by kernel_rfl) ?_
  intro _
  refine GS.seq ?_
  refine GS.seq ?_
  refine GS.rzM (fun _ => [(0, .slice a0_o a0.length a0_c), (1, .string a1), (7, .int .i64 ((a0.length : Nat) : Int)), (8, .int .i64 0)]) [] [0, 1, 7, 8] [1] (fun _ => by kernel_rfl) ?_
  intro _
  refine GS.block ?_
  refine GS.loop ?_
  refine grd_elim hm (fun g21 hm => ?_)
  refine GS.rekey (env' := [(0, .slice a0_o a0.length a0_c), (1, .string a1), (7, .int .i64 ((a0.length : Nat) : Int)), (8, .int .i64 0)]) (mem' := [(1, r9 a0_o a0)]) [0, 1, 7, 8] [(1, 1)] (by kernel_rfl) (by kernel_rfl) rfl ?_
  refine loopL_elim hm (fun st35 fn36 hst37 hfn38 hm => ?_)
  refine GS.loopInv (ι := List ByteArray × Nat) (I := fun ⟨rs33, v8_1⟩ => a0.drop v8_1 = rs33 ∧ loopL st35 fn36 rs33 v8_1 () = some y) (μ := fun ⟨rs33, v8_1⟩ => rs33.length) (E := fun ⟨rs33, v8_1⟩ => [(0, .slice a0_o a0.length a0_c), (1, .string a1), (7, .int .i64 ((a0.length : Nat) : Int)), (8, .int .i64 ((v8_1 : Nat) : Int))]) (M := fun ⟨rs33, v8_1⟩ => [(1, r9 a0_o a0)]) ?_ ⟨a0, 0⟩ ⟨List.drop_zero .., hm⟩
  rintro ⟨rs33, v8_1⟩ ⟨hd20, hm⟩ ih34
  cases rs33 with
  | nil =>
    replace hm := (hfn38 _ _).symm.trans hm
    try dsimp only at hm
    refine GS.seq ?_
    refine GS.rzM (fun _ => [(0, .slice a0_o a0.length a0_c), (1, .string a1), (7, .int .i64 ((a0.length : Nat) : Int)), (8, .int .i64 ((v8_1 : Nat) : Int)), (9, .bool (decide (((v8_1 : Nat) : Int) < ((a0.length : Nat) : Int))))]) [] [0, 1, 7, 8, 9] [1] (fun _ => by kernel_rfl) ?_
    intro _
    refine GS.seq ?_
    refine GS.cond (t := decide (((v8_1 : Nat) : Int) < ((a0.length : Nat) : Int))) rfl rfl (fun h31 => absb h31 (drop_dec0 hd20)) (fun _ => ?_)
    refine GS.exit rfl ?_
    refine GS.seq ?_
    refine GS.rz (fun _ => [(4, .int .i64 (-1))]) (fun _ => []) [] [4] [] (fun _ => by kernel_rfl) ?_
    intro _
    have hy := Option.some.inj hm
    subst hy
    refine GS.ret (fn := Try.f39) [0] [.int .i64 (-1)] [] rfl Try.func39 (by kernel_rfl) trivial (fun w' hs => ?_)
    exact ⟨(), rfl, hs.turnedG (ks := []) rfl rfl⟩
  | cons x22 rs33 =>
    replace hm := (hst37 _ _ _ _).symm.trans hm
    try dsimp only at hm
    refine GS.seq ?_
    refine GS.rzM (fun _ => [(0, .slice a0_o a0.length a0_c), (1, .string a1), (7, .int .i64 ((a0.length : Nat) : Int)), (8, .int .i64 ((v8_1 : Nat) : Int)), (9, .bool (decide (((v8_1 : Nat) : Int) < ((a0.length : Nat) : Int))))]) [] [0, 1, 7, 8, 9] [1] (fun _ => by kernel_rfl) ?_
    intro _
    refine GS.seq ?_
    refine GS.cond (t := decide (((v8_1 : Nat) : Int) < ((a0.length : Nat) : Int))) rfl rfl (fun _ => ?_) (fun h24 => absb (drop_dec hd20) h24)
    refine GS.skip ?_
    refine GS.seq ?_
    refine GS.block ?_
    refine GS.seq ?_
    refine GS.rzM (fun _ => [(0, .slice a0_o a0.length a0_c), (1, .string a1), (5, .int .i64 ((v8_1 : Nat) : Int)), (7, .int .i64 ((a0.length : Nat) : Int)), (8, .int .i64 ((v8_1 : Nat) : Int))]) [] [0, 1, 5, 7, 8] [1] (fun _ => by kernel_rfl) ?_
    intro _
    refine GS.seq ?_
    refine GS.rgM (fun _ => [(0, .slice a0_o a0.length a0_c), (1, .string a1), (5, .int .i64 ((v8_1 : Nat) : Int)), (7, .int .i64 ((a0.length : Nat) : Int)), (8, .int .i64 ((v8_1 : Nat) : Int)), (16, .bool (a1.toList == x22.toList))]) [(3, { act := .idx 1 v8_1 }), (4, { act := .load 1 v8_1 0 [.string x22] })] [0, 1, 5, 7, 8, 16] [1] (fun _ => [a0_o = a0_o, a0.length = (List.map rS a0).length, (((v8_1 : Nat) : Int) : Int) = ((v8_1 : Nat) : Int), v8_1 < a0.length, blk a0_o = blk a0_o, offs a0_o + v8_1 * 1 = offs a0_o + (v8_1 * 1 + 0), (List.map rS a0)[v8_1]? = some [.string x22]]) (fun _ => by kernel_rfl) (fun _ => ⟨rfl, mlen rS a0, rfl, (drop_lt hd20), rfl, rfl, map_drop rS hd20, trivial⟩) ?_
    intro _
    refine GS.cond (t := a1.toList == x22.toList) rfl rfl (fun h27 => ?_) (fun h27 => ?_)
    · replace hm := br_t h27 hm
      refine GS.seq ?_
      refine GS.rz (fun _ => [(4, .int .i64 ((v8_1 : Nat) : Int))]) (fun _ => []) [] [4] [] (fun _ => by kernel_rfl) ?_
      intro _
      have hy := Option.some.inj hm
      subst hy
      refine GS.ret (fn := Try.f39) [0] [.int .i64 ((v8_1 : Nat) : Int)] [] rfl Try.func39 (by kernel_rfl) trivial (fun w' hs => ?_)
      exact ⟨(), rfl, hs.turnedG (ks := []) rfl rfl⟩
    · replace hm := br_f h27 hm
      refine GS.skip ?_
      refine GS.inBlock ?_
      refine GS.rgM (fun _ => [(0, .slice a0_o a0.length a0_c), (1, .string a1), (7, .int .i64 ((a0.length : Nat) : Int)), (8, .int .i64 ((v8_1 + 1 : Nat) : Int))]) [(0, { sp := some (.int .i64 ((v8_1 + 1 : Nat) : Int)) })] [0, 1, 7, 8] [1] (fun _ => [((.int .i64 (IntKind.i64.wrap (((v8_1 : Nat) : Int) + 1))) : Value) = .int .i64 ((v8_1 + 1 : Nat) : Int)]) (fun _ => by kernel_rfl) (fun _ => ⟨natw (drop_lt hd20) g21, trivial⟩) ?_
      intro _
      refine GS.inLoop ?_
      refine GS.rekey (env' := [(0, .slice a0_o a0.length a0_c), (1, .string a1), (7, .int .i64 ((a0.length : Nat) : Int)), (8, .int .i64 ((v8_1 + 1 : Nat) : Int))]) (mem' := [(1, r9 a0_o a0)]) [0, 1, 7, 8] [(1, 1)] (by kernel_rfl) (by kernel_rfl) rfl ?_
      exact ih34 ⟨rs33, v8_1 + 1⟩ ⟨drop_next hd20, hm⟩ (Nat.lt_succ_self _)

theorem w_slices_Contains___string_string__2 (F : Nat) (a0_o : Option Addr) (a0_c : Nat) (a0 : List ByteArray) (a1 : ByteArray) {y : Bool} (hm : m_slices_Contains___string_string__2 F a0 a1 = some y) : CallG Try.prog 33 #[.slice a0_o a0.length a0_c, .string a1] (X := Unit) (fun (_ : Unit) => .bool y) [] [r9 a0_o a0] (fun (_ : Unit) => []) := by
  intro w hg
  rw [m_slices_Contains___string_string__2] at hm
  refine GS.start (S := mayT [] [r9 a0_o a0]) (mem := [(1, r9 a0_o a0)]) Try.func33 rfl Try.ntmps33 (Nat.le_of_ble_eq_true rfl) (hg.start rfl) ?_
  refine GS.conv (env' := [(0, .slice a0_o a0.length a0_c), (1, .string a1)]) rfl rfl ?_
  refine GS.seq ?_
  refine GS.rzM (fun _ => [(0, .slice a0_o a0.length a0_c), (1, .string a1)]) [] [0, 1] [1] (fun _ => by kernel_rfl) ?_
  intro _
  refine GS.seq ?_
  refine bnd_elim hm (fun y3 e4 hm => ?_)
  refine GS.rg (fun _ => [(4, .bool (decide (y3 ≥ 0)))]) (fun _ => []) [(2, { act := .call [1] (.int .i64 y3) })] [4] [] (fun _ => [CallOK Try.prog 39 #[.slice a0_o a0.length a0_c, .string a1] (.int .i64 y3) [some (r9 a0_o a0)]]) (fun _ => by kernel_rfl) (fun _ => ⟨(by have h1 := w_slices_Index___string_string__2 F a0_o a0_c a0 a1 e4; exact h1.ok ⟨(.inl ⟨r9 a0_o a0, .head _, Cov.refl _⟩), trivial⟩), trivial⟩) ?_
  intro _
  have hy := Option.some.inj hm
  subst hy
  refine GS.ret (fn := Try.f33) [0] [.bool (decide (y3 ≥ 0))] [] rfl Try.func33 (by kernel_rfl) trivial (fun w' hs => ?_)
  exact ⟨(), rfl, hs.turnedG (ks := []) rfl rfl⟩

theorem w__scrub_Copy__good_3 (F : Nat) (a0_Osd : Int) (a0_Items_o : Option Addr) (a0_Items_c : Nat) (a0_Items : List S_api_Item) (a0_Bad_o : Option Addr) (a0_Bad_c : Nat) (a0_Bad : List ByteArray) (a1 : S_api_Item) {y : Bool} (hm : m__scrub_Copy__good_3 F a0_Osd a0_Items a0_Bad a1 = some y) : CallG Try.prog 26 #[.agg #[.int .i64 a0_Osd, .slice a0_Items_o a0_Items.length a0_Items_c, .slice a0_Bad_o a0_Bad.length a0_Bad_c], .agg ((kc14 a1.Name a1.Version.Epoch a1.Version.N a1.Crc)).toArray] (X := Unit) (fun (_ : Unit) => .bool y) [] [r75 a0_Items_o a0_Items, r9 a0_Bad_o a0_Bad] (fun (_ : Unit) => []) := by
  intro w hg
  rw [m__scrub_Copy__good_3] at hm
  refine GS.start (S := mayT [] [r75 a0_Items_o a0_Items, r9 a0_Bad_o a0_Bad]) (mem := [(1, r75 a0_Items_o a0_Items), (2, r9 a0_Bad_o a0_Bad)]) Try.func26 rfl Try.ntmps26 (Nat.le_of_ble_eq_true rfl) (hg.start rfl) ?_
  refine GS.conv (env' := [(0, .agg #[.int .i64 a0_Osd, .slice a0_Items_o a0_Items.length a0_Items_c, .slice a0_Bad_o a0_Bad.length a0_Bad_c]), (1, .agg ((kc14 a1.Name a1.Version.Epoch a1.Version.N a1.Crc)).toArray)]) rfl rfl ?_
  refine GS.seq ?_
  refine GS.rz (fun fr1 => [(2, .pointer (some ⟨(fr1 0).x, 0, none⟩)), (3, .pointer (some ⟨(fr1 1).x, 0, none⟩))]) (fun fr1 => [(1, r75 a0_Items_o a0_Items), (2, r9 a0_Bad_o a0_Bad), (3, .cells ((fr1 0).x) 60 [.int .i64 a0_Osd, .slice a0_Items_o a0_Items.length a0_Items_c, .slice a0_Bad_o a0_Bad.length a0_Bad_c]), (4, .cells ((fr1 1).x) 75 (kc14 a1.Name a1.Version.Epoch a1.Version.N a1.Crc))]) [(0, { act := .new .var, key := some 3 }), (1, { act := .new .var, key := some 4 })] [2, 3] [1, 2, 3, 4] (fun fr1 => by kernel_rfl) ?_
  intro fr1
  refine GS.seq ?_
  refine bnd_elim hm (fun y3 e4 hm => ?_)
  refine br_elim hm (fun h5 hm => ?_) (fun h5 hm => ?_)
  · skip
    refine bnd_elim hm (fun y6 e7 hm => ?_)
    refine GS.rg (fun _ => [(4, .bool (!y6))]) (fun _ => []) [(1, { act := .load 3 0 0 [] }), (2, { act := .load 4 0 0 [] }), (3, { act := .call [1] (.bool y3) }), (4, { sp := some (.bool true) }), (6, { act := .load 3 0 0 [] }), (8, { act := .load 4 0 0 [] }), (9, { act := .call [2] (.bool y6) })] [4] [] (fun _ => [(fr1 0).x = (fr1 0).x, (fr1 1).x = (fr1 1).x, CallOK Try.prog 32 #[.slice a0_Items_o a0_Items.length a0_Items_c, .agg ((kc14 a1.Name a1.Version.Epoch a1.Version.N a1.Crc)).toArray] (.bool y3) [some (r75 a0_Items_o a0_Items)], ((.bool y3) : Value) = .bool true, (fr1 0).x = (fr1 0).x, (fr1 1).x = (fr1 1).x, CallOK Try.prog 33 #[.slice a0_Bad_o a0_Bad.length a0_Bad_c, .string a1.Name] (.bool y6) [some (r9 a0_Bad_o a0_Bad)]]) (fun _ => by kernel_rfl) (fun _ => ⟨rfl, rfl, (by have h1 := w_slices_Contains___api_Item_api_Item__3 F a0_Items_o a0_Items_c a0_Items a1 e4; exact h1.ok ⟨(.inl ⟨r75 a0_Items_o a0_Items, .head _, Cov.refl _⟩), trivial⟩), bool_eq h5, rfl, rfl, (by have h1 := w_slices_Contains___string_string__2 F a0_Bad_o a0_Bad_c a0_Bad a1.Name e7; exact h1.ok ⟨(.inl ⟨r9 a0_Bad_o a0_Bad, .head _, Cov.refl _⟩), trivial⟩), trivial⟩) ?_
    intro _
    have hy := Option.some.inj hm
    subst hy
    refine GS.ret (fn := Try.f26) [0] [.bool (!y6)] [] rfl Try.func26 (by kernel_rfl) trivial (fun w' hs => ?_)
    exact ⟨(), rfl, hs.turnedG (ks := []) rfl rfl⟩
  · skip
    refine GS.rg (fun _ => [(4, .bool false)]) (fun _ => []) [(1, { act := .load 3 0 0 [] }), (2, { act := .load 4 0 0 [] }), (3, { act := .call [1] (.bool y3) }), (4, { sp := some (.bool false) })] [4] [] (fun _ => [(fr1 0).x = (fr1 0).x, (fr1 1).x = (fr1 1).x, CallOK Try.prog 32 #[.slice a0_Items_o a0_Items.length a0_Items_c, .agg ((kc14 a1.Name a1.Version.Epoch a1.Version.N a1.Crc)).toArray] (.bool y3) [some (r75 a0_Items_o a0_Items)], ((.bool y3) : Value) = .bool false]) (fun _ => by kernel_rfl) (fun _ => ⟨rfl, rfl, (by have h1 := w_slices_Contains___api_Item_api_Item__3 F a0_Items_o a0_Items_c a0_Items a1 e4; exact h1.ok ⟨(.inl ⟨r75 a0_Items_o a0_Items, .head _, Cov.refl _⟩), trivial⟩), bool_eq h5, trivial⟩) ?_
    intro _
    have hy := Option.some.inj hm
    subst hy
    refine GS.ret (fn := Try.f26) [0] [.bool false] [] rfl Try.func26 (by kernel_rfl) trivial (fun w' hs => ?_)
    exact ⟨(), rfl, hs.turnedG (ks := []) rfl rfl⟩

theorem w_scrub_Compare_1_2 (F : Nat) (a0_Osd : Int) (a0_Items_o : Option Addr) (a0_Items_c : Nat) (a0_Items : List S_api_Item) (a0_Bad_o : Option Addr) (a0_Bad_c : Nat) (a0_Bad : List ByteArray) (a1b : Nat) (a1 : S_api_Item) {y : Bool} (hm : m_scrub_Compare_1_2 F a0_Osd a0_Items a0_Bad a1 = some y) : CallG Try.prog 25 #[.agg #[.int .i64 a0_Osd, .slice a0_Items_o a0_Items.length a0_Items_c, .slice a0_Bad_o a0_Bad.length a0_Bad_c], .pointer (some ⟨a1b, 0, none⟩)] (X := Unit) (fun (_ : Unit) => .bool y) [] [r75 a0_Items_o a0_Items, r9 a0_Bad_o a0_Bad, .rd (some ⟨a1b, 0, none⟩) 4 [(kc14 a1.Name a1.Version.Epoch a1.Version.N a1.Crc)]] (fun (_ : Unit) => []) := by
  intro w hg
  rw [m_scrub_Compare_1_2] at hm
  refine GS.start (S := mayT [] [r75 a0_Items_o a0_Items, r9 a0_Bad_o a0_Bad, .rd (some ⟨a1b, 0, none⟩) 4 [(kc14 a1.Name a1.Version.Epoch a1.Version.N a1.Crc)]]) (mem := [(1, r75 a0_Items_o a0_Items), (2, r9 a0_Bad_o a0_Bad), (3, .rd (some ⟨a1b, 0, none⟩) 4 [(kc14 a1.Name a1.Version.Epoch a1.Version.N a1.Crc)])]) Try.func25 rfl Try.ntmps25 (Nat.le_of_ble_eq_true rfl) (hg.start rfl) ?_
  refine GS.conv (env' := [(0, .agg #[.int .i64 a0_Osd, .slice a0_Items_o a0_Items.length a0_Items_c, .slice a0_Bad_o a0_Bad.length a0_Bad_c]), (1, .pointer (some ⟨a1b, 0, none⟩))]) rfl rfl ?_
  refine GS.seq ?_
  refine GS.rz (fun fr1 => [(1, .pointer (some ⟨a1b, 0, none⟩)), (2, .pointer (some ⟨(fr1 0).x, 0, none⟩))]) (fun fr1 => [(1, r75 a0_Items_o a0_Items), (2, r9 a0_Bad_o a0_Bad), (3, .rd (some ⟨a1b, 0, none⟩) 4 [(kc14 a1.Name a1.Version.Epoch a1.Version.N a1.Crc)]), (4, .cells ((fr1 0).x) 60 [.int .i64 a0_Osd, .slice a0_Items_o a0_Items.length a0_Items_c, .slice a0_Bad_o a0_Bad.length a0_Bad_c])]) [(0, { act := .new .var, key := some 4 })] [1, 2] [1, 2, 3, 4] (fun fr1 => by kernel_rfl) ?_
  intro fr1
  refine GS.seq ?_
  refine bnd_elim hm (fun y3 e4 hm => ?_)
  refine GS.rg (fun _ => [(3, .bool y3)]) (fun _ => []) [(0, { act := .load 4 0 0 [] }), (1, { act := .load 3 0 0 [.string a1.Name, .int .i64 a1.Version.Epoch, .int .i64 a1.Version.N, .int .u32 a1.Crc] }), (2, { act := .call [1, 2] (.bool y3) })] [3] [] (fun _ => [(fr1 0).x = (fr1 0).x, a1b = blk (some ⟨a1b, 0, none⟩), 0 = offs (some ⟨a1b, 0, none⟩) + (0 * 4 + 0), ([(kc14 a1.Name a1.Version.Epoch a1.Version.N a1.Crc)] : List (List Value))[0]? = some [.string a1.Name, .int .i64 a1.Version.Epoch, .int .i64 a1.Version.N, .int .u32 a1.Crc], CallOK Try.prog 26 #[.agg #[.int .i64 a0_Osd, .slice a0_Items_o a0_Items.length a0_Items_c, .slice a0_Bad_o a0_Bad.length a0_Bad_c], .agg ((kc14 a1.Name a1.Version.Epoch a1.Version.N a1.Crc)).toArray] (.bool y3) [some (r75 a0_Items_o a0_Items), some (r9 a0_Bad_o a0_Bad)]]) (fun _ => by kernel_rfl) (fun _ => ⟨rfl, rfl, rfl, rfl, (by have h1 := w__scrub_Copy__good_3 F a0_Osd a0_Items_o a0_Items_c a0_Items a0_Bad_o a0_Bad_c a0_Bad a1 e4; exact h1.ok ⟨(.inl ⟨r75 a0_Items_o a0_Items, .head _, Cov.refl _⟩), (.inl ⟨r9 a0_Bad_o a0_Bad, (.tail _ (.head _)), Cov.refl _⟩), trivial⟩), trivial⟩) ?_
  intro _
  have hy := Option.some.inj hm
  subst hy
  refine GS.ret (fn := Try.f25) [0] [.bool y3] [] rfl Try.func25 (by kernel_rfl) trivial (fun w' hs => ?_)
  exact ⟨(), rfl, hs.turnedG (ks := []) rfl rfl⟩

theorem w_slices_IndexFunc___scrub_Copy_scrub_Copy__2 (F : Nat) (a0_o : Option Addr) (a0_c : Nat) (a0_h : Hds) (a0 : List S_scrub_Copy) (a1c0b : Nat) (a1c0 : S_api_Item) {y : Int} (hm : m_slices_IndexFunc___scrub_Copy_scrub_Copy__2 F a0 a1c0 = some y) : CallG Try.prog 24 #[.slice a0_o a0.length a0_c, .func (.func 25) #[] #[.pointer (some ⟨a1c0b, 0, none⟩)]] (X := Unit) (fun (_ : Unit) => .int .i64 y) [] [.rd a0_o 3 (nrows nR60 a0_h a0), Ent.all (nins nJ60 a0_h a0), .rd (some ⟨a1c0b, 0, none⟩) 4 [(kc14 a1c0.Name a1c0.Version.Epoch a1c0.Version.N a1c0.Crc)]] (fun (_ : Unit) => []) := by
  intro w hg
  rw [m_slices_IndexFunc___scrub_Copy_scrub_Copy__2] at hm
  refine GS.start (S := mayT [] [.rd a0_o 3 (nrows nR60 a0_h a0), Ent.all (nins nJ60 a0_h a0), .rd (some ⟨a1c0b, 0, none⟩) 4 [(kc14 a1c0.Name a1c0.Version.Epoch a1c0.Version.N a1c0.Crc)]]) (mem := [(1, .rd a0_o 3 (nrows nR60 a0_h a0)), (2, Ent.all (nins nJ60 a0_h a0)), (3, .rd (some ⟨a1c0b, 0, none⟩) 4 [(kc14 a1c0.Name a1c0.Version.Epoch a1c0.Version.N a1c0.Crc)])]) Try.func24 rfl Try.ntmps24 (Nat.le_of_ble_eq_true rfl) (hg.start rfl) ?_
  refine GS.conv (env' := [(0, .slice a0_o a0.length a0_c), (1, .func (.func 25) #[] #[.pointer (some ⟨a1c0b, 0, none⟩)])]) rfl rfl ?_
  refine GS.seq ?_
  refine GS.rzM (fun _ => [(0, .slice a0_o a0.length a0_c), (1, .func (.func 25) #[] #[.pointer (some ⟨a1c0b, 0, none⟩)])]) [] [0, 1] [1, 2, 3] (fun _ => by kernel_rfl) ?_
  intro _
  refine GS.seq ?_
  refine GS.seq ?_
  refine GS.rzM (fun _ => [(0, .slice a0_o a0.length a0_c), (1, .func (.func 25) #[] #[.pointer (some ⟨a1c0b, 0, none⟩)]), (7, .int .i64 ((a0.length : Nat) : Int)), (8, .int .i64 0)]) [] [0, 1, 7, 8] [1, 2, 3] (fun _ => by kernel_rfl) ?_
  intro _
  refine GS.block ?_
  refine GS.loop ?_
  refine grd_elim hm (fun g29 hm => ?_)
  refine GS.rekey (env' := [(0, .slice a0_o a0.length a0_c), (1, .func (.func 25) #[] #[.pointer (some ⟨a1c0b, 0, none⟩)]), (7, .int .i64 ((a0.length : Nat) : Int)), (8, .int .i64 0)]) (mem' := [(1, .rd a0_o 3 (nrows nR60 a0_h a0)), (2, Ent.all (nins nJ60 a0_h a0)), (3, .rd (some ⟨a1c0b, 0, none⟩) 4 [(kc14 a1c0.Name a1c0.Version.Epoch a1c0.Version.N a1c0.Crc)])]) [0, 1, 7, 8] [(1, 1), (2, 2), (3, 3)] (by kernel_rfl) (by kernel_rfl) rfl ?_
  refine loopL_elim hm (fun st47 fn48 hst49 hfn50 hm => ?_)
  refine GS.loopInv (ι := List S_scrub_Copy × Nat) (I := fun ⟨rs45, v8_1⟩ => a0.drop v8_1 = rs45 ∧ loopL st47 fn48 rs45 v8_1 () = some y) (μ := fun ⟨rs45, v8_1⟩ => rs45.length) (E := fun ⟨rs45, v8_1⟩ => [(0, .slice a0_o a0.length a0_c), (1, .func (.func 25) #[] #[.pointer (some ⟨a1c0b, 0, none⟩)]), (7, .int .i64 ((a0.length : Nat) : Int)), (8, .int .i64 ((v8_1 : Nat) : Int))]) (M := fun ⟨rs45, v8_1⟩ => [(1, .rd a0_o 3 (nrows nR60 a0_h a0)), (2, Ent.all (nins nJ60 a0_h a0)), (3, .rd (some ⟨a1c0b, 0, none⟩) 4 [(kc14 a1c0.Name a1c0.Version.Epoch a1c0.Version.N a1c0.Crc)])]) ?_ ⟨a0, 0⟩ ⟨List.drop_zero .., hm⟩
  rintro ⟨rs45, v8_1⟩ ⟨hd28, hm⟩ ih46
  cases rs45 with
  | nil =>
    replace hm := (hfn50 _ _).symm.trans hm
    try dsimp only at hm
    refine GS.seq ?_
    refine GS.rzM (fun _ => [(0, .slice a0_o a0.length a0_c), (1, .func (.func 25) #[] #[.pointer (some ⟨a1c0b, 0, none⟩)]), (7, .int .i64 ((a0.length : Nat) : Int)), (8, .int .i64 ((v8_1 : Nat) : Int)), (9, .bool (decide (((v8_1 : Nat) : Int) < ((a0.length : Nat) : Int))))]) [] [0, 1, 7, 8, 9] [1, 2, 3] (fun _ => by kernel_rfl) ?_
    intro _
    refine GS.seq ?_
    refine GS.cond (t := decide (((v8_1 : Nat) : Int) < ((a0.length : Nat) : Int))) rfl rfl (fun h43 => absb h43 (drop_dec0 hd28)) (fun _ => ?_)
    refine GS.exit rfl ?_
    refine GS.seq ?_
    refine GS.rz (fun _ => [(4, .int .i64 (-1))]) (fun _ => []) [] [4] [] (fun _ => by kernel_rfl) ?_
    intro _
    have hy := Option.some.inj hm
    subst hy
    refine GS.ret (fn := Try.f24) [0] [.int .i64 (-1)] [] rfl Try.func24 (by kernel_rfl) trivial (fun w' hs => ?_)
    exact ⟨(), rfl, hs.turnedG (ks := []) rfl rfl⟩
  | cons x30 rs45 =>
    replace hm := (hst49 _ _ _ _).symm.trans hm
    try dsimp only at hm
    refine GS.seq ?_
    refine GS.rzM (fun _ => [(0, .slice a0_o a0.length a0_c), (1, .func (.func 25) #[] #[.pointer (some ⟨a1c0b, 0, none⟩)]), (7, .int .i64 ((a0.length : Nat) : Int)), (8, .int .i64 ((v8_1 : Nat) : Int)), (9, .bool (decide (((v8_1 : Nat) : Int) < ((a0.length : Nat) : Int))))]) [] [0, 1, 7, 8, 9] [1, 2, 3] (fun _ => by kernel_rfl) ?_
    intro _
    refine GS.seq ?_
    refine GS.cond (t := decide (((v8_1 : Nat) : Int) < ((a0.length : Nat) : Int))) rfl rfl (fun _ => ?_) (fun h32 => absb (drop_dec hd28) h32)
    refine GS.skip ?_
    refine GS.seq ?_
    refine GS.block ?_
    refine GS.seq ?_
    refine GS.rzM (fun _ => [(0, .slice a0_o a0.length a0_c), (1, .func (.func 25) #[] #[.pointer (some ⟨a1c0b, 0, none⟩)]), (5, .int .i64 ((v8_1 : Nat) : Int)), (7, .int .i64 ((a0.length : Nat) : Int)), (8, .int .i64 ((v8_1 : Nat) : Int))]) [] [0, 1, 5, 7, 8] [1, 2, 3] (fun _ => by kernel_rfl) ?_
    intro _
    refine GS.seq ?_
    refine GS.know (p := x30.Items.length ≤ ((a0_h v8_1) 0).2) (fun w hw => ((Cov.all_mem (nins_drop nJ60 a0_h hd28 ((.tail _ (.head _))))).1 w (hw.ok 2 _ rfl)).1) (fun k34 => ?_)
    refine GS.setMem (mem' := [(1, .rd a0_o 3 (nrows nR60 a0_h a0)), (2, Ent.all (nins nJ60 a0_h a0)), (3, .rd (some ⟨a1c0b, 0, none⟩) 4 [(kc14 a1c0.Name a1c0.Version.Epoch a1c0.Version.N a1c0.Crc)]), (4, r75 (((a0_h v8_1) 0).1) x30.Items)]) (fun w hw => Sat.addCov (k0 := 2) hw rfl rfl rfl (Cov.all_mem (nins_drop nJ60 a0_h hd28 (.head _))) rfl) ?_
    refine GS.know (p := x30.Bad.length ≤ ((a0_h v8_1) 1).2) (fun w hw => ((Cov.all_mem (nins_drop nJ60 a0_h hd28 ((.tail _ (.tail _ (.tail _ (.head _))))))).1 w (hw.ok 2 _ rfl)).1) (fun k35 => ?_)
    refine GS.setMem (mem' := [(1, .rd a0_o 3 (nrows nR60 a0_h a0)), (2, Ent.all (nins nJ60 a0_h a0)), (3, .rd (some ⟨a1c0b, 0, none⟩) 4 [(kc14 a1c0.Name a1c0.Version.Epoch a1c0.Version.N a1c0.Crc)]), (4, r75 (((a0_h v8_1) 0).1) x30.Items), (5, r9 (((a0_h v8_1) 1).1) x30.Bad)]) (fun w hw => Sat.addCov (k0 := 2) hw rfl rfl rfl (Cov.all_mem (nins_drop nJ60 a0_h hd28 ((.tail _ (.tail _ (.head _)))))) rfl) ?_
    refine bnd_elim hm (fun y37 e38 hm => ?_)
    refine GS.rg (fun _ => [(0, .slice a0_o a0.length a0_c), (1, .func (.func 25) #[] #[.pointer (some ⟨a1c0b, 0, none⟩)]), (5, .int .i64 ((v8_1 : Nat) : Int)), (7, .int .i64 ((a0.length : Nat) : Int)), (8, .int .i64 ((v8_1 : Nat) : Int)), (16, .bool y37)]) (fun _ => [(1, .rd a0_o 3 (nrows nR60 a0_h a0)), (2, Ent.all (nins nJ60 a0_h a0)), (3, .rd (some ⟨a1c0b, 0, none⟩) 4 [(kc14 a1c0.Name a1c0.Version.Epoch a1c0.Version.N a1c0.Crc)])]) [(3, { act := .idx 1 v8_1 }), (4, { act := .load 1 v8_1 0 [.int .i64 x30.Osd, .slice (((a0_h v8_1) 0).1) x30.Items.length (((a0_h v8_1) 0).2), .slice (((a0_h v8_1) 1).1) x30.Bad.length (((a0_h v8_1) 1).2)] }), (5, { act := .call [3, 4, 5] (.bool y37) })] [0, 1, 5, 7, 8, 16] [1, 2, 3] (fun _ => [a0_o = a0_o, a0.length = (nrows nR60 a0_h a0).length, (((v8_1 : Nat) : Int) : Int) = ((v8_1 : Nat) : Int), v8_1 < a0.length, blk a0_o = blk a0_o, offs a0_o + v8_1 * 3 = offs a0_o + (v8_1 * 3 + 0), (nrows nR60 a0_h a0)[v8_1]? = some [.int .i64 x30.Osd, .slice (((a0_h v8_1) 0).1) x30.Items.length (((a0_h v8_1) 0).2), .slice (((a0_h v8_1) 1).1) x30.Bad.length (((a0_h v8_1) 1).2)], CallOK Try.prog 25 #[.agg #[.int .i64 x30.Osd, .slice (((a0_h v8_1) 0).1) x30.Items.length (((a0_h v8_1) 0).2), .slice (((a0_h v8_1) 1).1) x30.Bad.length (((a0_h v8_1) 1).2)], .pointer (some ⟨a1c0b, 0, none⟩)] (.bool y37) [some (.rd (some ⟨a1c0b, 0, none⟩) 4 [(kc14 a1c0.Name a1c0.Version.Epoch a1c0.Version.N a1c0.Crc)]), some (r75 (((a0_h v8_1) 0).1) x30.Items), some (r9 (((a0_h v8_1) 1).1) x30.Bad)]]) (fun _ => by kernel_rfl) (fun _ => ⟨rfl, (nrows_len nR60 a0_h a0).symm, rfl, (drop_lt hd28), rfl, rfl, nrows_drop nR60 a0_h hd28, (by have h1 := w_scrub_Compare_1_2 F x30.Osd (((a0_h v8_1) 0).1) (((a0_h v8_1) 0).2) x30.Items (((a0_h v8_1) 1).1) (((a0_h v8_1) 1).2) x30.Bad a1c0b a1c0 e38; exact h1.ok ⟨(.inl ⟨r75 (((a0_h v8_1) 0).1) x30.Items, (.tail _ (.head _)), Cov.refl _⟩), (.inl ⟨r9 (((a0_h v8_1) 1).1) x30.Bad, (.tail _ (.tail _ (.head _))), Cov.refl _⟩), (.inl ⟨.rd (some ⟨a1c0b, 0, none⟩) 4 [(kc14 a1c0.Name a1c0.Version.Epoch a1c0.Version.N a1c0.Crc)], .head _, Cov.refl _⟩), trivial⟩), trivial⟩) ?_
    intro _
    refine GS.cond (t := y37) rfl rfl (fun h39 => ?_) (fun h39 => ?_)
    · replace hm := br_t h39 hm
      refine GS.seq ?_
      refine GS.rz (fun _ => [(4, .int .i64 ((v8_1 : Nat) : Int))]) (fun _ => []) [] [4] [] (fun _ => by kernel_rfl) ?_
      intro _
      have hy := Option.some.inj hm
      subst hy
      refine GS.ret (fn := Try.f24) [0] [.int .i64 ((v8_1 : Nat) : Int)] [] rfl Try.func24 (by kernel_rfl) trivial (fun w' hs => ?_)
      exact ⟨(), rfl, hs.turnedG (ks := []) rfl rfl⟩
    · replace hm := br_f h39 hm
      refine GS.skip ?_
      refine GS.inBlock ?_
      refine GS.rgM (fun _ => [(0, .slice a0_o a0.length a0_c), (1, .func (.func 25) #[] #[.pointer (some ⟨a1c0b, 0, none⟩)]), (7, .int .i64 ((a0.length : Nat) : Int)), (8, .int .i64 ((v8_1 + 1 : Nat) : Int))]) [(0, { sp := some (.int .i64 ((v8_1 + 1 : Nat) : Int)) })] [0, 1, 7, 8] [1, 2, 3] (fun _ => [((.int .i64 (IntKind.i64.wrap (((v8_1 : Nat) : Int) + 1))) : Value) = .int .i64 ((v8_1 + 1 : Nat) : Int)]) (fun _ => by kernel_rfl) (fun _ => ⟨natw (drop_lt hd28) g29, trivial⟩) ?_
      intro _
      refine GS.inLoop ?_
      refine GS.rekey (env' := [(0, .slice a0_o a0.length a0_c), (1, .func (.func 25) #[] #[.pointer (some ⟨a1c0b, 0, none⟩)]), (7, .int .i64 ((a0.length : Nat) : Int)), (8, .int .i64 ((v8_1 + 1 : Nat) : Int))]) (mem' := [(1, .rd a0_o 3 (nrows nR60 a0_h a0)), (2, Ent.all (nins nJ60 a0_h a0)), (3, .rd (some ⟨a1c0b, 0, none⟩) 4 [(kc14 a1c0.Name a1c0.Version.Epoch a1c0.Version.N a1c0.Crc)])]) [0, 1, 7, 8] [(1, 1), (2, 2), (3, 3)] (by kernel_rfl) (by kernel_rfl) rfl ?_
      exact ih46 ⟨rs45, v8_1 + 1⟩ ⟨drop_next hd28, hm⟩ (Nat.lt_succ_self _)

end Go.Proofs.Ytcegkgbceogflaa
