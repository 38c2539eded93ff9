/-
  CHAPTER 19p: the functions do what their models say (2).
-/
import Derived.Test.YtmhejmkelhflmaaGreatE19p
import Derived.Test.YtmhejmkelhflmaaGreatW19pa
set_option linter.unusedVariables false
set_option linter.unusedSimpArgs false
set_option maxRecDepth 100000
set_option maxHeartbeats 8000000
namespace Go.Proofs.YtmhejmkelhflmaaGreat
open Go Go.RowKit Sx

theorem w_tholeref02_Word (F : Nat) (a0_o : Option Addr) (a0_c : Nat) (a0 : List UInt8) (a1 : Int) {y : List UInt8} (hm : m_tholeref02_Word F a0 a1 = some y) : CallG Tryz.prog 40 #[.slice a0_o a0.length a0_c, .int .u32 a1] (X := Option Addr × Nat) (fun ⟨x0, x1⟩ => .slice x0 y.length x1) [o5 a0_o a0_c a0] [] (fun ⟨x0, x1⟩ => [o5 x0 x1 y]) := by
  intro w hg
  rw [m_tholeref02_Word] at hm
  refine GS.start (S := mayT [o5 a0_o a0_c a0] []) (mem := [(1, o5 a0_o a0_c a0)]) Tryz.func40 rfl Tryz.ntmps40 (Nat.le_of_ble_eq_true rfl) (hg.start rfl) ?_
  refine GS.conv (env' := [(0, .slice a0_o a0.length a0_c), (1, .int .u32 a1)]) rfl rfl ?_
  refine GS.seq ?_
  refine GS.region (env' := fun _ => [(0, .slice a0_o a0.length a0_c), (1, .int .u32 a1)]) (mem' := fun _ => [(1, o5 a0_o a0_c a0)]) (RunsTo.mk [] [0, 1] [1] (fun _ => []) (fun _ => by kernel_rfl) (fun _ => trivial)) ?_
  intro _
  refine GS.seq ?_
  refine GS.seq ?_
  refine GS.region (env' := fun _ => [(0, .slice a0_o a0.length a0_c), (1, .int .u32 a1), (6, .int .i64 0)]) (mem' := fun _ => [(1, o5 a0_o a0_c a0)]) (RunsTo.mk [] [0, 1, 6] [1] (fun _ => []) (fun _ => by kernel_rfl) (fun _ => trivial)) ?_
  intro _
  refine GS.block ?_
  refine GS.loop ?_
  refine grd_elim hm (fun g20 hm => ?_)
  refine GS.rekey (env' := [(0, .slice a0_o a0.length a0_c), (1, .int .u32 a1), (6, .int .i64 0)]) (mem' := [(1, o5 a0_o a0_c a0)]) [0, 1, 6] [(1, 1)] (by kernel_rfl) (by kernel_rfl) rfl ?_
  refine loopC_elim hm (fun st35 fn36 hst37 hfn38 hm => ?_)
  refine GS.loopInv (ι := Nat × Nat × List UInt8 × Option Addr × Nat) (I := fun ⟨rs33, v6_1, l1_1, o1_1, k1_1⟩ => ((4) - ((v6_1 : Nat) : Int) : Int).toNat = rs33 ∧ loopC st35 fn36 rs33 v6_1 l1_1 = some y) (μ := fun ⟨rs33, v6_1, l1_1, o1_1, k1_1⟩ => rs33) (E := fun ⟨rs33, v6_1, l1_1, o1_1, k1_1⟩ => [(0, .slice o1_1 l1_1.length k1_1), (1, .int .u32 a1), (6, .int .i64 ((v6_1 : Nat) : Int))]) (M := fun ⟨rs33, v6_1, l1_1, o1_1, k1_1⟩ => [(1, o5 o1_1 k1_1 l1_1)]) ?_ ⟨(Int.toNat (4 - ((0 : Nat) : Int))), 0, a0, a0_o, a0_c⟩ ⟨rfl, hm⟩
  rintro ⟨rs33, v6_1, l1_1, o1_1, k1_1⟩ ⟨hd19, hm⟩ ih34
  cases rs33 with
  | zero =>
    replace hm := (hfn38 _ _).symm.trans hm
    try dsimp only at hm
    refine GS.seq ?_
    refine GS.region (env' := fun _ => [(0, .slice o1_1 l1_1.length k1_1), (1, .int .u32 a1), (6, .int .i64 ((v6_1 : Nat) : Int)), (7, .bool (decide (((v6_1 : Nat) : Int) < 4)))]) (mem' := fun _ => [(1, o5 o1_1 k1_1 l1_1)]) (RunsTo.mk [] [0, 1, 6, 7] [1] (fun _ => []) (fun _ => by kernel_rfl) (fun _ => trivial)) ?_
    intro _
    refine GS.seq ?_
    refine GS.cond (t := decide (((v6_1 : Nat) : Int) < 4)) rfl rfl (fun h31 => absb h31 (cnt0 hd19)) (fun _ => ?_)
    refine GS.exit rfl ?_
    refine GS.seq ?_
    refine GS.region (env' := fun _ => [(4, .slice o1_1 l1_1.length k1_1)]) (mem' := fun _ => [(1, o5 o1_1 k1_1 l1_1)]) (RunsTo.mk [] [4] [1] (fun _ => []) (fun _ => by kernel_rfl) (fun _ => trivial)) ?_
    intro _
    have hy := Option.some.inj hm
    subst hy
    refine GS.ret (fn := Tryz.f40) [0] [.slice o1_1 l1_1.length k1_1] [] rfl Tryz.func40 (by kernel_rfl) trivial (fun w' hs => ?_)
    exact ⟨⟨o1_1, k1_1⟩, rfl, hs.turnedG (ks := [1]) rfl rfl⟩
  | succ rs33 =>
    replace hm := (hst37 _ _ _).symm.trans hm
    try dsimp only at hm
    refine GS.seq ?_
    refine GS.region (env' := fun _ => [(0, .slice o1_1 l1_1.length k1_1), (1, .int .u32 a1), (6, .int .i64 ((v6_1 : Nat) : Int)), (7, .bool (decide (((v6_1 : Nat) : Int) < 4)))]) (mem' := fun _ => [(1, o5 o1_1 k1_1 l1_1)]) (RunsTo.mk [] [0, 1, 6, 7] [1] (fun _ => []) (fun _ => by kernel_rfl) (fun _ => trivial)) ?_
    intro _
    refine GS.seq ?_
    refine GS.cond (t := decide (((v6_1 : Nat) : Int) < 4)) rfl rfl (fun _ => ?_) (fun h22 => absb (cnt1 hd19) h22)
    refine GS.skip ?_
    refine GS.seq ?_
    refine GS.block ?_
    refine GS.seq ?_
    refine GS.region (env' := fun _ => [(0, .slice o1_1 l1_1.length k1_1), (1, .int .u32 a1), (5, .int .i64 ((v6_1 : Nat) : Int)), (6, .int .i64 ((v6_1 : Nat) : Int))]) (mem' := fun _ => [(1, o5 o1_1 k1_1 l1_1)]) (RunsTo.mk [] [0, 1, 5, 6] [1] (fun _ => []) (fun _ => by kernel_rfl) (fun _ => trivial)) ?_
    intro _
    refine grd_elim hm (fun g25 hm => ?_)
    refine grd_elim hm (fun g26 hm => ?_)
    refine grd_elim hm (fun g27 hm => ?_)
    refine grd_elim hm (fun g28 hm => ?_)
    refine GS.region (env' := fun fr24 => [(0, .slice ((fr24 7).ob) ((l1_1 ++ [(UInt8.ofNat (Int.toNat (IntKind.u8.wrap (Int.fdiv a1 (2 ^ (min (Int.toNat (8 * ((v6_1 : Nat) : Int))) 32))))))]).length) ((fr24 7).cap)), (1, .int .u32 a1), (6, .int .i64 ((v6_1 : Nat) : Int))]) (mem' := fun fr24 => [(1, .osl ((fr24 7).ob) ((fr24 7).cap) 5 1 ((List.map rB l1_1) ++ ([[.int .u8 (IntKind.u8.wrap (Int.fdiv a1 (2 ^ (min (Int.toNat (8 * ((v6_1 : Nat) : Int))) 32))))]] : List (List Value))))]) (RunsTo.mk [(3, { sp := some (.int .i64 (8 * ((v6_1 : Nat) : Int))) }), (4, { act := .shift }), (6, { act := .new (.row 1 1), key := some 2, spf := some (fun f => .slice (some (Addr.mk f.x 0 none)) ([(UInt8.ofNat (Int.toNat (IntKind.u8.wrap (Int.fdiv a1 (2 ^ (min (Int.toNat (8 * ((v6_1 : Nat) : Int))) 32))))))].length) 1) }), (7, { act := .app (some 2), key := some 1, spf := some (fun f => .slice (f.ob) ((l1_1 ++ [(UInt8.ofNat (Int.toNat (IntKind.u8.wrap (Int.fdiv a1 (2 ^ (min (Int.toNat (8 * ((v6_1 : Nat) : Int))) 32))))))]).length) (f.cap)) })] [0, 1, 6] [1] (fun fr24 => [((.int .i64 (IntKind.i64.wrap (8 * ((v6_1 : Nat) : Int)))) : Value) = .int .i64 (8 * ((v6_1 : Nat) : Int)), 0 ≤ (8 * ((v6_1 : Nat) : Int)), ((.slice (some (Addr.mk (fr24 6).x 0 none)) 1 1) : Value) = .slice (some (Addr.mk (fr24 6).x 0 none)) ([(UInt8.ofNat (Int.toNat (IntKind.u8.wrap (Int.fdiv a1 (2 ^ (min (Int.toNat (8 * ((v6_1 : Nat) : Int))) 32))))))].length) 1, (some (Addr.mk (fr24 6).x 0 none)) = (some (Addr.mk (fr24 6).x 0 none)), [(UInt8.ofNat (Int.toNat (IntKind.u8.wrap (Int.fdiv a1 (2 ^ (min (Int.toNat (8 * ((v6_1 : Nat) : Int))) 32))))))].length = ([[.int .u8 (IntKind.u8.wrap (Int.fdiv a1 (2 ^ (min (Int.toNat (8 * ((v6_1 : Nat) : Int))) 32))))]] : List (List Value)).length, o1_1 = o1_1, k1_1 = k1_1, l1_1.length = (List.map rB l1_1).length, ((List.map rB l1_1).length + ([[.int .u8 (IntKind.u8.wrap (Int.fdiv a1 (2 ^ (min (Int.toNat (8 * ((v6_1 : Nat) : Int))) 32))))]] : List (List Value)).length) * (1 + 1) ≤ 70368744177664, ([[.int .u8 (IntKind.u8.wrap (Int.fdiv a1 (2 ^ (min (Int.toNat (8 * ((v6_1 : Nat) : Int))) 32))))]] : List (List Value)).flatten.all Value.oneCell' = true, ((.slice ((fr24 7).ob) (l1_1.length + ([[.int .u8 (IntKind.u8.wrap (Int.fdiv a1 (2 ^ (min (Int.toNat (8 * ((v6_1 : Nat) : Int))) 32))))]] : List (List Value)).length) ((fr24 7).cap)) : Value) = .slice ((fr24 7).ob) ((l1_1 ++ [(UInt8.ofNat (Int.toNat (IntKind.u8.wrap (Int.fdiv a1 (2 ^ (min (Int.toNat (8 * ((v6_1 : Nat) : Int))) 32))))))]).length) ((fr24 7).cap)]) (fun fr24 => by kernel_rfl) (fun fr24 => ⟨I64.w g25, g26, rfl, rfl, (by rw [show ([[.int .u8 (IntKind.u8.wrap (Int.fdiv a1 (2 ^ (min (Int.toNat (8 * ((v6_1 : Nat) : Int))) 32))))]] : List (List Value)) = List.map rB [(UInt8.ofNat (Int.toNat (IntKind.u8.wrap (Int.fdiv a1 (2 ^ (min (Int.toNat (8 * ((v6_1 : Nat) : Int))) 32))))))] from (one_u8 g27)]; exact mlen rB [(UInt8.ofNat (Int.toNat (IntKind.u8.wrap (Int.fdiv a1 (2 ^ (min (Int.toNat (8 * ((v6_1 : Nat) : Int))) 32))))))]), rfl, rfl, mlen rB l1_1, appb g28 (mlen rB l1_1).symm (by rw [show ([[.int .u8 (IntKind.u8.wrap (Int.fdiv a1 (2 ^ (min (Int.toNat (8 * ((v6_1 : Nat) : Int))) 32))))]] : List (List Value)) = List.map rB [(UInt8.ofNat (Int.toNat (IntKind.u8.wrap (Int.fdiv a1 (2 ^ (min (Int.toNat (8 * ((v6_1 : Nat) : Int))) 32))))))] from (one_u8 g27)]; exact (mlen rB [(UInt8.ofNat (Int.toNat (IntKind.u8.wrap (Int.fdiv a1 (2 ^ (min (Int.toNat (8 * ((v6_1 : Nat) : Int))) 32))))))]).symm), (by rw [show ([[.int .u8 (IntKind.u8.wrap (Int.fdiv a1 (2 ^ (min (Int.toNat (8 * ((v6_1 : Nat) : Int))) 32))))]] : List (List Value)) = List.map rB [(UInt8.ofNat (Int.toNat (IntKind.u8.wrap (Int.fdiv a1 (2 ^ (min (Int.toNat (8 * ((v6_1 : Nat) : Int))) 32))))))] from (show ([[.int .u8 (IntKind.u8.wrap (Int.fdiv a1 (2 ^ (min (Int.toNat (8 * ((v6_1 : Nat) : Int))) 32))))]] : List (List Value)) = List.map rB [(UInt8.ofNat (Int.toNat (IntKind.u8.wrap (Int.fdiv a1 (2 ^ (min (Int.toNat (8 * ((v6_1 : Nat) : Int))) 32))))))] from (one_u8 g27))]; exact all_one rB _ (fun _ => rfl)), slen (by simp), trivial⟩)) ?_
    intro fr24
    refine GS.conv (mem' := [(1, o5 ((fr24 7).ob) ((fr24 7).cap) (l1_1 ++ [(UInt8.ofNat (Int.toNat (IntKind.u8.wrap (Int.fdiv a1 (2 ^ (min (Int.toNat (8 * ((v6_1 : Nat) : Int))) 32))))))]))]) rfl (congrArg (fun rr : List (List Value) => ([(1, .osl ((fr24 7).ob) ((fr24 7).cap) 5 1 rr)] : List (Nat × Ent))) (show (List.map rB l1_1) ++ ([[.int .u8 (IntKind.u8.wrap (Int.fdiv a1 (2 ^ (min (Int.toNat (8 * ((v6_1 : Nat) : Int))) 32))))]] : List (List Value)) = List.map rB (l1_1 ++ [(UInt8.ofNat (Int.toNat (IntKind.u8.wrap (Int.fdiv a1 (2 ^ (min (Int.toNat (8 * ((v6_1 : Nat) : Int))) 32))))))]) from (by rw [show List.map rB l1_1 = List.map rB l1_1 from rfl, show ([[.int .u8 (IntKind.u8.wrap (Int.fdiv a1 (2 ^ (min (Int.toNat (8 * ((v6_1 : Nat) : Int))) 32))))]] : List (List Value)) = List.map rB [(UInt8.ofNat (Int.toNat (IntKind.u8.wrap (Int.fdiv a1 (2 ^ (min (Int.toNat (8 * ((v6_1 : Nat) : Int))) 32))))))] from (show ([[.int .u8 (IntKind.u8.wrap (Int.fdiv a1 (2 ^ (min (Int.toNat (8 * ((v6_1 : Nat) : Int))) 32))))]] : List (List Value)) = List.map rB [(UInt8.ofNat (Int.toNat (IntKind.u8.wrap (Int.fdiv a1 (2 ^ (min (Int.toNat (8 * ((v6_1 : Nat) : Int))) 32))))))] from (one_u8 g27))]; exact mapp rB _ _))) ?_
    refine GS.inBlock ?_
    refine GS.region (env' := fun _ => [(0, .slice ((fr24 7).ob) ((l1_1 ++ [(UInt8.ofNat (Int.toNat (IntKind.u8.wrap (Int.fdiv a1 (2 ^ (min (Int.toNat (8 * ((v6_1 : Nat) : Int))) 32))))))]).length) ((fr24 7).cap)), (1, .int .u32 a1), (6, .int .i64 ((v6_1 + 1 : Nat) : Int))]) (mem' := fun _ => [(1, o5 ((fr24 7).ob) ((fr24 7).cap) (l1_1 ++ [(UInt8.ofNat (Int.toNat (IntKind.u8.wrap (Int.fdiv a1 (2 ^ (min (Int.toNat (8 * ((v6_1 : Nat) : Int))) 32))))))]))]) (RunsTo.mk [(0, { sp := some (.int .i64 ((v6_1 + 1 : Nat) : Int)) })] [0, 1, 6] [1] (fun _ => [((.int .i64 (IntKind.i64.wrap (((v6_1 : Nat) : Int) + 1))) : Value) = .int .i64 ((v6_1 + 1 : Nat) : Int)]) (fun _ => by kernel_rfl) (fun _ => ⟨natwB (cnt1 hd19) g20, trivial⟩)) ?_
    intro _
    refine GS.inLoop ?_
    refine GS.rekey (env' := [(0, .slice ((fr24 7).ob) ((l1_1 ++ [(UInt8.ofNat (Int.toNat (IntKind.u8.wrap (Int.fdiv a1 (2 ^ (min (Int.toNat (8 * ((v6_1 : Nat) : Int))) 32))))))]).length) ((fr24 7).cap)), (1, .int .u32 a1), (6, .int .i64 ((v6_1 + 1 : Nat) : Int))]) (mem' := [(1, o5 ((fr24 7).ob) ((fr24 7).cap) (l1_1 ++ [(UInt8.ofNat (Int.toNat (IntKind.u8.wrap (Int.fdiv a1 (2 ^ (min (Int.toNat (8 * ((v6_1 : Nat) : Int))) 32))))))]))]) [0, 1, 6] [(1, 1)] (by kernel_rfl) (by kernel_rfl) rfl ?_
    exact ih34 ⟨rs33, v6_1 + 1, (l1_1 ++ [(UInt8.ofNat (Int.toNat (IntKind.u8.wrap (Int.fdiv a1 (2 ^ (min (Int.toNat (8 * ((v6_1 : Nat) : Int))) 32))))))]), (fr24 7).ob, (fr24 7).cap⟩ ⟨cntN hd19, hm⟩ (Nat.lt_succ_self _)

theorem w_tholeref02_Count (F : Nat) (a0_o : Option Addr) (a0_c : Nat) (a0 : List UInt8) (a1 : Int) {y : List UInt8} (hm : m_tholeref02_Count F a0 a1 = some y) : CallG Tryz.prog 21 #[.slice a0_o a0.length a0_c, .int .i64 a1] (X := Option Addr × Nat) (fun ⟨x0, x1⟩ => .slice x0 y.length x1) [o5 a0_o a0_c a0] [] (fun ⟨x0, x1⟩ => [o5 x0 x1 y]) := by
  intro w hg
  rw [m_tholeref02_Count] at hm
  refine GS.start (S := mayT [o5 a0_o a0_c a0] []) (mem := [(1, o5 a0_o a0_c a0)]) Tryz.func21 rfl Tryz.ntmps21 (Nat.le_of_ble_eq_true rfl) (hg.start rfl) ?_
  refine GS.conv (env' := [(0, .slice a0_o a0.length a0_c), (1, .int .i64 a1)]) rfl rfl ?_
  refine GS.seq ?_
  refine GS.region (env' := fun _ => [(0, .slice a0_o a0.length a0_c), (1, .int .i64 a1)]) (mem' := fun _ => [(1, o5 a0_o a0_c a0)]) (RunsTo.mk [] [0, 1] [1] (fun _ => []) (fun _ => by kernel_rfl) (fun _ => trivial)) ?_
  intro _
  refine GS.seq ?_
  refine bnd_elim hm (fun y3 e4 hm => ?_)
  refine GS.open_ ?_
  refine GR.run (i := 0) 3 (env' := fun _ => [(5, .slice a0_o a0.length a0_c), (7, .int .u32 (IntKind.u32.wrap a1))]) (mem' := fun _ => [(1, o5 a0_o a0_c a0)]) (Nat.le_of_ble_eq_true (by kernel_rfl)) (RunsTo.mk [] [5, 7] [1] (fun _ => []) (fun _ => by kernel_rfl) (fun _ => trivial)) ?_
  intro _
  refine GR.callG (X := Option Addr × Nat) (i := 3) (g := 40) (args := #[.slice a0_o a0.length a0_c, .int .u32 (IntKind.u32.wrap a1)]) (v := fun ⟨x5, x6⟩ => .slice x5 y3.length x6) (own := [o5 a0_o a0_c a0]) (ro := []) (es' := fun ⟨x5, x6⟩ => [o5 x5 x6 y3]) (mem' := fun ⟨x5, x6⟩ => [(2, o5 x5 x6 y3)]) (env' := fun ⟨x5, x6⟩ => [(8, .slice x5 y3.length x6)]) [1] [2] [8] [2] false (by kernel_rfl) (by kernel_rfl) (by kernel_rfl) (by kernel_rfl) (by kernel_rfl) (fun _ => rfl) (fun _ _ => rfl) trivial (by rintro ⟨x5, x6⟩; kernel_rfl) (by rintro ⟨x5, x6⟩; kernel_rfl) ((by have h1 := w_tholeref02_Word F a0_o a0_c a0 (IntKind.u32.wrap a1) e4; exact h1)) ?_
  rintro ⟨x5, x6⟩
  refine GR.run (i := 4) 1 (env' := fun _ => [(4, .slice x5 y3.length x6)]) (mem' := fun _ => [(2, o5 x5 x6 y3)]) (Nat.le_of_ble_eq_true (by kernel_rfl)) (RunsTo.mk [] [4] [2] (fun _ => []) (fun _ => by kernel_rfl) (fun _ => trivial)) ?_
  intro _
  refine GR.done (Nat.le_of_ble_eq_true (by kernel_rfl)) ?_
  have hy := Option.some.inj hm
  subst hy
  refine GS.ret (fn := Tryz.f21) [0] [.slice x5 y3.length x6] [] rfl Tryz.func21 (by kernel_rfl) trivial (fun w' hs => ?_)
  exact ⟨⟨x5, x6⟩, rfl, hs.turnedG (ks := [2]) rfl rfl⟩

theorem w_tholeref02_PutVersion (F : Nat) (a0_o : Option Addr) (a0_c : Nat) (a0 : List UInt8) (a1 : S_api_Version) {y : List UInt8} (hm : m_tholeref02_PutVersion F a0 a1 = some y) : CallG Tryz.prog 43 #[.slice a0_o a0.length a0_c, .agg #[.int .i64 a1.Epoch, .int .i64 a1.N]] (X := Option Addr × Nat) (fun ⟨x0, x1⟩ => .slice x0 y.length x1) [o5 a0_o a0_c a0] [] (fun ⟨x0, x1⟩ => [o5 x0 x1 y]) := by
  intro w hg
  rw [m_tholeref02_PutVersion] at hm
  refine GS.start (S := mayT [o5 a0_o a0_c a0] []) (mem := [(1, o5 a0_o a0_c a0)]) Tryz.func43 rfl Tryz.ntmps43 (Nat.le_of_ble_eq_true rfl) (hg.start rfl) ?_
  refine GS.conv (env' := [(0, .slice a0_o a0.length a0_c), (1, .agg #[.int .i64 a1.Epoch, .int .i64 a1.N])]) rfl rfl ?_
  refine GS.seq ?_
  refine GS.region (env' := fun fr1 => [(0, .slice a0_o a0.length a0_c), (3, .pointer (some ⟨(fr1 0).x, 0, none⟩))]) (mem' := fun fr1 => [(1, o5 a0_o a0_c a0), (2, .cells ((fr1 0).x) 30 [.int .i64 a1.Epoch, .int .i64 a1.N])]) (RunsTo.mk [(0, { act := .new .var, key := some 2 })] [0, 3] [1, 2] (fun fr1 => []) (fun fr1 => by kernel_rfl) (fun fr1 => trivial)) ?_
  intro fr1
  refine GS.seq ?_
  refine bnd_elim hm (fun y3 e4 hm => ?_)
  refine GS.open_ ?_
  refine GR.run (i := 0) 3 (env' := fun _ => [(0, .slice a0_o a0.length a0_c), (3, .pointer (some ⟨(fr1 0).x, 0, none⟩)), (5, .slice a0_o a0.length a0_c), (7, .int .i64 a1.Epoch)]) (mem' := fun _ => [(1, o5 a0_o a0_c a0), (2, .cells ((fr1 0).x) 30 [.int .i64 a1.Epoch, .int .i64 a1.N])]) (Nat.le_of_ble_eq_true (by kernel_rfl)) (RunsTo.mk [(2, { act := .load 2 0 0 [] })] [0, 3, 5, 7] [1, 2] (fun _ => [(fr1 0).x = (fr1 0).x]) (fun _ => by kernel_rfl) (fun _ => ⟨rfl, trivial⟩)) ?_
  intro _
  refine GR.callG (X := Option Addr × Nat) (i := 3) (g := 18) (args := #[.slice a0_o a0.length a0_c, .int .i64 a1.Epoch]) (v := fun ⟨x5, x6⟩ => .slice x5 y3.length x6) (own := [o5 a0_o a0_c a0]) (ro := []) (es' := fun ⟨x5, x6⟩ => [o5 x5 x6 y3]) (mem' := fun ⟨x5, x6⟩ => [(2, .cells ((fr1 0).x) 30 [.int .i64 a1.Epoch, .int .i64 a1.N]), (3, o5 x5 x6 y3)]) (env' := fun ⟨x5, x6⟩ => [(0, .slice a0_o a0.length a0_c), (3, .pointer (some ⟨(fr1 0).x, 0, none⟩)), (8, .slice x5 y3.length x6)]) [1] [3] [0, 3, 8] [2, 3] false (by kernel_rfl) (by kernel_rfl) (by kernel_rfl) (by kernel_rfl) (by kernel_rfl) (fun _ => rfl) (fun _ _ => rfl) trivial (by rintro ⟨x5, x6⟩; kernel_rfl) (by rintro ⟨x5, x6⟩; kernel_rfl) ((by have h1 := w_tholeref02_Int_2 F a0_o a0_c a0 a1.Epoch e4; exact h1)) ?_
  rintro ⟨x5, x6⟩
  refine GR.run (i := 4) 1 (env' := fun _ => [(0, .slice x5 y3.length x6), (3, .pointer (some ⟨(fr1 0).x, 0, none⟩))]) (mem' := fun _ => [(2, .cells ((fr1 0).x) 30 [.int .i64 a1.Epoch, .int .i64 a1.N]), (3, o5 x5 x6 y3)]) (Nat.le_of_ble_eq_true (by kernel_rfl)) (RunsTo.mk [] [0, 3] [2, 3] (fun _ => []) (fun _ => by kernel_rfl) (fun _ => trivial)) ?_
  intro _
  refine GR.done (Nat.le_of_ble_eq_true (by kernel_rfl)) ?_
  refine GS.seq ?_
  refine bnd_elim hm (fun y9 e10 hm => ?_)
  refine GS.open_ ?_
  refine GR.run (i := 0) 3 (env' := fun _ => [(0, .slice x5 y3.length x6), (9, .slice x5 y3.length x6), (11, .int .i64 a1.N)]) (mem' := fun _ => [(3, o5 x5 x6 y3)]) (Nat.le_of_ble_eq_true (by kernel_rfl)) (RunsTo.mk [(2, { act := .load 2 0 0 [] })] [0, 9, 11] [3] (fun _ => [(fr1 0).x = (fr1 0).x]) (fun _ => by kernel_rfl) (fun _ => ⟨rfl, trivial⟩)) ?_
  intro _
  refine GR.callG (X := Option Addr × Nat) (i := 3) (g := 18) (args := #[.slice x5 y3.length x6, .int .i64 a1.N]) (v := fun ⟨x11, x12⟩ => .slice x11 y9.length x12) (own := [o5 x5 x6 y3]) (ro := []) (es' := fun ⟨x11, x12⟩ => [o5 x11 x12 y9]) (mem' := fun ⟨x11, x12⟩ => [(4, o5 x11 x12 y9)]) (env' := fun ⟨x11, x12⟩ => [(0, .slice x5 y3.length x6), (12, .slice x11 y9.length x12)]) [3] [4] [0, 12] [4] false (by kernel_rfl) (by kernel_rfl) (by kernel_rfl) (by kernel_rfl) (by kernel_rfl) (fun _ => rfl) (fun _ _ => rfl) trivial (by rintro ⟨x11, x12⟩; kernel_rfl) (by rintro ⟨x11, x12⟩; kernel_rfl) ((by have h1 := w_tholeref02_Int_2 F x5 x6 y3 a1.N e10; exact h1)) ?_
  rintro ⟨x11, x12⟩
  refine GR.run (i := 4) 1 (env' := fun _ => [(0, .slice x11 y9.length x12)]) (mem' := fun _ => [(4, o5 x11 x12 y9)]) (Nat.le_of_ble_eq_true (by kernel_rfl)) (RunsTo.mk [] [0] [4] (fun _ => []) (fun _ => by kernel_rfl) (fun _ => trivial)) ?_
  intro _
  refine GR.done (Nat.le_of_ble_eq_true (by kernel_rfl)) ?_
  refine GS.seq ?_
  refine GS.region (env' := fun _ => [(4, .slice x11 y9.length x12)]) (mem' := fun _ => [(4, o5 x11 x12 y9)]) (RunsTo.mk [] [4] [4] (fun _ => []) (fun _ => by kernel_rfl) (fun _ => trivial)) ?_
  intro _
  have hy := Option.some.inj hm
  subst hy
  refine GS.ret (fn := Tryz.f43) [0] [.slice x11 y9.length x12] [] rfl Tryz.func43 (by kernel_rfl) trivial (fun w' hs => ?_)
  exact ⟨⟨x11, x12⟩, rfl, hs.turnedG (ks := [4]) rfl rfl⟩

theorem w_tholeref02_PutInfo (F : Nat) (a0_o : Option Addr) (a0_c : Nat) (a0 : List UInt8) (a1 : S_api_Info) {y : List UInt8} (hm : m_tholeref02_PutInfo F a0 a1 = some y) : CallG Tryz.prog 25 #[.slice a0_o a0.length a0_c, .agg #[.int .i64 a1.Les, .int .i64 a1.Head.Epoch, .int .i64 a1.Head.N, .int .i64 a1.Tail.Epoch, .int .i64 a1.Tail.N, .int .i64 a1.Born]] (X := Option Addr × Nat) (fun ⟨x0, x1⟩ => .slice x0 y.length x1) [o5 a0_o a0_c a0] [] (fun ⟨x0, x1⟩ => [o5 x0 x1 y]) := by
  intro w hg
  rw [m_tholeref02_PutInfo] at hm
  refine GS.start (S := mayT [o5 a0_o a0_c a0] []) (mem := [(1, o5 a0_o a0_c a0)]) Tryz.func25 rfl Tryz.ntmps25 (Nat.le_of_ble_eq_true rfl) (hg.start rfl) ?_
  refine GS.conv (env' := [(0, .slice a0_o a0.length a0_c), (1, .agg #[.int .i64 a1.Les, .int .i64 a1.Head.Epoch, .int .i64 a1.Head.N, .int .i64 a1.Tail.Epoch, .int .i64 a1.Tail.N, .int .i64 a1.Born])]) rfl rfl ?_
  refine GS.seq ?_
  refine GS.region (env' := fun fr1 => [(0, .slice a0_o a0.length a0_c), (3, .pointer (some ⟨(fr1 0).x, 0, none⟩))]) (mem' := fun fr1 => [(1, o5 a0_o a0_c a0), (2, .cells ((fr1 0).x) 32 [.int .i64 a1.Les, .int .i64 a1.Head.Epoch, .int .i64 a1.Head.N, .int .i64 a1.Tail.Epoch, .int .i64 a1.Tail.N, .int .i64 a1.Born])]) (RunsTo.mk [(0, { act := .new .var, key := some 2 })] [0, 3] [1, 2] (fun fr1 => []) (fun fr1 => by kernel_rfl) (fun fr1 => trivial)) ?_
  intro fr1
  refine GS.seq ?_
  refine bnd_elim hm (fun y3 e4 hm => ?_)
  refine GS.open_ ?_
  refine GR.run (i := 0) 3 (env' := fun _ => [(0, .slice a0_o a0.length a0_c), (3, .pointer (some ⟨(fr1 0).x, 0, none⟩)), (5, .slice a0_o a0.length a0_c), (7, .int .i64 a1.Les)]) (mem' := fun _ => [(1, o5 a0_o a0_c a0), (2, .cells ((fr1 0).x) 32 [.int .i64 a1.Les, .int .i64 a1.Head.Epoch, .int .i64 a1.Head.N, .int .i64 a1.Tail.Epoch, .int .i64 a1.Tail.N, .int .i64 a1.Born])]) (Nat.le_of_ble_eq_true (by kernel_rfl)) (RunsTo.mk [(2, { act := .load 2 0 0 [] })] [0, 3, 5, 7] [1, 2] (fun _ => [(fr1 0).x = (fr1 0).x]) (fun _ => by kernel_rfl) (fun _ => ⟨rfl, trivial⟩)) ?_
  intro _
  refine GR.callG (X := Option Addr × Nat) (i := 3) (g := 18) (args := #[.slice a0_o a0.length a0_c, .int .i64 a1.Les]) (v := fun ⟨x5, x6⟩ => .slice x5 y3.length x6) (own := [o5 a0_o a0_c a0]) (ro := []) (es' := fun ⟨x5, x6⟩ => [o5 x5 x6 y3]) (mem' := fun ⟨x5, x6⟩ => [(2, .cells ((fr1 0).x) 32 [.int .i64 a1.Les, .int .i64 a1.Head.Epoch, .int .i64 a1.Head.N, .int .i64 a1.Tail.Epoch, .int .i64 a1.Tail.N, .int .i64 a1.Born]), (3, o5 x5 x6 y3)]) (env' := fun ⟨x5, x6⟩ => [(0, .slice a0_o a0.length a0_c), (3, .pointer (some ⟨(fr1 0).x, 0, none⟩)), (8, .slice x5 y3.length x6)]) [1] [3] [0, 3, 8] [2, 3] false (by kernel_rfl) (by kernel_rfl) (by kernel_rfl) (by kernel_rfl) (by kernel_rfl) (fun _ => rfl) (fun _ _ => rfl) trivial (by rintro ⟨x5, x6⟩; kernel_rfl) (by rintro ⟨x5, x6⟩; kernel_rfl) ((by have h1 := w_tholeref02_Int_2 F a0_o a0_c a0 a1.Les e4; exact h1)) ?_
  rintro ⟨x5, x6⟩
  refine GR.run (i := 4) 1 (env' := fun _ => [(0, .slice x5 y3.length x6), (3, .pointer (some ⟨(fr1 0).x, 0, none⟩))]) (mem' := fun _ => [(2, .cells ((fr1 0).x) 32 [.int .i64 a1.Les, .int .i64 a1.Head.Epoch, .int .i64 a1.Head.N, .int .i64 a1.Tail.Epoch, .int .i64 a1.Tail.N, .int .i64 a1.Born]), (3, o5 x5 x6 y3)]) (Nat.le_of_ble_eq_true (by kernel_rfl)) (RunsTo.mk [] [0, 3] [2, 3] (fun _ => []) (fun _ => by kernel_rfl) (fun _ => trivial)) ?_
  intro _
  refine GR.done (Nat.le_of_ble_eq_true (by kernel_rfl)) ?_
  refine GS.seq ?_
  refine bnd_elim hm (fun y9 e10 hm => ?_)
  refine GS.open_ ?_
  refine GR.run (i := 0) 3 (env' := fun _ => [(0, .slice x5 y3.length x6), (3, .pointer (some ⟨(fr1 0).x, 0, none⟩)), (9, .slice x5 y3.length x6), (11, .agg #[.int .i64 a1.Head.Epoch, .int .i64 a1.Head.N])]) (mem' := fun _ => [(2, .cells ((fr1 0).x) 32 [.int .i64 a1.Les, .int .i64 a1.Head.Epoch, .int .i64 a1.Head.N, .int .i64 a1.Tail.Epoch, .int .i64 a1.Tail.N, .int .i64 a1.Born]), (3, o5 x5 x6 y3)]) (Nat.le_of_ble_eq_true (by kernel_rfl)) (RunsTo.mk [(2, { act := .load 2 0 0 [] })] [0, 3, 9, 11] [2, 3] (fun _ => [(fr1 0).x = (fr1 0).x]) (fun _ => by kernel_rfl) (fun _ => ⟨rfl, trivial⟩)) ?_
  intro _
  refine GR.callG (X := Option Addr × Nat) (i := 3) (g := 43) (args := #[.slice x5 y3.length x6, .agg #[.int .i64 a1.Head.Epoch, .int .i64 a1.Head.N]]) (v := fun ⟨x11, x12⟩ => .slice x11 y9.length x12) (own := [o5 x5 x6 y3]) (ro := []) (es' := fun ⟨x11, x12⟩ => [o5 x11 x12 y9]) (mem' := fun ⟨x11, x12⟩ => [(2, .cells ((fr1 0).x) 32 [.int .i64 a1.Les, .int .i64 a1.Head.Epoch, .int .i64 a1.Head.N, .int .i64 a1.Tail.Epoch, .int .i64 a1.Tail.N, .int .i64 a1.Born]), (4, o5 x11 x12 y9)]) (env' := fun ⟨x11, x12⟩ => [(0, .slice x5 y3.length x6), (3, .pointer (some ⟨(fr1 0).x, 0, none⟩)), (12, .slice x11 y9.length x12)]) [3] [4] [0, 3, 12] [2, 4] false (by kernel_rfl) (by kernel_rfl) (by kernel_rfl) (by kernel_rfl) (by kernel_rfl) (fun _ => rfl) (fun _ _ => rfl) trivial (by rintro ⟨x11, x12⟩; kernel_rfl) (by rintro ⟨x11, x12⟩; kernel_rfl) ((by have h1 := w_tholeref02_PutVersion F x5 x6 y3 (S_api_Version.mk a1.Head.Epoch a1.Head.N) e10; exact h1)) ?_
  rintro ⟨x11, x12⟩
  refine GR.run (i := 4) 1 (env' := fun _ => [(0, .slice x11 y9.length x12), (3, .pointer (some ⟨(fr1 0).x, 0, none⟩))]) (mem' := fun _ => [(2, .cells ((fr1 0).x) 32 [.int .i64 a1.Les, .int .i64 a1.Head.Epoch, .int .i64 a1.Head.N, .int .i64 a1.Tail.Epoch, .int .i64 a1.Tail.N, .int .i64 a1.Born]), (4, o5 x11 x12 y9)]) (Nat.le_of_ble_eq_true (by kernel_rfl)) (RunsTo.mk [] [0, 3] [2, 4] (fun _ => []) (fun _ => by kernel_rfl) (fun _ => trivial)) ?_
  intro _
  refine GR.done (Nat.le_of_ble_eq_true (by kernel_rfl)) ?_
  refine GS.seq ?_
  refine bnd_elim hm (fun y15 e16 hm => ?_)
  refine GS.open_ ?_
  refine GR.run (i := 0) 3 (env' := fun _ => [(0, .slice x11 y9.length x12), (3, .pointer (some ⟨(fr1 0).x, 0, none⟩)), (13, .slice x11 y9.length x12), (15, .agg #[.int .i64 a1.Tail.Epoch, .int .i64 a1.Tail.N])]) (mem' := fun _ => [(2, .cells ((fr1 0).x) 32 [.int .i64 a1.Les, .int .i64 a1.Head.Epoch, .int .i64 a1.Head.N, .int .i64 a1.Tail.Epoch, .int .i64 a1.Tail.N, .int .i64 a1.Born]), (4, o5 x11 x12 y9)]) (Nat.le_of_ble_eq_true (by kernel_rfl)) (RunsTo.mk [(2, { act := .load 2 0 0 [] })] [0, 3, 13, 15] [2, 4] (fun _ => [(fr1 0).x = (fr1 0).x]) (fun _ => by kernel_rfl) (fun _ => ⟨rfl, trivial⟩)) ?_
  intro _
  refine GR.callG (X := Option Addr × Nat) (i := 3) (g := 43) (args := #[.slice x11 y9.length x12, .agg #[.int .i64 a1.Tail.Epoch, .int .i64 a1.Tail.N]]) (v := fun ⟨x17, x18⟩ => .slice x17 y15.length x18) (own := [o5 x11 x12 y9]) (ro := []) (es' := fun ⟨x17, x18⟩ => [o5 x17 x18 y15]) (mem' := fun ⟨x17, x18⟩ => [(2, .cells ((fr1 0).x) 32 [.int .i64 a1.Les, .int .i64 a1.Head.Epoch, .int .i64 a1.Head.N, .int .i64 a1.Tail.Epoch, .int .i64 a1.Tail.N, .int .i64 a1.Born]), (5, o5 x17 x18 y15)]) (env' := fun ⟨x17, x18⟩ => [(0, .slice x11 y9.length x12), (3, .pointer (some ⟨(fr1 0).x, 0, none⟩)), (16, .slice x17 y15.length x18)]) [4] [5] [0, 3, 16] [2, 5] false (by kernel_rfl) (by kernel_rfl) (by kernel_rfl) (by kernel_rfl) (by kernel_rfl) (fun _ => rfl) (fun _ _ => rfl) trivial (by rintro ⟨x17, x18⟩; kernel_rfl) (by rintro ⟨x17, x18⟩; kernel_rfl) ((by have h1 := w_tholeref02_PutVersion F x11 x12 y9 (S_api_Version.mk a1.Tail.Epoch a1.Tail.N) e16; exact h1)) ?_
  rintro ⟨x17, x18⟩
  refine GR.run (i := 4) 1 (env' := fun _ => [(0, .slice x17 y15.length x18), (3, .pointer (some ⟨(fr1 0).x, 0, none⟩))]) (mem' := fun _ => [(2, .cells ((fr1 0).x) 32 [.int .i64 a1.Les, .int .i64 a1.Head.Epoch, .int .i64 a1.Head.N, .int .i64 a1.Tail.Epoch, .int .i64 a1.Tail.N, .int .i64 a1.Born]), (5, o5 x17 x18 y15)]) (Nat.le_of_ble_eq_true (by kernel_rfl)) (RunsTo.mk [] [0, 3] [2, 5] (fun _ => []) (fun _ => by kernel_rfl) (fun _ => trivial)) ?_
  intro _
  refine GR.done (Nat.le_of_ble_eq_true (by kernel_rfl)) ?_
  refine GS.seq ?_
  refine bnd_elim hm (fun y21 e22 hm => ?_)
  refine GS.open_ ?_
  refine GR.run (i := 0) 3 (env' := fun _ => [(0, .slice x17 y15.length x18), (17, .slice x17 y15.length x18), (19, .int .i64 a1.Born)]) (mem' := fun _ => [(5, o5 x17 x18 y15)]) (Nat.le_of_ble_eq_true (by kernel_rfl)) (RunsTo.mk [(2, { act := .load 2 0 0 [] })] [0, 17, 19] [5] (fun _ => [(fr1 0).x = (fr1 0).x]) (fun _ => by kernel_rfl) (fun _ => ⟨rfl, trivial⟩)) ?_
  intro _
  refine GR.callG (X := Option Addr × Nat) (i := 3) (g := 18) (args := #[.slice x17 y15.length x18, .int .i64 a1.Born]) (v := fun ⟨x23, x24⟩ => .slice x23 y21.length x24) (own := [o5 x17 x18 y15]) (ro := []) (es' := fun ⟨x23, x24⟩ => [o5 x23 x24 y21]) (mem' := fun ⟨x23, x24⟩ => [(6, o5 x23 x24 y21)]) (env' := fun ⟨x23, x24⟩ => [(0, .slice x17 y15.length x18), (20, .slice x23 y21.length x24)]) [5] [6] [0, 20] [6] false (by kernel_rfl) (by kernel_rfl) (by kernel_rfl) (by kernel_rfl) (by kernel_rfl) (fun _ => rfl) (fun _ _ => rfl) trivial (by rintro ⟨x23, x24⟩; kernel_rfl) (by rintro ⟨x23, x24⟩; kernel_rfl) ((by have h1 := w_tholeref02_Int_2 F x17 x18 y15 a1.Born e22; exact h1)) ?_
  rintro ⟨x23, x24⟩
  refine GR.run (i := 4) 1 (env' := fun _ => [(0, .slice x23 y21.length x24)]) (mem' := fun _ => [(6, o5 x23 x24 y21)]) (Nat.le_of_ble_eq_true (by kernel_rfl)) (RunsTo.mk [] [0] [6] (fun _ => []) (fun _ => by kernel_rfl) (fun _ => trivial)) ?_
  intro _
  refine GR.done (Nat.le_of_ble_eq_true (by kernel_rfl)) ?_
  refine GS.seq ?_
  refine GS.region (env' := fun _ => [(4, .slice x23 y21.length x24)]) (mem' := fun _ => [(6, o5 x23 x24 y21)]) (RunsTo.mk [] [4] [6] (fun _ => []) (fun _ => by kernel_rfl) (fun _ => trivial)) ?_
  intro _
  have hy := Option.some.inj hm
  subst hy
  refine GS.ret (fn := Tryz.f25) [0] [.slice x23 y21.length x24] [] rfl Tryz.func25 (by kernel_rfl) trivial (fun w' hs => ?_)
  exact ⟨⟨x23, x24⟩, rfl, hs.turnedG (ks := [6]) rfl rfl⟩

theorem w_tholeref02_PutState (F : Nat) (a0_o : Option Addr) (a0_c : Nat) (a0 : List UInt8) (a1_Les : Int) (a1_Tail : S_api_Version) {y : List UInt8} (hm : m_tholeref02_PutState F a0 a1_Les a1_Tail = some y) : CallG Tryz.prog 26 #[.slice a0_o a0.length a0_c, .agg #[.int .i64 a1_Les, .int .i64 a1_Tail.Epoch, .int .i64 a1_Tail.N, .slice none 0 0, .slice none 0 0, .slice none 0 0]] (X := Option Addr × Nat) (fun ⟨x0, x1⟩ => .slice x0 y.length x1) [o5 a0_o a0_c a0] [] (fun ⟨x0, x1⟩ => [o5 x0 x1 y]) := by
  intro w hg
  rw [m_tholeref02_PutState] at hm
  refine GS.start (S := mayT [o5 a0_o a0_c a0] []) (mem := [(1, o5 a0_o a0_c a0)]) Tryz.func26 rfl Tryz.ntmps26 (Nat.le_of_ble_eq_true rfl) (hg.start rfl) ?_
  refine GS.conv (env' := [(0, .slice a0_o a0.length a0_c), (1, .agg #[.int .i64 a1_Les, .int .i64 a1_Tail.Epoch, .int .i64 a1_Tail.N, .slice none 0 0, .slice none 0 0, .slice none 0 0])]) rfl rfl ?_
  refine GS.seq ?_
  refine GS.region (env' := fun fr1 => [(0, .slice a0_o a0.length a0_c), (3, .pointer (some ⟨(fr1 0).x, 0, none⟩))]) (mem' := fun fr1 => [(1, o5 a0_o a0_c a0), (2, .cells ((fr1 0).x) 37 [.int .i64 a1_Les, .int .i64 a1_Tail.Epoch, .int .i64 a1_Tail.N, .slice none 0 0, .slice none 0 0, .slice none 0 0])]) (RunsTo.mk [(0, { act := .new .var, key := some 2 })] [0, 3] [1, 2] (fun fr1 => []) (fun fr1 => by kernel_rfl) (fun fr1 => trivial)) ?_
  intro fr1
  refine GS.seq ?_
  refine bnd_elim hm (fun y3 e4 hm => ?_)
  refine GS.open_ ?_
  refine GR.run (i := 0) 3 (env' := fun _ => [(0, .slice a0_o a0.length a0_c), (3, .pointer (some ⟨(fr1 0).x, 0, none⟩)), (11, .slice a0_o a0.length a0_c), (13, .int .i64 a1_Les)]) (mem' := fun _ => [(1, o5 a0_o a0_c a0), (2, .cells ((fr1 0).x) 37 [.int .i64 a1_Les, .int .i64 a1_Tail.Epoch, .int .i64 a1_Tail.N, .slice none 0 0, .slice none 0 0, .slice none 0 0])]) (Nat.le_of_ble_eq_true (by kernel_rfl)) (RunsTo.mk [(2, { act := .load 2 0 0 [] })] [0, 3, 11, 13] [1, 2] (fun _ => [(fr1 0).x = (fr1 0).x]) (fun _ => by kernel_rfl) (fun _ => ⟨rfl, trivial⟩)) ?_
  intro _
  refine GR.callG (X := Option Addr × Nat) (i := 3) (g := 18) (args := #[.slice a0_o a0.length a0_c, .int .i64 a1_Les]) (v := fun ⟨x5, x6⟩ => .slice x5 y3.length x6) (own := [o5 a0_o a0_c a0]) (ro := []) (es' := fun ⟨x5, x6⟩ => [o5 x5 x6 y3]) (mem' := fun ⟨x5, x6⟩ => [(2, .cells ((fr1 0).x) 37 [.int .i64 a1_Les, .int .i64 a1_Tail.Epoch, .int .i64 a1_Tail.N, .slice none 0 0, .slice none 0 0, .slice none 0 0]), (3, o5 x5 x6 y3)]) (env' := fun ⟨x5, x6⟩ => [(0, .slice a0_o a0.length a0_c), (3, .pointer (some ⟨(fr1 0).x, 0, none⟩)), (14, .slice x5 y3.length x6)]) [1] [3] [0, 3, 14] [2, 3] false (by kernel_rfl) (by kernel_rfl) (by kernel_rfl) (by kernel_rfl) (by kernel_rfl) (fun _ => rfl) (fun _ _ => rfl) trivial (by rintro ⟨x5, x6⟩; kernel_rfl) (by rintro ⟨x5, x6⟩; kernel_rfl) ((by have h1 := w_tholeref02_Int_2 F a0_o a0_c a0 a1_Les e4; exact h1)) ?_
  rintro ⟨x5, x6⟩
  refine GR.run (i := 4) 1 (env' := fun _ => [(0, .slice x5 y3.length x6), (3, .pointer (some ⟨(fr1 0).x, 0, none⟩))]) (mem' := fun _ => [(2, .cells ((fr1 0).x) 37 [.int .i64 a1_Les, .int .i64 a1_Tail.Epoch, .int .i64 a1_Tail.N, .slice none 0 0, .slice none 0 0, .slice none 0 0]), (3, o5 x5 x6 y3)]) (Nat.le_of_ble_eq_true (by kernel_rfl)) (RunsTo.mk [] [0, 3] [2, 3] (fun _ => []) (fun _ => by kernel_rfl) (fun _ => trivial)) ?_
  intro _
  refine GR.done (Nat.le_of_ble_eq_true (by kernel_rfl)) ?_
  refine GS.seq ?_
  refine bnd_elim hm (fun y9 e10 hm => ?_)
  refine GS.open_ ?_
  refine GR.run (i := 0) 3 (env' := fun _ => [(0, .slice x5 y3.length x6), (3, .pointer (some ⟨(fr1 0).x, 0, none⟩)), (15, .slice x5 y3.length x6), (17, .agg #[.int .i64 a1_Tail.Epoch, .int .i64 a1_Tail.N])]) (mem' := fun _ => [(2, .cells ((fr1 0).x) 37 [.int .i64 a1_Les, .int .i64 a1_Tail.Epoch, .int .i64 a1_Tail.N, .slice none 0 0, .slice none 0 0, .slice none 0 0]), (3, o5 x5 x6 y3)]) (Nat.le_of_ble_eq_true (by kernel_rfl)) (RunsTo.mk [(2, { act := .load 2 0 0 [] })] [0, 3, 15, 17] [2, 3] (fun _ => [(fr1 0).x = (fr1 0).x]) (fun _ => by kernel_rfl) (fun _ => ⟨rfl, trivial⟩)) ?_
  intro _
  refine GR.callG (X := Option Addr × Nat) (i := 3) (g := 43) (args := #[.slice x5 y3.length x6, .agg #[.int .i64 a1_Tail.Epoch, .int .i64 a1_Tail.N]]) (v := fun ⟨x11, x12⟩ => .slice x11 y9.length x12) (own := [o5 x5 x6 y3]) (ro := []) (es' := fun ⟨x11, x12⟩ => [o5 x11 x12 y9]) (mem' := fun ⟨x11, x12⟩ => [(2, .cells ((fr1 0).x) 37 [.int .i64 a1_Les, .int .i64 a1_Tail.Epoch, .int .i64 a1_Tail.N, .slice none 0 0, .slice none 0 0, .slice none 0 0]), (4, o5 x11 x12 y9)]) (env' := fun ⟨x11, x12⟩ => [(0, .slice x5 y3.length x6), (3, .pointer (some ⟨(fr1 0).x, 0, none⟩)), (18, .slice x11 y9.length x12)]) [3] [4] [0, 3, 18] [2, 4] false (by kernel_rfl) (by kernel_rfl) (by kernel_rfl) (by kernel_rfl) (by kernel_rfl) (fun _ => rfl) (fun _ _ => rfl) trivial (by rintro ⟨x11, x12⟩; kernel_rfl) (by rintro ⟨x11, x12⟩; kernel_rfl) ((by have h1 := w_tholeref02_PutVersion F x5 x6 y3 a1_Tail e10; exact h1)) ?_
  rintro ⟨x11, x12⟩
  refine GR.run (i := 4) 1 (env' := fun _ => [(0, .slice x11 y9.length x12), (3, .pointer (some ⟨(fr1 0).x, 0, none⟩))]) (mem' := fun _ => [(2, .cells ((fr1 0).x) 37 [.int .i64 a1_Les, .int .i64 a1_Tail.Epoch, .int .i64 a1_Tail.N, .slice none 0 0, .slice none 0 0, .slice none 0 0]), (4, o5 x11 x12 y9)]) (Nat.le_of_ble_eq_true (by kernel_rfl)) (RunsTo.mk [] [0, 3] [2, 4] (fun _ => []) (fun _ => by kernel_rfl) (fun _ => trivial)) ?_
  intro _
  refine GR.done (Nat.le_of_ble_eq_true (by kernel_rfl)) ?_
  refine GS.seq ?_
  refine bnd_elim hm (fun y15 e16 hm => ?_)
  refine GS.open_ ?_
  refine GR.run (i := 0) 4 (env' := fun _ => [(0, .slice x11 y9.length x12), (3, .pointer (some ⟨(fr1 0).x, 0, none⟩)), (19, .slice x11 y9.length x12), (22, .int .i64 0)]) (mem' := fun _ => [(2, .cells ((fr1 0).x) 37 [.int .i64 a1_Les, .int .i64 a1_Tail.Epoch, .int .i64 a1_Tail.N, .slice none 0 0, .slice none 0 0, .slice none 0 0]), (4, o5 x11 x12 y9)]) (Nat.le_of_ble_eq_true (by kernel_rfl)) (RunsTo.mk [(2, { act := .load 2 0 0 [] })] [0, 3, 19, 22] [2, 4] (fun _ => [(fr1 0).x = (fr1 0).x]) (fun _ => by kernel_rfl) (fun _ => ⟨rfl, trivial⟩)) ?_
  intro _
  refine GR.callG (X := Option Addr × Nat) (i := 4) (g := 21) (args := #[.slice x11 y9.length x12, .int .i64 0]) (v := fun ⟨x17, x18⟩ => .slice x17 y15.length x18) (own := [o5 x11 x12 y9]) (ro := []) (es' := fun ⟨x17, x18⟩ => [o5 x17 x18 y15]) (mem' := fun ⟨x17, x18⟩ => [(2, .cells ((fr1 0).x) 37 [.int .i64 a1_Les, .int .i64 a1_Tail.Epoch, .int .i64 a1_Tail.N, .slice none 0 0, .slice none 0 0, .slice none 0 0]), (5, o5 x17 x18 y15)]) (env' := fun ⟨x17, x18⟩ => [(0, .slice x11 y9.length x12), (3, .pointer (some ⟨(fr1 0).x, 0, none⟩)), (23, .slice x17 y15.length x18)]) [4] [5] [0, 3, 23] [2, 5] false (by kernel_rfl) (by kernel_rfl) (by kernel_rfl) (by kernel_rfl) (by kernel_rfl) (fun _ => rfl) (fun _ _ => rfl) trivial (by rintro ⟨x17, x18⟩; kernel_rfl) (by rintro ⟨x17, x18⟩; kernel_rfl) ((by have h1 := w_tholeref02_Count F x11 x12 y9 0 e16; exact h1)) ?_
  rintro ⟨x17, x18⟩
  refine GR.run (i := 5) 1 (env' := fun _ => [(0, .slice x17 y15.length x18), (3, .pointer (some ⟨(fr1 0).x, 0, none⟩))]) (mem' := fun _ => [(2, .cells ((fr1 0).x) 37 [.int .i64 a1_Les, .int .i64 a1_Tail.Epoch, .int .i64 a1_Tail.N, .slice none 0 0, .slice none 0 0, .slice none 0 0]), (5, o5 x17 x18 y15)]) (Nat.le_of_ble_eq_true (by kernel_rfl)) (RunsTo.mk [] [0, 3] [2, 5] (fun _ => []) (fun _ => by kernel_rfl) (fun _ => trivial)) ?_
  intro _
  refine GR.done (Nat.le_of_ble_eq_true (by kernel_rfl)) ?_
  refine GS.seq ?_
  refine GS.seq ?_
  refine GS.region (env' := fun _ => [(0, .slice x17 y15.length x18), (3, .pointer (some ⟨(fr1 0).x, 0, none⟩)), (25, .slice none 0 0), (26, .int .i64 0), (27, .int .i64 0)]) (mem' := fun _ => [(2, .cells ((fr1 0).x) 37 [.int .i64 a1_Les, .int .i64 a1_Tail.Epoch, .int .i64 a1_Tail.N, .slice none 0 0, .slice none 0 0, .slice none 0 0]), (5, o5 x17 x18 y15)]) (RunsTo.mk [(1, { act := .load 2 0 0 [] })] [0, 3, 25, 26, 27] [2, 5] (fun _ => [(fr1 0).x = (fr1 0).x]) (fun _ => by kernel_rfl) (fun _ => ⟨rfl, trivial⟩)) ?_
  intro _
  refine GS.block ?_
  refine GS.loop ?_
  refine GS.know (p := y15.length ≤ x18) (fun w hw => by first | (have h := (hw.ok 5 _ rfl).1.1; rw [List.length_map] at h; exact h) | simpa using (hw.ok 5 _ rfl).1.1) (fun k21 => ?_)
  refine GS.seq ?_
  refine GS.region (env' := fun _ => [(0, .slice x17 y15.length x18), (3, .pointer (some ⟨(fr1 0).x, 0, none⟩)), (25, .slice none 0 0), (26, .int .i64 0), (27, .int .i64 0), (28, .bool false)]) (mem' := fun _ => [(2, .cells ((fr1 0).x) 37 [.int .i64 a1_Les, .int .i64 a1_Tail.Epoch, .int .i64 a1_Tail.N, .slice none 0 0, .slice none 0 0, .slice none 0 0]), (5, o5 x17 x18 y15)]) (RunsTo.mk [] [0, 3, 25, 26, 27, 28] [2, 5] (fun _ => []) (fun _ => by kernel_rfl) (fun _ => trivial)) ?_
  intro _
  refine GS.seq ?_
  refine GS.cond (t := false) rfl rfl (fun hf => by cases hf) (fun _ => ?_)
  refine GS.exit rfl ?_
  refine GS.seq ?_
  refine bnd_elim hm (fun y24 e25 hm => ?_)
  refine GS.open_ ?_
  refine GR.run (i := 0) 4 (env' := fun _ => [(0, .slice x17 y15.length x18), (3, .pointer (some ⟨(fr1 0).x, 0, none⟩)), (35, .slice x17 y15.length x18), (38, .int .i64 0)]) (mem' := fun _ => [(2, .cells ((fr1 0).x) 37 [.int .i64 a1_Les, .int .i64 a1_Tail.Epoch, .int .i64 a1_Tail.N, .slice none 0 0, .slice none 0 0, .slice none 0 0]), (5, o5 x17 x18 y15)]) (Nat.le_of_ble_eq_true (by kernel_rfl)) (RunsTo.mk [(2, { act := .load 2 0 0 [] })] [0, 3, 35, 38] [2, 5] (fun _ => [(fr1 0).x = (fr1 0).x]) (fun _ => by kernel_rfl) (fun _ => ⟨rfl, trivial⟩)) ?_
  intro _
  refine GR.callG (X := Option Addr × Nat) (i := 4) (g := 21) (args := #[.slice x17 y15.length x18, .int .i64 0]) (v := fun ⟨x26, x27⟩ => .slice x26 y24.length x27) (own := [o5 x17 x18 y15]) (ro := []) (es' := fun ⟨x26, x27⟩ => [o5 x26 x27 y24]) (mem' := fun ⟨x26, x27⟩ => [(2, .cells ((fr1 0).x) 37 [.int .i64 a1_Les, .int .i64 a1_Tail.Epoch, .int .i64 a1_Tail.N, .slice none 0 0, .slice none 0 0, .slice none 0 0]), (6, o5 x26 x27 y24)]) (env' := fun ⟨x26, x27⟩ => [(0, .slice x17 y15.length x18), (3, .pointer (some ⟨(fr1 0).x, 0, none⟩)), (39, .slice x26 y24.length x27)]) [5] [6] [0, 3, 39] [2, 6] false (by kernel_rfl) (by kernel_rfl) (by kernel_rfl) (by kernel_rfl) (by kernel_rfl) (fun _ => rfl) (fun _ _ => rfl) trivial (by rintro ⟨x26, x27⟩; kernel_rfl) (by rintro ⟨x26, x27⟩; kernel_rfl) ((by have h1 := w_tholeref02_Count F x17 x18 y15 0 e25; exact h1)) ?_
  rintro ⟨x26, x27⟩
  refine GR.run (i := 5) 1 (env' := fun _ => [(0, .slice x26 y24.length x27), (3, .pointer (some ⟨(fr1 0).x, 0, none⟩))]) (mem' := fun _ => [(2, .cells ((fr1 0).x) 37 [.int .i64 a1_Les, .int .i64 a1_Tail.Epoch, .int .i64 a1_Tail.N, .slice none 0 0, .slice none 0 0, .slice none 0 0]), (6, o5 x26 x27 y24)]) (Nat.le_of_ble_eq_true (by kernel_rfl)) (RunsTo.mk [] [0, 3] [2, 6] (fun _ => []) (fun _ => by kernel_rfl) (fun _ => trivial)) ?_
  intro _
  refine GR.done (Nat.le_of_ble_eq_true (by kernel_rfl)) ?_
  refine GS.seq ?_
  refine GS.seq ?_
  refine GS.region (env' := fun _ => [(0, .slice x26 y24.length x27), (3, .pointer (some ⟨(fr1 0).x, 0, none⟩)), (41, .slice none 0 0), (42, .int .i64 0), (43, .int .i64 0)]) (mem' := fun _ => [(2, .cells ((fr1 0).x) 37 [.int .i64 a1_Les, .int .i64 a1_Tail.Epoch, .int .i64 a1_Tail.N, .slice none 0 0, .slice none 0 0, .slice none 0 0]), (6, o5 x26 x27 y24)]) (RunsTo.mk [(1, { act := .load 2 0 0 [] })] [0, 3, 41, 42, 43] [2, 6] (fun _ => [(fr1 0).x = (fr1 0).x]) (fun _ => by kernel_rfl) (fun _ => ⟨rfl, trivial⟩)) ?_
  intro _
  refine GS.block ?_
  refine GS.loop ?_
  refine GS.know (p := y24.length ≤ x27) (fun w hw => by first | (have h := (hw.ok 6 _ rfl).1.1; rw [List.length_map] at h; exact h) | simpa using (hw.ok 6 _ rfl).1.1) (fun k30 => ?_)
  refine GS.seq ?_
  refine GS.region (env' := fun _ => [(0, .slice x26 y24.length x27), (3, .pointer (some ⟨(fr1 0).x, 0, none⟩)), (41, .slice none 0 0), (42, .int .i64 0), (43, .int .i64 0), (44, .bool false)]) (mem' := fun _ => [(2, .cells ((fr1 0).x) 37 [.int .i64 a1_Les, .int .i64 a1_Tail.Epoch, .int .i64 a1_Tail.N, .slice none 0 0, .slice none 0 0, .slice none 0 0]), (6, o5 x26 x27 y24)]) (RunsTo.mk [] [0, 3, 41, 42, 43, 44] [2, 6] (fun _ => []) (fun _ => by kernel_rfl) (fun _ => trivial)) ?_
  intro _
  refine GS.seq ?_
  refine GS.cond (t := false) rfl rfl (fun hf => by cases hf) (fun _ => ?_)
  refine GS.exit rfl ?_
  refine GS.seq ?_
  refine bnd_elim hm (fun y33 e34 hm => ?_)
  refine GS.open_ ?_
  refine GR.run (i := 0) 4 (env' := fun _ => [(0, .slice x26 y24.length x27), (3, .pointer (some ⟨(fr1 0).x, 0, none⟩)), (51, .slice x26 y24.length x27), (54, .int .i64 0)]) (mem' := fun _ => [(2, .cells ((fr1 0).x) 37 [.int .i64 a1_Les, .int .i64 a1_Tail.Epoch, .int .i64 a1_Tail.N, .slice none 0 0, .slice none 0 0, .slice none 0 0]), (6, o5 x26 x27 y24)]) (Nat.le_of_ble_eq_true (by kernel_rfl)) (RunsTo.mk [(2, { act := .load 2 0 0 [] })] [0, 3, 51, 54] [2, 6] (fun _ => [(fr1 0).x = (fr1 0).x]) (fun _ => by kernel_rfl) (fun _ => ⟨rfl, trivial⟩)) ?_
  intro _
  refine GR.callG (X := Option Addr × Nat) (i := 4) (g := 21) (args := #[.slice x26 y24.length x27, .int .i64 0]) (v := fun ⟨x35, x36⟩ => .slice x35 y33.length x36) (own := [o5 x26 x27 y24]) (ro := []) (es' := fun ⟨x35, x36⟩ => [o5 x35 x36 y33]) (mem' := fun ⟨x35, x36⟩ => [(2, .cells ((fr1 0).x) 37 [.int .i64 a1_Les, .int .i64 a1_Tail.Epoch, .int .i64 a1_Tail.N, .slice none 0 0, .slice none 0 0, .slice none 0 0]), (7, o5 x35 x36 y33)]) (env' := fun ⟨x35, x36⟩ => [(0, .slice x26 y24.length x27), (3, .pointer (some ⟨(fr1 0).x, 0, none⟩)), (55, .slice x35 y33.length x36)]) [6] [7] [0, 3, 55] [2, 7] false (by kernel_rfl) (by kernel_rfl) (by kernel_rfl) (by kernel_rfl) (by kernel_rfl) (fun _ => rfl) (fun _ _ => rfl) trivial (by rintro ⟨x35, x36⟩; kernel_rfl) (by rintro ⟨x35, x36⟩; kernel_rfl) ((by have h1 := w_tholeref02_Count F x26 x27 y24 0 e34; exact h1)) ?_
  rintro ⟨x35, x36⟩
  refine GR.run (i := 5) 1 (env' := fun _ => [(0, .slice x35 y33.length x36), (3, .pointer (some ⟨(fr1 0).x, 0, none⟩))]) (mem' := fun _ => [(2, .cells ((fr1 0).x) 37 [.int .i64 a1_Les, .int .i64 a1_Tail.Epoch, .int .i64 a1_Tail.N, .slice none 0 0, .slice none 0 0, .slice none 0 0]), (7, o5 x35 x36 y33)]) (Nat.le_of_ble_eq_true (by kernel_rfl)) (RunsTo.mk [] [0, 3] [2, 7] (fun _ => []) (fun _ => by kernel_rfl) (fun _ => trivial)) ?_
  intro _
  refine GR.done (Nat.le_of_ble_eq_true (by kernel_rfl)) ?_
  refine GS.seq ?_
  refine GS.seq ?_
  refine GS.region (env' := fun _ => [(0, .slice x35 y33.length x36), (57, .slice none 0 0), (58, .int .i64 0), (59, .int .i64 0)]) (mem' := fun _ => [(7, o5 x35 x36 y33)]) (RunsTo.mk [(1, { act := .load 2 0 0 [] })] [0, 57, 58, 59] [7] (fun _ => [(fr1 0).x = (fr1 0).x]) (fun _ => by kernel_rfl) (fun _ => ⟨rfl, trivial⟩)) ?_
  intro _
  refine GS.block ?_
  refine GS.loop ?_
  refine GS.know (p := y33.length ≤ x36) (fun w hw => by first | (have h := (hw.ok 7 _ rfl).1.1; rw [List.length_map] at h; exact h) | simpa using (hw.ok 7 _ rfl).1.1) (fun k39 => ?_)
  refine GS.seq ?_
  refine GS.region (env' := fun _ => [(0, .slice x35 y33.length x36), (57, .slice none 0 0), (58, .int .i64 0), (59, .int .i64 0), (60, .bool false)]) (mem' := fun _ => [(7, o5 x35 x36 y33)]) (RunsTo.mk [] [0, 57, 58, 59, 60] [7] (fun _ => []) (fun _ => by kernel_rfl) (fun _ => trivial)) ?_
  intro _
  refine GS.seq ?_
  refine GS.cond (t := false) rfl rfl (fun hf => by cases hf) (fun _ => ?_)
  refine GS.exit rfl ?_
  refine GS.seq ?_
  refine GS.region (env' := fun _ => [(4, .slice x35 y33.length x36)]) (mem' := fun _ => [(7, o5 x35 x36 y33)]) (RunsTo.mk [] [4] [7] (fun _ => []) (fun _ => by kernel_rfl) (fun _ => trivial)) ?_
  intro _
  have hy := Option.some.inj hm
  subst hy
  refine GS.ret (fn := Tryz.f26) [0] [.slice x35 y33.length x36] [] rfl Tryz.func26 (by kernel_rfl) trivial (fun w' hs => ?_)
  exact ⟨⟨x35, x36⟩, rfl, hs.turnedG (ks := [7]) rfl rfl⟩

theorem w_tholeref02_Bool (F : Nat) (a0_o : Option Addr) (a0_c : Nat) (a0 : List UInt8) (a1 : Bool) {y : List UInt8} (hm : m_tholeref02_Bool F a0 a1 = some y) : CallG Tryz.prog 45 #[.slice a0_o a0.length a0_c, .bool a1] (X := Option Addr × Nat) (fun ⟨x0, x1⟩ => .slice x0 y.length x1) [o5 a0_o a0_c a0] [] (fun ⟨x0, x1⟩ => [o5 x0 x1 y]) := by
  intro w hg
  rw [m_tholeref02_Bool] at hm
  refine GS.start (S := mayT [o5 a0_o a0_c a0] []) (mem := [(1, o5 a0_o a0_c a0)]) Tryz.func45 rfl Tryz.ntmps45 (Nat.le_of_ble_eq_true rfl) (hg.start rfl) ?_
  refine GS.conv (env' := [(0, .slice a0_o a0.length a0_c), (1, .bool a1)]) rfl rfl ?_
  refine GS.seq ?_
  refine GS.region (env' := fun _ => [(0, .slice a0_o a0.length a0_c), (1, .bool a1)]) (mem' := fun _ => [(1, o5 a0_o a0_c a0)]) (RunsTo.mk [] [0, 1] [1] (fun _ => []) (fun _ => by kernel_rfl) (fun _ => trivial)) ?_
  intro _
  refine GS.seq ?_
  refine GS.seq ?_
  refine GS.region (env' := fun _ => [(0, .slice a0_o a0.length a0_c), (5, .bool a1)]) (mem' := fun _ => [(1, o5 a0_o a0_c a0)]) (RunsTo.mk [] [0, 5] [1] (fun _ => []) (fun _ => by kernel_rfl) (fun _ => trivial)) ?_
  intro _
  refine GS.cond (t := a1) rfl rfl (fun h3 => ?_) (fun h3 => ?_)
  · replace hm := br_t h3 hm
    refine GS.seq ?_
    refine grd_elim hm (fun g5 hm => ?_)
    refine GS.region (env' := fun fr4 => [(4, .slice ((fr4 2).ob) ((a0 ++ [(1 : UInt8)]).length) ((fr4 2).cap))]) (mem' := fun fr4 => [(1, .osl ((fr4 2).ob) ((fr4 2).cap) 5 1 ((List.map rB a0) ++ ([[.int .u8 1]] : List (List Value))))]) (RunsTo.mk [(1, { act := .new (.row 1 1), key := some 2, spf := some (fun f => .slice (some (Addr.mk f.x 0 none)) ([(1 : UInt8)].length) 1) }), (2, { act := .app (some 2), key := some 1, spf := some (fun f => .slice (f.ob) ((a0 ++ [(1 : UInt8)]).length) (f.cap)) })] [4] [1] (fun fr4 => [((.slice (some (Addr.mk (fr4 1).x 0 none)) 1 1) : Value) = .slice (some (Addr.mk (fr4 1).x 0 none)) ([(1 : UInt8)].length) 1, (some (Addr.mk (fr4 1).x 0 none)) = (some (Addr.mk (fr4 1).x 0 none)), [(1 : UInt8)].length = ([[.int .u8 1]] : List (List Value)).length, a0_o = a0_o, a0_c = a0_c, a0.length = (List.map rB a0).length, ((List.map rB a0).length + ([[.int .u8 1]] : List (List Value)).length) * (1 + 1) ≤ 70368744177664, ([[.int .u8 1]] : List (List Value)).flatten.all Value.oneCell' = true, ((.slice ((fr4 2).ob) (a0.length + ([[.int .u8 1]] : List (List Value)).length) ((fr4 2).cap)) : Value) = .slice ((fr4 2).ob) ((a0 ++ [(1 : UInt8)]).length) ((fr4 2).cap)]) (fun fr4 => by kernel_rfl) (fun fr4 => ⟨rfl, rfl, (by rw [show ([[.int .u8 1]] : List (List Value)) = List.map rB [(1 : UInt8)] from rfl]; exact mlen rB [(1 : UInt8)]), rfl, rfl, mlen rB a0, appb g5 (mlen rB a0).symm (by rw [show ([[.int .u8 1]] : List (List Value)) = List.map rB [(1 : UInt8)] from rfl]; exact (mlen rB [(1 : UInt8)]).symm), (by rw [show ([[.int .u8 1]] : List (List Value)) = List.map rB [(1 : UInt8)] from (show ([[.int .u8 1]] : List (List Value)) = List.map rB [(1 : UInt8)] from rfl)]; exact all_one rB _ (fun _ => rfl)), slen (by simp), trivial⟩)) ?_
    intro fr4
    refine GS.conv (mem' := [(1, o5 ((fr4 2).ob) ((fr4 2).cap) (a0 ++ [(1 : UInt8)]))]) rfl (congrArg (fun rr : List (List Value) => ([(1, .osl ((fr4 2).ob) ((fr4 2).cap) 5 1 rr)] : List (Nat × Ent))) (show (List.map rB a0) ++ ([[.int .u8 1]] : List (List Value)) = List.map rB (a0 ++ [(1 : UInt8)]) from (by rw [show List.map rB a0 = List.map rB a0 from rfl, show ([[.int .u8 1]] : List (List Value)) = List.map rB [(1 : UInt8)] from (show ([[.int .u8 1]] : List (List Value)) = List.map rB [(1 : UInt8)] from rfl)]; exact mapp rB _ _))) ?_
    have hy := Option.some.inj hm
    subst hy
    refine GS.ret (fn := Tryz.f45) [0] [.slice ((fr4 2).ob) ((a0 ++ [(1 : UInt8)]).length) ((fr4 2).cap)] [] rfl Tryz.func45 (by kernel_rfl) trivial (fun w' hs => ?_)
    exact ⟨⟨(fr4 2).ob, (fr4 2).cap⟩, rfl, hs.turnedG (ks := [1]) rfl rfl⟩
  · replace hm := br_f h3 hm
    refine GS.skip ?_
    refine GS.seq ?_
    refine grd_elim hm (fun g7 hm => ?_)
    refine GS.region (env' := fun fr6 => [(4, .slice ((fr6 2).ob) ((a0 ++ [(0 : UInt8)]).length) ((fr6 2).cap))]) (mem' := fun fr6 => [(1, .osl ((fr6 2).ob) ((fr6 2).cap) 5 1 ((List.map rB a0) ++ ([[.int .u8 0]] : List (List Value))))]) (RunsTo.mk [(1, { act := .new (.row 1 1), key := some 2, spf := some (fun f => .slice (some (Addr.mk f.x 0 none)) ([(0 : UInt8)].length) 1) }), (2, { act := .app (some 2), key := some 1, spf := some (fun f => .slice (f.ob) ((a0 ++ [(0 : UInt8)]).length) (f.cap)) })] [4] [1] (fun fr6 => [((.slice (some (Addr.mk (fr6 1).x 0 none)) 1 1) : Value) = .slice (some (Addr.mk (fr6 1).x 0 none)) ([(0 : UInt8)].length) 1, (some (Addr.mk (fr6 1).x 0 none)) = (some (Addr.mk (fr6 1).x 0 none)), [(0 : UInt8)].length = ([[.int .u8 0]] : List (List Value)).length, a0_o = a0_o, a0_c = a0_c, a0.length = (List.map rB a0).length, ((List.map rB a0).length + ([[.int .u8 0]] : List (List Value)).length) * (1 + 1) ≤ 70368744177664, ([[.int .u8 0]] : List (List Value)).flatten.all Value.oneCell' = true, ((.slice ((fr6 2).ob) (a0.length + ([[.int .u8 0]] : List (List Value)).length) ((fr6 2).cap)) : Value) = .slice ((fr6 2).ob) ((a0 ++ [(0 : UInt8)]).length) ((fr6 2).cap)]) (fun fr6 => by kernel_rfl) (fun fr6 => ⟨rfl, rfl, (by rw [show ([[.int .u8 0]] : List (List Value)) = List.map rB [(0 : UInt8)] from rfl]; exact mlen rB [(0 : UInt8)]), rfl, rfl, mlen rB a0, appb g7 (mlen rB a0).symm (by rw [show ([[.int .u8 0]] : List (List Value)) = List.map rB [(0 : UInt8)] from rfl]; exact (mlen rB [(0 : UInt8)]).symm), (by rw [show ([[.int .u8 0]] : List (List Value)) = List.map rB [(0 : UInt8)] from (show ([[.int .u8 0]] : List (List Value)) = List.map rB [(0 : UInt8)] from rfl)]; exact all_one rB _ (fun _ => rfl)), slen (by simp), trivial⟩)) ?_
    intro fr6
    refine GS.conv (mem' := [(1, o5 ((fr6 2).ob) ((fr6 2).cap) (a0 ++ [(0 : UInt8)]))]) rfl (congrArg (fun rr : List (List Value) => ([(1, .osl ((fr6 2).ob) ((fr6 2).cap) 5 1 rr)] : List (Nat × Ent))) (show (List.map rB a0) ++ ([[.int .u8 0]] : List (List Value)) = List.map rB (a0 ++ [(0 : UInt8)]) from (by rw [show List.map rB a0 = List.map rB a0 from rfl, show ([[.int .u8 0]] : List (List Value)) = List.map rB [(0 : UInt8)] from (show ([[.int .u8 0]] : List (List Value)) = List.map rB [(0 : UInt8)] from rfl)]; exact mapp rB _ _))) ?_
    have hy := Option.some.inj hm
    subst hy
    refine GS.ret (fn := Tryz.f45) [0] [.slice ((fr6 2).ob) ((a0 ++ [(0 : UInt8)]).length) ((fr6 2).cap)] [] rfl Tryz.func45 (by kernel_rfl) trivial (fun w' hs => ?_)
    exact ⟨⟨(fr6 2).ob, (fr6 2).cap⟩, rfl, hs.turnedG (ks := [1]) rfl rfl⟩

theorem w_tholeref02_Bytes (F : Nat) (a0_o : Option Addr) (a0_c : Nat) (a0 : List UInt8) (a1_o : Option Addr) (a1_c : Nat) (a1 : List UInt8) {y : List UInt8} (hm : m_tholeref02_Bytes F a0 a1 = some y) : CallG Tryz.prog 31 #[.slice a0_o a0.length a0_c, .slice a1_o a1.length a1_c] (X := Option Addr × Nat) (fun ⟨x0, x1⟩ => .slice x0 y.length x1) [o5 a0_o a0_c a0] [r5 a1_o a1] (fun ⟨x0, x1⟩ => [o5 x0 x1 y]) := by
  intro w hg
  rw [m_tholeref02_Bytes] at hm
  refine GS.start (S := mayT [o5 a0_o a0_c a0] [r5 a1_o a1]) (mem := [(1, o5 a0_o a0_c a0), (2, r5 a1_o a1)]) Tryz.func31 rfl Tryz.ntmps31 (Nat.le_of_ble_eq_true rfl) (hg.start rfl) ?_
  refine GS.conv (env' := [(0, .slice a0_o a0.length a0_c), (1, .slice a1_o a1.length a1_c)]) rfl rfl ?_
  refine GS.seq ?_
  refine GS.region (env' := fun _ => [(0, .slice a0_o a0.length a0_c), (1, .slice a1_o a1.length a1_c)]) (mem' := fun _ => [(1, o5 a0_o a0_c a0), (2, r5 a1_o a1)]) (RunsTo.mk [] [0, 1] [1, 2] (fun _ => []) (fun _ => by kernel_rfl) (fun _ => trivial)) ?_
  intro _
  refine GS.seq ?_
  refine bnd_elim hm (fun y3 e4 hm => ?_)
  refine GS.open_ ?_
  refine GR.run (i := 0) 3 (env' := fun _ => [(1, .slice a1_o a1.length a1_c), (5, .slice a0_o a0.length a0_c), (7, .int .i64 ((a1.length : Nat) : Int))]) (mem' := fun _ => [(1, o5 a0_o a0_c a0), (2, r5 a1_o a1)]) (Nat.le_of_ble_eq_true (by kernel_rfl)) (RunsTo.mk [] [1, 5, 7] [1, 2] (fun _ => []) (fun _ => by kernel_rfl) (fun _ => trivial)) ?_
  intro _
  refine GR.callG (X := Option Addr × Nat) (i := 3) (g := 21) (args := #[.slice a0_o a0.length a0_c, .int .i64 ((a1.length : Nat) : Int)]) (v := fun ⟨x5, x6⟩ => .slice x5 y3.length x6) (own := [o5 a0_o a0_c a0]) (ro := []) (es' := fun ⟨x5, x6⟩ => [o5 x5 x6 y3]) (mem' := fun ⟨x5, x6⟩ => [(2, r5 a1_o a1), (3, o5 x5 x6 y3)]) (env' := fun ⟨x5, x6⟩ => [(1, .slice a1_o a1.length a1_c), (8, .slice x5 y3.length x6)]) [1] [3] [1, 8] [2, 3] false (by kernel_rfl) (by kernel_rfl) (by kernel_rfl) (by kernel_rfl) (by kernel_rfl) (fun _ => rfl) (fun _ _ => rfl) trivial (by rintro ⟨x5, x6⟩; kernel_rfl) (by rintro ⟨x5, x6⟩; kernel_rfl) ((by have h1 := w_tholeref02_Count F a0_o a0_c a0 ((a1.length : Nat) : Int) e4; exact h1)) ?_
  rintro ⟨x5, x6⟩
  refine grd_elim hm (fun g8 hm => ?_)
  refine GR.run (i := 4) 3 (env' := fun fr7 => [(4, .slice ((fr7 5).ob) ((y3 ++ a1).length) ((fr7 5).cap))]) (mem' := fun fr7 => [(3, .osl ((fr7 5).ob) ((fr7 5).cap) 5 1 ((List.map rB y3) ++ (List.map rB a1)))]) (Nat.le_of_ble_eq_true (by kernel_rfl)) (RunsTo.mk [(5, { act := .app (some 2), key := some 3, spf := some (fun f => .slice (f.ob) ((y3 ++ a1).length) (f.cap)) })] [4] [3] (fun fr7 => [a1_o = a1_o, a1.length = (List.map rB a1).length, x5 = x5, x6 = x6, y3.length = (List.map rB y3).length, ((List.map rB y3).length + (List.map rB a1).length) * (1 + 1) ≤ 70368744177664, (List.map rB a1).flatten.all Value.oneCell' = true, ((.slice ((fr7 5).ob) (y3.length + (List.map rB a1).length) ((fr7 5).cap)) : Value) = .slice ((fr7 5).ob) ((y3 ++ a1).length) ((fr7 5).cap)]) (fun fr7 => by kernel_rfl) (fun fr7 => ⟨rfl, mlen rB a1, rfl, rfl, mlen rB y3, appb g8 (mlen rB y3).symm (mlen rB a1).symm, (by rw [show List.map rB a1 = List.map rB a1 from rfl]; exact all_one rB _ (fun _ => rfl)), slen (by simp), trivial⟩)) ?_
  intro fr7
  refine GR.conv (mem' := [(3, o5 ((fr7 5).ob) ((fr7 5).cap) (y3 ++ a1))]) rfl (congrArg (fun rr : List (List Value) => ([(3, .osl ((fr7 5).ob) ((fr7 5).cap) 5 1 rr)] : List (Nat × Ent))) (show (List.map rB y3) ++ (List.map rB a1) = List.map rB (y3 ++ a1) from (by rw [show List.map rB y3 = List.map rB y3 from rfl, show List.map rB a1 = List.map rB a1 from rfl]; exact mapp rB _ _))) ?_
  refine GR.done (Nat.le_of_ble_eq_true (by kernel_rfl)) ?_
  have hy := Option.some.inj hm
  subst hy
  refine GS.ret (fn := Tryz.f31) [0] [.slice ((fr7 5).ob) ((y3 ++ a1).length) ((fr7 5).cap)] [] rfl Tryz.func31 (by kernel_rfl) trivial (fun w' hs => ?_)
  exact ⟨⟨(fr7 5).ob, (fr7 5).cap⟩, rfl, hs.turnedG (ks := [3]) rfl rfl⟩

theorem w_tholeref02_PutEntry (F : Nat) (a0_o : Option Addr) (a0_c : Nat) (a0 : List UInt8) (a1 : S_api_Entry) {y : List UInt8} (hm : m_tholeref02_PutEntry F a0 a1 = some y) : CallG Tryz.prog 27 #[.slice a0_o a0.length a0_c, .agg #[.int .i64 a1.Version.Epoch, .int .i64 a1.Version.N, .bool a1.Remove, .int .i64 a1.Errno, .string a1.Name, .int .i64 a1.Client, .int .i64 a1.Number]] (X := Option Addr × Nat) (fun ⟨x0, x1⟩ => .slice x0 y.length x1) [o5 a0_o a0_c a0] [] (fun ⟨x0, x1⟩ => [o5 x0 x1 y]) := by
  intro w hg
  rw [m_tholeref02_PutEntry] at hm
  refine GS.start (S := mayT [o5 a0_o a0_c a0] []) (mem := [(1, o5 a0_o a0_c a0)]) Tryz.func27 rfl Tryz.ntmps27 (Nat.le_of_ble_eq_true rfl) (hg.start rfl) ?_
  refine GS.conv (env' := [(0, .slice a0_o a0.length a0_c), (1, .agg #[.int .i64 a1.Version.Epoch, .int .i64 a1.Version.N, .bool a1.Remove, .int .i64 a1.Errno, .string a1.Name, .int .i64 a1.Client, .int .i64 a1.Number])]) rfl rfl ?_
  refine GS.seq ?_
  refine GS.region (env' := fun fr1 => [(0, .slice a0_o a0.length a0_c), (3, .pointer (some ⟨(fr1 0).x, 0, none⟩))]) (mem' := fun fr1 => [(1, o5 a0_o a0_c a0), (2, .cells ((fr1 0).x) 40 [.int .i64 a1.Version.Epoch, .int .i64 a1.Version.N, .bool a1.Remove, .int .i64 a1.Errno, .string a1.Name, .int .i64 a1.Client, .int .i64 a1.Number])]) (RunsTo.mk [(0, { act := .new .var, key := some 2 })] [0, 3] [1, 2] (fun fr1 => []) (fun fr1 => by kernel_rfl) (fun fr1 => trivial)) ?_
  intro fr1
  refine GS.seq ?_
  refine bnd_elim hm (fun y3 e4 hm => ?_)
  refine GS.open_ ?_
  refine GR.run (i := 0) 3 (env' := fun _ => [(0, .slice a0_o a0.length a0_c), (3, .pointer (some ⟨(fr1 0).x, 0, none⟩)), (5, .slice a0_o a0.length a0_c), (7, .agg #[.int .i64 a1.Version.Epoch, .int .i64 a1.Version.N])]) (mem' := fun _ => [(1, o5 a0_o a0_c a0), (2, .cells ((fr1 0).x) 40 [.int .i64 a1.Version.Epoch, .int .i64 a1.Version.N, .bool a1.Remove, .int .i64 a1.Errno, .string a1.Name, .int .i64 a1.Client, .int .i64 a1.Number])]) (Nat.le_of_ble_eq_true (by kernel_rfl)) (RunsTo.mk [(2, { act := .load 2 0 0 [] })] [0, 3, 5, 7] [1, 2] (fun _ => [(fr1 0).x = (fr1 0).x]) (fun _ => by kernel_rfl) (fun _ => ⟨rfl, trivial⟩)) ?_
  intro _
  refine GR.callG (X := Option Addr × Nat) (i := 3) (g := 43) (args := #[.slice a0_o a0.length a0_c, .agg #[.int .i64 a1.Version.Epoch, .int .i64 a1.Version.N]]) (v := fun ⟨x5, x6⟩ => .slice x5 y3.length x6) (own := [o5 a0_o a0_c a0]) (ro := []) (es' := fun ⟨x5, x6⟩ => [o5 x5 x6 y3]) (mem' := fun ⟨x5, x6⟩ => [(2, .cells ((fr1 0).x) 40 [.int .i64 a1.Version.Epoch, .int .i64 a1.Version.N, .bool a1.Remove, .int .i64 a1.Errno, .string a1.Name, .int .i64 a1.Client, .int .i64 a1.Number]), (3, o5 x5 x6 y3)]) (env' := fun ⟨x5, x6⟩ => [(0, .slice a0_o a0.length a0_c), (3, .pointer (some ⟨(fr1 0).x, 0, none⟩)), (8, .slice x5 y3.length x6)]) [1] [3] [0, 3, 8] [2, 3] false (by kernel_rfl) (by kernel_rfl) (by kernel_rfl) (by kernel_rfl) (by kernel_rfl) (fun _ => rfl) (fun _ _ => rfl) trivial (by rintro ⟨x5, x6⟩; kernel_rfl) (by rintro ⟨x5, x6⟩; kernel_rfl) ((by have h1 := w_tholeref02_PutVersion F a0_o a0_c a0 a1.Version e4; exact h1)) ?_
  rintro ⟨x5, x6⟩
  refine GR.run (i := 4) 1 (env' := fun _ => [(0, .slice x5 y3.length x6), (3, .pointer (some ⟨(fr1 0).x, 0, none⟩))]) (mem' := fun _ => [(2, .cells ((fr1 0).x) 40 [.int .i64 a1.Version.Epoch, .int .i64 a1.Version.N, .bool a1.Remove, .int .i64 a1.Errno, .string a1.Name, .int .i64 a1.Client, .int .i64 a1.Number]), (3, o5 x5 x6 y3)]) (Nat.le_of_ble_eq_true (by kernel_rfl)) (RunsTo.mk [] [0, 3] [2, 3] (fun _ => []) (fun _ => by kernel_rfl) (fun _ => trivial)) ?_
  intro _
  refine GR.done (Nat.le_of_ble_eq_true (by kernel_rfl)) ?_
  refine GS.seq ?_
  refine bnd_elim hm (fun y9 e10 hm => ?_)
  refine GS.open_ ?_
  refine GR.run (i := 0) 3 (env' := fun _ => [(0, .slice x5 y3.length x6), (3, .pointer (some ⟨(fr1 0).x, 0, none⟩)), (9, .slice x5 y3.length x6), (11, .bool a1.Remove)]) (mem' := fun _ => [(2, .cells ((fr1 0).x) 40 [.int .i64 a1.Version.Epoch, .int .i64 a1.Version.N, .bool a1.Remove, .int .i64 a1.Errno, .string a1.Name, .int .i64 a1.Client, .int .i64 a1.Number]), (3, o5 x5 x6 y3)]) (Nat.le_of_ble_eq_true (by kernel_rfl)) (RunsTo.mk [(2, { act := .load 2 0 0 [] })] [0, 3, 9, 11] [2, 3] (fun _ => [(fr1 0).x = (fr1 0).x]) (fun _ => by kernel_rfl) (fun _ => ⟨rfl, trivial⟩)) ?_
  intro _
  refine GR.callG (X := Option Addr × Nat) (i := 3) (g := 45) (args := #[.slice x5 y3.length x6, .bool a1.Remove]) (v := fun ⟨x11, x12⟩ => .slice x11 y9.length x12) (own := [o5 x5 x6 y3]) (ro := []) (es' := fun ⟨x11, x12⟩ => [o5 x11 x12 y9]) (mem' := fun ⟨x11, x12⟩ => [(2, .cells ((fr1 0).x) 40 [.int .i64 a1.Version.Epoch, .int .i64 a1.Version.N, .bool a1.Remove, .int .i64 a1.Errno, .string a1.Name, .int .i64 a1.Client, .int .i64 a1.Number]), (4, o5 x11 x12 y9)]) (env' := fun ⟨x11, x12⟩ => [(0, .slice x5 y3.length x6), (3, .pointer (some ⟨(fr1 0).x, 0, none⟩)), (12, .slice x11 y9.length x12)]) [3] [4] [0, 3, 12] [2, 4] false (by kernel_rfl) (by kernel_rfl) (by kernel_rfl) (by kernel_rfl) (by kernel_rfl) (fun _ => rfl) (fun _ _ => rfl) trivial (by rintro ⟨x11, x12⟩; kernel_rfl) (by rintro ⟨x11, x12⟩; kernel_rfl) ((by have h1 := w_tholeref02_Bool F x5 x6 y3 a1.Remove e10; exact h1)) ?_
  rintro ⟨x11, x12⟩
  refine GR.run (i := 4) 1 (env' := fun _ => [(0, .slice x11 y9.length x12), (3, .pointer (some ⟨(fr1 0).x, 0, none⟩))]) (mem' := fun _ => [(2, .cells ((fr1 0).x) 40 [.int .i64 a1.Version.Epoch, .int .i64 a1.Version.N, .bool a1.Remove, .int .i64 a1.Errno, .string a1.Name, .int .i64 a1.Client, .int .i64 a1.Number]), (4, o5 x11 x12 y9)]) (Nat.le_of_ble_eq_true (by kernel_rfl)) (RunsTo.mk [] [0, 3] [2, 4] (fun _ => []) (fun _ => by kernel_rfl) (fun _ => trivial)) ?_
  intro _
  refine GR.done (Nat.le_of_ble_eq_true (by kernel_rfl)) ?_
  refine GS.seq ?_
  refine bnd_elim hm (fun y15 e16 hm => ?_)
  refine GS.open_ ?_
  refine GR.run (i := 0) 3 (env' := fun _ => [(0, .slice x11 y9.length x12), (3, .pointer (some ⟨(fr1 0).x, 0, none⟩)), (13, .slice x11 y9.length x12), (15, .int .i64 a1.Errno)]) (mem' := fun _ => [(2, .cells ((fr1 0).x) 40 [.int .i64 a1.Version.Epoch, .int .i64 a1.Version.N, .bool a1.Remove, .int .i64 a1.Errno, .string a1.Name, .int .i64 a1.Client, .int .i64 a1.Number]), (4, o5 x11 x12 y9)]) (Nat.le_of_ble_eq_true (by kernel_rfl)) (RunsTo.mk [(2, { act := .load 2 0 0 [] })] [0, 3, 13, 15] [2, 4] (fun _ => [(fr1 0).x = (fr1 0).x]) (fun _ => by kernel_rfl) (fun _ => ⟨rfl, trivial⟩)) ?_
  intro _
  refine GR.callG (X := Option Addr × Nat) (i := 3) (g := 18) (args := #[.slice x11 y9.length x12, .int .i64 a1.Errno]) (v := fun ⟨x17, x18⟩ => .slice x17 y15.length x18) (own := [o5 x11 x12 y9]) (ro := []) (es' := fun ⟨x17, x18⟩ => [o5 x17 x18 y15]) (mem' := fun ⟨x17, x18⟩ => [(2, .cells ((fr1 0).x) 40 [.int .i64 a1.Version.Epoch, .int .i64 a1.Version.N, .bool a1.Remove, .int .i64 a1.Errno, .string a1.Name, .int .i64 a1.Client, .int .i64 a1.Number]), (5, o5 x17 x18 y15)]) (env' := fun ⟨x17, x18⟩ => [(0, .slice x11 y9.length x12), (3, .pointer (some ⟨(fr1 0).x, 0, none⟩)), (16, .slice x17 y15.length x18)]) [4] [5] [0, 3, 16] [2, 5] false (by kernel_rfl) (by kernel_rfl) (by kernel_rfl) (by kernel_rfl) (by kernel_rfl) (fun _ => rfl) (fun _ _ => rfl) trivial (by rintro ⟨x17, x18⟩; kernel_rfl) (by rintro ⟨x17, x18⟩; kernel_rfl) ((by have h1 := w_tholeref02_Int_2 F x11 x12 y9 a1.Errno e16; exact h1)) ?_
  rintro ⟨x17, x18⟩
  refine GR.run (i := 4) 1 (env' := fun _ => [(0, .slice x17 y15.length x18), (3, .pointer (some ⟨(fr1 0).x, 0, none⟩))]) (mem' := fun _ => [(2, .cells ((fr1 0).x) 40 [.int .i64 a1.Version.Epoch, .int .i64 a1.Version.N, .bool a1.Remove, .int .i64 a1.Errno, .string a1.Name, .int .i64 a1.Client, .int .i64 a1.Number]), (5, o5 x17 x18 y15)]) (Nat.le_of_ble_eq_true (by kernel_rfl)) (RunsTo.mk [] [0, 3] [2, 5] (fun _ => []) (fun _ => by kernel_rfl) (fun _ => trivial)) ?_
  intro _
  refine GR.done (Nat.le_of_ble_eq_true (by kernel_rfl)) ?_
  refine GS.seq ?_
  refine bnd_elim hm (fun y21 e22 hm => ?_)
  refine GS.open_ ?_
  refine GR.run (i := 0) 4 (env' := fun fr20 => [(0, .slice x17 y15.length x18), (3, .pointer (some ⟨(fr1 0).x, 0, none⟩)), (17, .slice x17 y15.length x18), (20, .slice (some (Addr.mk (fr20 3).x 0 none)) a1.Name.data.toList.length ((fr20 3).cap))]) (mem' := fun fr20 => [(2, .cells ((fr1 0).x) 40 [.int .i64 a1.Version.Epoch, .int .i64 a1.Version.N, .bool a1.Remove, .int .i64 a1.Errno, .string a1.Name, .int .i64 a1.Client, .int .i64 a1.Number]), (5, o5 x17 x18 y15), (6, .osl (some (Addr.mk (fr20 3).x 0 none)) ((fr20 3).cap) 5 1 (encB a1.Name.data.toList))]) (Nat.le_of_ble_eq_true (by kernel_rfl)) (RunsTo.mk [(2, { act := .load 2 0 0 [] }), (3, { act := .bytes, key := some 6, spf := some (fun f => .slice (some (Addr.mk f.x 0 none)) a1.Name.data.toList.length (f.cap)) })] [0, 3, 17, 20] [2, 5, 6] (fun fr20 => [(fr1 0).x = (fr1 0).x, ((.slice (some (Addr.mk (fr20 3).x 0 none)) a1.Name.size ((fr20 3).cap)) : Value) = .slice (some (Addr.mk (fr20 3).x 0 none)) a1.Name.data.toList.length ((fr20 3).cap)]) (fun fr20 => by kernel_rfl) (fun fr20 => ⟨rfl, rfl, trivial⟩)) ?_
  intro fr20
  refine GR.conv (mem' := [(2, .cells ((fr1 0).x) 40 [.int .i64 a1.Version.Epoch, .int .i64 a1.Version.N, .bool a1.Remove, .int .i64 a1.Errno, .string a1.Name, .int .i64 a1.Client, .int .i64 a1.Number]), (5, o5 x17 x18 y15), (6, o5 (some (Addr.mk (fr20 3).x 0 none)) ((fr20 3).cap) a1.Name.data.toList)]) rfl (congrArg (fun rr : List (List Value) => ([(2, .cells ((fr1 0).x) 40 [.int .i64 a1.Version.Epoch, .int .i64 a1.Version.N, .bool a1.Remove, .int .i64 a1.Errno, .string a1.Name, .int .i64 a1.Client, .int .i64 a1.Number]), (5, o5 x17 x18 y15), (6, .osl (some (Addr.mk (fr20 3).x 0 none)) ((fr20 3).cap) 5 1 rr)] : List (Nat × Ent))) (show encB a1.Name.data.toList = List.map rB a1.Name.data.toList from rfl)) ?_
  refine GR.callG (X := Option Addr × Nat) (i := 4) (g := 31) (args := #[.slice x17 y15.length x18, .slice (some (Addr.mk (fr20 3).x 0 none)) a1.Name.data.toList.length ((fr20 3).cap)]) (v := fun ⟨x23, x24⟩ => .slice x23 y21.length x24) (own := [o5 x17 x18 y15]) (ro := [r5 (some (Addr.mk (fr20 3).x 0 none)) a1.Name.data.toList]) (es' := fun ⟨x23, x24⟩ => [o5 x23 x24 y21]) (mem' := fun ⟨x23, x24⟩ => [(2, .cells ((fr1 0).x) 40 [.int .i64 a1.Version.Epoch, .int .i64 a1.Version.N, .bool a1.Remove, .int .i64 a1.Errno, .string a1.Name, .int .i64 a1.Client, .int .i64 a1.Number]), (6, o5 (some (Addr.mk (fr20 3).x 0 none)) ((fr20 3).cap) a1.Name.data.toList), (7, o5 x23 x24 y21)]) (env' := fun ⟨x23, x24⟩ => [(0, .slice x17 y15.length x18), (3, .pointer (some ⟨(fr1 0).x, 0, none⟩)), (21, .slice x23 y21.length x24)]) [5] [7] [0, 3, 21] [2, 6, 7] false (by kernel_rfl) (by kernel_rfl) (by kernel_rfl) (by kernel_rfl) (by kernel_rfl) (fun _ => rfl) (fun _ _ => rfl) ⟨(.inl ⟨6, _, rfl, rfl, Cov.osl_rd, fun h => by cases h⟩), trivial⟩ (by rintro ⟨x23, x24⟩; kernel_rfl) (by rintro ⟨x23, x24⟩; kernel_rfl) ((by have h1 := w_tholeref02_Bytes F x17 x18 y15 (some (Addr.mk (fr20 3).x 0 none)) ((fr20 3).cap) a1.Name.data.toList e22; exact h1)) ?_
  rintro ⟨x23, x24⟩
  refine GR.run (i := 5) 1 (env' := fun _ => [(0, .slice x23 y21.length x24), (3, .pointer (some ⟨(fr1 0).x, 0, none⟩))]) (mem' := fun _ => [(2, .cells ((fr1 0).x) 40 [.int .i64 a1.Version.Epoch, .int .i64 a1.Version.N, .bool a1.Remove, .int .i64 a1.Errno, .string a1.Name, .int .i64 a1.Client, .int .i64 a1.Number]), (7, o5 x23 x24 y21)]) (Nat.le_of_ble_eq_true (by kernel_rfl)) (RunsTo.mk [] [0, 3] [2, 7] (fun _ => []) (fun _ => by kernel_rfl) (fun _ => trivial)) ?_
  intro _
  refine GR.done (Nat.le_of_ble_eq_true (by kernel_rfl)) ?_
  refine GS.seq ?_
  refine bnd_elim hm (fun y27 e28 hm => ?_)
  refine GS.open_ ?_
  refine GR.run (i := 0) 3 (env' := fun _ => [(0, .slice x23 y21.length x24), (3, .pointer (some ⟨(fr1 0).x, 0, none⟩)), (22, .slice x23 y21.length x24), (24, .int .i64 a1.Client)]) (mem' := fun _ => [(2, .cells ((fr1 0).x) 40 [.int .i64 a1.Version.Epoch, .int .i64 a1.Version.N, .bool a1.Remove, .int .i64 a1.Errno, .string a1.Name, .int .i64 a1.Client, .int .i64 a1.Number]), (7, o5 x23 x24 y21)]) (Nat.le_of_ble_eq_true (by kernel_rfl)) (RunsTo.mk [(2, { act := .load 2 0 0 [] })] [0, 3, 22, 24] [2, 7] (fun _ => [(fr1 0).x = (fr1 0).x]) (fun _ => by kernel_rfl) (fun _ => ⟨rfl, trivial⟩)) ?_
  intro _
  refine GR.callG (X := Option Addr × Nat) (i := 3) (g := 18) (args := #[.slice x23 y21.length x24, .int .i64 a1.Client]) (v := fun ⟨x29, x30⟩ => .slice x29 y27.length x30) (own := [o5 x23 x24 y21]) (ro := []) (es' := fun ⟨x29, x30⟩ => [o5 x29 x30 y27]) (mem' := fun ⟨x29, x30⟩ => [(2, .cells ((fr1 0).x) 40 [.int .i64 a1.Version.Epoch, .int .i64 a1.Version.N, .bool a1.Remove, .int .i64 a1.Errno, .string a1.Name, .int .i64 a1.Client, .int .i64 a1.Number]), (8, o5 x29 x30 y27)]) (env' := fun ⟨x29, x30⟩ => [(0, .slice x23 y21.length x24), (3, .pointer (some ⟨(fr1 0).x, 0, none⟩)), (25, .slice x29 y27.length x30)]) [7] [8] [0, 3, 25] [2, 8] false (by kernel_rfl) (by kernel_rfl) (by kernel_rfl) (by kernel_rfl) (by kernel_rfl) (fun _ => rfl) (fun _ _ => rfl) trivial (by rintro ⟨x29, x30⟩; kernel_rfl) (by rintro ⟨x29, x30⟩; kernel_rfl) ((by have h1 := w_tholeref02_Int_2 F x23 x24 y21 a1.Client e28; exact h1)) ?_
  rintro ⟨x29, x30⟩
  refine GR.run (i := 4) 1 (env' := fun _ => [(0, .slice x29 y27.length x30), (3, .pointer (some ⟨(fr1 0).x, 0, none⟩))]) (mem' := fun _ => [(2, .cells ((fr1 0).x) 40 [.int .i64 a1.Version.Epoch, .int .i64 a1.Version.N, .bool a1.Remove, .int .i64 a1.Errno, .string a1.Name, .int .i64 a1.Client, .int .i64 a1.Number]), (8, o5 x29 x30 y27)]) (Nat.le_of_ble_eq_true (by kernel_rfl)) (RunsTo.mk [] [0, 3] [2, 8] (fun _ => []) (fun _ => by kernel_rfl) (fun _ => trivial)) ?_
  intro _
  refine GR.done (Nat.le_of_ble_eq_true (by kernel_rfl)) ?_
  refine GS.seq ?_
  refine bnd_elim hm (fun y33 e34 hm => ?_)
  refine GS.open_ ?_
  refine GR.run (i := 0) 3 (env' := fun _ => [(0, .slice x29 y27.length x30), (26, .slice x29 y27.length x30), (28, .int .i64 a1.Number)]) (mem' := fun _ => [(8, o5 x29 x30 y27)]) (Nat.le_of_ble_eq_true (by kernel_rfl)) (RunsTo.mk [(2, { act := .load 2 0 0 [] })] [0, 26, 28] [8] (fun _ => [(fr1 0).x = (fr1 0).x]) (fun _ => by kernel_rfl) (fun _ => ⟨rfl, trivial⟩)) ?_
  intro _
  refine GR.callG (X := Option Addr × Nat) (i := 3) (g := 18) (args := #[.slice x29 y27.length x30, .int .i64 a1.Number]) (v := fun ⟨x35, x36⟩ => .slice x35 y33.length x36) (own := [o5 x29 x30 y27]) (ro := []) (es' := fun ⟨x35, x36⟩ => [o5 x35 x36 y33]) (mem' := fun ⟨x35, x36⟩ => [(9, o5 x35 x36 y33)]) (env' := fun ⟨x35, x36⟩ => [(0, .slice x29 y27.length x30), (29, .slice x35 y33.length x36)]) [8] [9] [0, 29] [9] false (by kernel_rfl) (by kernel_rfl) (by kernel_rfl) (by kernel_rfl) (by kernel_rfl) (fun _ => rfl) (fun _ _ => rfl) trivial (by rintro ⟨x35, x36⟩; kernel_rfl) (by rintro ⟨x35, x36⟩; kernel_rfl) ((by have h1 := w_tholeref02_Int_2 F x29 x30 y27 a1.Number e34; exact h1)) ?_
  rintro ⟨x35, x36⟩
  refine GR.run (i := 4) 1 (env' := fun _ => [(0, .slice x35 y33.length x36)]) (mem' := fun _ => [(9, o5 x35 x36 y33)]) (Nat.le_of_ble_eq_true (by kernel_rfl)) (RunsTo.mk [] [0] [9] (fun _ => []) (fun _ => by kernel_rfl) (fun _ => trivial)) ?_
  intro _
  refine GR.done (Nat.le_of_ble_eq_true (by kernel_rfl)) ?_
  refine GS.seq ?_
  refine GS.region (env' := fun _ => [(4, .slice x35 y33.length x36)]) (mem' := fun _ => [(9, o5 x35 x36 y33)]) (RunsTo.mk [] [4] [9] (fun _ => []) (fun _ => by kernel_rfl) (fun _ => trivial)) ?_
  intro _
  have hy := Option.some.inj hm
  subst hy
  refine GS.ret (fn := Tryz.f27) [0] [.slice x35 y33.length x36] [] rfl Tryz.func27 (by kernel_rfl) trivial (fun w' hs => ?_)
  exact ⟨⟨x35, x36⟩, rfl, hs.turnedG (ks := [9]) rfl rfl⟩

theorem w_tholeref02_PutObject (F : Nat) (a0_o : Option Addr) (a0_c : Nat) (a0 : List UInt8) (a1_Name : ByteArray) (a1_Version : S_api_Version) (a1_Data_o : Option Addr) (a1_Data_c : Nat) (a1_Data : List UInt8) {y : List UInt8} (hm : m_tholeref02_PutObject F a0 a1_Name a1_Version a1_Data = some y) : CallG Tryz.prog 28 #[.slice a0_o a0.length a0_c, .agg #[.string a1_Name, .int .i64 a1_Version.Epoch, .int .i64 a1_Version.N, .slice a1_Data_o a1_Data.length a1_Data_c]] (X := Option Addr × Nat) (fun ⟨x0, x1⟩ => .slice x0 y.length x1) [o5 a0_o a0_c a0] [r5 a1_Data_o a1_Data] (fun ⟨x0, x1⟩ => [o5 x0 x1 y]) := by
  intro w hg
  rw [m_tholeref02_PutObject] at hm
  refine GS.start (S := mayT [o5 a0_o a0_c a0] [r5 a1_Data_o a1_Data]) (mem := [(1, o5 a0_o a0_c a0), (2, r5 a1_Data_o a1_Data)]) Tryz.func28 rfl Tryz.ntmps28 (Nat.le_of_ble_eq_true rfl) (hg.start rfl) ?_
  refine GS.conv (env' := [(0, .slice a0_o a0.length a0_c), (1, .agg #[.string a1_Name, .int .i64 a1_Version.Epoch, .int .i64 a1_Version.N, .slice a1_Data_o a1_Data.length a1_Data_c])]) rfl rfl ?_
  refine GS.seq ?_
  refine GS.region (env' := fun fr1 => [(0, .slice a0_o a0.length a0_c), (3, .pointer (some ⟨(fr1 0).x, 0, none⟩))]) (mem' := fun fr1 => [(1, o5 a0_o a0_c a0), (2, r5 a1_Data_o a1_Data), (3, .cells ((fr1 0).x) 43 [.string a1_Name, .int .i64 a1_Version.Epoch, .int .i64 a1_Version.N, .slice a1_Data_o a1_Data.length a1_Data_c])]) (RunsTo.mk [(0, { act := .new .var, key := some 3 })] [0, 3] [1, 2, 3] (fun fr1 => []) (fun fr1 => by kernel_rfl) (fun fr1 => trivial)) ?_
  intro fr1
  refine GS.seq ?_
  refine bnd_elim hm (fun y3 e4 hm => ?_)
  refine GS.open_ ?_
  refine GR.run (i := 0) 4 (env' := fun fr2 => [(0, .slice a0_o a0.length a0_c), (3, .pointer (some ⟨(fr1 0).x, 0, none⟩)), (5, .slice a0_o a0.length a0_c), (8, .slice (some (Addr.mk (fr2 3).x 0 none)) a1_Name.data.toList.length ((fr2 3).cap))]) (mem' := fun fr2 => [(1, o5 a0_o a0_c a0), (2, r5 a1_Data_o a1_Data), (3, .cells ((fr1 0).x) 43 [.string a1_Name, .int .i64 a1_Version.Epoch, .int .i64 a1_Version.N, .slice a1_Data_o a1_Data.length a1_Data_c]), (4, .osl (some (Addr.mk (fr2 3).x 0 none)) ((fr2 3).cap) 5 1 (encB a1_Name.data.toList))]) (Nat.le_of_ble_eq_true (by kernel_rfl)) (RunsTo.mk [(2, { act := .load 3 0 0 [] }), (3, { act := .bytes, key := some 4, spf := some (fun f => .slice (some (Addr.mk f.x 0 none)) a1_Name.data.toList.length (f.cap)) })] [0, 3, 5, 8] [1, 2, 3, 4] (fun fr2 => [(fr1 0).x = (fr1 0).x, ((.slice (some (Addr.mk (fr2 3).x 0 none)) a1_Name.size ((fr2 3).cap)) : Value) = .slice (some (Addr.mk (fr2 3).x 0 none)) a1_Name.data.toList.length ((fr2 3).cap)]) (fun fr2 => by kernel_rfl) (fun fr2 => ⟨rfl, rfl, trivial⟩)) ?_
  intro fr2
  refine GR.conv (mem' := [(1, o5 a0_o a0_c a0), (2, r5 a1_Data_o a1_Data), (3, .cells ((fr1 0).x) 43 [.string a1_Name, .int .i64 a1_Version.Epoch, .int .i64 a1_Version.N, .slice a1_Data_o a1_Data.length a1_Data_c]), (4, o5 (some (Addr.mk (fr2 3).x 0 none)) ((fr2 3).cap) a1_Name.data.toList)]) rfl (congrArg (fun rr : List (List Value) => ([(1, o5 a0_o a0_c a0), (2, r5 a1_Data_o a1_Data), (3, .cells ((fr1 0).x) 43 [.string a1_Name, .int .i64 a1_Version.Epoch, .int .i64 a1_Version.N, .slice a1_Data_o a1_Data.length a1_Data_c]), (4, .osl (some (Addr.mk (fr2 3).x 0 none)) ((fr2 3).cap) 5 1 rr)] : List (Nat × Ent))) (show encB a1_Name.data.toList = List.map rB a1_Name.data.toList from rfl)) ?_
  refine GR.callG (X := Option Addr × Nat) (i := 4) (g := 31) (args := #[.slice a0_o a0.length a0_c, .slice (some (Addr.mk (fr2 3).x 0 none)) a1_Name.data.toList.length ((fr2 3).cap)]) (v := fun ⟨x5, x6⟩ => .slice x5 y3.length x6) (own := [o5 a0_o a0_c a0]) (ro := [r5 (some (Addr.mk (fr2 3).x 0 none)) a1_Name.data.toList]) (es' := fun ⟨x5, x6⟩ => [o5 x5 x6 y3]) (mem' := fun ⟨x5, x6⟩ => [(2, r5 a1_Data_o a1_Data), (3, .cells ((fr1 0).x) 43 [.string a1_Name, .int .i64 a1_Version.Epoch, .int .i64 a1_Version.N, .slice a1_Data_o a1_Data.length a1_Data_c]), (4, o5 (some (Addr.mk (fr2 3).x 0 none)) ((fr2 3).cap) a1_Name.data.toList), (5, o5 x5 x6 y3)]) (env' := fun ⟨x5, x6⟩ => [(0, .slice a0_o a0.length a0_c), (3, .pointer (some ⟨(fr1 0).x, 0, none⟩)), (9, .slice x5 y3.length x6)]) [1] [5] [0, 3, 9] [2, 3, 4, 5] false (by kernel_rfl) (by kernel_rfl) (by kernel_rfl) (by kernel_rfl) (by kernel_rfl) (fun _ => rfl) (fun _ _ => rfl) ⟨(.inl ⟨4, _, rfl, rfl, Cov.osl_rd, fun h => by cases h⟩), trivial⟩ (by rintro ⟨x5, x6⟩; kernel_rfl) (by rintro ⟨x5, x6⟩; kernel_rfl) ((by have h1 := w_tholeref02_Bytes F a0_o a0_c a0 (some (Addr.mk (fr2 3).x 0 none)) ((fr2 3).cap) a1_Name.data.toList e4; exact h1)) ?_
  rintro ⟨x5, x6⟩
  refine GR.run (i := 5) 1 (env' := fun _ => [(0, .slice x5 y3.length x6), (3, .pointer (some ⟨(fr1 0).x, 0, none⟩))]) (mem' := fun _ => [(2, r5 a1_Data_o a1_Data), (3, .cells ((fr1 0).x) 43 [.string a1_Name, .int .i64 a1_Version.Epoch, .int .i64 a1_Version.N, .slice a1_Data_o a1_Data.length a1_Data_c]), (5, o5 x5 x6 y3)]) (Nat.le_of_ble_eq_true (by kernel_rfl)) (RunsTo.mk [] [0, 3] [2, 3, 5] (fun _ => []) (fun _ => by kernel_rfl) (fun _ => trivial)) ?_
  intro _
  refine GR.done (Nat.le_of_ble_eq_true (by kernel_rfl)) ?_
  refine GS.seq ?_
  refine bnd_elim hm (fun y9 e10 hm => ?_)
  refine GS.open_ ?_
  refine GR.run (i := 0) 3 (env' := fun _ => [(0, .slice x5 y3.length x6), (3, .pointer (some ⟨(fr1 0).x, 0, none⟩)), (10, .slice x5 y3.length x6), (12, .agg #[.int .i64 a1_Version.Epoch, .int .i64 a1_Version.N])]) (mem' := fun _ => [(2, r5 a1_Data_o a1_Data), (3, .cells ((fr1 0).x) 43 [.string a1_Name, .int .i64 a1_Version.Epoch, .int .i64 a1_Version.N, .slice a1_Data_o a1_Data.length a1_Data_c]), (5, o5 x5 x6 y3)]) (Nat.le_of_ble_eq_true (by kernel_rfl)) (RunsTo.mk [(2, { act := .load 3 0 0 [] })] [0, 3, 10, 12] [2, 3, 5] (fun _ => [(fr1 0).x = (fr1 0).x]) (fun _ => by kernel_rfl) (fun _ => ⟨rfl, trivial⟩)) ?_
  intro _
  refine GR.callG (X := Option Addr × Nat) (i := 3) (g := 43) (args := #[.slice x5 y3.length x6, .agg #[.int .i64 a1_Version.Epoch, .int .i64 a1_Version.N]]) (v := fun ⟨x11, x12⟩ => .slice x11 y9.length x12) (own := [o5 x5 x6 y3]) (ro := []) (es' := fun ⟨x11, x12⟩ => [o5 x11 x12 y9]) (mem' := fun ⟨x11, x12⟩ => [(2, r5 a1_Data_o a1_Data), (3, .cells ((fr1 0).x) 43 [.string a1_Name, .int .i64 a1_Version.Epoch, .int .i64 a1_Version.N, .slice a1_Data_o a1_Data.length a1_Data_c]), (6, o5 x11 x12 y9)]) (env' := fun ⟨x11, x12⟩ => [(0, .slice x5 y3.length x6), (3, .pointer (some ⟨(fr1 0).x, 0, none⟩)), (13, .slice x11 y9.length x12)]) [5] [6] [0, 3, 13] [2, 3, 6] false (by kernel_rfl) (by kernel_rfl) (by kernel_rfl) (by kernel_rfl) (by kernel_rfl) (fun _ => rfl) (fun _ _ => rfl) trivial (by rintro ⟨x11, x12⟩; kernel_rfl) (by rintro ⟨x11, x12⟩; kernel_rfl) ((by have h1 := w_tholeref02_PutVersion F x5 x6 y3 a1_Version e10; exact h1)) ?_
  rintro ⟨x11, x12⟩
  refine GR.run (i := 4) 1 (env' := fun _ => [(0, .slice x11 y9.length x12), (3, .pointer (some ⟨(fr1 0).x, 0, none⟩))]) (mem' := fun _ => [(2, r5 a1_Data_o a1_Data), (3, .cells ((fr1 0).x) 43 [.string a1_Name, .int .i64 a1_Version.Epoch, .int .i64 a1_Version.N, .slice a1_Data_o a1_Data.length a1_Data_c]), (6, o5 x11 x12 y9)]) (Nat.le_of_ble_eq_true (by kernel_rfl)) (RunsTo.mk [] [0, 3] [2, 3, 6] (fun _ => []) (fun _ => by kernel_rfl) (fun _ => trivial)) ?_
  intro _
  refine GR.done (Nat.le_of_ble_eq_true (by kernel_rfl)) ?_
  refine GS.seq ?_
  refine bnd_elim hm (fun y15 e16 hm => ?_)
  refine GS.open_ ?_
  refine GR.run (i := 0) 3 (env' := fun _ => [(0, .slice x11 y9.length x12), (14, .slice x11 y9.length x12), (16, .slice a1_Data_o a1_Data.length a1_Data_c)]) (mem' := fun _ => [(2, r5 a1_Data_o a1_Data), (6, o5 x11 x12 y9)]) (Nat.le_of_ble_eq_true (by kernel_rfl)) (RunsTo.mk [(2, { act := .load 3 0 0 [] })] [0, 14, 16] [2, 6] (fun _ => [(fr1 0).x = (fr1 0).x]) (fun _ => by kernel_rfl) (fun _ => ⟨rfl, trivial⟩)) ?_
  intro _
  refine GR.callG (X := Option Addr × Nat) (i := 3) (g := 31) (args := #[.slice x11 y9.length x12, .slice a1_Data_o a1_Data.length a1_Data_c]) (v := fun ⟨x17, x18⟩ => .slice x17 y15.length x18) (own := [o5 x11 x12 y9]) (ro := [r5 a1_Data_o a1_Data]) (es' := fun ⟨x17, x18⟩ => [o5 x17 x18 y15]) (mem' := fun ⟨x17, x18⟩ => [(2, r5 a1_Data_o a1_Data), (7, o5 x17 x18 y15)]) (env' := fun ⟨x17, x18⟩ => [(0, .slice x11 y9.length x12), (17, .slice x17 y15.length x18)]) [6] [7] [0, 17] [2, 7] false (by kernel_rfl) (by kernel_rfl) (by kernel_rfl) (by kernel_rfl) (by kernel_rfl) (fun _ => rfl) (fun _ _ => rfl) ⟨(.inl ⟨2, _, rfl, rfl, Cov.refl _, fun h => by cases h⟩), trivial⟩ (by rintro ⟨x17, x18⟩; kernel_rfl) (by rintro ⟨x17, x18⟩; kernel_rfl) ((by have h1 := w_tholeref02_Bytes F x11 x12 y9 a1_Data_o a1_Data_c a1_Data e16; exact h1)) ?_
  rintro ⟨x17, x18⟩
  refine GR.run (i := 4) 1 (env' := fun _ => [(0, .slice x17 y15.length x18)]) (mem' := fun _ => [(7, o5 x17 x18 y15)]) (Nat.le_of_ble_eq_true (by kernel_rfl)) (RunsTo.mk [] [0] [7] (fun _ => []) (fun _ => by kernel_rfl) (fun _ => trivial)) ?_
  intro _
  refine GR.done (Nat.le_of_ble_eq_true (by kernel_rfl)) ?_
  refine GS.seq ?_
  refine GS.region (env' := fun _ => [(4, .slice x17 y15.length x18)]) (mem' := fun _ => [(7, o5 x17 x18 y15)]) (RunsTo.mk [] [4] [7] (fun _ => []) (fun _ => by kernel_rfl) (fun _ => trivial)) ?_
  intro _
  have hy := Option.some.inj hm
  subst hy
  refine GS.ret (fn := Tryz.f28) [0] [.slice x17 y15.length x18] [] rfl Tryz.func28 (by kernel_rfl) trivial (fun w' hs => ?_)
  exact ⟨⟨x17, x18⟩, rfl, hs.turnedG (ks := [7]) rfl rfl⟩

theorem w_tholeref02_Bytes_2 (F : Nat) (a0_o : Option Addr) (a0_c : Nat) (a0 : List UInt8) {y : List UInt8} (hm : m_tholeref02_Bytes_2 F a0 = some y) : CallG Tryz.prog 31 #[.slice a0_o a0.length a0_c, .slice none 0 0] (X := Option Addr × Nat) (fun ⟨x0, x1⟩ => .slice x0 y.length x1) [o5 a0_o a0_c a0] [] (fun ⟨x0, x1⟩ => [o5 x0 x1 y]) := by
  intro w hg
  rw [m_tholeref02_Bytes_2] at hm
  refine GS.start (S := mayT [o5 a0_o a0_c a0] []) (mem := [(1, o5 a0_o a0_c a0)]) Tryz.func31 rfl Tryz.ntmps31 (Nat.le_of_ble_eq_true rfl) (hg.start rfl) ?_
  refine GS.conv (env' := [(0, .slice a0_o a0.length a0_c), (1, .slice none 0 0)]) rfl rfl ?_
  refine GS.seq ?_
  refine GS.region (env' := fun _ => [(0, .slice a0_o a0.length a0_c), (1, .slice none 0 0)]) (mem' := fun _ => [(1, o5 a0_o a0_c a0)]) (RunsTo.mk [] [0, 1] [1] (fun _ => []) (fun _ => by kernel_rfl) (fun _ => trivial)) ?_
  intro _
  refine GS.seq ?_
  refine bnd_elim hm (fun y3 e4 hm => ?_)
  refine GS.open_ ?_
  refine GR.run (i := 0) 3 (env' := fun _ => [(1, .slice none 0 0), (5, .slice a0_o a0.length a0_c), (7, .int .i64 0)]) (mem' := fun _ => [(1, o5 a0_o a0_c a0)]) (Nat.le_of_ble_eq_true (by kernel_rfl)) (RunsTo.mk [] [1, 5, 7] [1] (fun _ => []) (fun _ => by kernel_rfl) (fun _ => trivial)) ?_
  intro _
  refine GR.callG (X := Option Addr × Nat) (i := 3) (g := 21) (args := #[.slice a0_o a0.length a0_c, .int .i64 0]) (v := fun ⟨x5, x6⟩ => .slice x5 y3.length x6) (own := [o5 a0_o a0_c a0]) (ro := []) (es' := fun ⟨x5, x6⟩ => [o5 x5 x6 y3]) (mem' := fun ⟨x5, x6⟩ => [(2, o5 x5 x6 y3)]) (env' := fun ⟨x5, x6⟩ => [(1, .slice none 0 0), (8, .slice x5 y3.length x6)]) [1] [2] [1, 8] [2] false (by kernel_rfl) (by kernel_rfl) (by kernel_rfl) (by kernel_rfl) (by kernel_rfl) (fun _ => rfl) (fun _ _ => rfl) trivial (by rintro ⟨x5, x6⟩; kernel_rfl) (by rintro ⟨x5, x6⟩; kernel_rfl) ((by have h1 := w_tholeref02_Count F a0_o a0_c a0 0 e4; exact h1)) ?_
  rintro ⟨x5, x6⟩
  refine grd_elim hm (fun g8 hm => ?_)
  refine GR.run (i := 4) 3 (env' := fun fr7 => [(4, .slice ((fr7 5).ob) ((y3 ++ ([] : List UInt8)).length) ((fr7 5).cap))]) (mem' := fun fr7 => [(2, .osl ((fr7 5).ob) ((fr7 5).cap) 5 1 ((List.map rB y3) ++ ([] : List (List Value))))]) (Nat.le_of_ble_eq_true (by kernel_rfl)) (RunsTo.mk [(5, { act := .app none, key := some 2, spf := some (fun f => .slice (f.ob) ((y3 ++ ([] : List UInt8)).length) (f.cap)) })] [4] [2] (fun fr7 => [(none : Option Addr) = none, 0 = 0, x5 = x5, x6 = x6, y3.length = (List.map rB y3).length, ((List.map rB y3).length + ([] : List (List Value)).length) * (1 + 1) ≤ 70368744177664, ([] : List (List Value)).flatten.all Value.oneCell' = true, ((.slice ((fr7 5).ob) (y3.length + ([] : List (List Value)).length) ((fr7 5).cap)) : Value) = .slice ((fr7 5).ob) ((y3 ++ ([] : List UInt8)).length) ((fr7 5).cap)]) (fun fr7 => by kernel_rfl) (fun fr7 => ⟨rfl, rfl, rfl, rfl, mlen rB y3, appb g8 (mlen rB y3).symm rfl, rfl, slen (by simp), trivial⟩)) ?_
  intro fr7
  refine GR.conv (mem' := [(2, o5 ((fr7 5).ob) ((fr7 5).cap) (y3 ++ ([] : List UInt8)))]) rfl (congrArg (fun rr : List (List Value) => ([(2, .osl ((fr7 5).ob) ((fr7 5).cap) 5 1 rr)] : List (Nat × Ent))) (show (List.map rB y3) ++ ([] : List (List Value)) = List.map rB (y3 ++ ([] : List UInt8)) from (by rw [show List.map rB y3 = List.map rB y3 from rfl, show ([] : List (List Value)) = List.map rB ([] : List UInt8) from rfl]; exact mapp rB _ _))) ?_
  refine GR.done (Nat.le_of_ble_eq_true (by kernel_rfl)) ?_
  have hy := Option.some.inj hm
  subst hy
  refine GS.ret (fn := Tryz.f31) [0] [.slice ((fr7 5).ob) ((y3 ++ ([] : List UInt8)).length) ((fr7 5).cap)] [] rfl Tryz.func31 (by kernel_rfl) trivial (fun w' hs => ?_)
  exact ⟨⟨(fr7 5).ob, (fr7 5).cap⟩, rfl, hs.turnedG (ks := [2]) rfl rfl⟩

theorem w_tholeref02_PutOp (F : Nat) (a0_o : Option Addr) (a0_c : Nat) (a0 : List UInt8) (a1_Kind : Int) (a1_Name : ByteArray) (a1_Expect : S_api_Version) {y : List UInt8} (hm : m_tholeref02_PutOp F a0 a1_Kind a1_Name a1_Expect = some y) : CallG Tryz.prog 29 #[.slice a0_o a0.length a0_c, .agg #[.int .i64 a1_Kind, .string a1_Name, .slice none 0 0, .int .i64 a1_Expect.Epoch, .int .i64 a1_Expect.N]] (X := Option Addr × Nat) (fun ⟨x0, x1⟩ => .slice x0 y.length x1) [o5 a0_o a0_c a0] [] (fun ⟨x0, x1⟩ => [o5 x0 x1 y]) := by
  intro w hg
  rw [m_tholeref02_PutOp] at hm
  refine GS.start (S := mayT [o5 a0_o a0_c a0] []) (mem := [(1, o5 a0_o a0_c a0)]) Tryz.func29 rfl Tryz.ntmps29 (Nat.le_of_ble_eq_true rfl) (hg.start rfl) ?_
  refine GS.conv (env' := [(0, .slice a0_o a0.length a0_c), (1, .agg #[.int .i64 a1_Kind, .string a1_Name, .slice none 0 0, .int .i64 a1_Expect.Epoch, .int .i64 a1_Expect.N])]) rfl rfl ?_
  refine GS.seq ?_
  refine GS.region (env' := fun fr1 => [(0, .slice a0_o a0.length a0_c), (3, .pointer (some ⟨(fr1 0).x, 0, none⟩))]) (mem' := fun fr1 => [(1, o5 a0_o a0_c a0), (2, .cells ((fr1 0).x) 45 [.int .i64 a1_Kind, .string a1_Name, .slice none 0 0, .int .i64 a1_Expect.Epoch, .int .i64 a1_Expect.N])]) (RunsTo.mk [(0, { act := .new .var, key := some 2 })] [0, 3] [1, 2] (fun fr1 => []) (fun fr1 => by kernel_rfl) (fun fr1 => trivial)) ?_
  intro fr1
  refine GS.seq ?_
  refine bnd_elim hm (fun y3 e4 hm => ?_)
  refine GS.open_ ?_
  refine GR.run (i := 0) 3 (env' := fun _ => [(0, .slice a0_o a0.length a0_c), (3, .pointer (some ⟨(fr1 0).x, 0, none⟩)), (5, .slice a0_o a0.length a0_c), (7, .int .i64 a1_Kind)]) (mem' := fun _ => [(1, o5 a0_o a0_c a0), (2, .cells ((fr1 0).x) 45 [.int .i64 a1_Kind, .string a1_Name, .slice none 0 0, .int .i64 a1_Expect.Epoch, .int .i64 a1_Expect.N])]) (Nat.le_of_ble_eq_true (by kernel_rfl)) (RunsTo.mk [(2, { act := .load 2 0 0 [] })] [0, 3, 5, 7] [1, 2] (fun _ => [(fr1 0).x = (fr1 0).x]) (fun _ => by kernel_rfl) (fun _ => ⟨rfl, trivial⟩)) ?_
  intro _
  refine GR.callG (X := Option Addr × Nat) (i := 3) (g := 18) (args := #[.slice a0_o a0.length a0_c, .int .i64 a1_Kind]) (v := fun ⟨x5, x6⟩ => .slice x5 y3.length x6) (own := [o5 a0_o a0_c a0]) (ro := []) (es' := fun ⟨x5, x6⟩ => [o5 x5 x6 y3]) (mem' := fun ⟨x5, x6⟩ => [(2, .cells ((fr1 0).x) 45 [.int .i64 a1_Kind, .string a1_Name, .slice none 0 0, .int .i64 a1_Expect.Epoch, .int .i64 a1_Expect.N]), (3, o5 x5 x6 y3)]) (env' := fun ⟨x5, x6⟩ => [(0, .slice a0_o a0.length a0_c), (3, .pointer (some ⟨(fr1 0).x, 0, none⟩)), (8, .slice x5 y3.length x6)]) [1] [3] [0, 3, 8] [2, 3] false (by kernel_rfl) (by kernel_rfl) (by kernel_rfl) (by kernel_rfl) (by kernel_rfl) (fun _ => rfl) (fun _ _ => rfl) trivial (by rintro ⟨x5, x6⟩; kernel_rfl) (by rintro ⟨x5, x6⟩; kernel_rfl) ((by have h1 := w_tholeref02_Int_2 F a0_o a0_c a0 a1_Kind e4; exact h1)) ?_
  rintro ⟨x5, x6⟩
  refine GR.run (i := 4) 1 (env' := fun _ => [(0, .slice x5 y3.length x6), (3, .pointer (some ⟨(fr1 0).x, 0, none⟩))]) (mem' := fun _ => [(2, .cells ((fr1 0).x) 45 [.int .i64 a1_Kind, .string a1_Name, .slice none 0 0, .int .i64 a1_Expect.Epoch, .int .i64 a1_Expect.N]), (3, o5 x5 x6 y3)]) (Nat.le_of_ble_eq_true (by kernel_rfl)) (RunsTo.mk [] [0, 3] [2, 3] (fun _ => []) (fun _ => by kernel_rfl) (fun _ => trivial)) ?_
  intro _
  refine GR.done (Nat.le_of_ble_eq_true (by kernel_rfl)) ?_
  refine GS.seq ?_
  refine bnd_elim hm (fun y9 e10 hm => ?_)
  refine GS.open_ ?_
  refine GR.run (i := 0) 4 (env' := fun fr8 => [(0, .slice x5 y3.length x6), (3, .pointer (some ⟨(fr1 0).x, 0, none⟩)), (9, .slice x5 y3.length x6), (12, .slice (some (Addr.mk (fr8 3).x 0 none)) a1_Name.data.toList.length ((fr8 3).cap))]) (mem' := fun fr8 => [(2, .cells ((fr1 0).x) 45 [.int .i64 a1_Kind, .string a1_Name, .slice none 0 0, .int .i64 a1_Expect.Epoch, .int .i64 a1_Expect.N]), (3, o5 x5 x6 y3), (4, .osl (some (Addr.mk (fr8 3).x 0 none)) ((fr8 3).cap) 5 1 (encB a1_Name.data.toList))]) (Nat.le_of_ble_eq_true (by kernel_rfl)) (RunsTo.mk [(2, { act := .load 2 0 0 [] }), (3, { act := .bytes, key := some 4, spf := some (fun f => .slice (some (Addr.mk f.x 0 none)) a1_Name.data.toList.length (f.cap)) })] [0, 3, 9, 12] [2, 3, 4] (fun fr8 => [(fr1 0).x = (fr1 0).x, ((.slice (some (Addr.mk (fr8 3).x 0 none)) a1_Name.size ((fr8 3).cap)) : Value) = .slice (some (Addr.mk (fr8 3).x 0 none)) a1_Name.data.toList.length ((fr8 3).cap)]) (fun fr8 => by kernel_rfl) (fun fr8 => ⟨rfl, rfl, trivial⟩)) ?_
  intro fr8
  refine GR.conv (mem' := [(2, .cells ((fr1 0).x) 45 [.int .i64 a1_Kind, .string a1_Name, .slice none 0 0, .int .i64 a1_Expect.Epoch, .int .i64 a1_Expect.N]), (3, o5 x5 x6 y3), (4, o5 (some (Addr.mk (fr8 3).x 0 none)) ((fr8 3).cap) a1_Name.data.toList)]) rfl (congrArg (fun rr : List (List Value) => ([(2, .cells ((fr1 0).x) 45 [.int .i64 a1_Kind, .string a1_Name, .slice none 0 0, .int .i64 a1_Expect.Epoch, .int .i64 a1_Expect.N]), (3, o5 x5 x6 y3), (4, .osl (some (Addr.mk (fr8 3).x 0 none)) ((fr8 3).cap) 5 1 rr)] : List (Nat × Ent))) (show encB a1_Name.data.toList = List.map rB a1_Name.data.toList from rfl)) ?_
  refine GR.callG (X := Option Addr × Nat) (i := 4) (g := 31) (args := #[.slice x5 y3.length x6, .slice (some (Addr.mk (fr8 3).x 0 none)) a1_Name.data.toList.length ((fr8 3).cap)]) (v := fun ⟨x11, x12⟩ => .slice x11 y9.length x12) (own := [o5 x5 x6 y3]) (ro := [r5 (some (Addr.mk (fr8 3).x 0 none)) a1_Name.data.toList]) (es' := fun ⟨x11, x12⟩ => [o5 x11 x12 y9]) (mem' := fun ⟨x11, x12⟩ => [(2, .cells ((fr1 0).x) 45 [.int .i64 a1_Kind, .string a1_Name, .slice none 0 0, .int .i64 a1_Expect.Epoch, .int .i64 a1_Expect.N]), (4, o5 (some (Addr.mk (fr8 3).x 0 none)) ((fr8 3).cap) a1_Name.data.toList), (5, o5 x11 x12 y9)]) (env' := fun ⟨x11, x12⟩ => [(0, .slice x5 y3.length x6), (3, .pointer (some ⟨(fr1 0).x, 0, none⟩)), (13, .slice x11 y9.length x12)]) [3] [5] [0, 3, 13] [2, 4, 5] false (by kernel_rfl) (by kernel_rfl) (by kernel_rfl) (by kernel_rfl) (by kernel_rfl) (fun _ => rfl) (fun _ _ => rfl) ⟨(.inl ⟨4, _, rfl, rfl, Cov.osl_rd, fun h => by cases h⟩), trivial⟩ (by rintro ⟨x11, x12⟩; kernel_rfl) (by rintro ⟨x11, x12⟩; kernel_rfl) ((by have h1 := w_tholeref02_Bytes F x5 x6 y3 (some (Addr.mk (fr8 3).x 0 none)) ((fr8 3).cap) a1_Name.data.toList e10; exact h1)) ?_
  rintro ⟨x11, x12⟩
  refine GR.run (i := 5) 1 (env' := fun _ => [(0, .slice x11 y9.length x12), (3, .pointer (some ⟨(fr1 0).x, 0, none⟩))]) (mem' := fun _ => [(2, .cells ((fr1 0).x) 45 [.int .i64 a1_Kind, .string a1_Name, .slice none 0 0, .int .i64 a1_Expect.Epoch, .int .i64 a1_Expect.N]), (5, o5 x11 x12 y9)]) (Nat.le_of_ble_eq_true (by kernel_rfl)) (RunsTo.mk [] [0, 3] [2, 5] (fun _ => []) (fun _ => by kernel_rfl) (fun _ => trivial)) ?_
  intro _
  refine GR.done (Nat.le_of_ble_eq_true (by kernel_rfl)) ?_
  refine GS.seq ?_
  refine bnd_elim hm (fun y15 e16 hm => ?_)
  refine GS.open_ ?_
  refine GR.run (i := 0) 3 (env' := fun _ => [(0, .slice x11 y9.length x12), (3, .pointer (some ⟨(fr1 0).x, 0, none⟩)), (14, .slice x11 y9.length x12), (16, .slice none 0 0)]) (mem' := fun _ => [(2, .cells ((fr1 0).x) 45 [.int .i64 a1_Kind, .string a1_Name, .slice none 0 0, .int .i64 a1_Expect.Epoch, .int .i64 a1_Expect.N]), (5, o5 x11 x12 y9)]) (Nat.le_of_ble_eq_true (by kernel_rfl)) (RunsTo.mk [(2, { act := .load 2 0 0 [] })] [0, 3, 14, 16] [2, 5] (fun _ => [(fr1 0).x = (fr1 0).x]) (fun _ => by kernel_rfl) (fun _ => ⟨rfl, trivial⟩)) ?_
  intro _
  refine GR.callG (X := Option Addr × Nat) (i := 3) (g := 31) (args := #[.slice x11 y9.length x12, .slice none 0 0]) (v := fun ⟨x17, x18⟩ => .slice x17 y15.length x18) (own := [o5 x11 x12 y9]) (ro := []) (es' := fun ⟨x17, x18⟩ => [o5 x17 x18 y15]) (mem' := fun ⟨x17, x18⟩ => [(2, .cells ((fr1 0).x) 45 [.int .i64 a1_Kind, .string a1_Name, .slice none 0 0, .int .i64 a1_Expect.Epoch, .int .i64 a1_Expect.N]), (6, o5 x17 x18 y15)]) (env' := fun ⟨x17, x18⟩ => [(0, .slice x11 y9.length x12), (3, .pointer (some ⟨(fr1 0).x, 0, none⟩)), (17, .slice x17 y15.length x18)]) [5] [6] [0, 3, 17] [2, 6] false (by kernel_rfl) (by kernel_rfl) (by kernel_rfl) (by kernel_rfl) (by kernel_rfl) (fun _ => rfl) (fun _ _ => rfl) trivial (by rintro ⟨x17, x18⟩; kernel_rfl) (by rintro ⟨x17, x18⟩; kernel_rfl) ((by have h1 := w_tholeref02_Bytes_2 F x11 x12 y9 e16; exact h1)) ?_
  rintro ⟨x17, x18⟩
  refine GR.run (i := 4) 1 (env' := fun _ => [(0, .slice x17 y15.length x18), (3, .pointer (some ⟨(fr1 0).x, 0, none⟩))]) (mem' := fun _ => [(2, .cells ((fr1 0).x) 45 [.int .i64 a1_Kind, .string a1_Name, .slice none 0 0, .int .i64 a1_Expect.Epoch, .int .i64 a1_Expect.N]), (6, o5 x17 x18 y15)]) (Nat.le_of_ble_eq_true (by kernel_rfl)) (RunsTo.mk [] [0, 3] [2, 6] (fun _ => []) (fun _ => by kernel_rfl) (fun _ => trivial)) ?_
  intro _
  refine GR.done (Nat.le_of_ble_eq_true (by kernel_rfl)) ?_
  refine GS.seq ?_
  refine bnd_elim hm (fun y21 e22 hm => ?_)
  refine GS.open_ ?_
  refine GR.run (i := 0) 3 (env' := fun _ => [(0, .slice x17 y15.length x18), (18, .slice x17 y15.length x18), (20, .agg #[.int .i64 a1_Expect.Epoch, .int .i64 a1_Expect.N])]) (mem' := fun _ => [(6, o5 x17 x18 y15)]) (Nat.le_of_ble_eq_true (by kernel_rfl)) (RunsTo.mk [(2, { act := .load 2 0 0 [] })] [0, 18, 20] [6] (fun _ => [(fr1 0).x = (fr1 0).x]) (fun _ => by kernel_rfl) (fun _ => ⟨rfl, trivial⟩)) ?_
  intro _
  refine GR.callG (X := Option Addr × Nat) (i := 3) (g := 43) (args := #[.slice x17 y15.length x18, .agg #[.int .i64 a1_Expect.Epoch, .int .i64 a1_Expect.N]]) (v := fun ⟨x23, x24⟩ => .slice x23 y21.length x24) (own := [o5 x17 x18 y15]) (ro := []) (es' := fun ⟨x23, x24⟩ => [o5 x23 x24 y21]) (mem' := fun ⟨x23, x24⟩ => [(7, o5 x23 x24 y21)]) (env' := fun ⟨x23, x24⟩ => [(0, .slice x17 y15.length x18), (21, .slice x23 y21.length x24)]) [6] [7] [0, 21] [7] false (by kernel_rfl) (by kernel_rfl) (by kernel_rfl) (by kernel_rfl) (by kernel_rfl) (fun _ => rfl) (fun _ _ => rfl) trivial (by rintro ⟨x23, x24⟩; kernel_rfl) (by rintro ⟨x23, x24⟩; kernel_rfl) ((by have h1 := w_tholeref02_PutVersion F x17 x18 y15 (S_api_Version.mk a1_Expect.Epoch a1_Expect.N) e22; exact h1)) ?_
  rintro ⟨x23, x24⟩
  refine GR.run (i := 4) 1 (env' := fun _ => [(0, .slice x23 y21.length x24)]) (mem' := fun _ => [(7, o5 x23 x24 y21)]) (Nat.le_of_ble_eq_true (by kernel_rfl)) (RunsTo.mk [] [0] [7] (fun _ => []) (fun _ => by kernel_rfl) (fun _ => trivial)) ?_
  intro _
  refine GR.done (Nat.le_of_ble_eq_true (by kernel_rfl)) ?_
  refine GS.seq ?_
  refine GS.region (env' := fun _ => [(4, .slice x23 y21.length x24)]) (mem' := fun _ => [(7, o5 x23 x24 y21)]) (RunsTo.mk [] [4] [7] (fun _ => []) (fun _ => by kernel_rfl) (fun _ => trivial)) ?_
  intro _
  have hy := Option.some.inj hm
  subst hy
  refine GS.ret (fn := Tryz.f29) [0] [.slice x23 y21.length x24] [] rfl Tryz.func29 (by kernel_rfl) trivial (fun w' hs => ?_)
  exact ⟨⟨x23, x24⟩, rfl, hs.turnedG (ks := [7]) rfl rfl⟩

end Go.Proofs.YtmhejmkelhflmaaGreat
