/-
  CHAPTER 14: the functions do what their models say (2).
-/
import Derived.Test.YtdelhcdknglibaaW14a
set_option linter.unusedVariables false
set_option linter.unusedSimpArgs false
set_option maxRecDepth 100000
namespace Go.Proofs.Ytdelhcdknglibaa
open Go Go.RowKit Sx

theorem w_missing_Lacking (F : Nat) (a0_Les : Int) (a0_Tail : S_api_Version) (a0_Log_o : Option Addr) (a0_Log_c : Nat) (a0_Log : List S_api_Entry) (a0_Lasts_o : Option Addr) (a0_Lasts_c : Nat) (a0_Lasts : List S_api_Last) (a0_Items_o : Option Addr) (a0_Items_c : Nat) (a0_Items : List S_api_Item) (a1_Les : Int) (a1_Tail : S_api_Version) (a1_Log_o : Option Addr) (a1_Log_c : Nat) (a1_Log : List S_api_Entry) (a1_Lasts_o : Option Addr) (a1_Lasts_c : Nat) (a1_Lasts : List S_api_Last) (a1_Items_o : Option Addr) (a1_Items_c : Nat) (a1_Items : List S_api_Item) {y : List S_api_Entry} (hm : m_missing_Lacking F a0_Les a0_Tail a0_Log a0_Lasts a0_Items a1_Les a1_Tail a1_Log a1_Lasts a1_Items = some y) : CallG Try.prog 14 #[.agg #[.int .i64 a0_Les, .int .i64 a0_Tail.Epoch, .int .i64 a0_Tail.N, .slice a0_Log_o a0_Log.length a0_Log_c, .slice a0_Lasts_o a0_Lasts.length a0_Lasts_c, .slice a0_Items_o a0_Items.length a0_Items_c], .agg #[.int .i64 a1_Les, .int .i64 a1_Tail.Epoch, .int .i64 a1_Tail.N, .slice a1_Log_o a1_Log.length a1_Log_c, .slice a1_Lasts_o a1_Lasts.length a1_Lasts_c, .slice a1_Items_o a1_Items.length a1_Items_c]] (X := Option Addr × Nat) (fun ⟨x0, x1⟩ => .slice x0 y.length x1) [] [r53 a0_Log_o a0_Log, r83 a0_Lasts_o a0_Lasts, r45 a0_Items_o a0_Items, r53 a1_Log_o a1_Log, r83 a1_Lasts_o a1_Lasts, r45 a1_Items_o a1_Items] (fun ⟨x0, x1⟩ => [o53 x0 x1 y]) := by
  intro w hg
  rw [m_missing_Lacking] at hm
  refine GS.start (S := mayT [] [r53 a0_Log_o a0_Log, r83 a0_Lasts_o a0_Lasts, r45 a0_Items_o a0_Items, r53 a1_Log_o a1_Log, r83 a1_Lasts_o a1_Lasts, r45 a1_Items_o a1_Items]) (mem := [(1, r53 a0_Log_o a0_Log), (2, r83 a0_Lasts_o a0_Lasts), (3, r45 a0_Items_o a0_Items), (4, r53 a1_Log_o a1_Log), (5, r83 a1_Lasts_o a1_Lasts), (6, r45 a1_Items_o a1_Items)]) Try.func14 rfl Try.ntmps14 (Nat.le_of_ble_eq_true rfl) (hg.start rfl) ?_
  refine GS.conv (env' := [(0, .agg #[.int .i64 a0_Les, .int .i64 a0_Tail.Epoch, .int .i64 a0_Tail.N, .slice a0_Log_o a0_Log.length a0_Log_c, .slice a0_Lasts_o a0_Lasts.length a0_Lasts_c, .slice a0_Items_o a0_Items.length a0_Items_c]), (1, .agg #[.int .i64 a1_Les, .int .i64 a1_Tail.Epoch, .int .i64 a1_Tail.N, .slice a1_Log_o a1_Log.length a1_Log_c, .slice a1_Lasts_o a1_Lasts.length a1_Lasts_c, .slice a1_Items_o a1_Items.length a1_Items_c])]) rfl rfl ?_
  refine GS.seq ?_
  refine GS.region (env' := fun fr1 => [(2, .pointer (some ⟨(fr1 0).x, 0, none⟩)), (3, .pointer (some ⟨(fr1 1).x, 0, none⟩))]) (mem' := fun fr1 => [(1, r53 a0_Log_o a0_Log), (2, r83 a0_Lasts_o a0_Lasts), (3, r45 a0_Items_o a0_Items), (4, r53 a1_Log_o a1_Log), (5, r83 a1_Lasts_o a1_Lasts), (6, r45 a1_Items_o a1_Items), (7, .cells ((fr1 0).x) 28 [.int .i64 a0_Les, .int .i64 a0_Tail.Epoch, .int .i64 a0_Tail.N, .slice a0_Log_o a0_Log.length a0_Log_c, .slice a0_Lasts_o a0_Lasts.length a0_Lasts_c, .slice a0_Items_o a0_Items.length a0_Items_c]), (8, .cells ((fr1 1).x) 28 [.int .i64 a1_Les, .int .i64 a1_Tail.Epoch, .int .i64 a1_Tail.N, .slice a1_Log_o a1_Log.length a1_Log_c, .slice a1_Lasts_o a1_Lasts.length a1_Lasts_c, .slice a1_Items_o a1_Items.length a1_Items_c])]) (RunsTo.mk [(0, { act := .new .var, key := some 7 }), (1, { act := .new .var, key := some 8 })] [2, 3] [1, 2, 3, 4, 5, 6, 7, 8] (fun fr1 => []) (fun fr1 => by kernel_rfl) (fun fr1 => trivial)) ?_
  intro fr1
  refine GS.seq ?_
  refine bnd_elim hm (fun y3 e4 hm => ?_)
  refine GS.region (env' := fun fr2 => [(3, .pointer (some ⟨(fr1 1).x, 0, none⟩)), (5, .pointer (some ⟨(fr2 6).x, 0, none⟩)), (6, .bool y3.2)]) (mem' := fun fr2 => [(4, r53 a1_Log_o a1_Log), (5, r83 a1_Lasts_o a1_Lasts), (6, r45 a1_Items_o a1_Items), (8, .cells ((fr1 1).x) 28 [.int .i64 a1_Les, .int .i64 a1_Tail.Epoch, .int .i64 a1_Tail.N, .slice a1_Log_o a1_Log.length a1_Log_c, .slice a1_Lasts_o a1_Lasts.length a1_Lasts_c, .slice a1_Items_o a1_Items.length a1_Items_c]), (9, .cells ((fr2 6).x) 23 [.int .i64 y3.1.Epoch, .int .i64 y3.1.N])]) (RunsTo.mk [(0, { act := .load 7 0 0 [] }), (1, { act := .load 8 0 0 [] }), (2, { act := .call [1, 2, 3, 4, 5, 6] (.tuple #[.agg #[.int .i64 y3.1.Epoch, .int .i64 y3.1.N], .bool y3.2]) }), (6, { act := .new .var, key := some 9 }), (7, { act := .store 0 0 [], key := some 9 })] [3, 5, 6] [4, 5, 6, 8, 9] (fun fr2 => [(fr1 0).x = (fr1 0).x, (fr1 1).x = (fr1 1).x, CallOK Try.prog 9 #[.agg #[.int .i64 a0_Les, .int .i64 a0_Tail.Epoch, .int .i64 a0_Tail.N, .slice a0_Log_o a0_Log.length a0_Log_c, .slice a0_Lasts_o a0_Lasts.length a0_Lasts_c, .slice a0_Items_o a0_Items.length a0_Items_c], .agg #[.int .i64 a1_Les, .int .i64 a1_Tail.Epoch, .int .i64 a1_Tail.N, .slice a1_Log_o a1_Log.length a1_Log_c, .slice a1_Lasts_o a1_Lasts.length a1_Lasts_c, .slice a1_Items_o a1_Items.length a1_Items_c]] (.tuple #[.agg #[.int .i64 y3.1.Epoch, .int .i64 y3.1.N], .bool y3.2]) [some (r53 a0_Log_o a0_Log), some (r83 a0_Lasts_o a0_Lasts), some (r45 a0_Items_o a0_Items), some (r53 a1_Log_o a1_Log), some (r83 a1_Lasts_o a1_Lasts), some (r45 a1_Items_o a1_Items)], (fr2 6).x = (fr2 6).x, ((.agg #[.int .i64 y3.1.Epoch, .int .i64 y3.1.N]) : Value).cells.toList.all Value.oneCell' = true]) (fun fr2 => by kernel_rfl) (fun fr2 => ⟨rfl, rfl, (w_missing_Common F a0_Les a0_Tail a0_Log_o a0_Log_c a0_Log a0_Lasts_o a0_Lasts_c a0_Lasts a0_Items_o a0_Items_c a0_Items a1_Les a1_Tail a1_Log_o a1_Log_c a1_Log a1_Lasts_o a1_Lasts_c a1_Lasts a1_Items_o a1_Items_c a1_Items e4).ok ⟨(.inl ⟨r53 a0_Log_o a0_Log, .head _, Cov.refl _⟩), (.inl ⟨r83 a0_Lasts_o a0_Lasts, (.tail _ (.head _)), Cov.refl _⟩), (.inl ⟨r45 a0_Items_o a0_Items, (.tail _ (.tail _ (.head _))), Cov.refl _⟩), (.inl ⟨r53 a1_Log_o a1_Log, (.tail _ (.tail _ (.tail _ (.head _)))), Cov.refl _⟩), (.inl ⟨r83 a1_Lasts_o a1_Lasts, (.tail _ (.tail _ (.tail _ (.tail _ (.head _))))), Cov.refl _⟩), (.inl ⟨r45 a1_Items_o a1_Items, (.tail _ (.tail _ (.tail _ (.tail _ (.tail _ (.head _)))))), Cov.refl _⟩), trivial⟩, rfl, rfl, trivial⟩)) ?_
  intro fr2
  refine GS.seq ?_
  refine GS.seq ?_
  refine GS.region (env' := fun _ => [(3, .pointer (some ⟨(fr1 1).x, 0, none⟩)), (5, .pointer (some ⟨(fr2 6).x, 0, none⟩)), (14, .bool (!y3.2))]) (mem' := fun _ => [(4, r53 a1_Log_o a1_Log), (5, r83 a1_Lasts_o a1_Lasts), (6, r45 a1_Items_o a1_Items), (8, .cells ((fr1 1).x) 28 [.int .i64 a1_Les, .int .i64 a1_Tail.Epoch, .int .i64 a1_Tail.N, .slice a1_Log_o a1_Log.length a1_Log_c, .slice a1_Lasts_o a1_Lasts.length a1_Lasts_c, .slice a1_Items_o a1_Items.length a1_Items_c]), (9, .cells ((fr2 6).x) 23 [.int .i64 y3.1.Epoch, .int .i64 y3.1.N])]) (RunsTo.mk [] [3, 5, 14] [4, 5, 6, 8, 9] (fun _ => []) (fun _ => by kernel_rfl) (fun _ => trivial)) ?_
  intro _
  refine GS.cond (t := !y3.2) rfl rfl (fun h6 => ?_) (fun h6 => ?_)
  · replace hm := br_t h6 hm
    refine GS.seq ?_
    refine GS.region (env' := fun _ => [(4, .slice none 0 0)]) (mem' := fun _ => []) (RunsTo.mk [] [4] [] (fun _ => []) (fun _ => by kernel_rfl) (fun _ => trivial)) ?_
    intro _
    refine GS.setMem (mem' := [(10, o53 none 0 ([] : List S_api_Entry))]) (fun w hw => Sat.addNil hw rfl) ?_
    have hy := Option.some.inj hm
    subst hy
    refine GS.ret (fn := Try.f14) [0] [.slice none 0 0] [] rfl Try.func14 (by kernel_rfl) trivial (fun w' hs => ?_)
    exact ⟨⟨none, 0⟩, rfl, hs.turnedG (ks := [10]) rfl rfl⟩
  · replace hm := br_f h6 hm
    refine GS.skip ?_
    refine GS.seq ?_
    refine bnd_elim hm (fun y9 e10 hm => ?_)
    refine GS.open_ ?_
    refine GR.run (i := 0) 2 (env' := fun _ => [(15, .agg #[.int .i64 a1_Les, .int .i64 a1_Tail.Epoch, .int .i64 a1_Tail.N, .slice a1_Log_o a1_Log.length a1_Log_c, .slice a1_Lasts_o a1_Lasts.length a1_Lasts_c, .slice a1_Items_o a1_Items.length a1_Items_c]), (16, .agg #[.int .i64 y3.1.Epoch, .int .i64 y3.1.N])]) (mem' := fun _ => [(4, r53 a1_Log_o a1_Log), (5, r83 a1_Lasts_o a1_Lasts), (6, r45 a1_Items_o a1_Items)]) (Nat.le_of_ble_eq_true (by kernel_rfl)) (RunsTo.mk [(0, { act := .load 8 0 0 [] }), (1, { act := .load 9 0 0 [] })] [15, 16] [4, 5, 6] (fun _ => [(fr1 1).x = (fr1 1).x, (fr2 6).x = (fr2 6).x]) (fun _ => by kernel_rfl) (fun _ => ⟨rfl, rfl, trivial⟩)) ?_
    intro _
    refine GR.callG (X := Option Addr × Nat) (i := 2) (g := 32) (args := #[.agg #[.int .i64 a1_Les, .int .i64 a1_Tail.Epoch, .int .i64 a1_Tail.N, .slice a1_Log_o a1_Log.length a1_Log_c, .slice a1_Lasts_o a1_Lasts.length a1_Lasts_c, .slice a1_Items_o a1_Items.length a1_Items_c], .agg #[.int .i64 y3.1.Epoch, .int .i64 y3.1.N]]) (v := fun ⟨x11, x12⟩ => .slice x11 y9.length x12) (own := []) (ro := [r53 a1_Log_o a1_Log, r83 a1_Lasts_o a1_Lasts, r45 a1_Items_o a1_Items]) (es' := fun ⟨x11, x12⟩ => [o53 x11 x12 y9]) (mem' := fun ⟨x11, x12⟩ => [(4, r53 a1_Log_o a1_Log), (5, r83 a1_Lasts_o a1_Lasts), (6, r45 a1_Items_o a1_Items), (10, o53 x11 x12 y9)]) (env' := fun ⟨x11, x12⟩ => [(17, .slice x11 y9.length x12)]) [] [10] [17] [4, 5, 6, 10] false (by kernel_rfl) (by kernel_rfl) (by kernel_rfl) (by kernel_rfl) (by kernel_rfl) (fun _ => rfl) (fun _ _ => rfl) ⟨(.inl ⟨4, _, rfl, rfl, Cov.refl _, fun h => by cases h⟩), (.inl ⟨5, _, rfl, rfl, Cov.refl _, fun h => by cases h⟩), (.inl ⟨6, _, rfl, rfl, Cov.refl _, fun h => by cases h⟩), trivial⟩ (by rintro ⟨x11, x12⟩; kernel_rfl) (by rintro ⟨x11, x12⟩; kernel_rfl) (w_missing_above F a1_Les a1_Tail a1_Log_o a1_Log_c a1_Log a1_Lasts_o a1_Lasts_c a1_Lasts a1_Items_o a1_Items_c a1_Items y3.1 e10) ?_
    rintro ⟨x11, x12⟩
    refine GR.run (i := 3) 1 (env' := fun _ => [(4, .slice x11 y9.length x12)]) (mem' := fun _ => [(10, o53 x11 x12 y9)]) (Nat.le_of_ble_eq_true (by kernel_rfl)) (RunsTo.mk [] [4] [10] (fun _ => []) (fun _ => by kernel_rfl) (fun _ => trivial)) ?_
    intro _
    refine GR.done (Nat.le_of_ble_eq_true (by kernel_rfl)) ?_
    have hy := Option.some.inj hm
    subst hy
    refine GS.ret (fn := Try.f14) [0] [.slice x11 y9.length x12] [] rfl Try.func14 (by kernel_rfl) trivial (fun w' hs => ?_)
    exact ⟨⟨x11, x12⟩, rfl, hs.turnedG (ks := [10]) rfl rfl⟩

theorem w_math_bits_Len64 (F : Nat) (a0 : Int) {y : Int} (hm : m_math_bits_Len64 F a0 = some y) : CallG Try.prog 73 #[.int .u64 a0] (X := Unit) (fun (_ : Unit) => .int .i64 y) [] [] (fun (_ : Unit) => []) := by
  intro w hg
  rw [m_math_bits_Len64] at hm
  refine GS.start (S := mayT [] []) (mem := []) Try.func73 rfl Try.ntmps73 (Nat.le_of_ble_eq_true rfl) (hg.start rfl) ?_
  refine GS.conv (env' := [(0, .int .u64 a0)]) rfl rfl ?_
  refine GS.seq ?_
  refine GS.region (env' := fun _ => [(0, .int .u64 a0), (2, .int .i64 0)]) (mem' := fun _ => []) (RunsTo.mk [] [0, 2] [] (fun _ => []) (fun _ => by kernel_rfl) (fun _ => trivial)) ?_
  intro _
  refine GS.seq ?_
  refine GS.seq ?_
  refine GS.region (env' := fun _ => [(0, .int .u64 a0), (2, .int .i64 0), (4, .bool (decide (a0 ≥ 4294967296)))]) (mem' := fun _ => []) (RunsTo.mk [] [0, 2, 4] [] (fun _ => []) (fun _ => by kernel_rfl) (fun _ => trivial)) ?_
  intro _
  refine jn_elim hm (fun J6 hJ8 hm => ?_)
  refine GS.cut (ι := Int × Nat) (I := fun ⟨v0_0, v2_0⟩ => J6 (v0_0, v2_0) = some y) (E := fun ⟨v0_0, v2_0⟩ => [(0, .int .u64 v0_0), (2, .int .i64 ((v2_0 : Nat) : Int))]) (M := fun ⟨v0_0, v2_0⟩ => []) ?_ ?_
  rotate_left
  · intro H7
    refine GS.cond (t := decide (a0 ≥ 4294967296)) rfl rfl (fun h3 => ?_) (fun h3 => ?_)
    · replace hm := br_t h3 hm
      refine GS.seq ?_
      refine GS.region (env' := fun _ => [(0, .int .u64 (Int.fdiv a0 (2 ^ 32)))]) (mem' := fun _ => []) (RunsTo.mk [] [0] [] (fun _ => []) (fun _ => by kernel_rfl) (fun _ => trivial)) ?_
      intro _
      refine GS.region (env' := fun _ => [(0, .int .u64 (Int.fdiv a0 (2 ^ 32))), (2, .int .i64 32)]) (mem' := fun _ => []) (RunsTo.mk [] [0, 2] [] (fun _ => []) (fun _ => by kernel_rfl) (fun _ => trivial)) ?_
      intro _
      refine GS.rekey (env' := [(0, .int .u64 (Int.fdiv a0 (2 ^ 32))), (2, .int .i64 32)]) (mem' := []) [0, 2] [] (by kernel_rfl) (by kernel_rfl) rfl ?_
      exact H7 ⟨(Int.fdiv a0 (2 ^ 32)), 32⟩ hm
    · replace hm := br_f h3 hm
      refine GS.skip ?_
      refine GS.rekey (env' := [(0, .int .u64 a0), (2, .int .i64 0)]) (mem' := []) [0, 2] [] (by kernel_rfl) (by kernel_rfl) rfl ?_
      exact H7 ⟨a0, 0⟩ hm
  · rintro ⟨v0_0, v2_0⟩ hm
    replace hm := (hJ8 _).symm.trans hm
    try dsimp only at hm
    refine GS.seq ?_
    refine GS.seq ?_
    refine GS.region (env' := fun _ => [(0, .int .u64 v0_0), (2, .int .i64 ((v2_0 : Nat) : Int)), (8, .bool (decide (v0_0 ≥ 65536)))]) (mem' := fun _ => []) (RunsTo.mk [] [0, 2, 8] [] (fun _ => []) (fun _ => by kernel_rfl) (fun _ => trivial)) ?_
    intro _
    refine jn_elim hm (fun J14 hJ16 hm => ?_)
    refine GS.cut (ι := Int × Nat) (I := fun ⟨v0_0, v2_0⟩ => J14 (v0_0, v2_0) = some y) (E := fun ⟨v0_0, v2_0⟩ => [(0, .int .u64 v0_0), (2, .int .i64 ((v2_0 : Nat) : Int))]) (M := fun ⟨v0_0, v2_0⟩ => []) ?_ ?_
    rotate_left
    · intro H15
      refine GS.cond (t := decide (v0_0 ≥ 65536)) rfl rfl (fun h10 => ?_) (fun h10 => ?_)
      · replace hm := br_t h10 hm
        refine GS.seq ?_
        refine GS.region (env' := fun _ => [(0, .int .u64 (Int.fdiv v0_0 (2 ^ 16))), (2, .int .i64 ((v2_0 : Nat) : Int))]) (mem' := fun _ => []) (RunsTo.mk [] [0, 2] [] (fun _ => []) (fun _ => by kernel_rfl) (fun _ => trivial)) ?_
        intro _
        refine grd_elim hm (fun g13 hm => ?_)
        refine GS.region (env' := fun _ => [(0, .int .u64 (Int.fdiv v0_0 (2 ^ 16))), (2, .int .i64 ((v2_0 + 16 : Nat) : Int))]) (mem' := fun _ => []) (RunsTo.mk [(1, { sp := some (.int .i64 ((v2_0 + 16 : Nat) : Int)) })] [0, 2] [] (fun _ => [((.int .i64 (IntKind.i64.wrap (((v2_0 : Nat) : Int) + 16))) : Value) = .int .i64 ((v2_0 + 16 : Nat) : Int)]) (fun _ => by kernel_rfl) (fun _ => ⟨natw2 g13, trivial⟩)) ?_
        intro _
        refine GS.rekey (env' := [(0, .int .u64 (Int.fdiv v0_0 (2 ^ 16))), (2, .int .i64 ((v2_0 + 16 : Nat) : Int))]) (mem' := []) [0, 2] [] (by kernel_rfl) (by kernel_rfl) rfl ?_
        exact H15 ⟨(Int.fdiv v0_0 (2 ^ 16)), v2_0 + 16⟩ hm
      · replace hm := br_f h10 hm
        refine GS.skip ?_
        refine GS.rekey (env' := [(0, .int .u64 v0_0), (2, .int .i64 ((v2_0 : Nat) : Int))]) (mem' := []) [0, 2] [] (by kernel_rfl) (by kernel_rfl) rfl ?_
        exact H15 ⟨v0_0, v2_0⟩ hm
    · rintro ⟨v0_0, v2_0⟩ hm
      replace hm := (hJ16 _).symm.trans hm
      try dsimp only at hm
      refine GS.seq ?_
      refine GS.seq ?_
      refine GS.region (env' := fun _ => [(0, .int .u64 v0_0), (2, .int .i64 ((v2_0 : Nat) : Int)), (14, .bool (decide (v0_0 ≥ 256)))]) (mem' := fun _ => []) (RunsTo.mk [] [0, 2, 14] [] (fun _ => []) (fun _ => by kernel_rfl) (fun _ => trivial)) ?_
      intro _
      refine jn_elim hm (fun J22 hJ24 hm => ?_)
      refine GS.cut (ι := Int × Nat) (I := fun ⟨v0_0, v2_0⟩ => J22 (v0_0, v2_0) = some y) (E := fun ⟨v0_0, v2_0⟩ => [(0, .int .u64 v0_0), (2, .int .i64 ((v2_0 : Nat) : Int))]) (M := fun ⟨v0_0, v2_0⟩ => []) ?_ ?_
      rotate_left
      · intro H23
        refine GS.cond (t := decide (v0_0 ≥ 256)) rfl rfl (fun h18 => ?_) (fun h18 => ?_)
        · replace hm := br_t h18 hm
          refine GS.seq ?_
          refine GS.region (env' := fun _ => [(0, .int .u64 (Int.fdiv v0_0 (2 ^ 8))), (2, .int .i64 ((v2_0 : Nat) : Int))]) (mem' := fun _ => []) (RunsTo.mk [] [0, 2] [] (fun _ => []) (fun _ => by kernel_rfl) (fun _ => trivial)) ?_
          intro _
          refine grd_elim hm (fun g21 hm => ?_)
          refine GS.region (env' := fun _ => [(0, .int .u64 (Int.fdiv v0_0 (2 ^ 8))), (2, .int .i64 ((v2_0 + 8 : Nat) : Int))]) (mem' := fun _ => []) (RunsTo.mk [(1, { sp := some (.int .i64 ((v2_0 + 8 : Nat) : Int)) })] [0, 2] [] (fun _ => [((.int .i64 (IntKind.i64.wrap (((v2_0 : Nat) : Int) + 8))) : Value) = .int .i64 ((v2_0 + 8 : Nat) : Int)]) (fun _ => by kernel_rfl) (fun _ => ⟨natw2 g21, trivial⟩)) ?_
          intro _
          refine GS.rekey (env' := [(0, .int .u64 (Int.fdiv v0_0 (2 ^ 8))), (2, .int .i64 ((v2_0 + 8 : Nat) : Int))]) (mem' := []) [0, 2] [] (by kernel_rfl) (by kernel_rfl) rfl ?_
          exact H23 ⟨(Int.fdiv v0_0 (2 ^ 8)), v2_0 + 8⟩ hm
        · replace hm := br_f h18 hm
          refine GS.skip ?_
          refine GS.rekey (env' := [(0, .int .u64 v0_0), (2, .int .i64 ((v2_0 : Nat) : Int))]) (mem' := []) [0, 2] [] (by kernel_rfl) (by kernel_rfl) rfl ?_
          exact H23 ⟨v0_0, v2_0⟩ hm
      · rintro ⟨v0_0, v2_0⟩ hm
        replace hm := (hJ24 _).symm.trans hm
        try dsimp only at hm
        refine GS.seq ?_
        refine grd_elim hm (fun g26 hm => ?_)
        refine grd_elim hm (fun g27 hm => ?_)
        refine GS.region (env' := fun _ => [(2, .int .i64 (((v2_0 : Nat) : Int) + (IntKind.i64.wrap ((((ByteArray.mk #[0, 1, 2, 2, 3, 3, 3, 3, 4, 4, 4, 4, 4, 4, 4, 4, 5, 5, 5, 5, 5, 5, 5, 5, 5, 5, 5, 5, 5, 5, 5, 5, 6, 6, 6, 6, 6, 6, 6, 6, 6, 6, 6, 6, 6, 6, 6, 6, 6, 6, 6, 6, 6, 6, 6, 6, 6, 6, 6, 6, 6, 6, 6, 6, 7, 7, 7, 7, 7, 7, 7, 7, 7, 7, 7, 7, 7, 7, 7, 7, 7, 7, 7, 7, 7, 7, 7, 7, 7, 7, 7, 7, 7, 7, 7, 7, 7, 7, 7, 7, 7, 7, 7, 7, 7, 7, 7, 7, 7, 7, 7, 7, 7, 7, 7, 7, 7, 7, 7, 7, 7, 7, 7, 7, 7, 7, 7, 7, 8, 8, 8, 8, 8, 8, 8, 8, 8, 8, 8, 8, 8, 8, 8, 8, 8, 8, 8, 8, 8, 8, 8, 8, 8, 8, 8, 8, 8, 8, 8, 8, 8, 8, 8, 8, 8, 8, 8, 8, 8, 8, 8, 8, 8, 8, 8, 8, 8, 8, 8, 8, 8, 8, 8, 8, 8, 8, 8, 8, 8, 8, 8, 8, 8, 8, 8, 8, 8, 8, 8, 8, 8, 8, 8, 8, 8, 8, 8, 8, 8, 8, 8, 8, 8, 8, 8, 8, 8, 8, 8, 8, 8, 8, 8, 8, 8, 8, 8, 8, 8, 8, 8, 8, 8, 8, 8, 8, 8, 8, 8, 8, 8, 8, 8, 8, 8, 8, 8, 8, 8, 8, 8, 8, 8, 8, 8, 8]).data.getD (Int.toNat (IntKind.u8.wrap v0_0)) 0).toNat : Nat) : Int))))]) (mem' := fun _ => []) (RunsTo.mk [(3, { act := .elt (Int.toNat (IntKind.u8.wrap v0_0)) }), (5, { sp := some (.int .i64 (((v2_0 : Nat) : Int) + (IntKind.i64.wrap ((((ByteArray.mk #[0, 1, 2, 2, 3, 3, 3, 3, 4, 4, 4, 4, 4, 4, 4, 4, 5, 5, 5, 5, 5, 5, 5, 5, 5, 5, 5, 5, 5, 5, 5, 5, 6, 6, 6, 6, 6, 6, 6, 6, 6, 6, 6, 6, 6, 6, 6, 6, 6, 6, 6, 6, 6, 6, 6, 6, 6, 6, 6, 6, 6, 6, 6, 6, 7, 7, 7, 7, 7, 7, 7, 7, 7, 7, 7, 7, 7, 7, 7, 7, 7, 7, 7, 7, 7, 7, 7, 7, 7, 7, 7, 7, 7, 7, 7, 7, 7, 7, 7, 7, 7, 7, 7, 7, 7, 7, 7, 7, 7, 7, 7, 7, 7, 7, 7, 7, 7, 7, 7, 7, 7, 7, 7, 7, 7, 7, 7, 7, 8, 8, 8, 8, 8, 8, 8, 8, 8, 8, 8, 8, 8, 8, 8, 8, 8, 8, 8, 8, 8, 8, 8, 8, 8, 8, 8, 8, 8, 8, 8, 8, 8, 8, 8, 8, 8, 8, 8, 8, 8, 8, 8, 8, 8, 8, 8, 8, 8, 8, 8, 8, 8, 8, 8, 8, 8, 8, 8, 8, 8, 8, 8, 8, 8, 8, 8, 8, 8, 8, 8, 8, 8, 8, 8, 8, 8, 8, 8, 8, 8, 8, 8, 8, 8, 8, 8, 8, 8, 8, 8, 8, 8, 8, 8, 8, 8, 8, 8, 8, 8, 8, 8, 8, 8, 8, 8, 8, 8, 8, 8, 8, 8, 8, 8, 8, 8, 8, 8, 8, 8, 8, 8, 8, 8, 8, 8, 8]).data.getD (Int.toNat (IntKind.u8.wrap v0_0)) 0).toNat : Nat) : Int)))) })] [2] [] (fun _ => [((IntKind.u8.wrap v0_0) : Int) = (((Int.toNat (IntKind.u8.wrap v0_0)) : Nat) : Int), (Int.toNat (IntKind.u8.wrap v0_0)) < (ByteArray.mk #[0, 1, 2, 2, 3, 3, 3, 3, 4, 4, 4, 4, 4, 4, 4, 4, 5, 5, 5, 5, 5, 5, 5, 5, 5, 5, 5, 5, 5, 5, 5, 5, 6, 6, 6, 6, 6, 6, 6, 6, 6, 6, 6, 6, 6, 6, 6, 6, 6, 6, 6, 6, 6, 6, 6, 6, 6, 6, 6, 6, 6, 6, 6, 6, 7, 7, 7, 7, 7, 7, 7, 7, 7, 7, 7, 7, 7, 7, 7, 7, 7, 7, 7, 7, 7, 7, 7, 7, 7, 7, 7, 7, 7, 7, 7, 7, 7, 7, 7, 7, 7, 7, 7, 7, 7, 7, 7, 7, 7, 7, 7, 7, 7, 7, 7, 7, 7, 7, 7, 7, 7, 7, 7, 7, 7, 7, 7, 7, 8, 8, 8, 8, 8, 8, 8, 8, 8, 8, 8, 8, 8, 8, 8, 8, 8, 8, 8, 8, 8, 8, 8, 8, 8, 8, 8, 8, 8, 8, 8, 8, 8, 8, 8, 8, 8, 8, 8, 8, 8, 8, 8, 8, 8, 8, 8, 8, 8, 8, 8, 8, 8, 8, 8, 8, 8, 8, 8, 8, 8, 8, 8, 8, 8, 8, 8, 8, 8, 8, 8, 8, 8, 8, 8, 8, 8, 8, 8, 8, 8, 8, 8, 8, 8, 8, 8, 8, 8, 8, 8, 8, 8, 8, 8, 8, 8, 8, 8, 8, 8, 8, 8, 8, 8, 8, 8, 8, 8, 8, 8, 8, 8, 8, 8, 8, 8, 8, 8, 8, 8, 8, 8, 8, 8, 8, 8, 8]).size, ((.int .i64 (IntKind.i64.wrap (((v2_0 : Nat) : Int) + (IntKind.i64.wrap ((((ByteArray.mk #[0, 1, 2, 2, 3, 3, 3, 3, 4, 4, 4, 4, 4, 4, 4, 4, 5, 5, 5, 5, 5, 5, 5, 5, 5, 5, 5, 5, 5, 5, 5, 5, 6, 6, 6, 6, 6, 6, 6, 6, 6, 6, 6, 6, 6, 6, 6, 6, 6, 6, 6, 6, 6, 6, 6, 6, 6, 6, 6, 6, 6, 6, 6, 6, 7, 7, 7, 7, 7, 7, 7, 7, 7, 7, 7, 7, 7, 7, 7, 7, 7, 7, 7, 7, 7, 7, 7, 7, 7, 7, 7, 7, 7, 7, 7, 7, 7, 7, 7, 7, 7, 7, 7, 7, 7, 7, 7, 7, 7, 7, 7, 7, 7, 7, 7, 7, 7, 7, 7, 7, 7, 7, 7, 7, 7, 7, 7, 7, 8, 8, 8, 8, 8, 8, 8, 8, 8, 8, 8, 8, 8, 8, 8, 8, 8, 8, 8, 8, 8, 8, 8, 8, 8, 8, 8, 8, 8, 8, 8, 8, 8, 8, 8, 8, 8, 8, 8, 8, 8, 8, 8, 8, 8, 8, 8, 8, 8, 8, 8, 8, 8, 8, 8, 8, 8, 8, 8, 8, 8, 8, 8, 8, 8, 8, 8, 8, 8, 8, 8, 8, 8, 8, 8, 8, 8, 8, 8, 8, 8, 8, 8, 8, 8, 8, 8, 8, 8, 8, 8, 8, 8, 8, 8, 8, 8, 8, 8, 8, 8, 8, 8, 8, 8, 8, 8, 8, 8, 8, 8, 8, 8, 8, 8, 8, 8, 8, 8, 8, 8, 8, 8, 8, 8, 8, 8, 8]).data.getD (Int.toNat (IntKind.u8.wrap v0_0)) 0).toNat : Nat) : Int))))) : Value) = .int .i64 (((v2_0 : Nat) : Int) + (IntKind.i64.wrap ((((ByteArray.mk #[0, 1, 2, 2, 3, 3, 3, 3, 4, 4, 4, 4, 4, 4, 4, 4, 5, 5, 5, 5, 5, 5, 5, 5, 5, 5, 5, 5, 5, 5, 5, 5, 6, 6, 6, 6, 6, 6, 6, 6, 6, 6, 6, 6, 6, 6, 6, 6, 6, 6, 6, 6, 6, 6, 6, 6, 6, 6, 6, 6, 6, 6, 6, 6, 7, 7, 7, 7, 7, 7, 7, 7, 7, 7, 7, 7, 7, 7, 7, 7, 7, 7, 7, 7, 7, 7, 7, 7, 7, 7, 7, 7, 7, 7, 7, 7, 7, 7, 7, 7, 7, 7, 7, 7, 7, 7, 7, 7, 7, 7, 7, 7, 7, 7, 7, 7, 7, 7, 7, 7, 7, 7, 7, 7, 7, 7, 7, 7, 8, 8, 8, 8, 8, 8, 8, 8, 8, 8, 8, 8, 8, 8, 8, 8, 8, 8, 8, 8, 8, 8, 8, 8, 8, 8, 8, 8, 8, 8, 8, 8, 8, 8, 8, 8, 8, 8, 8, 8, 8, 8, 8, 8, 8, 8, 8, 8, 8, 8, 8, 8, 8, 8, 8, 8, 8, 8, 8, 8, 8, 8, 8, 8, 8, 8, 8, 8, 8, 8, 8, 8, 8, 8, 8, 8, 8, 8, 8, 8, 8, 8, 8, 8, 8, 8, 8, 8, 8, 8, 8, 8, 8, 8, 8, 8, 8, 8, 8, 8, 8, 8, 8, 8, 8, 8, 8, 8, 8, 8, 8, 8, 8, 8, 8, 8, 8, 8, 8, 8, 8, 8, 8, 8, 8, 8, 8, 8]).data.getD (Int.toNat (IntKind.u8.wrap v0_0)) 0).toNat : Nat) : Int)))]) (fun _ => by kernel_rfl) (fun _ => ⟨g26.eq, g26.2, I64.w g27, trivial⟩)) ?_
        intro _
        have hy := Option.some.inj hm
        subst hy
        refine GS.ret (fn := Try.f73) [0] [.int .i64 (((v2_0 : Nat) : Int) + (IntKind.i64.wrap ((((ByteArray.mk #[0, 1, 2, 2, 3, 3, 3, 3, 4, 4, 4, 4, 4, 4, 4, 4, 5, 5, 5, 5, 5, 5, 5, 5, 5, 5, 5, 5, 5, 5, 5, 5, 6, 6, 6, 6, 6, 6, 6, 6, 6, 6, 6, 6, 6, 6, 6, 6, 6, 6, 6, 6, 6, 6, 6, 6, 6, 6, 6, 6, 6, 6, 6, 6, 7, 7, 7, 7, 7, 7, 7, 7, 7, 7, 7, 7, 7, 7, 7, 7, 7, 7, 7, 7, 7, 7, 7, 7, 7, 7, 7, 7, 7, 7, 7, 7, 7, 7, 7, 7, 7, 7, 7, 7, 7, 7, 7, 7, 7, 7, 7, 7, 7, 7, 7, 7, 7, 7, 7, 7, 7, 7, 7, 7, 7, 7, 7, 7, 8, 8, 8, 8, 8, 8, 8, 8, 8, 8, 8, 8, 8, 8, 8, 8, 8, 8, 8, 8, 8, 8, 8, 8, 8, 8, 8, 8, 8, 8, 8, 8, 8, 8, 8, 8, 8, 8, 8, 8, 8, 8, 8, 8, 8, 8, 8, 8, 8, 8, 8, 8, 8, 8, 8, 8, 8, 8, 8, 8, 8, 8, 8, 8, 8, 8, 8, 8, 8, 8, 8, 8, 8, 8, 8, 8, 8, 8, 8, 8, 8, 8, 8, 8, 8, 8, 8, 8, 8, 8, 8, 8, 8, 8, 8, 8, 8, 8, 8, 8, 8, 8, 8, 8, 8, 8, 8, 8, 8, 8, 8, 8, 8, 8, 8, 8, 8, 8, 8, 8, 8, 8, 8, 8, 8, 8, 8, 8]).data.getD (Int.toNat (IntKind.u8.wrap v0_0)) 0).toNat : Nat) : Int)))] [] rfl Try.func73 (by kernel_rfl) trivial (fun w' hs => ?_)
        exact ⟨(), rfl, hs.turnedG (ks := []) rfl rfl⟩

theorem w_math_bits_Len (F : Nat) (a0 : Int) {y : Int} (hm : m_math_bits_Len F a0 = some y) : CallG Try.prog 56 #[.int .u64 a0] (X := Unit) (fun (_ : Unit) => .int .i64 y) [] [] (fun (_ : Unit) => []) := by
  intro w hg
  rw [m_math_bits_Len] at hm
  refine GS.start (S := mayT [] []) (mem := []) Try.func56 rfl Try.ntmps56 (Nat.le_of_ble_eq_true rfl) (hg.start rfl) ?_
  refine GS.conv (env' := [(0, .int .u64 a0)]) rfl rfl ?_
  refine GS.seq ?_
  refine GS.region (env' := fun _ => [(0, .int .u64 a0)]) (mem' := fun _ => []) (RunsTo.mk [] [0] [] (fun _ => []) (fun _ => by kernel_rfl) (fun _ => trivial)) ?_
  intro _
  refine GS.seq ?_
  refine GS.cond (t := false) rfl rfl (fun hf => by cases hf) (fun _ => ?_)
  refine GS.skip ?_
  refine GS.seq ?_
  refine bnd_elim hm (fun y3 e4 hm => ?_)
  refine GS.region (env' := fun _ => [(2, .int .i64 y3)]) (mem' := fun _ => []) (RunsTo.mk [(1, { act := .call [] (.int .i64 y3) })] [2] [] (fun _ => [CallOK Try.prog 73 #[.int .u64 a0] (.int .i64 y3) []]) (fun _ => by kernel_rfl) (fun _ => ⟨(w_math_bits_Len64 F a0 e4).ok trivial, trivial⟩)) ?_
  intro _
  have hy := Option.some.inj hm
  subst hy
  refine GS.ret (fn := Try.f56) [0] [.int .i64 y3] [] rfl Try.func56 (by kernel_rfl) trivial (fun w' hs => ?_)
  exact ⟨(), rfl, hs.turnedG (ks := []) rfl rfl⟩

theorem w_cmp_isNaN_string_ (F : Nat) (a0 : ByteArray) {y : Bool} (hm : m_cmp_isNaN_string_ F a0 = some y) : CallG Try.prog 79 #[.string a0] (X := Unit) (fun (_ : Unit) => .bool y) [] [] (fun (_ : Unit) => []) := by
  intro w hg
  rw [m_cmp_isNaN_string_] at hm
  refine GS.start (S := mayT [] []) (mem := []) Try.func79 rfl Try.ntmps79 (Nat.le_of_ble_eq_true rfl) (hg.start rfl) ?_
  refine GS.conv (env' := [(0, .string a0)]) rfl rfl ?_
  refine GS.seq ?_
  refine GS.region (env' := fun _ => [(0, .string a0)]) (mem' := fun _ => []) (RunsTo.mk [] [0] [] (fun _ => []) (fun _ => by kernel_rfl) (fun _ => trivial)) ?_
  intro _
  refine GS.seq ?_
  refine GS.region (env' := fun _ => [(2, .bool (!(a0.toList == a0.toList)))]) (mem' := fun _ => []) (RunsTo.mk [] [2] [] (fun _ => []) (fun _ => by kernel_rfl) (fun _ => trivial)) ?_
  intro _
  have hy := Option.some.inj hm
  subst hy
  refine GS.ret (fn := Try.f79) [0] [.bool (!(a0.toList == a0.toList))] [] rfl Try.func79 (by kernel_rfl) trivial (fun w' hs => ?_)
  exact ⟨(), rfl, hs.turnedG (ks := []) rfl rfl⟩

theorem w_cmp_Less_string_ (F : Nat) (a0 : ByteArray) (a1 : ByteArray) {y : Bool} (hm : m_cmp_Less_string_ F a0 a1 = some y) : CallG Try.prog 69 #[.string a0, .string a1] (X := Unit) (fun (_ : Unit) => .bool y) [] [] (fun (_ : Unit) => []) := by
  intro w hg
  rw [m_cmp_Less_string_] at hm
  refine GS.start (S := mayT [] []) (mem := []) Try.func69 rfl Try.ntmps69 (Nat.le_of_ble_eq_true rfl) (hg.start rfl) ?_
  refine GS.conv (env' := [(0, .string a0), (1, .string a1)]) rfl rfl ?_
  refine GS.seq ?_
  refine GS.region (env' := fun _ => [(0, .string a0), (1, .string a1)]) (mem' := fun _ => []) (RunsTo.mk [] [0, 1] [] (fun _ => []) (fun _ => by kernel_rfl) (fun _ => trivial)) ?_
  intro _
  refine GS.seq ?_
  refine bnd_elim hm (fun y3 e4 hm => ?_)
  refine br_elim hm (fun h5 hm => ?_) (fun h5 hm => ?_)
  · skip
    refine bnd_elim hm (fun y6 e7 hm => ?_)
    refine br_elim hm (fun h8 hm => ?_) (fun h8 hm => ?_)
    · skip
      refine GS.region (env' := fun _ => [(4, .bool true)]) (mem' := fun _ => []) (RunsTo.mk [(1, { act := .call [] (.bool y3) }), (2, { sp := some (.bool true) }), (4, { act := .call [] (.bool y6) }), (7, { sp := some (.bool true) })] [4] [] (fun _ => [CallOK Try.prog 79 #[.string a0] (.bool y3) [], ((.bool y3) : Value) = .bool true, CallOK Try.prog 79 #[.string a1] (.bool y6) [], ((.bool (!y6)) : Value) = .bool true]) (fun _ => by kernel_rfl) (fun _ => ⟨(w_cmp_isNaN_string_ F a0 e4).ok trivial, bool_eq h5, (w_cmp_isNaN_string_ F a1 e7).ok trivial, bool_eq h8, trivial⟩)) ?_
      intro _
      have hy := Option.some.inj hm
      subst hy
      refine GS.ret (fn := Try.f69) [0] [.bool true] [] rfl Try.func69 (by kernel_rfl) trivial (fun w' hs => ?_)
      exact ⟨(), rfl, hs.turnedG (ks := []) rfl rfl⟩
    · skip
      refine GS.region (env' := fun _ => [(4, .bool (Op.bytesLess a0.toList a1.toList))]) (mem' := fun _ => []) (RunsTo.mk [(1, { act := .call [] (.bool y3) }), (2, { sp := some (.bool true) }), (4, { act := .call [] (.bool y6) }), (7, { sp := some (.bool false) })] [4] [] (fun _ => [CallOK Try.prog 79 #[.string a0] (.bool y3) [], ((.bool y3) : Value) = .bool true, CallOK Try.prog 79 #[.string a1] (.bool y6) [], ((.bool (!y6)) : Value) = .bool false]) (fun _ => by kernel_rfl) (fun _ => ⟨(w_cmp_isNaN_string_ F a0 e4).ok trivial, bool_eq h5, (w_cmp_isNaN_string_ F a1 e7).ok trivial, bool_eq h8, trivial⟩)) ?_
      intro _
      have hy := Option.some.inj hm
      subst hy
      refine GS.ret (fn := Try.f69) [0] [.bool (Op.bytesLess a0.toList a1.toList)] [] rfl Try.func69 (by kernel_rfl) trivial (fun w' hs => ?_)
      exact ⟨(), rfl, hs.turnedG (ks := []) rfl rfl⟩
  · skip
    refine GS.region (env' := fun _ => [(4, .bool (Op.bytesLess a0.toList a1.toList))]) (mem' := fun _ => []) (RunsTo.mk [(1, { act := .call [] (.bool y3) }), (2, { sp := some (.bool false) })] [4] [] (fun _ => [CallOK Try.prog 79 #[.string a0] (.bool y3) [], ((.bool y3) : Value) = .bool false]) (fun _ => by kernel_rfl) (fun _ => ⟨(w_cmp_isNaN_string_ F a0 e4).ok trivial, bool_eq h5, trivial⟩)) ?_
    intro _
    have hy := Option.some.inj hm
    subst hy
    refine GS.ret (fn := Try.f69) [0] [.bool (Op.bytesLess a0.toList a1.toList)] [] rfl Try.func69 (by kernel_rfl) trivial (fun w' hs => ?_)
    exact ⟨(), rfl, hs.turnedG (ks := []) rfl rfl⟩

theorem w_slices_insertionSortOrdered_string_ (F : Nat) (a0_o : Option Addr) (a0_c : Nat) (a0 : List ByteArray) (a1 : Int) (a2 : Int) {y : List ByteArray} (hm : m_slices_insertionSortOrdered_string_ F a0 a1 a2 = some y) : CallG Try.prog 63 #[.slice a0_o a0.length a0_c, .int .i64 a1, .int .i64 a2] (X := Unit) (fun (_ : Unit) => .tuple #[]) [o9 a0_o a0_c a0] [] (fun (_ : Unit) => [o9 a0_o a0_c y]) := by
  intro w hg
  rw [m_slices_insertionSortOrdered_string_] at hm
  refine GS.start (S := mayT [o9 a0_o a0_c a0] []) (mem := [(1, o9 a0_o a0_c a0)]) Try.func63 rfl Try.ntmps63 (Nat.le_of_ble_eq_true rfl) (hg.start rfl) ?_
  refine GS.conv (env' := [(0, .slice a0_o a0.length a0_c), (1, .int .i64 a1), (2, .int .i64 a2)]) rfl rfl ?_
  refine GS.seq ?_
  refine grd_elim hm (fun g2 hm => ?_)
  refine GS.region (env' := fun _ => [(0, .slice a0_o a0.length a0_c), (1, .int .i64 a1), (2, .int .i64 a2), (6, .int .i64 (a1 + 1))]) (mem' := fun _ => [(1, o9 a0_o a0_c a0)]) (RunsTo.mk [(1, { sp := some (.int .i64 (a1 + 1)) })] [0, 1, 2, 6] [1] (fun _ => [((.int .i64 (IntKind.i64.wrap (a1 + 1))) : Value) = .int .i64 (a1 + 1)]) (fun _ => by kernel_rfl) (fun _ => ⟨I64.w g2, trivial⟩)) ?_
  intro _
  refine GS.block ?_
  refine GS.loop ?_
  refine GS.rekey (env' := [(0, .slice a0_o a0.length a0_c), (1, .int .i64 a1), (2, .int .i64 a2), (6, .int .i64 (a1 + 1))]) (mem' := [(1, o9 a0_o a0_c a0)]) [0, 1, 2, 6] [(1, 1)] (by kernel_rfl) (by kernel_rfl) rfl ?_
  refine loopW_elim hm (fun st154 hst156 hm => ?_)
  refine GS.loopInv (ι := Nat × Int × List ByteArray) (I := fun ⟨rs152, v6_1, l1_1⟩ => loopW st154 rs152 (v6_1, l1_1) = some y) (μ := fun ⟨rs152, v6_1, l1_1⟩ => rs152) (E := fun ⟨rs152, v6_1, l1_1⟩ => [(0, .slice a0_o l1_1.length a0_c), (1, .int .i64 a1), (2, .int .i64 a2), (6, .int .i64 v6_1)]) (M := fun ⟨rs152, v6_1, l1_1⟩ => [(1, o9 a0_o a0_c l1_1)]) ?_ ⟨F, (a1 + 1), a0⟩ hm
  rintro ⟨rs152, v6_1, l1_1⟩ hm ih153
  cases rs152 with
  | zero => cases hm
  | succ rs152 =>
    replace hm := (hst156 _ _).symm.trans hm
    try dsimp only at hm
    refine GS.seq ?_
    refine GS.seq ?_
    refine GS.region (env' := fun _ => [(0, .slice a0_o l1_1.length a0_c), (1, .int .i64 a1), (2, .int .i64 a2), (6, .int .i64 v6_1), (12, .bool (decide (v6_1 < a2)))]) (mem' := fun _ => [(1, o9 a0_o a0_c l1_1)]) (RunsTo.mk [] [0, 1, 2, 6, 12] [1] (fun _ => []) (fun _ => by kernel_rfl) (fun _ => trivial)) ?_
    intro _
    refine GS.cond (t := decide (v6_1 < a2)) rfl rfl (fun h103 => ?_) (fun h103 => ?_)
    · replace hm := br_t h103 hm
      refine GS.skip ?_
      refine GS.seq ?_
      refine GS.block ?_
      refine GS.seq ?_
      refine GS.region (env' := fun _ => [(0, .slice a0_o l1_1.length a0_c), (1, .int .i64 a1), (2, .int .i64 a2), (6, .int .i64 v6_1), (7, .int .i64 v6_1)]) (mem' := fun _ => [(1, o9 a0_o a0_c l1_1)]) (RunsTo.mk [] [0, 1, 2, 6, 7] [1] (fun _ => []) (fun _ => by kernel_rfl) (fun _ => trivial)) ?_
      intro _
      refine GS.block ?_
      refine GS.loop ?_
      refine GS.rekey (env' := [(0, .slice a0_o l1_1.length a0_c), (1, .int .i64 a1), (2, .int .i64 a2), (6, .int .i64 v6_1), (7, .int .i64 v6_1)]) (mem' := [(1, o9 a0_o a0_c l1_1)]) [0, 1, 2, 6, 7] [(1, 1)] (by kernel_rfl) (by kernel_rfl) rfl ?_
      refine loopW_elim hm (fun st145 hst147 hm => ?_)
      refine GS.loopInv (ι := Nat × Int × List ByteArray) (I := fun ⟨rs143, v7_4, l1_4⟩ => loopW st145 rs143 (v7_4, l1_4) = some y) (μ := fun ⟨rs143, v7_4, l1_4⟩ => rs143) (E := fun ⟨rs143, v7_4, l1_4⟩ => [(0, .slice a0_o l1_4.length a0_c), (1, .int .i64 a1), (2, .int .i64 a2), (6, .int .i64 v6_1), (7, .int .i64 v7_4)]) (M := fun ⟨rs143, v7_4, l1_4⟩ => [(1, o9 a0_o a0_c l1_4)]) ?_ ⟨F, v6_1, l1_1⟩ hm
      rintro ⟨rs143, v7_4, l1_4⟩ hm ih144
      cases rs143 with
      | zero => cases hm
      | succ rs143 =>
        replace hm := (hst147 _ _).symm.trans hm
        try dsimp only at hm
        refine GS.seq ?_
        refine GS.seq ?_
        refine jn_elim hm (fun J132 hJ134 hm => ?_)
        refine GS.cut (ι := Bool) (I := fun (v30_5 : Bool) => J132 v30_5 = some y) (E := fun (v30_5 : Bool) => [(0, .slice a0_o l1_4.length a0_c), (1, .int .i64 a1), (2, .int .i64 a2), (6, .int .i64 v6_1), (7, .int .i64 v7_4), (30, .bool v30_5)]) (M := fun (v30_5 : Bool) => [(1, o9 a0_o a0_c l1_4)]) ?_ ?_
        rotate_left
        · intro H133
          refine br_elim hm (fun h131 hm => ?_) (fun h131 hm => ?_)
          · skip
            refine grd_elim hm (fun g132 hm => ?_)
            refine grd_elim hm (fun g133 hm => ?_)
            refine grd_elim hm (fun g134 hm => ?_)
            refine bnd_elim hm (fun y135 e136 hm => ?_)
            refine GS.region (env' := fun _ => [(0, .slice a0_o l1_4.length a0_c), (1, .int .i64 a1), (2, .int .i64 a2), (6, .int .i64 v6_1), (7, .int .i64 v7_4), (30, .bool y135)]) (mem' := fun _ => [(1, o9 a0_o a0_c l1_4)]) (RunsTo.mkd [(3, { sp := some (.bool true) }), (6, { act := .idx 1 (Int.toNat v7_4) }), (7, { act := .load 1 (Int.toNat v7_4) 0 [.string (l1_4.getD (Int.toNat v7_4) (ByteArray.mk #[]))] }), (10, { sp := some (.int .i64 (v7_4 - 1)) }), (11, { act := .idx 1 (Int.toNat (v7_4 - 1)) }), (12, { act := .load 1 (Int.toNat (v7_4 - 1)) 0 [.string (l1_4.getD (Int.toNat (v7_4 - 1)) (ByteArray.mk #[]))] }), (13, { act := .call [] (.bool y135) })] [0, 1, 2, 6, 7, 30] [1] (fun _ => [((.bool (decide (v7_4 > a1))) : Value) = .bool true, a0_o = a0_o, l1_4.length = (List.map rS l1_4).length, (v7_4 : Int) = (((Int.toNat v7_4) : Nat) : Int), (Int.toNat v7_4) < l1_4.length, blk a0_o = blk a0_o, offs a0_o + (Int.toNat v7_4) * 1 = offs a0_o + ((Int.toNat v7_4) * 1 + 0), (List.map rS l1_4)[(Int.toNat v7_4)]? = some [.string (l1_4.getD (Int.toNat v7_4) (ByteArray.mk #[]))], ((.int .i64 (IntKind.i64.wrap (v7_4 - 1))) : Value) = .int .i64 (v7_4 - 1), a0_o = a0_o, l1_4.length = (List.map rS l1_4).length, ((v7_4 - 1) : Int) = (((Int.toNat (v7_4 - 1)) : Nat) : Int), (Int.toNat (v7_4 - 1)) < l1_4.length, blk a0_o = blk a0_o, offs a0_o + (Int.toNat (v7_4 - 1)) * 1 = offs a0_o + ((Int.toNat (v7_4 - 1)) * 1 + 0), (List.map rS l1_4)[(Int.toNat (v7_4 - 1))]? = some [.string (l1_4.getD (Int.toNat (v7_4 - 1)) (ByteArray.mk #[]))], CallOK Try.prog 69 #[.string (l1_4.getD (Int.toNat v7_4) (ByteArray.mk #[])), .string (l1_4.getD (Int.toNat (v7_4 - 1)) (ByteArray.mk #[]))] (.bool y135) []]) (by kernel_rfl) (by kernel_rfl) (fun _ => by kernel_rfl) (fun _ => ⟨bool_eq h131, rfl, mlen rS l1_4, g132.eq, g132.2, rfl, rfl, map_at rS (ByteArray.mk #[]) g132.2, I64.w g133, rfl, mlen rS l1_4, g134.eq, g134.2, rfl, rfl, map_at rS (ByteArray.mk #[]) g134.2, (w_cmp_Less_string_ F (l1_4.getD (Int.toNat v7_4) (ByteArray.mk #[])) (l1_4.getD (Int.toNat (v7_4 - 1)) (ByteArray.mk #[])) e136).ok trivial, trivial⟩)) ?_
            intro _
            refine GS.rekey (env' := [(0, .slice a0_o l1_4.length a0_c), (1, .int .i64 a1), (2, .int .i64 a2), (6, .int .i64 v6_1), (7, .int .i64 v7_4), (30, .bool y135)]) (mem' := [(1, o9 a0_o a0_c l1_4)]) [0, 1, 2, 6, 7, 30] [(1, 1)] (by kernel_rfl) (by kernel_rfl) rfl ?_
            exact H133 y135 hm
          · skip
            refine GS.region (env' := fun _ => [(0, .slice a0_o l1_4.length a0_c), (1, .int .i64 a1), (2, .int .i64 a2), (6, .int .i64 v6_1), (7, .int .i64 v7_4), (30, .bool false)]) (mem' := fun _ => [(1, o9 a0_o a0_c l1_4)]) (RunsTo.mkd [(3, { sp := some (.bool false) })] [0, 1, 2, 6, 7, 30] [1] (fun _ => [((.bool (decide (v7_4 > a1))) : Value) = .bool false]) (by kernel_rfl) (by kernel_rfl) (fun _ => by kernel_rfl) (fun _ => ⟨bool_eq h131, trivial⟩)) ?_
            intro _
            refine GS.rekey (env' := [(0, .slice a0_o l1_4.length a0_c), (1, .int .i64 a1), (2, .int .i64 a2), (6, .int .i64 v6_1), (7, .int .i64 v7_4), (30, .bool false)]) (mem' := [(1, o9 a0_o a0_c l1_4)]) [0, 1, 2, 6, 7, 30] [(1, 1)] (by kernel_rfl) (by kernel_rfl) rfl ?_
            exact H133 false hm
        · rintro v30_5 hm
          replace hm := (hJ134 _).symm.trans hm
          try dsimp only at hm
          refine GS.cond (t := v30_5) rfl rfl (fun h135 => ?_) (fun h135 => ?_)
          · replace hm := br_t h135 hm
            refine GS.skip ?_
            refine GS.seq ?_
            refine GS.block ?_
            refine grd_elim hm (fun g137 hm => ?_)
            refine grd_elim hm (fun g138 hm => ?_)
            refine grd_elim hm (fun g139 hm => ?_)
            refine grd_elim hm (fun g140 hm => ?_)
            refine GS.region (env' := fun _ => [(0, .slice a0_o l1_4.length a0_c), (1, .int .i64 a1), (2, .int .i64 a2), (6, .int .i64 v6_1), (7, .int .i64 v7_4)]) (mem' := fun _ => [(1, .osl a0_o a0_c 9 1 (((List.map rS l1_4).set (Int.toNat v7_4) [.string (l1_4.getD (Int.toNat (v7_4 - 1)) (ByteArray.mk #[]))]).set (Int.toNat (v7_4 - 1)) [.string (l1_4.getD (Int.toNat v7_4) (ByteArray.mk #[]))]))]) (RunsTo.mkd [(4, { sp := some (.int .i64 (v7_4 - 1)) }), (7, { sp := some (.int .i64 (v7_4 - 1)) }), (8, { act := .idx 1 (Int.toNat (v7_4 - 1)) }), (9, { act := .load 1 (Int.toNat (v7_4 - 1)) 0 [.string (l1_4.getD (Int.toNat (v7_4 - 1)) (ByteArray.mk #[]))] }), (12, { act := .idx 1 (Int.toNat v7_4) }), (13, { act := .load 1 (Int.toNat v7_4) 0 [.string (l1_4.getD (Int.toNat v7_4) (ByteArray.mk #[]))] }), (14, { act := .idx 1 (Int.toNat v7_4) }), (15, { act := .store (Int.toNat v7_4) 0 [.string (l1_4.getD (Int.toNat v7_4) (ByteArray.mk #[]))], key := some 1 }), (16, { act := .idx 1 (Int.toNat (v7_4 - 1)) }), (17, { act := .store (Int.toNat (v7_4 - 1)) 0 [.string ((l1_4.set (Int.toNat v7_4) (l1_4.getD (Int.toNat (v7_4 - 1)) (ByteArray.mk #[]))).getD (Int.toNat (v7_4 - 1)) (ByteArray.mk #[]))], key := some 1 })] [0, 1, 2, 6, 7] [1] (fun _ => [((.int .i64 (IntKind.i64.wrap (v7_4 - 1))) : Value) = .int .i64 (v7_4 - 1), ((.int .i64 (IntKind.i64.wrap (v7_4 - 1))) : Value) = .int .i64 (v7_4 - 1), a0_o = a0_o, l1_4.length = (List.map rS l1_4).length, ((v7_4 - 1) : Int) = (((Int.toNat (v7_4 - 1)) : Nat) : Int), (Int.toNat (v7_4 - 1)) < l1_4.length, blk a0_o = blk a0_o, offs a0_o + (Int.toNat (v7_4 - 1)) * 1 = offs a0_o + ((Int.toNat (v7_4 - 1)) * 1 + 0), (List.map rS l1_4)[(Int.toNat (v7_4 - 1))]? = some [.string (l1_4.getD (Int.toNat (v7_4 - 1)) (ByteArray.mk #[]))], a0_o = a0_o, l1_4.length = (List.map rS l1_4).length, (v7_4 : Int) = (((Int.toNat v7_4) : Nat) : Int), (Int.toNat v7_4) < l1_4.length, blk a0_o = blk a0_o, offs a0_o + (Int.toNat v7_4) * 1 = offs a0_o + ((Int.toNat v7_4) * 1 + 0), (List.map rS l1_4)[(Int.toNat v7_4)]? = some [.string (l1_4.getD (Int.toNat v7_4) (ByteArray.mk #[]))], a0_o = a0_o, l1_4.length = (List.map rS l1_4).length, (v7_4 : Int) = (((Int.toNat v7_4) : Nat) : Int), (Int.toNat v7_4) < l1_4.length, blk a0_o = blk a0_o, offs a0_o + (Int.toNat v7_4) * 1 = offs a0_o + ((Int.toNat v7_4) * 1 + 0), (List.map rS l1_4)[(Int.toNat v7_4)]? = some [.string (l1_4.getD (Int.toNat v7_4) (ByteArray.mk #[]))], ((.string (l1_4.getD (Int.toNat (v7_4 - 1)) (ByteArray.mk #[]))) : Value).cells.toList.all Value.oneCell' = true, a0_o = a0_o, l1_4.length = ((List.map rS l1_4).set (Int.toNat v7_4) [.string (l1_4.getD (Int.toNat (v7_4 - 1)) (ByteArray.mk #[]))]).length, ((v7_4 - 1) : Int) = (((Int.toNat (v7_4 - 1)) : Nat) : Int), (Int.toNat (v7_4 - 1)) < l1_4.length, blk a0_o = blk a0_o, offs a0_o + (Int.toNat (v7_4 - 1)) * 1 = offs a0_o + ((Int.toNat (v7_4 - 1)) * 1 + 0), ((List.map rS l1_4).set (Int.toNat v7_4) [.string (l1_4.getD (Int.toNat (v7_4 - 1)) (ByteArray.mk #[]))])[(Int.toNat (v7_4 - 1))]? = some [.string ((l1_4.set (Int.toNat v7_4) (l1_4.getD (Int.toNat (v7_4 - 1)) (ByteArray.mk #[]))).getD (Int.toNat (v7_4 - 1)) (ByteArray.mk #[]))], ((.string (l1_4.getD (Int.toNat v7_4) (ByteArray.mk #[]))) : Value).cells.toList.all Value.oneCell' = true]) (by kernel_rfl) (by kernel_rfl) (fun _ => by kernel_rfl) (fun _ => ⟨I64.w g137, I64.w g137, rfl, mlen rS l1_4, g138.eq, g138.2, rfl, rfl, map_at rS (ByteArray.mk #[]) g138.2, rfl, mlen rS l1_4, g139.eq, g139.2, rfl, rfl, map_at rS (ByteArray.mk #[]) g139.2, rfl, mlen rS l1_4, g139.eq, g139.2, rfl, rfl, map_at rS (ByteArray.mk #[]) g139.2, rfl, rfl, (by simp []), g140.eq, (by simpa [] using g140.2), rfl, rfl, (by rw [show (List.map rS l1_4).set (Int.toNat v7_4) [.string (l1_4.getD (Int.toNat (v7_4 - 1)) (ByteArray.mk #[]))] = List.map rS (l1_4.set (Int.toNat v7_4) (l1_4.getD (Int.toNat (v7_4 - 1)) (ByteArray.mk #[]))) from mset rS l1_4 (Int.toNat v7_4) (l1_4.getD (Int.toNat (v7_4 - 1)) (ByteArray.mk #[]))]; exact map_at rS (ByteArray.mk #[]) g140.2), rfl, trivial⟩)) ?_
            intro _
            refine GS.conv (mem' := [(1, o9 a0_o a0_c ((l1_4.set (Int.toNat v7_4) (l1_4.getD (Int.toNat (v7_4 - 1)) (ByteArray.mk #[]))).set (Int.toNat (v7_4 - 1)) (l1_4.getD (Int.toNat v7_4) (ByteArray.mk #[]))))]) rfl (congrArg (fun rr : List (List Value) => ([(1, .osl a0_o a0_c 9 1 rr)] : List (Nat × Ent))) (show ((List.map rS l1_4).set (Int.toNat v7_4) [.string (l1_4.getD (Int.toNat (v7_4 - 1)) (ByteArray.mk #[]))]).set (Int.toNat (v7_4 - 1)) [.string (l1_4.getD (Int.toNat v7_4) (ByteArray.mk #[]))] = List.map rS ((l1_4.set (Int.toNat v7_4) (l1_4.getD (Int.toNat (v7_4 - 1)) (ByteArray.mk #[]))).set (Int.toNat (v7_4 - 1)) (l1_4.getD (Int.toNat v7_4) (ByteArray.mk #[]))) from (by rw [show (List.map rS l1_4).set (Int.toNat v7_4) [.string (l1_4.getD (Int.toNat (v7_4 - 1)) (ByteArray.mk #[]))] = List.map rS (l1_4.set (Int.toNat v7_4) (l1_4.getD (Int.toNat (v7_4 - 1)) (ByteArray.mk #[]))) from mset rS l1_4 (Int.toNat v7_4) (l1_4.getD (Int.toNat (v7_4 - 1)) (ByteArray.mk #[]))]; exact mset rS (l1_4.set (Int.toNat v7_4) (l1_4.getD (Int.toNat (v7_4 - 1)) (ByteArray.mk #[]))) (Int.toNat (v7_4 - 1)) (l1_4.getD (Int.toNat v7_4) (ByteArray.mk #[]))))) ?_
            refine GS.inBlock ?_
            refine GS.conv (env' := [(0, .slice a0_o (((l1_4.set (Int.toNat v7_4) (l1_4.getD (Int.toNat (v7_4 - 1)) (ByteArray.mk #[]))).set (Int.toNat (v7_4 - 1)) (l1_4.getD (Int.toNat v7_4) (ByteArray.mk #[]))).length) a0_c), (1, .int .i64 a1), (2, .int .i64 a2), (6, .int .i64 v6_1), (7, .int .i64 v7_4)]) (congrArg (fun vhole : Value => [(0, vhole), (1, .int .i64 a1), (2, .int .i64 a2), (6, .int .i64 v6_1), (7, .int .i64 v7_4)]) (show ((.slice a0_o l1_4.length a0_c) : Value) = .slice a0_o (((l1_4.set (Int.toNat v7_4) (l1_4.getD (Int.toNat (v7_4 - 1)) (ByteArray.mk #[]))).set (Int.toNat (v7_4 - 1)) (l1_4.getD (Int.toNat v7_4) (ByteArray.mk #[]))).length) a0_c from (by simp []))) rfl ?_
            refine GS.region (env' := fun _ => [(0, .slice a0_o (((l1_4.set (Int.toNat v7_4) (l1_4.getD (Int.toNat (v7_4 - 1)) (ByteArray.mk #[]))).set (Int.toNat (v7_4 - 1)) (l1_4.getD (Int.toNat v7_4) (ByteArray.mk #[]))).length) a0_c), (1, .int .i64 a1), (2, .int .i64 a2), (6, .int .i64 v6_1), (7, .int .i64 (v7_4 - 1))]) (mem' := fun _ => [(1, o9 a0_o a0_c ((l1_4.set (Int.toNat v7_4) (l1_4.getD (Int.toNat (v7_4 - 1)) (ByteArray.mk #[]))).set (Int.toNat (v7_4 - 1)) (l1_4.getD (Int.toNat v7_4) (ByteArray.mk #[]))))]) (RunsTo.mk [(1, { sp := some (.int .i64 (v7_4 - 1)) })] [0, 1, 2, 6, 7] [1] (fun _ => [((.int .i64 (IntKind.i64.wrap (v7_4 - 1))) : Value) = .int .i64 (v7_4 - 1)]) (fun _ => by kernel_rfl) (fun _ => ⟨I64.w g137, trivial⟩)) ?_
            intro _
            refine GS.inLoop ?_
            refine GS.rekey (env' := [(0, .slice a0_o (((l1_4.set (Int.toNat v7_4) (l1_4.getD (Int.toNat (v7_4 - 1)) (ByteArray.mk #[]))).set (Int.toNat (v7_4 - 1)) (l1_4.getD (Int.toNat v7_4) (ByteArray.mk #[]))).length) a0_c), (1, .int .i64 a1), (2, .int .i64 a2), (6, .int .i64 v6_1), (7, .int .i64 (v7_4 - 1))]) (mem' := [(1, o9 a0_o a0_c ((l1_4.set (Int.toNat v7_4) (l1_4.getD (Int.toNat (v7_4 - 1)) (ByteArray.mk #[]))).set (Int.toNat (v7_4 - 1)) (l1_4.getD (Int.toNat v7_4) (ByteArray.mk #[]))))]) [0, 1, 2, 6, 7] [(1, 1)] (by kernel_rfl) (by kernel_rfl) rfl ?_
            exact ih144 ⟨rs143, (v7_4 - 1), ((l1_4.set (Int.toNat v7_4) (l1_4.getD (Int.toNat (v7_4 - 1)) (ByteArray.mk #[]))).set (Int.toNat (v7_4 - 1)) (l1_4.getD (Int.toNat v7_4) (ByteArray.mk #[])))⟩ hm (Nat.lt_succ_self _)
          · replace hm := br_f h135 hm
            refine GS.exit rfl ?_
            refine GS.inBlock ?_
            refine grd_elim hm (fun g150 hm => ?_)
            refine GS.region (env' := fun _ => [(0, .slice a0_o l1_4.length a0_c), (1, .int .i64 a1), (2, .int .i64 a2), (6, .int .i64 (v6_1 + 1))]) (mem' := fun _ => [(1, o9 a0_o a0_c l1_4)]) (RunsTo.mk [(1, { sp := some (.int .i64 (v6_1 + 1)) })] [0, 1, 2, 6] [1] (fun _ => [((.int .i64 (IntKind.i64.wrap (v6_1 + 1))) : Value) = .int .i64 (v6_1 + 1)]) (fun _ => by kernel_rfl) (fun _ => ⟨I64.w g150, trivial⟩)) ?_
            intro _
            refine GS.inLoop ?_
            refine GS.rekey (env' := [(0, .slice a0_o l1_4.length a0_c), (1, .int .i64 a1), (2, .int .i64 a2), (6, .int .i64 (v6_1 + 1))]) (mem' := [(1, o9 a0_o a0_c l1_4)]) [0, 1, 2, 6] [(1, 1)] (by kernel_rfl) (by kernel_rfl) rfl ?_
            exact ih153 ⟨rs152, (v6_1 + 1), l1_4⟩ hm (Nat.lt_succ_self _)
    · replace hm := br_f h103 hm
      refine GS.exit rfl ?_
      have hy := Option.some.inj hm
      subst hy
      refine GS.end_ (fn := Try.f63) [] [] [] rfl Try.func63 (by kernel_rfl) trivial (fun w' hs => ?_)
      exact ⟨(), rfl, hs.turnedG (ks := [1]) rfl rfl⟩

theorem w_slices_pdqsortOrdered_string_ (F : Nat) (a0_o : Option Addr) (a0_c : Nat) (a0 : List ByteArray) (a1 : Int) (a2 : Int) (a3 : Int) {y : List ByteArray} (hm : m_slices_pdqsortOrdered_string_ F a0 a1 a2 a3 = some y) : CallG Try.prog 55 #[.slice a0_o a0.length a0_c, .int .i64 a1, .int .i64 a2, .int .i64 a3] (X := Unit) (fun (_ : Unit) => .tuple #[]) [o9 a0_o a0_c a0] [] (fun (_ : Unit) => [o9 a0_o a0_c y]) := by
  intro w hg
  rw [m_slices_pdqsortOrdered_string_] at hm
  refine GS.start (S := mayT [o9 a0_o a0_c a0] []) (mem := [(1, o9 a0_o a0_c a0)]) Try.func55 rfl Try.ntmps55 (Nat.le_of_ble_eq_true rfl) (hg.start rfl) ?_
  refine GS.conv (env' := [(0, .slice a0_o a0.length a0_c), (1, .int .i64 a1), (2, .int .i64 a2), (3, .int .i64 a3)]) rfl rfl ?_
  refine GS.seq ?_
  refine GS.region (env' := fun _ => [(0, .slice a0_o a0.length a0_c), (1, .int .i64 a1), (2, .int .i64 a2), (3, .int .i64 a3), (8, .bool true)]) (mem' := fun _ => [(1, o9 a0_o a0_c a0)]) (RunsTo.mk [] [0, 1, 2, 3, 8] [1] (fun _ => []) (fun _ => by kernel_rfl) (fun _ => trivial)) ?_
  intro _
  refine GS.seq ?_
  refine GS.region (env' := fun _ => [(0, .slice a0_o a0.length a0_c), (1, .int .i64 a1), (2, .int .i64 a2), (3, .int .i64 a3), (8, .bool true), (9, .bool true)]) (mem' := fun _ => [(1, o9 a0_o a0_c a0)]) (RunsTo.mk [] [0, 1, 2, 3, 8, 9] [1] (fun _ => []) (fun _ => by kernel_rfl) (fun _ => trivial)) ?_
  intro _
  refine GS.block ?_
  refine GS.loop ?_
  refine GS.block ?_
  refine GS.seq ?_
  refine grd_elim hm (fun g4 hm => ?_)
  refine GS.region (env' := fun _ => [(0, .slice a0_o a0.length a0_c), (1, .int .i64 a1), (2, .int .i64 a2), (3, .int .i64 a3), (8, .bool true), (9, .bool true), (10, .int .i64 (a2 - a1))]) (mem' := fun _ => [(1, o9 a0_o a0_c a0)]) (RunsTo.mk [(2, { sp := some (.int .i64 (a2 - a1)) })] [0, 1, 2, 3, 8, 9, 10] [1] (fun _ => [((.int .i64 (IntKind.i64.wrap (a2 - a1))) : Value) = .int .i64 (a2 - a1)]) (fun _ => by kernel_rfl) (fun _ => ⟨I64.w g4, trivial⟩)) ?_
  intro _
  refine GS.seq ?_
  refine GS.seq ?_
  refine GS.region (env' := fun _ => [(0, .slice a0_o a0.length a0_c), (1, .int .i64 a1), (2, .int .i64 a2), (3, .int .i64 a3), (8, .bool true), (9, .bool true), (10, .int .i64 (a2 - a1)), (23, .bool (decide ((a2 - a1) ≤ 12)))]) (mem' := fun _ => [(1, o9 a0_o a0_c a0)]) (RunsTo.mk [] [0, 1, 2, 3, 8, 9, 10, 23] [1] (fun _ => []) (fun _ => by kernel_rfl) (fun _ => trivial)) ?_
  intro _
  refine GS.cond (t := decide ((a2 - a1) ≤ 12)) rfl rfl (fun h6 => ?_) (fun h6 => ?_)
  · replace hm := br_t h6 hm
    refine GS.seq ?_
    refine bnd_elim hm (fun y8 e9 hm => ?_)
    refine grd_elim hm (fun g10 hm => ?_)
    refine GS.open_ ?_
    refine GR.run (i := 0) 3 (env' := fun _ => [(24, .slice a0_o a0.length a0_c), (25, .int .i64 a1), (26, .int .i64 a2)]) (mem' := fun _ => [(1, o9 a0_o a0_c a0)]) (Nat.le_of_ble_eq_true (by kernel_rfl)) (RunsTo.mk [] [24, 25, 26] [1] (fun _ => []) (fun _ => by kernel_rfl) (fun _ => trivial)) ?_
    intro _
    refine GR.callG (X := Unit) (i := 3) (g := 63) (args := #[.slice a0_o a0.length a0_c, .int .i64 a1, .int .i64 a2]) (v := fun (_ : Unit) => .tuple #[]) (own := [o9 a0_o a0_c a0]) (ro := []) (es' := fun (_ : Unit) => [o9 a0_o a0_c y8]) (mem' := fun (_ : Unit) => [(1, o9 a0_o a0_c y8)]) (env' := fun (_ : Unit) => []) [1] [1] [] [1] false (by kernel_rfl) (by kernel_rfl) (by kernel_rfl) (by kernel_rfl) (by kernel_rfl) (fun _ => rfl) (fun _ _ => rfl) trivial (by rintro _; kernel_rfl) (by rintro _; kernel_rfl) (w_slices_insertionSortOrdered_string_ F a0_o a0_c a0 a1 a2 e9) ?_
    rintro _
    refine GR.done (Nat.le_of_ble_eq_true (by kernel_rfl)) ?_
    have hy := Option.some.inj hm
    subst hy
    refine GS.ret (fn := Try.f55) [] [] [] rfl Try.func55 (by kernel_rfl) trivial (fun w' hs => ?_)
    exact ⟨(), rfl, hs.turnedG (ks := [1]) rfl rfl⟩
  · replace hm := br_f h6 hm
    refine GS.skip ?_
    refine GS.seq ?_
    refine GS.seq ?_
    refine GS.region (env' := fun _ => [(0, .slice a0_o a0.length a0_c), (1, .int .i64 a1), (2, .int .i64 a2), (3, .int .i64 a3), (8, .bool true), (9, .bool true), (10, .int .i64 (a2 - a1)), (29, .bool (a3 == 0))]) (mem' := fun _ => [(1, o9 a0_o a0_c a0)]) (RunsTo.mk [] [0, 1, 2, 3, 8, 9, 10, 29] [1] (fun _ => []) (fun _ => by kernel_rfl) (fun _ => trivial)) ?_
    intro _
    refine GS.cond (t := a3 == 0) rfl rfl (fun h13 => ?_) (fun h13 => ?_)
    · replace hm := br_t h13 hm
      cases hm
    · replace hm := br_f h13 hm
      refine GS.skip ?_
      cases hm

theorem w_slices_Sort___string_string_ (F : Nat) (a0_o : Option Addr) (a0_c : Nat) (a0 : List ByteArray) {y : List ByteArray} (hm : m_slices_Sort___string_string_ F a0 = some y) : CallG Try.prog 37 #[.slice a0_o a0.length a0_c] (X := Unit) (fun (_ : Unit) => .tuple #[]) [o9 a0_o a0_c a0] [] (fun (_ : Unit) => [o9 a0_o a0_c y]) := by
  intro w hg
  rw [m_slices_Sort___string_string_] at hm
  refine GS.start (S := mayT [o9 a0_o a0_c a0] []) (mem := [(1, o9 a0_o a0_c a0)]) Try.func37 rfl Try.ntmps37 (Nat.le_of_ble_eq_true rfl) (hg.start rfl) ?_
  refine GS.conv (env' := [(0, .slice a0_o a0.length a0_c)]) rfl rfl ?_
  refine GS.seq ?_
  refine GS.region (env' := fun _ => [(0, .slice a0_o a0.length a0_c), (2, .int .i64 ((a0.length : Nat) : Int))]) (mem' := fun _ => [(1, o9 a0_o a0_c a0)]) (RunsTo.mk [] [0, 2] [1] (fun _ => []) (fun _ => by kernel_rfl) (fun _ => trivial)) ?_
  intro _
  refine bnd_elim hm (fun y3 e4 hm => ?_)
  refine bnd_elim hm (fun y5 e6 hm => ?_)
  refine grd_elim hm (fun g7 hm => ?_)
  refine GS.open_ ?_
  refine GR.run (i := 0) 5 (env' := fun _ => [(5, .slice a0_o a0.length a0_c), (6, .int .i64 ((a0.length : Nat) : Int)), (9, .int .i64 y3)]) (mem' := fun _ => [(1, o9 a0_o a0_c a0)]) (Nat.le_of_ble_eq_true (by kernel_rfl)) (RunsTo.mk [(4, { act := .call [] (.int .i64 y3) })] [5, 6, 9] [1] (fun _ => [CallOK Try.prog 56 #[.int .u64 (IntKind.u64.wrap ((a0.length : Nat) : Int))] (.int .i64 y3) []]) (fun _ => by kernel_rfl) (fun _ => ⟨(w_math_bits_Len F (IntKind.u64.wrap ((a0.length : Nat) : Int)) e4).ok trivial, trivial⟩)) ?_
  intro _
  refine GR.callG (X := Unit) (i := 5) (g := 55) (args := #[.slice a0_o a0.length a0_c, .int .i64 0, .int .i64 ((a0.length : Nat) : Int), .int .i64 y3]) (v := fun (_ : Unit) => .tuple #[]) (own := [o9 a0_o a0_c a0]) (ro := []) (es' := fun (_ : Unit) => [o9 a0_o a0_c y5]) (mem' := fun (_ : Unit) => [(1, o9 a0_o a0_c y5)]) (env' := fun (_ : Unit) => []) [1] [1] [] [1] false (by kernel_rfl) (by kernel_rfl) (by kernel_rfl) (by kernel_rfl) (by kernel_rfl) (fun _ => rfl) (fun _ _ => rfl) trivial (by rintro _; kernel_rfl) (by rintro _; kernel_rfl) (w_slices_pdqsortOrdered_string_ F a0_o a0_c a0 0 ((a0.length : Nat) : Int) y3 e6) ?_
  rintro _
  refine GR.done (Nat.le_of_ble_eq_true (by kernel_rfl)) ?_
  have hy := Option.some.inj hm
  subst hy
  refine GS.end_ (fn := Try.f37) [] [] [] rfl Try.func37 (by kernel_rfl) trivial (fun w' hs => ?_)
  exact ⟨(), rfl, hs.turnedG (ks := [1]) rfl rfl⟩

theorem w_slices_Compact___string_string_ (F : Nat) (a0_o : Option Addr) (a0_c : Nat) (a0 : List ByteArray) (a0_ch : a0.length ≤ a0_c) {y : List ByteArray} (hm : m_slices_Compact___string_string_ F a0 = some y) : CallG Try.prog 38 #[.slice a0_o a0.length a0_c] (X := Option Addr × Nat) (fun ⟨x0, x1⟩ => .slice x0 y.length x1) [o9 a0_o a0_c a0] [] (fun ⟨x0, x1⟩ => [o9 x0 x1 y]) := by
  intro w hg
  rw [m_slices_Compact___string_string_] at hm
  refine GS.start (S := mayT [o9 a0_o a0_c a0] []) (mem := [(1, o9 a0_o a0_c a0)]) Try.func38 rfl Try.ntmps38 (Nat.le_of_ble_eq_true rfl) (hg.start rfl) ?_
  refine GS.conv (env' := [(0, .slice a0_o a0.length a0_c)]) rfl rfl ?_
  refine GS.seq ?_
  refine GS.region (env' := fun _ => [(0, .slice a0_o a0.length a0_c)]) (mem' := fun _ => [(1, o9 a0_o a0_c a0)]) (RunsTo.mk [] [0] [1] (fun _ => []) (fun _ => by kernel_rfl) (fun _ => trivial)) ?_
  intro _
  refine GS.seq ?_
  refine GS.seq ?_
  refine GS.region (env' := fun _ => [(0, .slice a0_o a0.length a0_c), (8, .bool (decide (((a0.length : Nat) : Int) < 2)))]) (mem' := fun _ => [(1, o9 a0_o a0_c a0)]) (RunsTo.mk [] [0, 8] [1] (fun _ => []) (fun _ => by kernel_rfl) (fun _ => trivial)) ?_
  intro _
  refine GS.cond (t := decide (((a0.length : Nat) : Int) < 2)) rfl rfl (fun h3 => ?_) (fun h3 => ?_)
  · replace hm := br_t h3 hm
    refine GS.seq ?_
    refine GS.region (env' := fun _ => [(2, .slice a0_o a0.length a0_c)]) (mem' := fun _ => [(1, o9 a0_o a0_c a0)]) (RunsTo.mk [] [2] [1] (fun _ => []) (fun _ => by kernel_rfl) (fun _ => trivial)) ?_
    intro _
    have hy := Option.some.inj hm
    subst hy
    refine GS.ret (fn := Try.f38) [0] [.slice a0_o a0.length a0_c] [] rfl Try.func38 (by kernel_rfl) trivial (fun w' hs => ?_)
    exact ⟨⟨a0_o, a0_c⟩, rfl, hs.turnedG (ks := [1]) rfl rfl⟩
  · replace hm := br_f h3 hm
    refine GS.skip ?_
    refine GS.seq ?_
    refine GS.seq ?_
    refine GS.region (env' := fun _ => [(0, .slice a0_o a0.length a0_c), (3, .int .i64 1)]) (mem' := fun _ => [(1, o9 a0_o a0_c a0)]) (RunsTo.mk [] [0, 3] [1] (fun _ => []) (fun _ => by kernel_rfl) (fun _ => trivial)) ?_
    intro _
    refine GS.block ?_
    refine GS.loop ?_
    refine grd_elim hm (fun g29 hm => ?_)
    refine GS.rekey (env' := [(0, .slice a0_o a0.length a0_c), (3, .int .i64 1)]) (mem' := [(1, o9 a0_o a0_c a0)]) [0, 3] [(1, 1)] (by kernel_rfl) (by kernel_rfl) rfl ?_
    refine loopL_elim hm (fun st46 fn47 hst48 hfn49 hm => ?_)
    refine GS.loopInv (ι := List ByteArray × Nat) (I := fun ⟨rs44, v3_1⟩ => a0.drop v3_1 = rs44 ∧ loopL st46 fn47 rs44 v3_1 () = some y) (μ := fun ⟨rs44, v3_1⟩ => rs44.length) (E := fun ⟨rs44, v3_1⟩ => [(0, .slice a0_o a0.length a0_c), (3, .int .i64 ((v3_1 : Nat) : Int))]) (M := fun ⟨rs44, v3_1⟩ => [(1, o9 a0_o a0_c a0)]) ?_ ⟨(a0.drop 1), 1⟩ ⟨rfl, hm⟩
    rintro ⟨rs44, v3_1⟩ ⟨hd28, hm⟩ ih45
    cases rs44 with
    | nil =>
      replace hm := (hfn49 _ _).symm.trans hm
      try dsimp only at hm
      refine GS.seq ?_
      refine GS.seq ?_
      refine GS.region (env' := fun _ => [(0, .slice a0_o a0.length a0_c), (3, .int .i64 ((v3_1 : Nat) : Int)), (13, .bool (decide (((v3_1 : Nat) : Int) < ((a0.length : Nat) : Int))))]) (mem' := fun _ => [(1, o9 a0_o a0_c a0)]) (RunsTo.mk [] [0, 3, 13] [1] (fun _ => []) (fun _ => by kernel_rfl) (fun _ => trivial)) ?_
      intro _
      refine GS.cond (t := decide (((v3_1 : Nat) : Int) < ((a0.length : Nat) : Int))) rfl rfl (fun h42 => absb h42 (drop_dec0 hd28)) (fun _ => ?_)
      refine GS.exit rfl ?_
      refine GS.seq ?_
      refine GS.region (env' := fun _ => [(2, .slice a0_o a0.length a0_c)]) (mem' := fun _ => [(1, o9 a0_o a0_c a0)]) (RunsTo.mk [] [2] [1] (fun _ => []) (fun _ => by kernel_rfl) (fun _ => trivial)) ?_
      intro _
      have hy := Option.some.inj hm
      subst hy
      refine GS.ret (fn := Try.f38) [0] [.slice a0_o a0.length a0_c] [] rfl Try.func38 (by kernel_rfl) trivial (fun w' hs => ?_)
      exact ⟨⟨a0_o, a0_c⟩, rfl, hs.turnedG (ks := [1]) rfl rfl⟩
    | cons x30 rs44 =>
      replace hm := (hst48 _ _ _ _).symm.trans hm
      try dsimp only at hm
      refine GS.seq ?_
      refine GS.seq ?_
      refine GS.region (env' := fun _ => [(0, .slice a0_o a0.length a0_c), (3, .int .i64 ((v3_1 : Nat) : Int)), (13, .bool (decide (((v3_1 : Nat) : Int) < ((a0.length : Nat) : Int))))]) (mem' := fun _ => [(1, o9 a0_o a0_c a0)]) (RunsTo.mk [] [0, 3, 13] [1] (fun _ => []) (fun _ => by kernel_rfl) (fun _ => trivial)) ?_
      intro _
      refine GS.cond (t := decide (((v3_1 : Nat) : Int) < ((a0.length : Nat) : Int))) rfl rfl (fun _ => ?_) (fun h32 => absb (drop_dec hd28) h32)
      refine GS.skip ?_
      refine GS.seq ?_
      refine GS.block ?_
      refine GS.seq ?_
      refine grd_elim hm (fun g34 hm => ?_)
      refine grd_elim hm (fun g35 hm => ?_)
      refine GS.region (env' := fun _ => [(0, .slice a0_o a0.length a0_c), (3, .int .i64 ((v3_1 : Nat) : Int)), (25, .bool (x30.toList == (a0.getD (Int.toNat (((v3_1 : Nat) : Int) - 1)) (ByteArray.mk #[])).toList))]) (mem' := fun _ => [(1, o9 a0_o a0_c a0)]) (RunsTo.mkd [(2, { act := .idx 1 v3_1 }), (3, { act := .load 1 v3_1 0 [.string x30] }), (6, { sp := some (.int .i64 (((v3_1 : Nat) : Int) - 1)) }), (7, { act := .idx 1 (Int.toNat (((v3_1 : Nat) : Int) - 1)) }), (8, { act := .load 1 (Int.toNat (((v3_1 : Nat) : Int) - 1)) 0 [.string (a0.getD (Int.toNat (((v3_1 : Nat) : Int) - 1)) (ByteArray.mk #[]))] })] [0, 3, 25] [1] (fun _ => [a0_o = a0_o, a0.length = (List.map rS a0).length, (((v3_1 : Nat) : Int) : Int) = ((v3_1 : Nat) : Int), v3_1 < a0.length, blk a0_o = blk a0_o, offs a0_o + v3_1 * 1 = offs a0_o + (v3_1 * 1 + 0), (List.map rS a0)[v3_1]? = some [.string x30], ((.int .i64 (IntKind.i64.wrap (((v3_1 : Nat) : Int) - 1))) : Value) = .int .i64 (((v3_1 : Nat) : Int) - 1), a0_o = a0_o, a0.length = (List.map rS a0).length, ((((v3_1 : Nat) : Int) - 1) : Int) = (((Int.toNat (((v3_1 : Nat) : Int) - 1)) : Nat) : Int), (Int.toNat (((v3_1 : Nat) : Int) - 1)) < a0.length, blk a0_o = blk a0_o, offs a0_o + (Int.toNat (((v3_1 : Nat) : Int) - 1)) * 1 = offs a0_o + ((Int.toNat (((v3_1 : Nat) : Int) - 1)) * 1 + 0), (List.map rS a0)[(Int.toNat (((v3_1 : Nat) : Int) - 1))]? = some [.string (a0.getD (Int.toNat (((v3_1 : Nat) : Int) - 1)) (ByteArray.mk #[]))]]) (by kernel_rfl) (by kernel_rfl) (fun _ => by kernel_rfl) (fun _ => ⟨rfl, mlen rS a0, rfl, (drop_lt hd28), rfl, rfl, map_drop rS hd28, I64.w g34, rfl, mlen rS a0, g35.eq, g35.2, rfl, rfl, map_at rS (ByteArray.mk #[]) g35.2, trivial⟩)) ?_
      intro _
      refine GS.cond (t := x30.toList == (a0.getD (Int.toNat (((v3_1 : Nat) : Int) - 1)) (ByteArray.mk #[])).toList) rfl rfl (fun h36 => ?_) (fun h36 => ?_)
      · replace hm := br_t h36 hm
        cases hm
      · replace hm := br_f h36 hm
        refine GS.skip ?_
        refine GS.inBlock ?_
        refine GS.region (env' := fun _ => [(0, .slice a0_o a0.length a0_c), (3, .int .i64 ((v3_1 + 1 : Nat) : Int))]) (mem' := fun _ => [(1, o9 a0_o a0_c a0)]) (RunsTo.mk [(1, { sp := some (.int .i64 ((v3_1 + 1 : Nat) : Int)) })] [0, 3] [1] (fun _ => [((.int .i64 (IntKind.i64.wrap (((v3_1 : Nat) : Int) + 1))) : Value) = .int .i64 ((v3_1 + 1 : Nat) : Int)]) (fun _ => by kernel_rfl) (fun _ => ⟨natw (drop_lt hd28) g29, trivial⟩)) ?_
        intro _
        refine GS.inLoop ?_
        refine GS.rekey (env' := [(0, .slice a0_o a0.length a0_c), (3, .int .i64 ((v3_1 + 1 : Nat) : Int))]) (mem' := [(1, o9 a0_o a0_c a0)]) [0, 3] [(1, 1)] (by kernel_rfl) (by kernel_rfl) rfl ?_
        exact ih45 ⟨rs44, v3_1 + 1⟩ ⟨drop_next hd28, hm⟩ (Nat.lt_succ_self _)

theorem w_missing_Touched (F : Nat) (a0_Les : Int) (a0_Tail : S_api_Version) (a0_Log_o : Option Addr) (a0_Log_c : Nat) (a0_Log : List S_api_Entry) (a0_Lasts_o : Option Addr) (a0_Lasts_c : Nat) (a0_Lasts : List S_api_Last) (a0_Items_o : Option Addr) (a0_Items_c : Nat) (a0_Items : List S_api_Item) (a1_Les : Int) (a1_Tail : S_api_Version) (a1_Log_o : Option Addr) (a1_Log_c : Nat) (a1_Log : List S_api_Entry) (a1_Lasts_o : Option Addr) (a1_Lasts_c : Nat) (a1_Lasts : List S_api_Last) (a1_Items_o : Option Addr) (a1_Items_c : Nat) (a1_Items : List S_api_Item) {y : List ByteArray} (hm : m_missing_Touched F a0_Les a0_Tail a0_Log a0_Lasts a0_Items a1_Les a1_Tail a1_Log a1_Lasts a1_Items = some y) : CallG Try.prog 21 #[.agg #[.int .i64 a0_Les, .int .i64 a0_Tail.Epoch, .int .i64 a0_Tail.N, .slice a0_Log_o a0_Log.length a0_Log_c, .slice a0_Lasts_o a0_Lasts.length a0_Lasts_c, .slice a0_Items_o a0_Items.length a0_Items_c], .agg #[.int .i64 a1_Les, .int .i64 a1_Tail.Epoch, .int .i64 a1_Tail.N, .slice a1_Log_o a1_Log.length a1_Log_c, .slice a1_Lasts_o a1_Lasts.length a1_Lasts_c, .slice a1_Items_o a1_Items.length a1_Items_c]] (X := Option Addr × Nat) (fun ⟨x0, x1⟩ => .slice x0 y.length x1) [] [r53 a0_Log_o a0_Log, r83 a0_Lasts_o a0_Lasts, r45 a0_Items_o a0_Items, r53 a1_Log_o a1_Log, r83 a1_Lasts_o a1_Lasts, r45 a1_Items_o a1_Items] (fun ⟨x0, x1⟩ => [o9 x0 x1 y]) := by
  intro w hg
  rw [m_missing_Touched] at hm
  refine GS.start (S := mayT [] [r53 a0_Log_o a0_Log, r83 a0_Lasts_o a0_Lasts, r45 a0_Items_o a0_Items, r53 a1_Log_o a1_Log, r83 a1_Lasts_o a1_Lasts, r45 a1_Items_o a1_Items]) (mem := [(1, r53 a0_Log_o a0_Log), (2, r83 a0_Lasts_o a0_Lasts), (3, r45 a0_Items_o a0_Items), (4, r53 a1_Log_o a1_Log), (5, r83 a1_Lasts_o a1_Lasts), (6, r45 a1_Items_o a1_Items)]) Try.func21 rfl Try.ntmps21 (Nat.le_of_ble_eq_true rfl) (hg.start rfl) ?_
  refine GS.conv (env' := [(0, .agg #[.int .i64 a0_Les, .int .i64 a0_Tail.Epoch, .int .i64 a0_Tail.N, .slice a0_Log_o a0_Log.length a0_Log_c, .slice a0_Lasts_o a0_Lasts.length a0_Lasts_c, .slice a0_Items_o a0_Items.length a0_Items_c]), (1, .agg #[.int .i64 a1_Les, .int .i64 a1_Tail.Epoch, .int .i64 a1_Tail.N, .slice a1_Log_o a1_Log.length a1_Log_c, .slice a1_Lasts_o a1_Lasts.length a1_Lasts_c, .slice a1_Items_o a1_Items.length a1_Items_c])]) rfl rfl ?_
  refine GS.seq ?_
  refine GS.region (env' := fun fr1 => [(2, .pointer (some ⟨(fr1 0).x, 0, none⟩)), (3, .pointer (some ⟨(fr1 1).x, 0, none⟩))]) (mem' := fun fr1 => [(1, r53 a0_Log_o a0_Log), (2, r83 a0_Lasts_o a0_Lasts), (3, r45 a0_Items_o a0_Items), (4, r53 a1_Log_o a1_Log), (5, r83 a1_Lasts_o a1_Lasts), (6, r45 a1_Items_o a1_Items), (7, .cells ((fr1 0).x) 28 [.int .i64 a0_Les, .int .i64 a0_Tail.Epoch, .int .i64 a0_Tail.N, .slice a0_Log_o a0_Log.length a0_Log_c, .slice a0_Lasts_o a0_Lasts.length a0_Lasts_c, .slice a0_Items_o a0_Items.length a0_Items_c]), (8, .cells ((fr1 1).x) 28 [.int .i64 a1_Les, .int .i64 a1_Tail.Epoch, .int .i64 a1_Tail.N, .slice a1_Log_o a1_Log.length a1_Log_c, .slice a1_Lasts_o a1_Lasts.length a1_Lasts_c, .slice a1_Items_o a1_Items.length a1_Items_c])]) (RunsTo.mk [(0, { act := .new .var, key := some 7 }), (1, { act := .new .var, key := some 8 })] [2, 3] [1, 2, 3, 4, 5, 6, 7, 8] (fun fr1 => []) (fun fr1 => by kernel_rfl) (fun fr1 => trivial)) ?_
  intro fr1
  refine GS.seq ?_
  refine GS.region (env' := fun _ => [(2, .pointer (some ⟨(fr1 0).x, 0, none⟩)), (3, .pointer (some ⟨(fr1 1).x, 0, none⟩)), (5, .slice none 0 0)]) (mem' := fun _ => [(1, r53 a0_Log_o a0_Log), (2, r83 a0_Lasts_o a0_Lasts), (3, r45 a0_Items_o a0_Items), (4, r53 a1_Log_o a1_Log), (5, r83 a1_Lasts_o a1_Lasts), (6, r45 a1_Items_o a1_Items), (7, .cells ((fr1 0).x) 28 [.int .i64 a0_Les, .int .i64 a0_Tail.Epoch, .int .i64 a0_Tail.N, .slice a0_Log_o a0_Log.length a0_Log_c, .slice a0_Lasts_o a0_Lasts.length a0_Lasts_c, .slice a0_Items_o a0_Items.length a0_Items_c]), (8, .cells ((fr1 1).x) 28 [.int .i64 a1_Les, .int .i64 a1_Tail.Epoch, .int .i64 a1_Tail.N, .slice a1_Log_o a1_Log.length a1_Log_c, .slice a1_Lasts_o a1_Lasts.length a1_Lasts_c, .slice a1_Items_o a1_Items.length a1_Items_c])]) (RunsTo.mk [] [2, 3, 5] [1, 2, 3, 4, 5, 6, 7, 8] (fun _ => []) (fun _ => by kernel_rfl) (fun _ => trivial)) ?_
  intro _
  refine GS.seq ?_
  refine GS.seq ?_
  refine bnd_elim hm (fun y4 e5 hm => ?_)
  refine bnd_elim hm (fun y8 e9 hm => ?_)
  refine grd_elim hm (fun g12 hm => ?_)
  refine GS.region (env' := fun fr3 => [(5, .slice none 0 0), (14, .slice ((fr3 6).ob) ((y4 ++ y8).length) ((fr3 6).cap)), (15, .int .i64 (((y4 ++ y8).length : Nat) : Int)), (16, .int .i64 0)]) (mem' := fun fr3 => [(9, .osl ((fr3 6).ob) ((fr3 6).cap) 53 7 ((List.map S_api_Entry.row y4) ++ (List.map S_api_Entry.row y8)))]) (RunsTo.mkd [(0, { act := .load 7 0 0 [] }), (1, { act := .load 8 0 0 [] }), (2, { act := .calln [1, 2, 3, 4, 5, 6] (fun f => .slice f.ob y4.length f.cap) (fun f => o53 f.ob f.cap y4), key := some 9 }), (3, { act := .load 7 0 0 [] }), (4, { act := .load 8 0 0 [] }), (5, { act := .calln [1, 2, 3, 4, 5, 6] (fun f => .slice f.ob y8.length f.cap) (fun f => o53 f.ob f.cap y8), key := some 10 }), (6, { act := .app (some 10), key := some 9, spf := some (fun f => .slice (f.ob) ((y4 ++ y8).length) (f.cap)) })] [5, 14, 15, 16] [9] (fun fr3 => [(fr1 0).x = (fr1 0).x, (fr1 1).x = (fr1 1).x, CallN Try.prog 12 #[.agg #[.int .i64 a0_Les, .int .i64 a0_Tail.Epoch, .int .i64 a0_Tail.N, .slice a0_Log_o a0_Log.length a0_Log_c, .slice a0_Lasts_o a0_Lasts.length a0_Lasts_c, .slice a0_Items_o a0_Items.length a0_Items_c], .agg #[.int .i64 a1_Les, .int .i64 a1_Tail.Epoch, .int .i64 a1_Tail.N, .slice a1_Log_o a1_Log.length a1_Log_c, .slice a1_Lasts_o a1_Lasts.length a1_Lasts_c, .slice a1_Items_o a1_Items.length a1_Items_c]] (fun f => .slice f.ob y4.length f.cap) (fun f => o53 f.ob f.cap y4) [some (r53 a0_Log_o a0_Log), some (r83 a0_Lasts_o a0_Lasts), some (r45 a0_Items_o a0_Items), some (r53 a1_Log_o a1_Log), some (r83 a1_Lasts_o a1_Lasts), some (r45 a1_Items_o a1_Items)], (fr1 0).x = (fr1 0).x, (fr1 1).x = (fr1 1).x, CallN Try.prog 14 #[.agg #[.int .i64 a0_Les, .int .i64 a0_Tail.Epoch, .int .i64 a0_Tail.N, .slice a0_Log_o a0_Log.length a0_Log_c, .slice a0_Lasts_o a0_Lasts.length a0_Lasts_c, .slice a0_Items_o a0_Items.length a0_Items_c], .agg #[.int .i64 a1_Les, .int .i64 a1_Tail.Epoch, .int .i64 a1_Tail.N, .slice a1_Log_o a1_Log.length a1_Log_c, .slice a1_Lasts_o a1_Lasts.length a1_Lasts_c, .slice a1_Items_o a1_Items.length a1_Items_c]] (fun f => .slice f.ob y8.length f.cap) (fun f => o53 f.ob f.cap y8) [some (r53 a0_Log_o a0_Log), some (r83 a0_Lasts_o a0_Lasts), some (r45 a0_Items_o a0_Items), some (r53 a1_Log_o a1_Log), some (r83 a1_Lasts_o a1_Lasts), some (r45 a1_Items_o a1_Items)], ((fr3 5).ob) = ((fr3 5).ob), y8.length = (List.map S_api_Entry.row y8).length, ((fr3 2).ob) = ((fr3 2).ob), (fr3 2).cap = ((fr3 2).cap), y4.length = (List.map S_api_Entry.row y4).length, ((List.map S_api_Entry.row y4).length + (List.map S_api_Entry.row y8).length) * (64 + 1) ≤ 70368744177664, (List.map S_api_Entry.row y8).flatten.all Value.oneCell' = true, ((.slice ((fr3 6).ob) (y4.length + (List.map S_api_Entry.row y8).length) ((fr3 6).cap)) : Value) = .slice ((fr3 6).ob) ((y4 ++ y8).length) ((fr3 6).cap)]) (by kernel_rfl) (by kernel_rfl) (fun fr3 => by kernel_rfl) (fun fr3 => ⟨rfl, rfl, CallG.toN (w_missing_Divergent F a0_Les a0_Tail a0_Log_o a0_Log_c a0_Log a0_Lasts_o a0_Lasts_c a0_Lasts a0_Items_o a0_Items_c a0_Items a1_Les a1_Tail a1_Log_o a1_Log_c a1_Log a1_Lasts_o a1_Lasts_c a1_Lasts a1_Items_o a1_Items_c a1_Items e5) ⟨(.inl ⟨r53 a0_Log_o a0_Log, .head _, Cov.refl _⟩), (.inl ⟨r83 a0_Lasts_o a0_Lasts, (.tail _ (.head _)), Cov.refl _⟩), (.inl ⟨r45 a0_Items_o a0_Items, (.tail _ (.tail _ (.head _))), Cov.refl _⟩), (.inl ⟨r53 a1_Log_o a1_Log, (.tail _ (.tail _ (.tail _ (.head _)))), Cov.refl _⟩), (.inl ⟨r83 a1_Lasts_o a1_Lasts, (.tail _ (.tail _ (.tail _ (.tail _ (.head _))))), Cov.refl _⟩), (.inl ⟨r45 a1_Items_o a1_Items, (.tail _ (.tail _ (.tail _ (.tail _ (.tail _ (.head _)))))), Cov.refl _⟩), trivial⟩, rfl, rfl, CallG.toN (w_missing_Lacking F a0_Les a0_Tail a0_Log_o a0_Log_c a0_Log a0_Lasts_o a0_Lasts_c a0_Lasts a0_Items_o a0_Items_c a0_Items a1_Les a1_Tail a1_Log_o a1_Log_c a1_Log a1_Lasts_o a1_Lasts_c a1_Lasts a1_Items_o a1_Items_c a1_Items e9) ⟨(.inl ⟨r53 a0_Log_o a0_Log, .head _, Cov.refl _⟩), (.inl ⟨r83 a0_Lasts_o a0_Lasts, (.tail _ (.head _)), Cov.refl _⟩), (.inl ⟨r45 a0_Items_o a0_Items, (.tail _ (.tail _ (.head _))), Cov.refl _⟩), (.inl ⟨r53 a1_Log_o a1_Log, (.tail _ (.tail _ (.tail _ (.head _)))), Cov.refl _⟩), (.inl ⟨r83 a1_Lasts_o a1_Lasts, (.tail _ (.tail _ (.tail _ (.tail _ (.head _))))), Cov.refl _⟩), (.inl ⟨r45 a1_Items_o a1_Items, (.tail _ (.tail _ (.tail _ (.tail _ (.tail _ (.head _)))))), Cov.refl _⟩), trivial⟩, rfl, mlen S_api_Entry.row y8, rfl, rfl, mlen S_api_Entry.row y4, appb g12 (mlen S_api_Entry.row y4).symm (mlen S_api_Entry.row y8).symm, (by rw [show List.map S_api_Entry.row y8 = List.map S_api_Entry.row y8 from rfl]; exact all_one S_api_Entry.row _ (fun _ => rfl)), slen (by simp), trivial⟩)) ?_
  intro fr3
  refine GS.conv (mem' := [(9, o53 ((fr3 6).ob) ((fr3 6).cap) (y4 ++ y8))]) rfl (congrArg (fun rr : List (List Value) => ([(9, .osl ((fr3 6).ob) ((fr3 6).cap) 53 7 rr)] : List (Nat × Ent))) (show (List.map S_api_Entry.row y4) ++ (List.map S_api_Entry.row y8) = List.map S_api_Entry.row (y4 ++ y8) from (by rw [show List.map S_api_Entry.row y4 = List.map S_api_Entry.row y4 from rfl, show List.map S_api_Entry.row y8 = List.map S_api_Entry.row y8 from rfl]; exact mapp S_api_Entry.row _ _))) ?_
  refine GS.block ?_
  refine GS.loop ?_
  refine GS.know (p := (y4 ++ y8).length ≤ (fr3 6).cap) (fun w hw => by simpa using (hw.ok 9 _ rfl).1.1) (fun k13 => ?_)
  refine grd_elim hm (fun g48 hm => ?_)
  refine GS.setMem (mem' := [(9, o53 ((fr3 6).ob) ((fr3 6).cap) (y4 ++ y8)), (20001, o9 none 0 ([] : List ByteArray))]) (fun w hw => Sat.addNil hw rfl) ?_
  refine GS.rekey (env' := [(5, .slice none 0 0), (14, .slice ((fr3 6).ob) ((y4 ++ y8).length) ((fr3 6).cap)), (15, .int .i64 (((y4 ++ y8).length : Nat) : Int)), (16, .int .i64 0)]) (mem' := [(9, o53 ((fr3 6).ob) ((fr3 6).cap) (y4 ++ y8)), (20000, o9 none 0 ([] : List ByteArray))]) [5, 14, 15, 16] [(9, 9), (20000, 20001)] (by kernel_rfl) (by kernel_rfl) rfl ?_
  refine loopL_elim hm (fun st71 fn72 hst73 hfn74 hm => ?_)
  refine GS.loopInv (ι := List S_api_Entry × Nat × List ByteArray × Option Addr × Nat) (I := fun ⟨rs69, v16_1, l20000_1, o20000_1, k20000_1⟩ => (y4 ++ y8).drop v16_1 = rs69 ∧ loopL st71 fn72 rs69 v16_1 l20000_1 = some y) (μ := fun ⟨rs69, v16_1, l20000_1, o20000_1, k20000_1⟩ => rs69.length) (E := fun ⟨rs69, v16_1, l20000_1, o20000_1, k20000_1⟩ => [(5, .slice o20000_1 l20000_1.length k20000_1), (14, .slice ((fr3 6).ob) ((y4 ++ y8).length) ((fr3 6).cap)), (15, .int .i64 (((y4 ++ y8).length : Nat) : Int)), (16, .int .i64 ((v16_1 : Nat) : Int))]) (M := fun ⟨rs69, v16_1, l20000_1, o20000_1, k20000_1⟩ => [(9, o53 ((fr3 6).ob) ((fr3 6).cap) (y4 ++ y8)), (20000, o9 o20000_1 k20000_1 l20000_1)]) ?_ ⟨(y4 ++ y8), 0, ([] : List ByteArray), none, 0⟩ ⟨List.drop_zero .., hm⟩
  rintro ⟨rs69, v16_1, l20000_1, o20000_1, k20000_1⟩ ⟨hd47, hm⟩ ih70
  cases rs69 with
  | nil =>
    replace hm := (hfn74 _ _).symm.trans hm
    try dsimp only at hm
    refine GS.seq ?_
    refine GS.region (env' := fun _ => [(5, .slice o20000_1 l20000_1.length k20000_1), (14, .slice ((fr3 6).ob) ((y4 ++ y8).length) ((fr3 6).cap)), (15, .int .i64 (((y4 ++ y8).length : Nat) : Int)), (16, .int .i64 ((v16_1 : Nat) : Int)), (17, .bool (decide (((v16_1 : Nat) : Int) < (((y4 ++ y8).length : Nat) : Int))))]) (mem' := fun _ => [(9, o53 ((fr3 6).ob) ((fr3 6).cap) (y4 ++ y8)), (20000, o9 o20000_1 k20000_1 l20000_1)]) (RunsTo.mk [] [5, 14, 15, 16, 17] [9, 20000] (fun _ => []) (fun _ => by kernel_rfl) (fun _ => trivial)) ?_
    intro _
    refine GS.seq ?_
    refine GS.cond (t := decide (((v16_1 : Nat) : Int) < (((y4 ++ y8).length : Nat) : Int))) rfl rfl (fun h67 => absb h67 (drop_dec0 hd47)) (fun _ => ?_)
    refine GS.exit rfl ?_
    refine GS.seq ?_
    refine bnd_elim hm (fun y76 e77 hm => ?_)
    refine grd_elim hm (fun g78 hm => ?_)
    refine GS.open_ ?_
    refine GR.run (i := 0) 1 (env' := fun _ => [(5, .slice o20000_1 l20000_1.length k20000_1), (29, .slice o20000_1 l20000_1.length k20000_1)]) (mem' := fun _ => [(20000, o9 o20000_1 k20000_1 l20000_1)]) (Nat.le_of_ble_eq_true (by kernel_rfl)) (RunsTo.mk [] [5, 29] [20000] (fun _ => []) (fun _ => by kernel_rfl) (fun _ => trivial)) ?_
    intro _
    refine GR.callG (X := Unit) (i := 1) (g := 37) (args := #[.slice o20000_1 l20000_1.length k20000_1]) (v := fun (_ : Unit) => .tuple #[]) (own := [o9 o20000_1 k20000_1 l20000_1]) (ro := []) (es' := fun (_ : Unit) => [o9 o20000_1 k20000_1 y76]) (mem' := fun (_ : Unit) => [(20000, o9 o20000_1 k20000_1 y76)]) (env' := fun (_ : Unit) => [(5, .slice o20000_1 l20000_1.length k20000_1)]) [20000] [20000] [5] [20000] false (by kernel_rfl) (by kernel_rfl) (by kernel_rfl) (by kernel_rfl) (by kernel_rfl) (fun _ => rfl) (fun _ _ => rfl) trivial (by rintro _; kernel_rfl) (by rintro _; kernel_rfl) (w_slices_Sort___string_string_ F o20000_1 k20000_1 l20000_1 e77) ?_
    rintro _
    refine GR.done (Nat.le_of_ble_eq_true (by kernel_rfl)) ?_
    refine GS.seq ?_
    refine GS.conv (env' := [(5, .slice o20000_1 y76.length k20000_1)]) (congrArg (fun vhole : Value => [(5, vhole)]) (show ((.slice o20000_1 l20000_1.length k20000_1) : Value) = .slice o20000_1 y76.length k20000_1 from (by simp [g78]))) rfl ?_
    refine bnd_elim hm (fun y81 e82 hm => ?_)
    refine GS.know (p := y76.length ≤ k20000_1) (fun w hw => by simpa using (hw.ok 20000 _ rfl).1.1) (fun k83 => ?_)
    refine GS.open_ ?_
    refine GR.run (i := 0) 1 (env' := fun _ => [(31, .slice o20000_1 y76.length k20000_1)]) (mem' := fun _ => [(20000, o9 o20000_1 k20000_1 y76)]) (Nat.le_of_ble_eq_true (by kernel_rfl)) (RunsTo.mk [] [31] [20000] (fun _ => []) (fun _ => by kernel_rfl) (fun _ => trivial)) ?_
    intro _
    refine GR.callG (X := Option Addr × Nat) (i := 1) (g := 38) (args := #[.slice o20000_1 y76.length k20000_1]) (v := fun ⟨x84, x85⟩ => .slice x84 y81.length x85) (own := [o9 o20000_1 k20000_1 y76]) (ro := []) (es' := fun ⟨x84, x85⟩ => [o9 x84 x85 y81]) (mem' := fun ⟨x84, x85⟩ => [(20001, o9 x84 x85 y81)]) (env' := fun ⟨x84, x85⟩ => [(32, .slice x84 y81.length x85)]) [20000] [20001] [32] [20001] false (by kernel_rfl) (by kernel_rfl) (by kernel_rfl) (by kernel_rfl) (by kernel_rfl) (fun _ => rfl) (fun _ _ => rfl) trivial (by rintro ⟨x84, x85⟩; kernel_rfl) (by rintro ⟨x84, x85⟩; kernel_rfl) (w_slices_Compact___string_string_ F o20000_1 k20000_1 y76 k83 e82) ?_
    rintro ⟨x84, x85⟩
    refine GR.run (i := 2) 1 (env' := fun _ => [(4, .slice x84 y81.length x85)]) (mem' := fun _ => [(20001, o9 x84 x85 y81)]) (Nat.le_of_ble_eq_true (by kernel_rfl)) (RunsTo.mk [] [4] [20001] (fun _ => []) (fun _ => by kernel_rfl) (fun _ => trivial)) ?_
    intro _
    refine GR.done (Nat.le_of_ble_eq_true (by kernel_rfl)) ?_
    have hy := Option.some.inj hm
    subst hy
    refine GS.ret (fn := Try.f21) [0] [.slice x84 y81.length x85] [] rfl Try.func21 (by kernel_rfl) trivial (fun w' hs => ?_)
    exact ⟨⟨x84, x85⟩, rfl, hs.turnedG (ks := [20001]) rfl rfl⟩
  | cons x49 rs69 =>
    replace hm := (hst73 _ _ _ _).symm.trans hm
    try dsimp only at hm
    refine GS.seq ?_
    refine GS.region (env' := fun _ => [(5, .slice o20000_1 l20000_1.length k20000_1), (14, .slice ((fr3 6).ob) ((y4 ++ y8).length) ((fr3 6).cap)), (15, .int .i64 (((y4 ++ y8).length : Nat) : Int)), (16, .int .i64 ((v16_1 : Nat) : Int)), (17, .bool (decide (((v16_1 : Nat) : Int) < (((y4 ++ y8).length : Nat) : Int))))]) (mem' := fun _ => [(9, o53 ((fr3 6).ob) ((fr3 6).cap) (y4 ++ y8)), (20000, o9 o20000_1 k20000_1 l20000_1)]) (RunsTo.mk [] [5, 14, 15, 16, 17] [9, 20000] (fun _ => []) (fun _ => by kernel_rfl) (fun _ => trivial)) ?_
    intro _
    refine GS.seq ?_
    refine GS.cond (t := decide (((v16_1 : Nat) : Int) < (((y4 ++ y8).length : Nat) : Int))) rfl rfl (fun _ => ?_) (fun h51 => absb (drop_dec hd47) h51)
    refine GS.skip ?_
    refine GS.seq ?_
    refine GS.block ?_
    refine GS.seq ?_
    refine GS.region (env' := fun fr52 => [(5, .slice o20000_1 l20000_1.length k20000_1), (7, .pointer (some ⟨(fr52 2).x, 0, none⟩)), (14, .slice ((fr3 6).ob) ((y4 ++ y8).length) ((fr3 6).cap)), (15, .int .i64 (((y4 ++ y8).length : Nat) : Int)), (16, .int .i64 ((v16_1 : Nat) : Int))]) (mem' := fun fr52 => [(9, o53 ((fr3 6).ob) ((fr3 6).cap) (y4 ++ y8)), (20000, o9 o20000_1 k20000_1 l20000_1), (20001, .cells ((fr52 2).x) 53 [.int .i64 x49.Version.Epoch, .int .i64 x49.Version.N, .bool x49.Remove, .int .i64 x49.Errno, .string x49.Name, .int .i64 x49.Client, .int .i64 x49.Number])]) (RunsTo.mk [(0, { act := .idx 9 v16_1 }), (1, { act := .load 9 v16_1 0 [.int .i64 x49.Version.Epoch, .int .i64 x49.Version.N, .bool x49.Remove, .int .i64 x49.Errno, .string x49.Name, .int .i64 x49.Client, .int .i64 x49.Number] }), (2, { act := .new .var, key := some 20001 }), (3, { act := .store 0 0 [], key := some 20001 })] [5, 7, 14, 15, 16] [9, 20000, 20001] (fun fr52 => [(fr3 6).ob = (fr3 6).ob, (y4 ++ y8).length = (List.map S_api_Entry.row (y4 ++ y8)).length, (((v16_1 : Nat) : Int) : Int) = ((v16_1 : Nat) : Int), v16_1 < (y4 ++ y8).length, blk ((fr3 6).ob) = blk ((fr3 6).ob), offs ((fr3 6).ob) + v16_1 * 7 = offs ((fr3 6).ob) + (v16_1 * 7 + 0), (List.map S_api_Entry.row (y4 ++ y8))[v16_1]? = some [.int .i64 x49.Version.Epoch, .int .i64 x49.Version.N, .bool x49.Remove, .int .i64 x49.Errno, .string x49.Name, .int .i64 x49.Client, .int .i64 x49.Number], (fr52 2).x = (fr52 2).x, ((.agg #[.int .i64 x49.Version.Epoch, .int .i64 x49.Version.N, .bool x49.Remove, .int .i64 x49.Errno, .string x49.Name, .int .i64 x49.Client, .int .i64 x49.Number]) : Value).cells.toList.all Value.oneCell' = true]) (fun fr52 => by kernel_rfl) (fun fr52 => ⟨rfl, mlen S_api_Entry.row (y4 ++ y8), rfl, (drop_lt hd47), rfl, rfl, map_drop S_api_Entry.row hd47, rfl, rfl, trivial⟩)) ?_
    intro fr52
    refine GS.seq ?_
    refine GS.region (env' := fun _ => [(5, .slice o20000_1 l20000_1.length k20000_1), (7, .pointer (some ⟨(fr52 2).x, 0, none⟩)), (14, .slice ((fr3 6).ob) ((y4 ++ y8).length) ((fr3 6).cap)), (15, .int .i64 (((y4 ++ y8).length : Nat) : Int)), (16, .int .i64 ((v16_1 : Nat) : Int)), (22, .bool (x49.Errno == 0))]) (mem' := fun _ => [(9, o53 ((fr3 6).ob) ((fr3 6).cap) (y4 ++ y8)), (20000, o9 o20000_1 k20000_1 l20000_1), (20001, .cells ((fr52 2).x) 53 [.int .i64 x49.Version.Epoch, .int .i64 x49.Version.N, .bool x49.Remove, .int .i64 x49.Errno, .string x49.Name, .int .i64 x49.Client, .int .i64 x49.Number])]) (RunsTo.mk [(1, { act := .load 20001 0 0 [] })] [5, 7, 14, 15, 16, 22] [9, 20000, 20001] (fun _ => [(fr52 2).x = (fr52 2).x]) (fun _ => by kernel_rfl) (fun _ => ⟨rfl, trivial⟩)) ?_
    intro _
    refine GS.cond (t := x49.Errno == 0) rfl rfl (fun h54 => ?_) (fun h54 => ?_)
    · replace hm := br_t h54 hm
      refine grd_elim hm (fun g56 hm => ?_)
      refine GS.region (env' := fun fr55 => [(5, .slice ((fr55 4).ob) ((l20000_1 ++ [x49.Name]).length) ((fr55 4).cap)), (14, .slice ((fr3 6).ob) ((y4 ++ y8).length) ((fr3 6).cap)), (15, .int .i64 (((y4 ++ y8).length : Nat) : Int)), (16, .int .i64 ((v16_1 : Nat) : Int))]) (mem' := fun fr55 => [(9, o53 ((fr3 6).ob) ((fr3 6).cap) (y4 ++ y8)), (20000, .osl ((fr55 4).ob) ((fr55 4).cap) 9 1 ((List.map rS l20000_1) ++ ([[.string x49.Name]] : List (List Value))))]) (RunsTo.mk [(2, { act := .load 20001 0 0 [] }), (3, { act := .new (.row 1 1), key := some 20002, spf := some (fun f => .slice (some (Addr.mk f.x 0 none)) ([x49.Name].length) 1) }), (4, { act := .app (some 20002), key := some 20000, spf := some (fun f => .slice (f.ob) ((l20000_1 ++ [x49.Name]).length) (f.cap)) })] [5, 14, 15, 16] [9, 20000] (fun fr55 => [(fr52 2).x = (fr52 2).x, ((.slice (some (Addr.mk (fr55 3).x 0 none)) 1 1) : Value) = .slice (some (Addr.mk (fr55 3).x 0 none)) ([x49.Name].length) 1, (some (Addr.mk (fr55 3).x 0 none)) = (some (Addr.mk (fr55 3).x 0 none)), [x49.Name].length = ([[.string x49.Name]] : List (List Value)).length, o20000_1 = o20000_1, k20000_1 = k20000_1, l20000_1.length = (List.map rS l20000_1).length, ((List.map rS l20000_1).length + ([[.string x49.Name]] : List (List Value)).length) * (16 + 1) ≤ 70368744177664, ([[.string x49.Name]] : List (List Value)).flatten.all Value.oneCell' = true, ((.slice ((fr55 4).ob) (l20000_1.length + ([[.string x49.Name]] : List (List Value)).length) ((fr55 4).cap)) : Value) = .slice ((fr55 4).ob) ((l20000_1 ++ [x49.Name]).length) ((fr55 4).cap)]) (fun fr55 => by kernel_rfl) (fun fr55 => ⟨rfl, rfl, rfl, (by rw [show ([[.string x49.Name]] : List (List Value)) = List.map rS [x49.Name] from rfl]; exact mlen rS [x49.Name]), rfl, rfl, mlen rS l20000_1, appb g56 (mlen rS l20000_1).symm (by rw [show ([[.string x49.Name]] : List (List Value)) = List.map rS [x49.Name] from rfl]; exact (mlen rS [x49.Name]).symm), (by rw [show ([[.string x49.Name]] : List (List Value)) = List.map rS [x49.Name] from (show ([[.string x49.Name]] : List (List Value)) = List.map rS [x49.Name] from rfl)]; exact all_one rS _ (fun _ => rfl)), slen (by simp), trivial⟩)) ?_
      intro fr55
      refine GS.conv (mem' := [(9, o53 ((fr3 6).ob) ((fr3 6).cap) (y4 ++ y8)), (20000, o9 ((fr55 4).ob) ((fr55 4).cap) (l20000_1 ++ [x49.Name]))]) rfl (congrArg (fun rr : List (List Value) => ([(9, o53 ((fr3 6).ob) ((fr3 6).cap) (y4 ++ y8)), (20000, .osl ((fr55 4).ob) ((fr55 4).cap) 9 1 rr)] : List (Nat × Ent))) (show (List.map rS l20000_1) ++ ([[.string x49.Name]] : List (List Value)) = List.map rS (l20000_1 ++ [x49.Name]) from (by rw [show List.map rS l20000_1 = List.map rS l20000_1 from rfl, show ([[.string x49.Name]] : List (List Value)) = List.map rS [x49.Name] from (show ([[.string x49.Name]] : List (List Value)) = List.map rS [x49.Name] from rfl)]; exact mapp rS _ _))) ?_
      refine GS.inBlock ?_
      refine GS.region (env' := fun _ => [(5, .slice ((fr55 4).ob) ((l20000_1 ++ [x49.Name]).length) ((fr55 4).cap)), (14, .slice ((fr3 6).ob) ((y4 ++ y8).length) ((fr3 6).cap)), (15, .int .i64 (((y4 ++ y8).length : Nat) : Int)), (16, .int .i64 ((v16_1 + 1 : Nat) : Int))]) (mem' := fun _ => [(9, o53 ((fr3 6).ob) ((fr3 6).cap) (y4 ++ y8)), (20000, o9 ((fr55 4).ob) ((fr55 4).cap) (l20000_1 ++ [x49.Name]))]) (RunsTo.mk [(0, { sp := some (.int .i64 ((v16_1 + 1 : Nat) : Int)) })] [5, 14, 15, 16] [9, 20000] (fun _ => [((.int .i64 (IntKind.i64.wrap (((v16_1 : Nat) : Int) + 1))) : Value) = .int .i64 ((v16_1 + 1 : Nat) : Int)]) (fun _ => by kernel_rfl) (fun _ => ⟨natw (drop_lt hd47) g48, trivial⟩)) ?_
      intro _
      refine GS.inLoop ?_
      refine GS.rekey (env' := [(5, .slice ((fr55 4).ob) ((l20000_1 ++ [x49.Name]).length) ((fr55 4).cap)), (14, .slice ((fr3 6).ob) ((y4 ++ y8).length) ((fr3 6).cap)), (15, .int .i64 (((y4 ++ y8).length : Nat) : Int)), (16, .int .i64 ((v16_1 + 1 : Nat) : Int))]) (mem' := [(9, o53 ((fr3 6).ob) ((fr3 6).cap) (y4 ++ y8)), (20000, o9 ((fr55 4).ob) ((fr55 4).cap) (l20000_1 ++ [x49.Name]))]) [5, 14, 15, 16] [(9, 9), (20000, 20000)] (by kernel_rfl) (by kernel_rfl) rfl ?_
      exact ih70 ⟨rs69, v16_1 + 1, (l20000_1 ++ [x49.Name]), (fr55 4).ob, (fr55 4).cap⟩ ⟨drop_next hd47, hm⟩ (Nat.lt_succ_self _)
    · replace hm := br_f h54 hm
      refine GS.skip ?_
      refine GS.inBlock ?_
      refine GS.region (env' := fun _ => [(5, .slice o20000_1 l20000_1.length k20000_1), (14, .slice ((fr3 6).ob) ((y4 ++ y8).length) ((fr3 6).cap)), (15, .int .i64 (((y4 ++ y8).length : Nat) : Int)), (16, .int .i64 ((v16_1 + 1 : Nat) : Int))]) (mem' := fun _ => [(9, o53 ((fr3 6).ob) ((fr3 6).cap) (y4 ++ y8)), (20000, o9 o20000_1 k20000_1 l20000_1)]) (RunsTo.mk [(0, { sp := some (.int .i64 ((v16_1 + 1 : Nat) : Int)) })] [5, 14, 15, 16] [9, 20000] (fun _ => [((.int .i64 (IntKind.i64.wrap (((v16_1 : Nat) : Int) + 1))) : Value) = .int .i64 ((v16_1 + 1 : Nat) : Int)]) (fun _ => by kernel_rfl) (fun _ => ⟨natw (drop_lt hd47) g48, trivial⟩)) ?_
      intro _
      refine GS.inLoop ?_
      refine GS.rekey (env' := [(5, .slice o20000_1 l20000_1.length k20000_1), (14, .slice ((fr3 6).ob) ((y4 ++ y8).length) ((fr3 6).cap)), (15, .int .i64 (((y4 ++ y8).length : Nat) : Int)), (16, .int .i64 ((v16_1 + 1 : Nat) : Int))]) (mem' := [(9, o53 ((fr3 6).ob) ((fr3 6).cap) (y4 ++ y8)), (20000, o9 o20000_1 k20000_1 l20000_1)]) [5, 14, 15, 16] [(9, 9), (20000, 20000)] (by kernel_rfl) (by kernel_rfl) rfl ?_
      exact ih70 ⟨rs69, v16_1 + 1, l20000_1, o20000_1, k20000_1⟩ ⟨drop_next hd47, hm⟩ (Nat.lt_succ_self _)

theorem w_pglog_Find (F : Nat) (a0_Les : Int) (a0_Tail : S_api_Version) (a0_Log_o : Option Addr) (a0_Log_c : Nat) (a0_Log : List S_api_Entry) (a0_Lasts_o : Option Addr) (a0_Lasts_c : Nat) (a0_Lasts : List S_api_Last) (a0_Items_o : Option Addr) (a0_Items_c : Nat) (a0_Items : List S_api_Item) (a1 : ByteArray) {y : S_api_Item × Bool} (hm : m_pglog_Find F a0_Les a0_Tail a0_Log a0_Lasts a0_Items a1 = some y) : CallG Try.prog 35 #[.agg #[.int .i64 a0_Les, .int .i64 a0_Tail.Epoch, .int .i64 a0_Tail.N, .slice a0_Log_o a0_Log.length a0_Log_c, .slice a0_Lasts_o a0_Lasts.length a0_Lasts_c, .slice a0_Items_o a0_Items.length a0_Items_c], .string a1] (X := Unit) (fun (_ : Unit) => .tuple #[.agg #[.string y.1.Name, .int .i64 y.1.Version.Epoch, .int .i64 y.1.Version.N, .int .u32 y.1.Crc], .bool y.2]) [] [r53 a0_Log_o a0_Log, r83 a0_Lasts_o a0_Lasts, r45 a0_Items_o a0_Items] (fun (_ : Unit) => []) := by
  intro w hg
  rw [m_pglog_Find] at hm
  refine GS.start (S := mayT [] [r53 a0_Log_o a0_Log, r83 a0_Lasts_o a0_Lasts, r45 a0_Items_o a0_Items]) (mem := [(1, r53 a0_Log_o a0_Log), (2, r83 a0_Lasts_o a0_Lasts), (3, r45 a0_Items_o a0_Items)]) Try.func35 rfl Try.ntmps35 (Nat.le_of_ble_eq_true rfl) (hg.start rfl) ?_
  refine GS.conv (env' := [(0, .agg #[.int .i64 a0_Les, .int .i64 a0_Tail.Epoch, .int .i64 a0_Tail.N, .slice a0_Log_o a0_Log.length a0_Log_c, .slice a0_Lasts_o a0_Lasts.length a0_Lasts_c, .slice a0_Items_o a0_Items.length a0_Items_c]), (1, .string a1)]) rfl rfl ?_
  refine GS.seq ?_
  refine GS.region (env' := fun fr1 => [(1, .string a1), (2, .pointer (some ⟨(fr1 0).x, 0, none⟩)), (4, .pointer (some ⟨(fr1 1).x, 0, none⟩))]) (mem' := fun fr1 => [(1, r53 a0_Log_o a0_Log), (2, r83 a0_Lasts_o a0_Lasts), (3, r45 a0_Items_o a0_Items), (4, .cells ((fr1 0).x) 28 [.int .i64 a0_Les, .int .i64 a0_Tail.Epoch, .int .i64 a0_Tail.N, .slice a0_Log_o a0_Log.length a0_Log_c, .slice a0_Lasts_o a0_Lasts.length a0_Lasts_c, .slice a0_Items_o a0_Items.length a0_Items_c]), (5, .cells ((fr1 1).x) 45 [.string (ByteArray.mk #[]), .int .i64 0, .int .i64 0, .int .u32 0])]) (RunsTo.mk [(0, { act := .new .var, key := some 4 }), (1, { act := .new .var, key := some 5 })] [1, 2, 4] [1, 2, 3, 4, 5] (fun fr1 => []) (fun fr1 => by kernel_rfl) (fun fr1 => trivial)) ?_
  intro fr1
  refine GS.seq ?_
  refine GS.seq ?_
  refine GS.region (env' := fun _ => [(1, .string a1), (4, .pointer (some ⟨(fr1 1).x, 0, none⟩)), (9, .slice a0_Items_o a0_Items.length a0_Items_c), (10, .int .i64 ((a0_Items.length : Nat) : Int)), (11, .int .i64 0)]) (mem' := fun _ => [(3, r45 a0_Items_o a0_Items), (5, .cells ((fr1 1).x) 45 [.string (ByteArray.mk #[]), .int .i64 0, .int .i64 0, .int .u32 0])]) (RunsTo.mk [(1, { act := .load 4 0 0 [] })] [1, 4, 9, 10, 11] [3, 5] (fun _ => [(fr1 0).x = (fr1 0).x]) (fun _ => by kernel_rfl) (fun _ => ⟨rfl, trivial⟩)) ?_
  intro _
  refine GS.block ?_
  refine GS.loop ?_
  refine grd_elim hm (fun g21 hm => ?_)
  refine GS.rekey (env' := [(1, .string a1), (4, .pointer (some ⟨(fr1 1).x, 0, none⟩)), (9, .slice a0_Items_o a0_Items.length a0_Items_c), (10, .int .i64 ((a0_Items.length : Nat) : Int)), (11, .int .i64 0)]) (mem' := [(3, r45 a0_Items_o a0_Items), (5, .cells ((fr1 1).x) 45 [.string (ByteArray.mk #[]), .int .i64 0, .int .i64 0, .int .u32 0])]) [1, 4, 9, 10, 11] [(3, 3), (5, 5)] (by kernel_rfl) (by kernel_rfl) rfl ?_
  refine loopL_elim hm (fun st35 fn36 hst37 hfn38 hm => ?_)
  refine GS.loopInv (ι := List S_api_Item × Nat) (I := fun ⟨rs33, v11_1⟩ => a0_Items.drop v11_1 = rs33 ∧ loopL st35 fn36 rs33 v11_1 () = some y) (μ := fun ⟨rs33, v11_1⟩ => rs33.length) (E := fun ⟨rs33, v11_1⟩ => [(1, .string a1), (4, .pointer (some ⟨(fr1 1).x, 0, none⟩)), (9, .slice a0_Items_o a0_Items.length a0_Items_c), (10, .int .i64 ((a0_Items.length : Nat) : Int)), (11, .int .i64 ((v11_1 : Nat) : Int))]) (M := fun ⟨rs33, v11_1⟩ => [(3, r45 a0_Items_o a0_Items), (5, .cells ((fr1 1).x) 45 [.string (ByteArray.mk #[]), .int .i64 0, .int .i64 0, .int .u32 0])]) ?_ ⟨a0_Items, 0⟩ ⟨List.drop_zero .., hm⟩
  rintro ⟨rs33, v11_1⟩ ⟨hd20, hm⟩ ih34
  cases rs33 with
  | nil =>
    replace hm := (hfn38 _ _).symm.trans hm
    try dsimp only at hm
    refine GS.seq ?_
    refine GS.region (env' := fun _ => [(1, .string a1), (4, .pointer (some ⟨(fr1 1).x, 0, none⟩)), (9, .slice a0_Items_o a0_Items.length a0_Items_c), (10, .int .i64 ((a0_Items.length : Nat) : Int)), (11, .int .i64 ((v11_1 : Nat) : Int)), (12, .bool (decide (((v11_1 : Nat) : Int) < ((a0_Items.length : Nat) : Int))))]) (mem' := fun _ => [(3, r45 a0_Items_o a0_Items), (5, .cells ((fr1 1).x) 45 [.string (ByteArray.mk #[]), .int .i64 0, .int .i64 0, .int .u32 0])]) (RunsTo.mk [] [1, 4, 9, 10, 11, 12] [3, 5] (fun _ => []) (fun _ => by kernel_rfl) (fun _ => trivial)) ?_
    intro _
    refine GS.seq ?_
    refine GS.cond (t := decide (((v11_1 : Nat) : Int) < ((a0_Items.length : Nat) : Int))) rfl rfl (fun h31 => absb h31 (drop_dec0 hd20)) (fun _ => ?_)
    refine GS.exit rfl ?_
    refine GS.seq ?_
    refine GS.region (env' := fun _ => [(4, .pointer (some ⟨(fr1 1).x, 0, none⟩)), (5, .bool false)]) (mem' := fun _ => [(5, .cells ((fr1 1).x) 45 [.string (ByteArray.mk #[]), .int .i64 0, .int .i64 0, .int .u32 0])]) (RunsTo.mk [(1, { act := .store 0 0 [], key := some 5 })] [4, 5] [5] (fun _ => [(fr1 1).x = (fr1 1).x, ((.agg #[.string (ByteArray.mk #[]), .int .i64 0, .int .i64 0, .int .u32 0]) : Value).cells.toList.all Value.oneCell' = true]) (fun _ => by kernel_rfl) (fun _ => ⟨rfl, rfl, trivial⟩)) ?_
    intro _
    have hy := Option.some.inj hm
    subst hy
    refine GS.ret (fn := Try.f35) [5, 0] [.agg #[.string (ByteArray.mk #[]), .int .i64 0, .int .i64 0, .int .u32 0], .bool false] [(fr1 1).x = (fr1 1).x] rfl Try.func35 (by kernel_rfl) ⟨rfl, trivial⟩ (fun w' hs => ?_)
    exact ⟨(), rfl, hs.turnedG (ks := []) rfl rfl⟩
  | cons x22 rs33 =>
    replace hm := (hst37 _ _ _ _).symm.trans hm
    try dsimp only at hm
    refine GS.seq ?_
    refine GS.region (env' := fun _ => [(1, .string a1), (4, .pointer (some ⟨(fr1 1).x, 0, none⟩)), (9, .slice a0_Items_o a0_Items.length a0_Items_c), (10, .int .i64 ((a0_Items.length : Nat) : Int)), (11, .int .i64 ((v11_1 : Nat) : Int)), (12, .bool (decide (((v11_1 : Nat) : Int) < ((a0_Items.length : Nat) : Int))))]) (mem' := fun _ => [(3, r45 a0_Items_o a0_Items), (5, .cells ((fr1 1).x) 45 [.string (ByteArray.mk #[]), .int .i64 0, .int .i64 0, .int .u32 0])]) (RunsTo.mk [] [1, 4, 9, 10, 11, 12] [3, 5] (fun _ => []) (fun _ => by kernel_rfl) (fun _ => trivial)) ?_
    intro _
    refine GS.seq ?_
    refine GS.cond (t := decide (((v11_1 : Nat) : Int) < ((a0_Items.length : Nat) : Int))) rfl rfl (fun _ => ?_) (fun h24 => absb (drop_dec hd20) h24)
    refine GS.skip ?_
    refine GS.seq ?_
    refine GS.block ?_
    refine GS.seq ?_
    refine GS.region (env' := fun fr25 => [(1, .string a1), (4, .pointer (some ⟨(fr1 1).x, 0, none⟩)), (7, .pointer (some ⟨(fr25 2).x, 0, none⟩)), (9, .slice a0_Items_o a0_Items.length a0_Items_c), (10, .int .i64 ((a0_Items.length : Nat) : Int)), (11, .int .i64 ((v11_1 : Nat) : Int))]) (mem' := fun fr25 => [(3, r45 a0_Items_o a0_Items), (5, .cells ((fr1 1).x) 45 [.string (ByteArray.mk #[]), .int .i64 0, .int .i64 0, .int .u32 0]), (6, .cells ((fr25 2).x) 45 [.string x22.Name, .int .i64 x22.Version.Epoch, .int .i64 x22.Version.N, .int .u32 x22.Crc])]) (RunsTo.mk [(0, { act := .idx 3 v11_1 }), (1, { act := .load 3 v11_1 0 [.string x22.Name, .int .i64 x22.Version.Epoch, .int .i64 x22.Version.N, .int .u32 x22.Crc] }), (2, { act := .new .var, key := some 6 }), (3, { act := .store 0 0 [], key := some 6 })] [1, 4, 7, 9, 10, 11] [3, 5, 6] (fun fr25 => [a0_Items_o = a0_Items_o, a0_Items.length = (List.map S_api_Item.row a0_Items).length, (((v11_1 : Nat) : Int) : Int) = ((v11_1 : Nat) : Int), v11_1 < a0_Items.length, blk a0_Items_o = blk a0_Items_o, offs a0_Items_o + v11_1 * 4 = offs a0_Items_o + (v11_1 * 4 + 0), (List.map S_api_Item.row a0_Items)[v11_1]? = some [.string x22.Name, .int .i64 x22.Version.Epoch, .int .i64 x22.Version.N, .int .u32 x22.Crc], (fr25 2).x = (fr25 2).x, ((.agg #[.string x22.Name, .int .i64 x22.Version.Epoch, .int .i64 x22.Version.N, .int .u32 x22.Crc]) : Value).cells.toList.all Value.oneCell' = true]) (fun fr25 => by kernel_rfl) (fun fr25 => ⟨rfl, mlen S_api_Item.row a0_Items, rfl, (drop_lt hd20), rfl, rfl, map_drop S_api_Item.row hd20, rfl, rfl, trivial⟩)) ?_
    intro fr25
    refine GS.seq ?_
    refine GS.region (env' := fun _ => [(1, .string a1), (4, .pointer (some ⟨(fr1 1).x, 0, none⟩)), (7, .pointer (some ⟨(fr25 2).x, 0, none⟩)), (9, .slice a0_Items_o a0_Items.length a0_Items_c), (10, .int .i64 ((a0_Items.length : Nat) : Int)), (11, .int .i64 ((v11_1 : Nat) : Int)), (18, .bool (x22.Name.toList == a1.toList))]) (mem' := fun _ => [(3, r45 a0_Items_o a0_Items), (5, .cells ((fr1 1).x) 45 [.string (ByteArray.mk #[]), .int .i64 0, .int .i64 0, .int .u32 0]), (6, .cells ((fr25 2).x) 45 [.string x22.Name, .int .i64 x22.Version.Epoch, .int .i64 x22.Version.N, .int .u32 x22.Crc])]) (RunsTo.mk [(1, { act := .load 6 0 0 [] })] [1, 4, 7, 9, 10, 11, 18] [3, 5, 6] (fun _ => [(fr25 2).x = (fr25 2).x]) (fun _ => by kernel_rfl) (fun _ => ⟨rfl, trivial⟩)) ?_
    intro _
    refine GS.cond (t := x22.Name.toList == a1.toList) rfl rfl (fun h27 => ?_) (fun h27 => ?_)
    · replace hm := br_t h27 hm
      refine GS.seq ?_
      refine GS.region (env' := fun _ => [(4, .pointer (some ⟨(fr1 1).x, 0, none⟩)), (5, .bool true)]) (mem' := fun _ => [(5, .cells ((fr1 1).x) 45 [.string x22.Name, .int .i64 x22.Version.Epoch, .int .i64 x22.Version.N, .int .u32 x22.Crc])]) (RunsTo.mk [(0, { act := .load 6 0 0 [] }), (1, { act := .store 0 0 [], key := some 5 })] [4, 5] [5] (fun _ => [(fr25 2).x = (fr25 2).x, (fr1 1).x = (fr1 1).x, ((.agg #[.string x22.Name, .int .i64 x22.Version.Epoch, .int .i64 x22.Version.N, .int .u32 x22.Crc]) : Value).cells.toList.all Value.oneCell' = true]) (fun _ => by kernel_rfl) (fun _ => ⟨rfl, rfl, rfl, trivial⟩)) ?_
      intro _
      have hy := Option.some.inj hm
      subst hy
      refine GS.ret (fn := Try.f35) [5, 0] [.agg #[.string x22.Name, .int .i64 x22.Version.Epoch, .int .i64 x22.Version.N, .int .u32 x22.Crc], .bool true] [(fr1 1).x = (fr1 1).x] rfl Try.func35 (by kernel_rfl) ⟨rfl, trivial⟩ (fun w' hs => ?_)
      exact ⟨(), rfl, hs.turnedG (ks := []) rfl rfl⟩
    · replace hm := br_f h27 hm
      refine GS.skip ?_
      refine GS.inBlock ?_
      refine GS.region (env' := fun _ => [(1, .string a1), (4, .pointer (some ⟨(fr1 1).x, 0, none⟩)), (9, .slice a0_Items_o a0_Items.length a0_Items_c), (10, .int .i64 ((a0_Items.length : Nat) : Int)), (11, .int .i64 ((v11_1 + 1 : Nat) : Int))]) (mem' := fun _ => [(3, r45 a0_Items_o a0_Items), (5, .cells ((fr1 1).x) 45 [.string (ByteArray.mk #[]), .int .i64 0, .int .i64 0, .int .u32 0])]) (RunsTo.mk [(0, { sp := some (.int .i64 ((v11_1 + 1 : Nat) : Int)) })] [1, 4, 9, 10, 11] [3, 5] (fun _ => [((.int .i64 (IntKind.i64.wrap (((v11_1 : Nat) : Int) + 1))) : Value) = .int .i64 ((v11_1 + 1 : Nat) : Int)]) (fun _ => by kernel_rfl) (fun _ => ⟨natw (drop_lt hd20) g21, trivial⟩)) ?_
      intro _
      refine GS.inLoop ?_
      refine GS.rekey (env' := [(1, .string a1), (4, .pointer (some ⟨(fr1 1).x, 0, none⟩)), (9, .slice a0_Items_o a0_Items.length a0_Items_c), (10, .int .i64 ((a0_Items.length : Nat) : Int)), (11, .int .i64 ((v11_1 + 1 : Nat) : Int))]) (mem' := [(3, r45 a0_Items_o a0_Items), (5, .cells ((fr1 1).x) 45 [.string (ByteArray.mk #[]), .int .i64 0, .int .i64 0, .int .u32 0])]) [1, 4, 9, 10, 11] [(3, 3), (5, 5)] (by kernel_rfl) (by kernel_rfl) rfl ?_
      exact ih34 ⟨rs33, v11_1 + 1⟩ ⟨drop_next hd20, hm⟩ (Nat.lt_succ_self _)

end Go.Proofs.Ytdelhcdknglibaa
