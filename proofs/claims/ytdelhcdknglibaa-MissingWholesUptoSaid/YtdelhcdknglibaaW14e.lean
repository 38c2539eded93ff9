/-
  CHAPTER 14: the functions do what their models say (5).
-/
import Derived.Test.YtdelhcdknglibaaW14d
set_option linter.unusedVariables false
set_option linter.unusedSimpArgs false
set_option maxRecDepth 100000
namespace Go.Proofs.Ytdelhcdknglibaa
open Go Go.RowKit Sx

theorem w_tholelaw14_entries (F : Nat) (a0_o : Option Addr) (a0_c : Nat) (a0 : List S_api_Entry) (a1_o : Option Addr) (a1_c : Nat) (a1 : List S_api_Entry) {y : Bool} (hm : m_tholelaw14_entries F a0 a1 = some y) : CallG Try.prog 11 #[.slice a0_o a0.length a0_c, .slice a1_o a1.length a1_c] (X := Unit) (fun (_ : Unit) => .bool y) [] [r53 a0_o a0, r53 a1_o a1] (fun (_ : Unit) => []) := by
  intro w hg
  rw [m_tholelaw14_entries] at hm
  refine GS.start (S := mayT [] [r53 a0_o a0, r53 a1_o a1]) (mem := [(1, r53 a0_o a0), (2, r53 a1_o a1)]) Try.func11 rfl Try.ntmps11 (Nat.le_of_ble_eq_true rfl) (hg.start rfl) ?_
  refine GS.conv (env' := [(0, .slice a0_o a0.length a0_c), (1, .slice a1_o a1.length a1_c)]) rfl rfl ?_
  refine GS.seq ?_
  refine GS.region (env' := fun _ => [(0, .slice a0_o a0.length a0_c), (1, .slice a1_o a1.length a1_c)]) (mem' := fun _ => [(1, r53 a0_o a0), (2, r53 a1_o a1)]) (RunsTo.mk [] [0, 1] [1, 2] (fun _ => []) (fun _ => by kernel_rfl) (fun _ => trivial)) ?_
  intro _
  refine GS.seq ?_
  refine GS.seq ?_
  refine GS.region (env' := fun _ => [(0, .slice a0_o a0.length a0_c), (1, .slice a1_o a1.length a1_c), (10, .bool (((a0.length : Nat) : Int) != ((a1.length : Nat) : Int)))]) (mem' := fun _ => [(1, r53 a0_o a0), (2, r53 a1_o a1)]) (RunsTo.mk [] [0, 1, 10] [1, 2] (fun _ => []) (fun _ => by kernel_rfl) (fun _ => trivial)) ?_
  intro _
  refine GS.cond (t := ((a0.length : Nat) : Int) != ((a1.length : Nat) : Int)) rfl rfl (fun h3 => ?_) (fun h3 => ?_)
  · replace hm := br_t h3 hm
    refine GS.seq ?_
    refine GS.region (env' := fun _ => [(4, .bool false)]) (mem' := fun _ => []) (RunsTo.mk [] [4] [] (fun _ => []) (fun _ => by kernel_rfl) (fun _ => trivial)) ?_
    intro _
    have hy := Option.some.inj hm
    subst hy
    refine GS.ret (fn := Try.f11) [0] [.bool false] [] rfl Try.func11 (by kernel_rfl) trivial (fun w' hs => ?_)
    exact ⟨(), rfl, hs.turnedG (ks := []) rfl rfl⟩
  · replace hm := br_f h3 hm
    refine GS.skip ?_
    refine GS.seq ?_
    refine GS.seq ?_
    refine GS.region (env' := fun _ => [(0, .slice a0_o a0.length a0_c), (1, .slice a1_o a1.length a1_c), (12, .int .i64 ((a0.length : Nat) : Int)), (13, .int .i64 0)]) (mem' := fun _ => [(1, r53 a0_o a0), (2, r53 a1_o a1)]) (RunsTo.mk [] [0, 1, 12, 13] [1, 2] (fun _ => []) (fun _ => by kernel_rfl) (fun _ => trivial)) ?_
    intro _
    refine GS.block ?_
    refine GS.loop ?_
    refine grd_elim hm (fun g26 hm => ?_)
    refine GS.rekey (env' := [(0, .slice a0_o a0.length a0_c), (1, .slice a1_o a1.length a1_c), (12, .int .i64 ((a0.length : Nat) : Int)), (13, .int .i64 0)]) (mem' := [(1, r53 a0_o a0), (2, r53 a1_o a1)]) [0, 1, 12, 13] [(1, 1), (2, 2)] (by kernel_rfl) (by kernel_rfl) rfl ?_
    refine loopL_elim hm (fun st41 fn42 hst43 hfn44 hm => ?_)
    refine GS.loopInv (ι := List S_api_Entry × Nat) (I := fun ⟨rs39, v13_1⟩ => a0.drop v13_1 = rs39 ∧ loopL st41 fn42 rs39 v13_1 () = some y) (μ := fun ⟨rs39, v13_1⟩ => rs39.length) (E := fun ⟨rs39, v13_1⟩ => [(0, .slice a0_o a0.length a0_c), (1, .slice a1_o a1.length a1_c), (12, .int .i64 ((a0.length : Nat) : Int)), (13, .int .i64 ((v13_1 : Nat) : Int))]) (M := fun ⟨rs39, v13_1⟩ => [(1, r53 a0_o a0), (2, r53 a1_o a1)]) ?_ ⟨a0, 0⟩ ⟨List.drop_zero .., hm⟩
    rintro ⟨rs39, v13_1⟩ ⟨hd25, hm⟩ ih40
    cases rs39 with
    | nil =>
      replace hm := (hfn44 _ _).symm.trans hm
      try dsimp only at hm
      refine GS.seq ?_
      refine GS.region (env' := fun _ => [(0, .slice a0_o a0.length a0_c), (1, .slice a1_o a1.length a1_c), (12, .int .i64 ((a0.length : Nat) : Int)), (13, .int .i64 ((v13_1 : Nat) : Int)), (14, .bool (decide (((v13_1 : Nat) : Int) < ((a0.length : Nat) : Int))))]) (mem' := fun _ => [(1, r53 a0_o a0), (2, r53 a1_o a1)]) (RunsTo.mk [] [0, 1, 12, 13, 14] [1, 2] (fun _ => []) (fun _ => by kernel_rfl) (fun _ => trivial)) ?_
      intro _
      refine GS.seq ?_
      refine GS.cond (t := decide (((v13_1 : Nat) : Int) < ((a0.length : Nat) : Int))) rfl rfl (fun h37 => absb h37 (drop_dec0 hd25)) (fun _ => ?_)
      refine GS.exit rfl ?_
      refine GS.seq ?_
      refine GS.region (env' := fun _ => [(4, .bool true)]) (mem' := fun _ => []) (RunsTo.mk [] [4] [] (fun _ => []) (fun _ => by kernel_rfl) (fun _ => trivial)) ?_
      intro _
      have hy := Option.some.inj hm
      subst hy
      refine GS.ret (fn := Try.f11) [0] [.bool true] [] rfl Try.func11 (by kernel_rfl) trivial (fun w' hs => ?_)
      exact ⟨(), rfl, hs.turnedG (ks := []) rfl rfl⟩
    | cons x27 rs39 =>
      replace hm := (hst43 _ _ _ _).symm.trans hm
      try dsimp only at hm
      refine GS.seq ?_
      refine GS.region (env' := fun _ => [(0, .slice a0_o a0.length a0_c), (1, .slice a1_o a1.length a1_c), (12, .int .i64 ((a0.length : Nat) : Int)), (13, .int .i64 ((v13_1 : Nat) : Int)), (14, .bool (decide (((v13_1 : Nat) : Int) < ((a0.length : Nat) : Int))))]) (mem' := fun _ => [(1, r53 a0_o a0), (2, r53 a1_o a1)]) (RunsTo.mk [] [0, 1, 12, 13, 14] [1, 2] (fun _ => []) (fun _ => by kernel_rfl) (fun _ => trivial)) ?_
      intro _
      refine GS.seq ?_
      refine GS.cond (t := decide (((v13_1 : Nat) : Int) < ((a0.length : Nat) : Int))) rfl rfl (fun _ => ?_) (fun h29 => absb (drop_dec hd25) h29)
      refine GS.skip ?_
      refine GS.seq ?_
      refine GS.block ?_
      refine GS.seq ?_
      refine GS.region (env' := fun _ => [(0, .slice a0_o a0.length a0_c), (1, .slice a1_o a1.length a1_c), (5, .int .i64 ((v13_1 : Nat) : Int)), (12, .int .i64 ((a0.length : Nat) : Int)), (13, .int .i64 ((v13_1 : Nat) : Int))]) (mem' := fun _ => [(1, r53 a0_o a0), (2, r53 a1_o a1)]) (RunsTo.mk [] [0, 1, 5, 12, 13] [1, 2] (fun _ => []) (fun _ => by kernel_rfl) (fun _ => trivial)) ?_
      intro _
      refine GS.seq ?_
      refine grd_elim hm (fun g32 hm => ?_)
      refine GS.region (env' := fun _ => [(0, .slice a0_o a0.length a0_c), (1, .slice a1_o a1.length a1_c), (12, .int .i64 ((a0.length : Nat) : Int)), (13, .int .i64 ((v13_1 : Nat) : Int)), (24, .bool (!(S_api_Entry.beq x27 (a1.getD v13_1 dS_api_Entry))))]) (mem' := fun _ => [(1, r53 a0_o a0), (2, r53 a1_o a1)]) (RunsTo.mkd [(2, { act := .idx 1 v13_1 }), (3, { act := .load 1 v13_1 0 [.int .i64 x27.Version.Epoch, .int .i64 x27.Version.N, .bool x27.Remove, .int .i64 x27.Errno, .string x27.Name, .int .i64 x27.Client, .int .i64 x27.Number] }), (6, { act := .idx 2 v13_1 }), (7, { act := .load 2 v13_1 0 [.int .i64 (((a1.getD v13_1 dS_api_Entry).Version).Epoch), .int .i64 (((a1.getD v13_1 dS_api_Entry).Version).N), .bool ((a1.getD v13_1 dS_api_Entry).Remove), .int .i64 ((a1.getD v13_1 dS_api_Entry).Errno), .string ((a1.getD v13_1 dS_api_Entry).Name), .int .i64 ((a1.getD v13_1 dS_api_Entry).Client), .int .i64 ((a1.getD v13_1 dS_api_Entry).Number)] }), (8, { act := .eq })] [0, 1, 12, 13, 24] [1, 2] (fun _ => [a0_o = a0_o, a0.length = (List.map S_api_Entry.row a0).length, (((v13_1 : Nat) : Int) : Int) = ((v13_1 : Nat) : Int), v13_1 < a0.length, blk a0_o = blk a0_o, offs a0_o + v13_1 * 7 = offs a0_o + (v13_1 * 7 + 0), (List.map S_api_Entry.row a0)[v13_1]? = some [.int .i64 x27.Version.Epoch, .int .i64 x27.Version.N, .bool x27.Remove, .int .i64 x27.Errno, .string x27.Name, .int .i64 x27.Client, .int .i64 x27.Number], a1_o = a1_o, a1.length = (List.map S_api_Entry.row a1).length, (((v13_1 : Nat) : Int) : Int) = ((v13_1 : Nat) : Int), v13_1 < a1.length, blk a1_o = blk a1_o, offs a1_o + v13_1 * 7 = offs a1_o + (v13_1 * 7 + 0), (List.map S_api_Entry.row a1)[v13_1]? = some [.int .i64 (((a1.getD v13_1 dS_api_Entry).Version).Epoch), .int .i64 (((a1.getD v13_1 dS_api_Entry).Version).N), .bool ((a1.getD v13_1 dS_api_Entry).Remove), .int .i64 ((a1.getD v13_1 dS_api_Entry).Errno), .string ((a1.getD v13_1 dS_api_Entry).Name), .int .i64 ((a1.getD v13_1 dS_api_Entry).Client), .int .i64 ((a1.getD v13_1 dS_api_Entry).Number)]]) (by kernel_rfl) (by kernel_rfl) (fun _ => by kernel_rfl) (fun _ => ⟨rfl, mlen S_api_Entry.row a0, rfl, (drop_lt hd25), rfl, rfl, map_drop S_api_Entry.row hd25, rfl, mlen S_api_Entry.row a1, rfl, g32, rfl, rfl, map_at S_api_Entry.row dS_api_Entry g32, trivial⟩)) ?_
      intro _
      refine GS.cond (t := !(S_api_Entry.beq x27 (a1.getD v13_1 dS_api_Entry))) rfl rfl (fun h33 => ?_) (fun h33 => ?_)
      · replace hm := br_t h33 hm
        refine GS.seq ?_
        refine GS.region (env' := fun _ => [(4, .bool false)]) (mem' := fun _ => []) (RunsTo.mk [] [4] [] (fun _ => []) (fun _ => by kernel_rfl) (fun _ => trivial)) ?_
        intro _
        have hy := Option.some.inj hm
        subst hy
        refine GS.ret (fn := Try.f11) [0] [.bool false] [] rfl Try.func11 (by kernel_rfl) trivial (fun w' hs => ?_)
        exact ⟨(), rfl, hs.turnedG (ks := []) rfl rfl⟩
      · replace hm := br_f h33 hm
        refine GS.skip ?_
        refine GS.inBlock ?_
        refine GS.region (env' := fun _ => [(0, .slice a0_o a0.length a0_c), (1, .slice a1_o a1.length a1_c), (12, .int .i64 ((a0.length : Nat) : Int)), (13, .int .i64 ((v13_1 + 1 : Nat) : Int))]) (mem' := fun _ => [(1, r53 a0_o a0), (2, r53 a1_o a1)]) (RunsTo.mk [(0, { sp := some (.int .i64 ((v13_1 + 1 : Nat) : Int)) })] [0, 1, 12, 13] [1, 2] (fun _ => [((.int .i64 (IntKind.i64.wrap (((v13_1 : Nat) : Int) + 1))) : Value) = .int .i64 ((v13_1 + 1 : Nat) : Int)]) (fun _ => by kernel_rfl) (fun _ => ⟨natw (drop_lt hd25) g26, trivial⟩)) ?_
        intro _
        refine GS.inLoop ?_
        refine GS.rekey (env' := [(0, .slice a0_o a0.length a0_c), (1, .slice a1_o a1.length a1_c), (12, .int .i64 ((a0.length : Nat) : Int)), (13, .int .i64 ((v13_1 + 1 : Nat) : Int))]) (mem' := [(1, r53 a0_o a0), (2, r53 a1_o a1)]) [0, 1, 12, 13] [(1, 1), (2, 2)] (by kernel_rfl) (by kernel_rfl) rfl ?_
        exact ih40 ⟨rs39, v13_1 + 1⟩ ⟨drop_next hd25, hm⟩ (Nat.lt_succ_self _)

theorem w_tholeref14_Lacking (F : Nat) (a0_Les : Int) (a0_Tail : S_api_Version) (a0_Log_o : Option Addr) (a0_Log_c : Nat) (a0_Log : List S_api_Entry) (a0_Lasts_o : Option Addr) (a0_Lasts_c : Nat) (a0_Lasts : List S_api_Last) (a0_Items_o : Option Addr) (a0_Items_c : Nat) (a0_Items : List S_api_Item) (a1_Les : Int) (a1_Tail : S_api_Version) (a1_Log_o : Option Addr) (a1_Log_c : Nat) (a1_Log : List S_api_Entry) (a1_Lasts_o : Option Addr) (a1_Lasts_c : Nat) (a1_Lasts : List S_api_Last) (a1_Items_o : Option Addr) (a1_Items_c : Nat) (a1_Items : List S_api_Item) {y : List S_api_Entry} (hm : m_tholeref14_Lacking F a0_Les a0_Tail a0_Log a0_Lasts a0_Items a1_Les a1_Tail a1_Log a1_Lasts a1_Items = some y) : CallG Try.prog 15 #[.agg #[.int .i64 a0_Les, .int .i64 a0_Tail.Epoch, .int .i64 a0_Tail.N, .slice a0_Log_o a0_Log.length a0_Log_c, .slice a0_Lasts_o a0_Lasts.length a0_Lasts_c, .slice a0_Items_o a0_Items.length a0_Items_c], .agg #[.int .i64 a1_Les, .int .i64 a1_Tail.Epoch, .int .i64 a1_Tail.N, .slice a1_Log_o a1_Log.length a1_Log_c, .slice a1_Lasts_o a1_Lasts.length a1_Lasts_c, .slice a1_Items_o a1_Items.length a1_Items_c]] (X := Option Addr × Nat) (fun ⟨x0, x1⟩ => .slice x0 y.length x1) [] [r53 a0_Log_o a0_Log, r83 a0_Lasts_o a0_Lasts, r45 a0_Items_o a0_Items, r53 a1_Log_o a1_Log, r83 a1_Lasts_o a1_Lasts, r45 a1_Items_o a1_Items] (fun ⟨x0, x1⟩ => [o53 x0 x1 y]) := by
  intro w hg
  rw [m_tholeref14_Lacking] at hm
  refine GS.start (S := mayT [] [r53 a0_Log_o a0_Log, r83 a0_Lasts_o a0_Lasts, r45 a0_Items_o a0_Items, r53 a1_Log_o a1_Log, r83 a1_Lasts_o a1_Lasts, r45 a1_Items_o a1_Items]) (mem := [(1, r53 a0_Log_o a0_Log), (2, r83 a0_Lasts_o a0_Lasts), (3, r45 a0_Items_o a0_Items), (4, r53 a1_Log_o a1_Log), (5, r83 a1_Lasts_o a1_Lasts), (6, r45 a1_Items_o a1_Items)]) Try.func15 rfl Try.ntmps15 (Nat.le_of_ble_eq_true rfl) (hg.start rfl) ?_
  refine GS.conv (env' := [(0, .agg #[.int .i64 a0_Les, .int .i64 a0_Tail.Epoch, .int .i64 a0_Tail.N, .slice a0_Log_o a0_Log.length a0_Log_c, .slice a0_Lasts_o a0_Lasts.length a0_Lasts_c, .slice a0_Items_o a0_Items.length a0_Items_c]), (1, .agg #[.int .i64 a1_Les, .int .i64 a1_Tail.Epoch, .int .i64 a1_Tail.N, .slice a1_Log_o a1_Log.length a1_Log_c, .slice a1_Lasts_o a1_Lasts.length a1_Lasts_c, .slice a1_Items_o a1_Items.length a1_Items_c])]) rfl rfl ?_
  refine GS.seq ?_
  refine GS.region (env' := fun fr1 => [(2, .pointer (some ⟨(fr1 0).x, 0, none⟩)), (3, .pointer (some ⟨(fr1 1).x, 0, none⟩))]) (mem' := fun fr1 => [(1, r53 a0_Log_o a0_Log), (2, r83 a0_Lasts_o a0_Lasts), (3, r45 a0_Items_o a0_Items), (4, r53 a1_Log_o a1_Log), (5, r83 a1_Lasts_o a1_Lasts), (6, r45 a1_Items_o a1_Items), (7, .cells ((fr1 0).x) 28 [.int .i64 a0_Les, .int .i64 a0_Tail.Epoch, .int .i64 a0_Tail.N, .slice a0_Log_o a0_Log.length a0_Log_c, .slice a0_Lasts_o a0_Lasts.length a0_Lasts_c, .slice a0_Items_o a0_Items.length a0_Items_c]), (8, .cells ((fr1 1).x) 28 [.int .i64 a1_Les, .int .i64 a1_Tail.Epoch, .int .i64 a1_Tail.N, .slice a1_Log_o a1_Log.length a1_Log_c, .slice a1_Lasts_o a1_Lasts.length a1_Lasts_c, .slice a1_Items_o a1_Items.length a1_Items_c])]) (RunsTo.mk [(0, { act := .new .var, key := some 7 }), (1, { act := .new .var, key := some 8 })] [2, 3] [1, 2, 3, 4, 5, 6, 7, 8] (fun fr1 => []) (fun fr1 => by kernel_rfl) (fun fr1 => trivial)) ?_
  intro fr1
  refine GS.seq ?_
  refine bnd_elim hm (fun y3 e4 hm => ?_)
  refine GS.region (env' := fun fr2 => [(3, .pointer (some ⟨(fr1 1).x, 0, none⟩)), (5, .pointer (some ⟨(fr2 6).x, 0, none⟩)), (6, .bool y3.2)]) (mem' := fun fr2 => [(4, r53 a1_Log_o a1_Log), (5, r83 a1_Lasts_o a1_Lasts), (6, r45 a1_Items_o a1_Items), (8, .cells ((fr1 1).x) 28 [.int .i64 a1_Les, .int .i64 a1_Tail.Epoch, .int .i64 a1_Tail.N, .slice a1_Log_o a1_Log.length a1_Log_c, .slice a1_Lasts_o a1_Lasts.length a1_Lasts_c, .slice a1_Items_o a1_Items.length a1_Items_c]), (9, .cells ((fr2 6).x) 23 [.int .i64 y3.1.Epoch, .int .i64 y3.1.N])]) (RunsTo.mk [(0, { act := .load 7 0 0 [] }), (1, { act := .load 8 0 0 [] }), (2, { act := .call [1, 2, 3, 4, 5, 6] (.tuple #[.agg #[.int .i64 y3.1.Epoch, .int .i64 y3.1.N], .bool y3.2]) }), (6, { act := .new .var, key := some 9 }), (7, { act := .store 0 0 [], key := some 9 })] [3, 5, 6] [4, 5, 6, 8, 9] (fun fr2 => [(fr1 0).x = (fr1 0).x, (fr1 1).x = (fr1 1).x, CallOK Try.prog 10 #[.agg #[.int .i64 a0_Les, .int .i64 a0_Tail.Epoch, .int .i64 a0_Tail.N, .slice a0_Log_o a0_Log.length a0_Log_c, .slice a0_Lasts_o a0_Lasts.length a0_Lasts_c, .slice a0_Items_o a0_Items.length a0_Items_c], .agg #[.int .i64 a1_Les, .int .i64 a1_Tail.Epoch, .int .i64 a1_Tail.N, .slice a1_Log_o a1_Log.length a1_Log_c, .slice a1_Lasts_o a1_Lasts.length a1_Lasts_c, .slice a1_Items_o a1_Items.length a1_Items_c]] (.tuple #[.agg #[.int .i64 y3.1.Epoch, .int .i64 y3.1.N], .bool y3.2]) [some (r53 a0_Log_o a0_Log), some (r83 a0_Lasts_o a0_Lasts), some (r45 a0_Items_o a0_Items), some (r53 a1_Log_o a1_Log), some (r83 a1_Lasts_o a1_Lasts), some (r45 a1_Items_o a1_Items)], (fr2 6).x = (fr2 6).x, ((.agg #[.int .i64 y3.1.Epoch, .int .i64 y3.1.N]) : Value).cells.toList.all Value.oneCell' = true]) (fun fr2 => by kernel_rfl) (fun fr2 => ⟨rfl, rfl, (w_tholeref14_Common F a0_Les a0_Tail a0_Log_o a0_Log_c a0_Log a0_Lasts_o a0_Lasts_c a0_Lasts a0_Items_o a0_Items_c a0_Items a1_Les a1_Tail a1_Log_o a1_Log_c a1_Log a1_Lasts_o a1_Lasts_c a1_Lasts a1_Items_o a1_Items_c a1_Items e4).ok ⟨(.inl ⟨r53 a0_Log_o a0_Log, .head _, Cov.refl _⟩), (.inl ⟨r83 a0_Lasts_o a0_Lasts, (.tail _ (.head _)), Cov.refl _⟩), (.inl ⟨r45 a0_Items_o a0_Items, (.tail _ (.tail _ (.head _))), Cov.refl _⟩), (.inl ⟨r53 a1_Log_o a1_Log, (.tail _ (.tail _ (.tail _ (.head _)))), Cov.refl _⟩), (.inl ⟨r83 a1_Lasts_o a1_Lasts, (.tail _ (.tail _ (.tail _ (.tail _ (.head _))))), Cov.refl _⟩), (.inl ⟨r45 a1_Items_o a1_Items, (.tail _ (.tail _ (.tail _ (.tail _ (.tail _ (.head _)))))), Cov.refl _⟩), trivial⟩, rfl, rfl, trivial⟩)) ?_
  intro fr2
  refine GS.seq ?_
  refine GS.seq ?_
  refine GS.region (env' := fun _ => [(3, .pointer (some ⟨(fr1 1).x, 0, none⟩)), (5, .pointer (some ⟨(fr2 6).x, 0, none⟩)), (14, .bool (!y3.2))]) (mem' := fun _ => [(4, r53 a1_Log_o a1_Log), (5, r83 a1_Lasts_o a1_Lasts), (6, r45 a1_Items_o a1_Items), (8, .cells ((fr1 1).x) 28 [.int .i64 a1_Les, .int .i64 a1_Tail.Epoch, .int .i64 a1_Tail.N, .slice a1_Log_o a1_Log.length a1_Log_c, .slice a1_Lasts_o a1_Lasts.length a1_Lasts_c, .slice a1_Items_o a1_Items.length a1_Items_c]), (9, .cells ((fr2 6).x) 23 [.int .i64 y3.1.Epoch, .int .i64 y3.1.N])]) (RunsTo.mk [] [3, 5, 14] [4, 5, 6, 8, 9] (fun _ => []) (fun _ => by kernel_rfl) (fun _ => trivial)) ?_
  intro _
  refine GS.cond (t := !y3.2) rfl rfl (fun h6 => ?_) (fun h6 => ?_)
  · replace hm := br_t h6 hm
    refine GS.seq ?_
    refine GS.region (env' := fun _ => [(4, .slice none 0 0)]) (mem' := fun _ => []) (RunsTo.mk [] [4] [] (fun _ => []) (fun _ => by kernel_rfl) (fun _ => trivial)) ?_
    intro _
    refine GS.setMem (mem' := [(10, o53 none 0 ([] : List S_api_Entry))]) (fun w hw => Sat.addNil hw rfl) ?_
    have hy := Option.some.inj hm
    subst hy
    refine GS.ret (fn := Try.f15) [0] [.slice none 0 0] [] rfl Try.func15 (by kernel_rfl) trivial (fun w' hs => ?_)
    exact ⟨⟨none, 0⟩, rfl, hs.turnedG (ks := [10]) rfl rfl⟩
  · replace hm := br_f h6 hm
    refine GS.skip ?_
    refine GS.seq ?_
    refine bnd_elim hm (fun y9 e10 hm => ?_)
    refine GS.open_ ?_
    refine GR.run (i := 0) 2 (env' := fun _ => [(15, .agg #[.int .i64 a1_Les, .int .i64 a1_Tail.Epoch, .int .i64 a1_Tail.N, .slice a1_Log_o a1_Log.length a1_Log_c, .slice a1_Lasts_o a1_Lasts.length a1_Lasts_c, .slice a1_Items_o a1_Items.length a1_Items_c]), (16, .agg #[.int .i64 y3.1.Epoch, .int .i64 y3.1.N])]) (mem' := fun _ => [(4, r53 a1_Log_o a1_Log), (5, r83 a1_Lasts_o a1_Lasts), (6, r45 a1_Items_o a1_Items)]) (Nat.le_of_ble_eq_true (by kernel_rfl)) (RunsTo.mk [(0, { act := .load 8 0 0 [] }), (1, { act := .load 9 0 0 [] })] [15, 16] [4, 5, 6] (fun _ => [(fr1 1).x = (fr1 1).x, (fr2 6).x = (fr2 6).x]) (fun _ => by kernel_rfl) (fun _ => ⟨rfl, rfl, trivial⟩)) ?_
    intro _
    refine GR.callG (X := Option Addr × Nat) (i := 2) (g := 33) (args := #[.agg #[.int .i64 a1_Les, .int .i64 a1_Tail.Epoch, .int .i64 a1_Tail.N, .slice a1_Log_o a1_Log.length a1_Log_c, .slice a1_Lasts_o a1_Lasts.length a1_Lasts_c, .slice a1_Items_o a1_Items.length a1_Items_c], .agg #[.int .i64 y3.1.Epoch, .int .i64 y3.1.N]]) (v := fun ⟨x11, x12⟩ => .slice x11 y9.length x12) (own := []) (ro := [r53 a1_Log_o a1_Log, r83 a1_Lasts_o a1_Lasts, r45 a1_Items_o a1_Items]) (es' := fun ⟨x11, x12⟩ => [o53 x11 x12 y9]) (mem' := fun ⟨x11, x12⟩ => [(4, r53 a1_Log_o a1_Log), (5, r83 a1_Lasts_o a1_Lasts), (6, r45 a1_Items_o a1_Items), (10, o53 x11 x12 y9)]) (env' := fun ⟨x11, x12⟩ => [(17, .slice x11 y9.length x12)]) [] [10] [17] [4, 5, 6, 10] false (by kernel_rfl) (by kernel_rfl) (by kernel_rfl) (by kernel_rfl) (by kernel_rfl) (fun _ => rfl) (fun _ _ => rfl) ⟨(.inl ⟨4, _, rfl, rfl, Cov.refl _, fun h => by cases h⟩), (.inl ⟨5, _, rfl, rfl, Cov.refl _, fun h => by cases h⟩), (.inl ⟨6, _, rfl, rfl, Cov.refl _, fun h => by cases h⟩), trivial⟩ (by rintro ⟨x11, x12⟩; kernel_rfl) (by rintro ⟨x11, x12⟩; kernel_rfl) (w_tholeref14_above F a1_Les a1_Tail a1_Log_o a1_Log_c a1_Log a1_Lasts_o a1_Lasts_c a1_Lasts a1_Items_o a1_Items_c a1_Items y3.1 e10) ?_
    rintro ⟨x11, x12⟩
    refine GR.run (i := 3) 1 (env' := fun _ => [(4, .slice x11 y9.length x12)]) (mem' := fun _ => [(10, o53 x11 x12 y9)]) (Nat.le_of_ble_eq_true (by kernel_rfl)) (RunsTo.mk [] [4] [10] (fun _ => []) (fun _ => by kernel_rfl) (fun _ => trivial)) ?_
    intro _
    refine GR.done (Nat.le_of_ble_eq_true (by kernel_rfl)) ?_
    have hy := Option.some.inj hm
    subst hy
    refine GS.ret (fn := Try.f15) [0] [.slice x11 y9.length x12] [] rfl Try.func15 (by kernel_rfl) trivial (fun w' hs => ?_)
    exact ⟨⟨x11, x12⟩, rfl, hs.turnedG (ks := [10]) rfl rfl⟩

theorem w_tholelaw14_MissingMeets (F : Nat) (a0_Les : Int) (a0_Tail : S_api_Version) (a0_Log_o : Option Addr) (a0_Log_c : Nat) (a0_Log : List S_api_Entry) (a0_Lasts_o : Option Addr) (a0_Lasts_c : Nat) (a0_Lasts : List S_api_Last) (a0_Items_o : Option Addr) (a0_Items_c : Nat) (a0_Items : List S_api_Item) (a1_Les : Int) (a1_Tail : S_api_Version) (a1_Log_o : Option Addr) (a1_Log_c : Nat) (a1_Log : List S_api_Entry) (a1_Lasts_o : Option Addr) (a1_Lasts_c : Nat) (a1_Lasts : List S_api_Last) (a1_Items_o : Option Addr) (a1_Items_c : Nat) (a1_Items : List S_api_Item) {y : Bool} (hm : m_tholelaw14_MissingMeets F a0_Les a0_Tail a0_Log a0_Lasts a0_Items a1_Les a1_Tail a1_Log a1_Lasts a1_Items = some y) : CallG Try.prog 3 #[.agg #[.int .i64 a0_Les, .int .i64 a0_Tail.Epoch, .int .i64 a0_Tail.N, .slice a0_Log_o a0_Log.length a0_Log_c, .slice a0_Lasts_o a0_Lasts.length a0_Lasts_c, .slice a0_Items_o a0_Items.length a0_Items_c], .agg #[.int .i64 a1_Les, .int .i64 a1_Tail.Epoch, .int .i64 a1_Tail.N, .slice a1_Log_o a1_Log.length a1_Log_c, .slice a1_Lasts_o a1_Lasts.length a1_Lasts_c, .slice a1_Items_o a1_Items.length a1_Items_c]] (X := Unit) (fun (_ : Unit) => .bool y) [] [r53 a0_Log_o a0_Log, r83 a0_Lasts_o a0_Lasts, r45 a0_Items_o a0_Items, r53 a1_Log_o a1_Log, r83 a1_Lasts_o a1_Lasts, r45 a1_Items_o a1_Items] (fun (_ : Unit) => []) := by
  intro w hg
  rw [m_tholelaw14_MissingMeets] at hm
  refine GS.start (S := mayT [] [r53 a0_Log_o a0_Log, r83 a0_Lasts_o a0_Lasts, r45 a0_Items_o a0_Items, r53 a1_Log_o a1_Log, r83 a1_Lasts_o a1_Lasts, r45 a1_Items_o a1_Items]) (mem := [(1, r53 a0_Log_o a0_Log), (2, r83 a0_Lasts_o a0_Lasts), (3, r45 a0_Items_o a0_Items), (4, r53 a1_Log_o a1_Log), (5, r83 a1_Lasts_o a1_Lasts), (6, r45 a1_Items_o a1_Items)]) Try.func3 rfl Try.ntmps3 (Nat.le_of_ble_eq_true rfl) (hg.start rfl) ?_
  refine GS.conv (env' := [(0, .agg #[.int .i64 a0_Les, .int .i64 a0_Tail.Epoch, .int .i64 a0_Tail.N, .slice a0_Log_o a0_Log.length a0_Log_c, .slice a0_Lasts_o a0_Lasts.length a0_Lasts_c, .slice a0_Items_o a0_Items.length a0_Items_c]), (1, .agg #[.int .i64 a1_Les, .int .i64 a1_Tail.Epoch, .int .i64 a1_Tail.N, .slice a1_Log_o a1_Log.length a1_Log_c, .slice a1_Lasts_o a1_Lasts.length a1_Lasts_c, .slice a1_Items_o a1_Items.length a1_Items_c])]) rfl rfl ?_
  refine GS.seq ?_
  refine GS.region (env' := fun fr1 => [(2, .pointer (some ⟨(fr1 0).x, 0, none⟩)), (3, .pointer (some ⟨(fr1 1).x, 0, none⟩))]) (mem' := fun fr1 => [(1, r53 a0_Log_o a0_Log), (2, r83 a0_Lasts_o a0_Lasts), (3, r45 a0_Items_o a0_Items), (4, r53 a1_Log_o a1_Log), (5, r83 a1_Lasts_o a1_Lasts), (6, r45 a1_Items_o a1_Items), (7, .cells ((fr1 0).x) 28 [.int .i64 a0_Les, .int .i64 a0_Tail.Epoch, .int .i64 a0_Tail.N, .slice a0_Log_o a0_Log.length a0_Log_c, .slice a0_Lasts_o a0_Lasts.length a0_Lasts_c, .slice a0_Items_o a0_Items.length a0_Items_c]), (8, .cells ((fr1 1).x) 28 [.int .i64 a1_Les, .int .i64 a1_Tail.Epoch, .int .i64 a1_Tail.N, .slice a1_Log_o a1_Log.length a1_Log_c, .slice a1_Lasts_o a1_Lasts.length a1_Lasts_c, .slice a1_Items_o a1_Items.length a1_Items_c])]) (RunsTo.mk [(0, { act := .new .var, key := some 7 }), (1, { act := .new .var, key := some 8 })] [2, 3] [1, 2, 3, 4, 5, 6, 7, 8] (fun fr1 => []) (fun fr1 => by kernel_rfl) (fun fr1 => trivial)) ?_
  intro fr1
  refine GS.seq ?_
  refine GS.seq ?_
  refine bnd_elim hm (fun y3 e4 hm => ?_)
  refine GS.region (env' := fun _ => [(2, .pointer (some ⟨(fr1 0).x, 0, none⟩)), (3, .pointer (some ⟨(fr1 1).x, 0, none⟩)), (11, .bool y3)]) (mem' := fun _ => [(1, r53 a0_Log_o a0_Log), (2, r83 a0_Lasts_o a0_Lasts), (3, r45 a0_Items_o a0_Items), (4, r53 a1_Log_o a1_Log), (5, r83 a1_Lasts_o a1_Lasts), (6, r45 a1_Items_o a1_Items), (7, .cells ((fr1 0).x) 28 [.int .i64 a0_Les, .int .i64 a0_Tail.Epoch, .int .i64 a0_Tail.N, .slice a0_Log_o a0_Log.length a0_Log_c, .slice a0_Lasts_o a0_Lasts.length a0_Lasts_c, .slice a0_Items_o a0_Items.length a0_Items_c]), (8, .cells ((fr1 1).x) 28 [.int .i64 a1_Les, .int .i64 a1_Tail.Epoch, .int .i64 a1_Tail.N, .slice a1_Log_o a1_Log.length a1_Log_c, .slice a1_Lasts_o a1_Lasts.length a1_Lasts_c, .slice a1_Items_o a1_Items.length a1_Items_c])]) (RunsTo.mk [(0, { act := .load 7 0 0 [] }), (1, { act := .load 8 0 0 [] }), (2, { act := .call [1, 2, 3, 4, 5, 6] (.bool y3) })] [2, 3, 11] [1, 2, 3, 4, 5, 6, 7, 8] (fun _ => [(fr1 0).x = (fr1 0).x, (fr1 1).x = (fr1 1).x, CallOK Try.prog 7 #[.agg #[.int .i64 a0_Les, .int .i64 a0_Tail.Epoch, .int .i64 a0_Tail.N, .slice a0_Log_o a0_Log.length a0_Log_c, .slice a0_Lasts_o a0_Lasts.length a0_Lasts_c, .slice a0_Items_o a0_Items.length a0_Items_c], .agg #[.int .i64 a1_Les, .int .i64 a1_Tail.Epoch, .int .i64 a1_Tail.N, .slice a1_Log_o a1_Log.length a1_Log_c, .slice a1_Lasts_o a1_Lasts.length a1_Lasts_c, .slice a1_Items_o a1_Items.length a1_Items_c]] (.bool y3) [some (r53 a0_Log_o a0_Log), some (r83 a0_Lasts_o a0_Lasts), some (r45 a0_Items_o a0_Items), some (r53 a1_Log_o a1_Log), some (r83 a1_Lasts_o a1_Lasts), some (r45 a1_Items_o a1_Items)]]) (fun _ => by kernel_rfl) (fun _ => ⟨rfl, rfl, (w_tholelaw14_far F a0_Les a0_Tail a0_Log_o a0_Log_c a0_Log a0_Lasts_o a0_Lasts_c a0_Lasts a0_Items_o a0_Items_c a0_Items a1_Les a1_Tail a1_Log_o a1_Log_c a1_Log a1_Lasts_o a1_Lasts_c a1_Lasts a1_Items_o a1_Items_c a1_Items e4).ok ⟨(.inl ⟨r53 a0_Log_o a0_Log, .head _, Cov.refl _⟩), (.inl ⟨r83 a0_Lasts_o a0_Lasts, (.tail _ (.head _)), Cov.refl _⟩), (.inl ⟨r45 a0_Items_o a0_Items, (.tail _ (.tail _ (.head _))), Cov.refl _⟩), (.inl ⟨r53 a1_Log_o a1_Log, (.tail _ (.tail _ (.tail _ (.head _)))), Cov.refl _⟩), (.inl ⟨r83 a1_Lasts_o a1_Lasts, (.tail _ (.tail _ (.tail _ (.tail _ (.head _))))), Cov.refl _⟩), (.inl ⟨r45 a1_Items_o a1_Items, (.tail _ (.tail _ (.tail _ (.tail _ (.tail _ (.head _)))))), Cov.refl _⟩), trivial⟩, trivial⟩)) ?_
  intro _
  refine GS.cond (t := y3) rfl rfl (fun h5 => ?_) (fun h5 => ?_)
  · replace hm := br_t h5 hm
    refine GS.seq ?_
    refine bnd_elim hm (fun y7 e8 hm => ?_)
    refine GS.region (env' := fun _ => [(4, .bool y7)]) (mem' := fun _ => []) (RunsTo.mk [(0, { act := .call [] (.bool y7) })] [4] [] (fun _ => [CallOK Try.prog 8 #[] (.bool y7) []]) (fun _ => by kernel_rfl) (fun _ => ⟨(w_tholelaw14_awake F  e8).ok trivial, trivial⟩)) ?_
    intro _
    have hy := Option.some.inj hm
    subst hy
    refine GS.ret (fn := Try.f3) [0] [.bool y7] [] rfl Try.func3 (by kernel_rfl) trivial (fun w' hs => ?_)
    exact ⟨(), rfl, hs.turnedG (ks := []) rfl rfl⟩
  · replace hm := br_f h5 hm
    refine GS.skip ?_
    refine GS.seq ?_
    refine bnd_elim hm (fun y10 e11 hm => ?_)
    refine GS.region (env' := fun fr9 => [(2, .pointer (some ⟨(fr1 0).x, 0, none⟩)), (3, .pointer (some ⟨(fr1 1).x, 0, none⟩)), (5, .pointer (some ⟨(fr9 6).x, 0, none⟩)), (6, .bool y10.2)]) (mem' := fun fr9 => [(1, r53 a0_Log_o a0_Log), (2, r83 a0_Lasts_o a0_Lasts), (3, r45 a0_Items_o a0_Items), (4, r53 a1_Log_o a1_Log), (5, r83 a1_Lasts_o a1_Lasts), (6, r45 a1_Items_o a1_Items), (7, .cells ((fr1 0).x) 28 [.int .i64 a0_Les, .int .i64 a0_Tail.Epoch, .int .i64 a0_Tail.N, .slice a0_Log_o a0_Log.length a0_Log_c, .slice a0_Lasts_o a0_Lasts.length a0_Lasts_c, .slice a0_Items_o a0_Items.length a0_Items_c]), (8, .cells ((fr1 1).x) 28 [.int .i64 a1_Les, .int .i64 a1_Tail.Epoch, .int .i64 a1_Tail.N, .slice a1_Log_o a1_Log.length a1_Log_c, .slice a1_Lasts_o a1_Lasts.length a1_Lasts_c, .slice a1_Items_o a1_Items.length a1_Items_c]), (9, .cells ((fr9 6).x) 23 [.int .i64 y10.1.Epoch, .int .i64 y10.1.N])]) (RunsTo.mk [(0, { act := .load 7 0 0 [] }), (1, { act := .load 8 0 0 [] }), (2, { act := .call [1, 2, 3, 4, 5, 6] (.tuple #[.agg #[.int .i64 y10.1.Epoch, .int .i64 y10.1.N], .bool y10.2]) }), (6, { act := .new .var, key := some 9 }), (7, { act := .store 0 0 [], key := some 9 })] [2, 3, 5, 6] [1, 2, 3, 4, 5, 6, 7, 8, 9] (fun fr9 => [(fr1 0).x = (fr1 0).x, (fr1 1).x = (fr1 1).x, CallOK Try.prog 9 #[.agg #[.int .i64 a0_Les, .int .i64 a0_Tail.Epoch, .int .i64 a0_Tail.N, .slice a0_Log_o a0_Log.length a0_Log_c, .slice a0_Lasts_o a0_Lasts.length a0_Lasts_c, .slice a0_Items_o a0_Items.length a0_Items_c], .agg #[.int .i64 a1_Les, .int .i64 a1_Tail.Epoch, .int .i64 a1_Tail.N, .slice a1_Log_o a1_Log.length a1_Log_c, .slice a1_Lasts_o a1_Lasts.length a1_Lasts_c, .slice a1_Items_o a1_Items.length a1_Items_c]] (.tuple #[.agg #[.int .i64 y10.1.Epoch, .int .i64 y10.1.N], .bool y10.2]) [some (r53 a0_Log_o a0_Log), some (r83 a0_Lasts_o a0_Lasts), some (r45 a0_Items_o a0_Items), some (r53 a1_Log_o a1_Log), some (r83 a1_Lasts_o a1_Lasts), some (r45 a1_Items_o a1_Items)], (fr9 6).x = (fr9 6).x, ((.agg #[.int .i64 y10.1.Epoch, .int .i64 y10.1.N]) : Value).cells.toList.all Value.oneCell' = true]) (fun fr9 => by kernel_rfl) (fun fr9 => ⟨rfl, rfl, (w_missing_Common F a0_Les a0_Tail a0_Log_o a0_Log_c a0_Log a0_Lasts_o a0_Lasts_c a0_Lasts a0_Items_o a0_Items_c a0_Items a1_Les a1_Tail a1_Log_o a1_Log_c a1_Log a1_Lasts_o a1_Lasts_c a1_Lasts a1_Items_o a1_Items_c a1_Items e11).ok ⟨(.inl ⟨r53 a0_Log_o a0_Log, .head _, Cov.refl _⟩), (.inl ⟨r83 a0_Lasts_o a0_Lasts, (.tail _ (.head _)), Cov.refl _⟩), (.inl ⟨r45 a0_Items_o a0_Items, (.tail _ (.tail _ (.head _))), Cov.refl _⟩), (.inl ⟨r53 a1_Log_o a1_Log, (.tail _ (.tail _ (.tail _ (.head _)))), Cov.refl _⟩), (.inl ⟨r83 a1_Lasts_o a1_Lasts, (.tail _ (.tail _ (.tail _ (.tail _ (.head _))))), Cov.refl _⟩), (.inl ⟨r45 a1_Items_o a1_Items, (.tail _ (.tail _ (.tail _ (.tail _ (.tail _ (.head _)))))), Cov.refl _⟩), trivial⟩, rfl, rfl, trivial⟩)) ?_
    intro fr9
    refine GS.seq ?_
    refine bnd_elim hm (fun y13 e14 hm => ?_)
    refine GS.region (env' := fun fr12 => [(2, .pointer (some ⟨(fr1 0).x, 0, none⟩)), (3, .pointer (some ⟨(fr1 1).x, 0, none⟩)), (5, .pointer (some ⟨(fr9 6).x, 0, none⟩)), (6, .bool y10.2), (7, .pointer (some ⟨(fr12 6).x, 0, none⟩)), (8, .bool y13.2)]) (mem' := fun fr12 => [(1, r53 a0_Log_o a0_Log), (2, r83 a0_Lasts_o a0_Lasts), (3, r45 a0_Items_o a0_Items), (4, r53 a1_Log_o a1_Log), (5, r83 a1_Lasts_o a1_Lasts), (6, r45 a1_Items_o a1_Items), (7, .cells ((fr1 0).x) 28 [.int .i64 a0_Les, .int .i64 a0_Tail.Epoch, .int .i64 a0_Tail.N, .slice a0_Log_o a0_Log.length a0_Log_c, .slice a0_Lasts_o a0_Lasts.length a0_Lasts_c, .slice a0_Items_o a0_Items.length a0_Items_c]), (8, .cells ((fr1 1).x) 28 [.int .i64 a1_Les, .int .i64 a1_Tail.Epoch, .int .i64 a1_Tail.N, .slice a1_Log_o a1_Log.length a1_Log_c, .slice a1_Lasts_o a1_Lasts.length a1_Lasts_c, .slice a1_Items_o a1_Items.length a1_Items_c]), (9, .cells ((fr9 6).x) 23 [.int .i64 y10.1.Epoch, .int .i64 y10.1.N]), (10, .cells ((fr12 6).x) 23 [.int .i64 y13.1.Epoch, .int .i64 y13.1.N])]) (RunsTo.mk [(0, { act := .load 7 0 0 [] }), (1, { act := .load 8 0 0 [] }), (2, { act := .call [1, 2, 3, 4, 5, 6] (.tuple #[.agg #[.int .i64 y13.1.Epoch, .int .i64 y13.1.N], .bool y13.2]) }), (6, { act := .new .var, key := some 10 }), (7, { act := .store 0 0 [], key := some 10 })] [2, 3, 5, 6, 7, 8] [1, 2, 3, 4, 5, 6, 7, 8, 9, 10] (fun fr12 => [(fr1 0).x = (fr1 0).x, (fr1 1).x = (fr1 1).x, CallOK Try.prog 10 #[.agg #[.int .i64 a0_Les, .int .i64 a0_Tail.Epoch, .int .i64 a0_Tail.N, .slice a0_Log_o a0_Log.length a0_Log_c, .slice a0_Lasts_o a0_Lasts.length a0_Lasts_c, .slice a0_Items_o a0_Items.length a0_Items_c], .agg #[.int .i64 a1_Les, .int .i64 a1_Tail.Epoch, .int .i64 a1_Tail.N, .slice a1_Log_o a1_Log.length a1_Log_c, .slice a1_Lasts_o a1_Lasts.length a1_Lasts_c, .slice a1_Items_o a1_Items.length a1_Items_c]] (.tuple #[.agg #[.int .i64 y13.1.Epoch, .int .i64 y13.1.N], .bool y13.2]) [some (r53 a0_Log_o a0_Log), some (r83 a0_Lasts_o a0_Lasts), some (r45 a0_Items_o a0_Items), some (r53 a1_Log_o a1_Log), some (r83 a1_Lasts_o a1_Lasts), some (r45 a1_Items_o a1_Items)], (fr12 6).x = (fr12 6).x, ((.agg #[.int .i64 y13.1.Epoch, .int .i64 y13.1.N]) : Value).cells.toList.all Value.oneCell' = true]) (fun fr12 => by kernel_rfl) (fun fr12 => ⟨rfl, rfl, (w_tholeref14_Common F a0_Les a0_Tail a0_Log_o a0_Log_c a0_Log a0_Lasts_o a0_Lasts_c a0_Lasts a0_Items_o a0_Items_c a0_Items a1_Les a1_Tail a1_Log_o a1_Log_c a1_Log a1_Lasts_o a1_Lasts_c a1_Lasts a1_Items_o a1_Items_c a1_Items e14).ok ⟨(.inl ⟨r53 a0_Log_o a0_Log, .head _, Cov.refl _⟩), (.inl ⟨r83 a0_Lasts_o a0_Lasts, (.tail _ (.head _)), Cov.refl _⟩), (.inl ⟨r45 a0_Items_o a0_Items, (.tail _ (.tail _ (.head _))), Cov.refl _⟩), (.inl ⟨r53 a1_Log_o a1_Log, (.tail _ (.tail _ (.tail _ (.head _)))), Cov.refl _⟩), (.inl ⟨r83 a1_Lasts_o a1_Lasts, (.tail _ (.tail _ (.tail _ (.tail _ (.head _))))), Cov.refl _⟩), (.inl ⟨r45 a1_Items_o a1_Items, (.tail _ (.tail _ (.tail _ (.tail _ (.tail _ (.head _)))))), Cov.refl _⟩), trivial⟩, rfl, rfl, trivial⟩)) ?_
    intro fr12
    refine GS.seq ?_
    refine br_elim hm (fun h16 hm => ?_) (fun h16 hm => ?_)
    · skip
      refine br_elim hm (fun h17 hm => ?_) (fun h17 hm => ?_)
      · skip
        refine bnd_elim hm (fun y18 e19 hm => ?_)
        refine bnd_elim hm (fun y22 e23 hm => ?_)
        refine bnd_elim hm (fun y26 e27 hm => ?_)
        refine br_elim hm (fun h28 hm => ?_) (fun h28 hm => ?_)
        · skip
          refine bnd_elim hm (fun y29 e30 hm => ?_)
          refine bnd_elim hm (fun y33 e34 hm => ?_)
          refine bnd_elim hm (fun y37 e38 hm => ?_)
          refine br_elim hm (fun h39 hm => ?_) (fun h39 hm => ?_)
          · skip
            refine bnd_elim hm (fun y40 e41 hm => ?_)
            refine GS.region (env' := fun fr15 => [(4, .bool y40)]) (mem' := fun fr15 => []) (RunsTo.mkd [(0, { act := .load 9 0 0 [] }), (1, { act := .load 10 0 0 [] }), (2, { act := .eq }), (3, { sp := some (.bool true) }), (8, { sp := some (.bool true) }), (9, { act := .load 7 0 0 [] }), (10, { act := .load 8 0 0 [] }), (11, { act := .calln [1, 2, 3, 4, 5, 6] (fun f => .slice f.ob y18.length f.cap) (fun f => o53 f.ob f.cap y18), key := some 11 }), (12, { act := .load 7 0 0 [] }), (13, { act := .load 8 0 0 [] }), (14, { act := .calln [1, 2, 3, 4, 5, 6] (fun f => .slice f.ob y22.length f.cap) (fun f => o53 f.ob f.cap y22), key := some 12 }), (15, { act := .call [11, 12] (.bool y26) }), (17, { sp := some (.bool true) }), (18, { act := .load 7 0 0 [] }), (19, { act := .load 8 0 0 [] }), (20, { act := .calln [1, 2, 3, 4, 5, 6] (fun f => .slice f.ob y29.length f.cap) (fun f => o53 f.ob f.cap y29), key := some 13 }), (21, { act := .load 7 0 0 [] }), (22, { act := .load 8 0 0 [] }), (23, { act := .calln [1, 2, 3, 4, 5, 6] (fun f => .slice f.ob y33.length f.cap) (fun f => o53 f.ob f.cap y33), key := some 14 }), (24, { act := .call [13, 14] (.bool y37) }), (26, { sp := some (.bool true) }), (27, { act := .call [] (.bool y40) })] [4] [] (fun fr15 => [(fr9 6).x = (fr9 6).x, (fr12 6).x = (fr12 6).x, ((.bool (S_api_Version.beq y10.1 y13.1)) : Value) = .bool true, ((.bool (y10.2 == y13.2)) : Value) = .bool true, (fr1 0).x = (fr1 0).x, (fr1 1).x = (fr1 1).x, CallN Try.prog 12 #[.agg #[.int .i64 a0_Les, .int .i64 a0_Tail.Epoch, .int .i64 a0_Tail.N, .slice a0_Log_o a0_Log.length a0_Log_c, .slice a0_Lasts_o a0_Lasts.length a0_Lasts_c, .slice a0_Items_o a0_Items.length a0_Items_c], .agg #[.int .i64 a1_Les, .int .i64 a1_Tail.Epoch, .int .i64 a1_Tail.N, .slice a1_Log_o a1_Log.length a1_Log_c, .slice a1_Lasts_o a1_Lasts.length a1_Lasts_c, .slice a1_Items_o a1_Items.length a1_Items_c]] (fun f => .slice f.ob y18.length f.cap) (fun f => o53 f.ob f.cap y18) [some (r53 a0_Log_o a0_Log), some (r83 a0_Lasts_o a0_Lasts), some (r45 a0_Items_o a0_Items), some (r53 a1_Log_o a1_Log), some (r83 a1_Lasts_o a1_Lasts), some (r45 a1_Items_o a1_Items)], (fr1 0).x = (fr1 0).x, (fr1 1).x = (fr1 1).x, CallN Try.prog 13 #[.agg #[.int .i64 a0_Les, .int .i64 a0_Tail.Epoch, .int .i64 a0_Tail.N, .slice a0_Log_o a0_Log.length a0_Log_c, .slice a0_Lasts_o a0_Lasts.length a0_Lasts_c, .slice a0_Items_o a0_Items.length a0_Items_c], .agg #[.int .i64 a1_Les, .int .i64 a1_Tail.Epoch, .int .i64 a1_Tail.N, .slice a1_Log_o a1_Log.length a1_Log_c, .slice a1_Lasts_o a1_Lasts.length a1_Lasts_c, .slice a1_Items_o a1_Items.length a1_Items_c]] (fun f => .slice f.ob y22.length f.cap) (fun f => o53 f.ob f.cap y22) [some (r53 a0_Log_o a0_Log), some (r83 a0_Lasts_o a0_Lasts), some (r45 a0_Items_o a0_Items), some (r53 a1_Log_o a1_Log), some (r83 a1_Lasts_o a1_Lasts), some (r45 a1_Items_o a1_Items)], CallOK Try.prog 11 #[.slice ((fr15 11).ob) y18.length ((fr15 11).cap), .slice ((fr15 14).ob) y22.length ((fr15 14).cap)] (.bool y26) [some (o53 ((fr15 11).ob) ((fr15 11).cap) y18), some (o53 ((fr15 14).ob) ((fr15 14).cap) y22)], ((.bool y26) : Value) = .bool true, (fr1 0).x = (fr1 0).x, (fr1 1).x = (fr1 1).x, CallN Try.prog 14 #[.agg #[.int .i64 a0_Les, .int .i64 a0_Tail.Epoch, .int .i64 a0_Tail.N, .slice a0_Log_o a0_Log.length a0_Log_c, .slice a0_Lasts_o a0_Lasts.length a0_Lasts_c, .slice a0_Items_o a0_Items.length a0_Items_c], .agg #[.int .i64 a1_Les, .int .i64 a1_Tail.Epoch, .int .i64 a1_Tail.N, .slice a1_Log_o a1_Log.length a1_Log_c, .slice a1_Lasts_o a1_Lasts.length a1_Lasts_c, .slice a1_Items_o a1_Items.length a1_Items_c]] (fun f => .slice f.ob y29.length f.cap) (fun f => o53 f.ob f.cap y29) [some (r53 a0_Log_o a0_Log), some (r83 a0_Lasts_o a0_Lasts), some (r45 a0_Items_o a0_Items), some (r53 a1_Log_o a1_Log), some (r83 a1_Lasts_o a1_Lasts), some (r45 a1_Items_o a1_Items)], (fr1 0).x = (fr1 0).x, (fr1 1).x = (fr1 1).x, CallN Try.prog 15 #[.agg #[.int .i64 a0_Les, .int .i64 a0_Tail.Epoch, .int .i64 a0_Tail.N, .slice a0_Log_o a0_Log.length a0_Log_c, .slice a0_Lasts_o a0_Lasts.length a0_Lasts_c, .slice a0_Items_o a0_Items.length a0_Items_c], .agg #[.int .i64 a1_Les, .int .i64 a1_Tail.Epoch, .int .i64 a1_Tail.N, .slice a1_Log_o a1_Log.length a1_Log_c, .slice a1_Lasts_o a1_Lasts.length a1_Lasts_c, .slice a1_Items_o a1_Items.length a1_Items_c]] (fun f => .slice f.ob y33.length f.cap) (fun f => o53 f.ob f.cap y33) [some (r53 a0_Log_o a0_Log), some (r83 a0_Lasts_o a0_Lasts), some (r45 a0_Items_o a0_Items), some (r53 a1_Log_o a1_Log), some (r83 a1_Lasts_o a1_Lasts), some (r45 a1_Items_o a1_Items)], CallOK Try.prog 11 #[.slice ((fr15 20).ob) y29.length ((fr15 20).cap), .slice ((fr15 23).ob) y33.length ((fr15 23).cap)] (.bool y37) [some (o53 ((fr15 20).ob) ((fr15 20).cap) y29), some (o53 ((fr15 23).ob) ((fr15 23).cap) y33)], ((.bool y37) : Value) = .bool true, CallOK Try.prog 8 #[] (.bool y40) []]) (by kernel_rfl) (by kernel_rfl) (fun fr15 => by kernel_rfl) (fun fr15 => ⟨rfl, rfl, bool_eq h16, bool_eq h17, rfl, rfl, CallG.toN (w_missing_Divergent F a0_Les a0_Tail a0_Log_o a0_Log_c a0_Log a0_Lasts_o a0_Lasts_c a0_Lasts a0_Items_o a0_Items_c a0_Items a1_Les a1_Tail a1_Log_o a1_Log_c a1_Log a1_Lasts_o a1_Lasts_c a1_Lasts a1_Items_o a1_Items_c a1_Items e19) ⟨(.inl ⟨r53 a0_Log_o a0_Log, .head _, Cov.refl _⟩), (.inl ⟨r83 a0_Lasts_o a0_Lasts, (.tail _ (.head _)), Cov.refl _⟩), (.inl ⟨r45 a0_Items_o a0_Items, (.tail _ (.tail _ (.head _))), Cov.refl _⟩), (.inl ⟨r53 a1_Log_o a1_Log, (.tail _ (.tail _ (.tail _ (.head _)))), Cov.refl _⟩), (.inl ⟨r83 a1_Lasts_o a1_Lasts, (.tail _ (.tail _ (.tail _ (.tail _ (.head _))))), Cov.refl _⟩), (.inl ⟨r45 a1_Items_o a1_Items, (.tail _ (.tail _ (.tail _ (.tail _ (.tail _ (.head _)))))), Cov.refl _⟩), trivial⟩, rfl, rfl, CallG.toN (w_tholeref14_Divergent F a0_Les a0_Tail a0_Log_o a0_Log_c a0_Log a0_Lasts_o a0_Lasts_c a0_Lasts a0_Items_o a0_Items_c a0_Items a1_Les a1_Tail a1_Log_o a1_Log_c a1_Log a1_Lasts_o a1_Lasts_c a1_Lasts a1_Items_o a1_Items_c a1_Items e23) ⟨(.inl ⟨r53 a0_Log_o a0_Log, .head _, Cov.refl _⟩), (.inl ⟨r83 a0_Lasts_o a0_Lasts, (.tail _ (.head _)), Cov.refl _⟩), (.inl ⟨r45 a0_Items_o a0_Items, (.tail _ (.tail _ (.head _))), Cov.refl _⟩), (.inl ⟨r53 a1_Log_o a1_Log, (.tail _ (.tail _ (.tail _ (.head _)))), Cov.refl _⟩), (.inl ⟨r83 a1_Lasts_o a1_Lasts, (.tail _ (.tail _ (.tail _ (.tail _ (.head _))))), Cov.refl _⟩), (.inl ⟨r45 a1_Items_o a1_Items, (.tail _ (.tail _ (.tail _ (.tail _ (.tail _ (.head _)))))), Cov.refl _⟩), trivial⟩, (w_tholelaw14_entries F ((fr15 11).ob) ((fr15 11).cap) y18 ((fr15 14).ob) ((fr15 14).cap) y22 e27).ok ⟨(.inl ⟨o53 ((fr15 11).ob) ((fr15 11).cap) y18, .head _, Cov.osl_rd⟩), (.inl ⟨o53 ((fr15 14).ob) ((fr15 14).cap) y22, (.tail _ (.head _)), Cov.osl_rd⟩), trivial⟩, bool_eq h28, rfl, rfl, CallG.toN (w_missing_Lacking F a0_Les a0_Tail a0_Log_o a0_Log_c a0_Log a0_Lasts_o a0_Lasts_c a0_Lasts a0_Items_o a0_Items_c a0_Items a1_Les a1_Tail a1_Log_o a1_Log_c a1_Log a1_Lasts_o a1_Lasts_c a1_Lasts a1_Items_o a1_Items_c a1_Items e30) ⟨(.inl ⟨r53 a0_Log_o a0_Log, .head _, Cov.refl _⟩), (.inl ⟨r83 a0_Lasts_o a0_Lasts, (.tail _ (.head _)), Cov.refl _⟩), (.inl ⟨r45 a0_Items_o a0_Items, (.tail _ (.tail _ (.head _))), Cov.refl _⟩), (.inl ⟨r53 a1_Log_o a1_Log, (.tail _ (.tail _ (.tail _ (.head _)))), Cov.refl _⟩), (.inl ⟨r83 a1_Lasts_o a1_Lasts, (.tail _ (.tail _ (.tail _ (.tail _ (.head _))))), Cov.refl _⟩), (.inl ⟨r45 a1_Items_o a1_Items, (.tail _ (.tail _ (.tail _ (.tail _ (.tail _ (.head _)))))), Cov.refl _⟩), trivial⟩, rfl, rfl, CallG.toN (w_tholeref14_Lacking F a0_Les a0_Tail a0_Log_o a0_Log_c a0_Log a0_Lasts_o a0_Lasts_c a0_Lasts a0_Items_o a0_Items_c a0_Items a1_Les a1_Tail a1_Log_o a1_Log_c a1_Log a1_Lasts_o a1_Lasts_c a1_Lasts a1_Items_o a1_Items_c a1_Items e34) ⟨(.inl ⟨r53 a0_Log_o a0_Log, .head _, Cov.refl _⟩), (.inl ⟨r83 a0_Lasts_o a0_Lasts, (.tail _ (.head _)), Cov.refl _⟩), (.inl ⟨r45 a0_Items_o a0_Items, (.tail _ (.tail _ (.head _))), Cov.refl _⟩), (.inl ⟨r53 a1_Log_o a1_Log, (.tail _ (.tail _ (.tail _ (.head _)))), Cov.refl _⟩), (.inl ⟨r83 a1_Lasts_o a1_Lasts, (.tail _ (.tail _ (.tail _ (.tail _ (.head _))))), Cov.refl _⟩), (.inl ⟨r45 a1_Items_o a1_Items, (.tail _ (.tail _ (.tail _ (.tail _ (.tail _ (.head _)))))), Cov.refl _⟩), trivial⟩, (w_tholelaw14_entries F ((fr15 20).ob) ((fr15 20).cap) y29 ((fr15 23).ob) ((fr15 23).cap) y33 e38).ok ⟨(.inl ⟨o53 ((fr15 20).ob) ((fr15 20).cap) y29, .head _, Cov.osl_rd⟩), (.inl ⟨o53 ((fr15 23).ob) ((fr15 23).cap) y33, (.tail _ (.head _)), Cov.osl_rd⟩), trivial⟩, bool_eq h39, (w_tholelaw14_awake F  e41).ok trivial, trivial⟩)) ?_
            intro fr15
            have hy := Option.some.inj hm
            subst hy
            refine GS.ret (fn := Try.f3) [0] [.bool y40] [] rfl Try.func3 (by kernel_rfl) trivial (fun w' hs => ?_)
            exact ⟨(), rfl, hs.turnedG (ks := []) rfl rfl⟩
          · skip
            refine GS.region (env' := fun fr15 => [(4, .bool false)]) (mem' := fun fr15 => []) (RunsTo.mkd [(0, { act := .load 9 0 0 [] }), (1, { act := .load 10 0 0 [] }), (2, { act := .eq }), (3, { sp := some (.bool true) }), (8, { sp := some (.bool true) }), (9, { act := .load 7 0 0 [] }), (10, { act := .load 8 0 0 [] }), (11, { act := .calln [1, 2, 3, 4, 5, 6] (fun f => .slice f.ob y18.length f.cap) (fun f => o53 f.ob f.cap y18), key := some 11 }), (12, { act := .load 7 0 0 [] }), (13, { act := .load 8 0 0 [] }), (14, { act := .calln [1, 2, 3, 4, 5, 6] (fun f => .slice f.ob y22.length f.cap) (fun f => o53 f.ob f.cap y22), key := some 12 }), (15, { act := .call [11, 12] (.bool y26) }), (17, { sp := some (.bool true) }), (18, { act := .load 7 0 0 [] }), (19, { act := .load 8 0 0 [] }), (20, { act := .calln [1, 2, 3, 4, 5, 6] (fun f => .slice f.ob y29.length f.cap) (fun f => o53 f.ob f.cap y29), key := some 13 }), (21, { act := .load 7 0 0 [] }), (22, { act := .load 8 0 0 [] }), (23, { act := .calln [1, 2, 3, 4, 5, 6] (fun f => .slice f.ob y33.length f.cap) (fun f => o53 f.ob f.cap y33), key := some 14 }), (24, { act := .call [13, 14] (.bool y37) }), (26, { sp := some (.bool false) })] [4] [] (fun fr15 => [(fr9 6).x = (fr9 6).x, (fr12 6).x = (fr12 6).x, ((.bool (S_api_Version.beq y10.1 y13.1)) : Value) = .bool true, ((.bool (y10.2 == y13.2)) : Value) = .bool true, (fr1 0).x = (fr1 0).x, (fr1 1).x = (fr1 1).x, CallN Try.prog 12 #[.agg #[.int .i64 a0_Les, .int .i64 a0_Tail.Epoch, .int .i64 a0_Tail.N, .slice a0_Log_o a0_Log.length a0_Log_c, .slice a0_Lasts_o a0_Lasts.length a0_Lasts_c, .slice a0_Items_o a0_Items.length a0_Items_c], .agg #[.int .i64 a1_Les, .int .i64 a1_Tail.Epoch, .int .i64 a1_Tail.N, .slice a1_Log_o a1_Log.length a1_Log_c, .slice a1_Lasts_o a1_Lasts.length a1_Lasts_c, .slice a1_Items_o a1_Items.length a1_Items_c]] (fun f => .slice f.ob y18.length f.cap) (fun f => o53 f.ob f.cap y18) [some (r53 a0_Log_o a0_Log), some (r83 a0_Lasts_o a0_Lasts), some (r45 a0_Items_o a0_Items), some (r53 a1_Log_o a1_Log), some (r83 a1_Lasts_o a1_Lasts), some (r45 a1_Items_o a1_Items)], (fr1 0).x = (fr1 0).x, (fr1 1).x = (fr1 1).x, CallN Try.prog 13 #[.agg #[.int .i64 a0_Les, .int .i64 a0_Tail.Epoch, .int .i64 a0_Tail.N, .slice a0_Log_o a0_Log.length a0_Log_c, .slice a0_Lasts_o a0_Lasts.length a0_Lasts_c, .slice a0_Items_o a0_Items.length a0_Items_c], .agg #[.int .i64 a1_Les, .int .i64 a1_Tail.Epoch, .int .i64 a1_Tail.N, .slice a1_Log_o a1_Log.length a1_Log_c, .slice a1_Lasts_o a1_Lasts.length a1_Lasts_c, .slice a1_Items_o a1_Items.length a1_Items_c]] (fun f => .slice f.ob y22.length f.cap) (fun f => o53 f.ob f.cap y22) [some (r53 a0_Log_o a0_Log), some (r83 a0_Lasts_o a0_Lasts), some (r45 a0_Items_o a0_Items), some (r53 a1_Log_o a1_Log), some (r83 a1_Lasts_o a1_Lasts), some (r45 a1_Items_o a1_Items)], CallOK Try.prog 11 #[.slice ((fr15 11).ob) y18.length ((fr15 11).cap), .slice ((fr15 14).ob) y22.length ((fr15 14).cap)] (.bool y26) [some (o53 ((fr15 11).ob) ((fr15 11).cap) y18), some (o53 ((fr15 14).ob) ((fr15 14).cap) y22)], ((.bool y26) : Value) = .bool true, (fr1 0).x = (fr1 0).x, (fr1 1).x = (fr1 1).x, CallN Try.prog 14 #[.agg #[.int .i64 a0_Les, .int .i64 a0_Tail.Epoch, .int .i64 a0_Tail.N, .slice a0_Log_o a0_Log.length a0_Log_c, .slice a0_Lasts_o a0_Lasts.length a0_Lasts_c, .slice a0_Items_o a0_Items.length a0_Items_c], .agg #[.int .i64 a1_Les, .int .i64 a1_Tail.Epoch, .int .i64 a1_Tail.N, .slice a1_Log_o a1_Log.length a1_Log_c, .slice a1_Lasts_o a1_Lasts.length a1_Lasts_c, .slice a1_Items_o a1_Items.length a1_Items_c]] (fun f => .slice f.ob y29.length f.cap) (fun f => o53 f.ob f.cap y29) [some (r53 a0_Log_o a0_Log), some (r83 a0_Lasts_o a0_Lasts), some (r45 a0_Items_o a0_Items), some (r53 a1_Log_o a1_Log), some (r83 a1_Lasts_o a1_Lasts), some (r45 a1_Items_o a1_Items)], (fr1 0).x = (fr1 0).x, (fr1 1).x = (fr1 1).x, CallN Try.prog 15 #[.agg #[.int .i64 a0_Les, .int .i64 a0_Tail.Epoch, .int .i64 a0_Tail.N, .slice a0_Log_o a0_Log.length a0_Log_c, .slice a0_Lasts_o a0_Lasts.length a0_Lasts_c, .slice a0_Items_o a0_Items.length a0_Items_c], .agg #[.int .i64 a1_Les, .int .i64 a1_Tail.Epoch, .int .i64 a1_Tail.N, .slice a1_Log_o a1_Log.length a1_Log_c, .slice a1_Lasts_o a1_Lasts.length a1_Lasts_c, .slice a1_Items_o a1_Items.length a1_Items_c]] (fun f => .slice f.ob y33.length f.cap) (fun f => o53 f.ob f.cap y33) [some (r53 a0_Log_o a0_Log), some (r83 a0_Lasts_o a0_Lasts), some (r45 a0_Items_o a0_Items), some (r53 a1_Log_o a1_Log), some (r83 a1_Lasts_o a1_Lasts), some (r45 a1_Items_o a1_Items)], CallOK Try.prog 11 #[.slice ((fr15 20).ob) y29.length ((fr15 20).cap), .slice ((fr15 23).ob) y33.length ((fr15 23).cap)] (.bool y37) [some (o53 ((fr15 20).ob) ((fr15 20).cap) y29), some (o53 ((fr15 23).ob) ((fr15 23).cap) y33)], ((.bool y37) : Value) = .bool false]) (by kernel_rfl) (by kernel_rfl) (fun fr15 => by kernel_rfl) (fun fr15 => ⟨rfl, rfl, bool_eq h16, bool_eq h17, rfl, rfl, CallG.toN (w_missing_Divergent F a0_Les a0_Tail a0_Log_o a0_Log_c a0_Log a0_Lasts_o a0_Lasts_c a0_Lasts a0_Items_o a0_Items_c a0_Items a1_Les a1_Tail a1_Log_o a1_Log_c a1_Log a1_Lasts_o a1_Lasts_c a1_Lasts a1_Items_o a1_Items_c a1_Items e19) ⟨(.inl ⟨r53 a0_Log_o a0_Log, .head _, Cov.refl _⟩), (.inl ⟨r83 a0_Lasts_o a0_Lasts, (.tail _ (.head _)), Cov.refl _⟩), (.inl ⟨r45 a0_Items_o a0_Items, (.tail _ (.tail _ (.head _))), Cov.refl _⟩), (.inl ⟨r53 a1_Log_o a1_Log, (.tail _ (.tail _ (.tail _ (.head _)))), Cov.refl _⟩), (.inl ⟨r83 a1_Lasts_o a1_Lasts, (.tail _ (.tail _ (.tail _ (.tail _ (.head _))))), Cov.refl _⟩), (.inl ⟨r45 a1_Items_o a1_Items, (.tail _ (.tail _ (.tail _ (.tail _ (.tail _ (.head _)))))), Cov.refl _⟩), trivial⟩, rfl, rfl, CallG.toN (w_tholeref14_Divergent F a0_Les a0_Tail a0_Log_o a0_Log_c a0_Log a0_Lasts_o a0_Lasts_c a0_Lasts a0_Items_o a0_Items_c a0_Items a1_Les a1_Tail a1_Log_o a1_Log_c a1_Log a1_Lasts_o a1_Lasts_c a1_Lasts a1_Items_o a1_Items_c a1_Items e23) ⟨(.inl ⟨r53 a0_Log_o a0_Log, .head _, Cov.refl _⟩), (.inl ⟨r83 a0_Lasts_o a0_Lasts, (.tail _ (.head _)), Cov.refl _⟩), (.inl ⟨r45 a0_Items_o a0_Items, (.tail _ (.tail _ (.head _))), Cov.refl _⟩), (.inl ⟨r53 a1_Log_o a1_Log, (.tail _ (.tail _ (.tail _ (.head _)))), Cov.refl _⟩), (.inl ⟨r83 a1_Lasts_o a1_Lasts, (.tail _ (.tail _ (.tail _ (.tail _ (.head _))))), Cov.refl _⟩), (.inl ⟨r45 a1_Items_o a1_Items, (.tail _ (.tail _ (.tail _ (.tail _ (.tail _ (.head _)))))), Cov.refl _⟩), trivial⟩, (w_tholelaw14_entries F ((fr15 11).ob) ((fr15 11).cap) y18 ((fr15 14).ob) ((fr15 14).cap) y22 e27).ok ⟨(.inl ⟨o53 ((fr15 11).ob) ((fr15 11).cap) y18, .head _, Cov.osl_rd⟩), (.inl ⟨o53 ((fr15 14).ob) ((fr15 14).cap) y22, (.tail _ (.head _)), Cov.osl_rd⟩), trivial⟩, bool_eq h28, rfl, rfl, CallG.toN (w_missing_Lacking F a0_Les a0_Tail a0_Log_o a0_Log_c a0_Log a0_Lasts_o a0_Lasts_c a0_Lasts a0_Items_o a0_Items_c a0_Items a1_Les a1_Tail a1_Log_o a1_Log_c a1_Log a1_Lasts_o a1_Lasts_c a1_Lasts a1_Items_o a1_Items_c a1_Items e30) ⟨(.inl ⟨r53 a0_Log_o a0_Log, .head _, Cov.refl _⟩), (.inl ⟨r83 a0_Lasts_o a0_Lasts, (.tail _ (.head _)), Cov.refl _⟩), (.inl ⟨r45 a0_Items_o a0_Items, (.tail _ (.tail _ (.head _))), Cov.refl _⟩), (.inl ⟨r53 a1_Log_o a1_Log, (.tail _ (.tail _ (.tail _ (.head _)))), Cov.refl _⟩), (.inl ⟨r83 a1_Lasts_o a1_Lasts, (.tail _ (.tail _ (.tail _ (.tail _ (.head _))))), Cov.refl _⟩), (.inl ⟨r45 a1_Items_o a1_Items, (.tail _ (.tail _ (.tail _ (.tail _ (.tail _ (.head _)))))), Cov.refl _⟩), trivial⟩, rfl, rfl, CallG.toN (w_tholeref14_Lacking F a0_Les a0_Tail a0_Log_o a0_Log_c a0_Log a0_Lasts_o a0_Lasts_c a0_Lasts a0_Items_o a0_Items_c a0_Items a1_Les a1_Tail a1_Log_o a1_Log_c a1_Log a1_Lasts_o a1_Lasts_c a1_Lasts a1_Items_o a1_Items_c a1_Items e34) ⟨(.inl ⟨r53 a0_Log_o a0_Log, .head _, Cov.refl _⟩), (.inl ⟨r83 a0_Lasts_o a0_Lasts, (.tail _ (.head _)), Cov.refl _⟩), (.inl ⟨r45 a0_Items_o a0_Items, (.tail _ (.tail _ (.head _))), Cov.refl _⟩), (.inl ⟨r53 a1_Log_o a1_Log, (.tail _ (.tail _ (.tail _ (.head _)))), Cov.refl _⟩), (.inl ⟨r83 a1_Lasts_o a1_Lasts, (.tail _ (.tail _ (.tail _ (.tail _ (.head _))))), Cov.refl _⟩), (.inl ⟨r45 a1_Items_o a1_Items, (.tail _ (.tail _ (.tail _ (.tail _ (.tail _ (.head _)))))), Cov.refl _⟩), trivial⟩, (w_tholelaw14_entries F ((fr15 20).ob) ((fr15 20).cap) y29 ((fr15 23).ob) ((fr15 23).cap) y33 e38).ok ⟨(.inl ⟨o53 ((fr15 20).ob) ((fr15 20).cap) y29, .head _, Cov.osl_rd⟩), (.inl ⟨o53 ((fr15 23).ob) ((fr15 23).cap) y33, (.tail _ (.head _)), Cov.osl_rd⟩), trivial⟩, bool_eq h39, trivial⟩)) ?_
            intro fr15
            have hy := Option.some.inj hm
            subst hy
            refine GS.ret (fn := Try.f3) [0] [.bool false] [] rfl Try.func3 (by kernel_rfl) trivial (fun w' hs => ?_)
            exact ⟨(), rfl, hs.turnedG (ks := []) rfl rfl⟩
        · skip
          refine GS.region (env' := fun fr15 => [(4, .bool false)]) (mem' := fun fr15 => []) (RunsTo.mkd [(0, { act := .load 9 0 0 [] }), (1, { act := .load 10 0 0 [] }), (2, { act := .eq }), (3, { sp := some (.bool true) }), (8, { sp := some (.bool true) }), (9, { act := .load 7 0 0 [] }), (10, { act := .load 8 0 0 [] }), (11, { act := .calln [1, 2, 3, 4, 5, 6] (fun f => .slice f.ob y18.length f.cap) (fun f => o53 f.ob f.cap y18), key := some 11 }), (12, { act := .load 7 0 0 [] }), (13, { act := .load 8 0 0 [] }), (14, { act := .calln [1, 2, 3, 4, 5, 6] (fun f => .slice f.ob y22.length f.cap) (fun f => o53 f.ob f.cap y22), key := some 12 }), (15, { act := .call [11, 12] (.bool y26) }), (17, { sp := some (.bool false) })] [4] [] (fun fr15 => [(fr9 6).x = (fr9 6).x, (fr12 6).x = (fr12 6).x, ((.bool (S_api_Version.beq y10.1 y13.1)) : Value) = .bool true, ((.bool (y10.2 == y13.2)) : Value) = .bool true, (fr1 0).x = (fr1 0).x, (fr1 1).x = (fr1 1).x, CallN Try.prog 12 #[.agg #[.int .i64 a0_Les, .int .i64 a0_Tail.Epoch, .int .i64 a0_Tail.N, .slice a0_Log_o a0_Log.length a0_Log_c, .slice a0_Lasts_o a0_Lasts.length a0_Lasts_c, .slice a0_Items_o a0_Items.length a0_Items_c], .agg #[.int .i64 a1_Les, .int .i64 a1_Tail.Epoch, .int .i64 a1_Tail.N, .slice a1_Log_o a1_Log.length a1_Log_c, .slice a1_Lasts_o a1_Lasts.length a1_Lasts_c, .slice a1_Items_o a1_Items.length a1_Items_c]] (fun f => .slice f.ob y18.length f.cap) (fun f => o53 f.ob f.cap y18) [some (r53 a0_Log_o a0_Log), some (r83 a0_Lasts_o a0_Lasts), some (r45 a0_Items_o a0_Items), some (r53 a1_Log_o a1_Log), some (r83 a1_Lasts_o a1_Lasts), some (r45 a1_Items_o a1_Items)], (fr1 0).x = (fr1 0).x, (fr1 1).x = (fr1 1).x, CallN Try.prog 13 #[.agg #[.int .i64 a0_Les, .int .i64 a0_Tail.Epoch, .int .i64 a0_Tail.N, .slice a0_Log_o a0_Log.length a0_Log_c, .slice a0_Lasts_o a0_Lasts.length a0_Lasts_c, .slice a0_Items_o a0_Items.length a0_Items_c], .agg #[.int .i64 a1_Les, .int .i64 a1_Tail.Epoch, .int .i64 a1_Tail.N, .slice a1_Log_o a1_Log.length a1_Log_c, .slice a1_Lasts_o a1_Lasts.length a1_Lasts_c, .slice a1_Items_o a1_Items.length a1_Items_c]] (fun f => .slice f.ob y22.length f.cap) (fun f => o53 f.ob f.cap y22) [some (r53 a0_Log_o a0_Log), some (r83 a0_Lasts_o a0_Lasts), some (r45 a0_Items_o a0_Items), some (r53 a1_Log_o a1_Log), some (r83 a1_Lasts_o a1_Lasts), some (r45 a1_Items_o a1_Items)], CallOK Try.prog 11 #[.slice ((fr15 11).ob) y18.length ((fr15 11).cap), .slice ((fr15 14).ob) y22.length ((fr15 14).cap)] (.bool y26) [some (o53 ((fr15 11).ob) ((fr15 11).cap) y18), some (o53 ((fr15 14).ob) ((fr15 14).cap) y22)], ((.bool y26) : Value) = .bool false]) (by kernel_rfl) (by kernel_rfl) (fun fr15 => by kernel_rfl) (fun fr15 => ⟨rfl, rfl, bool_eq h16, bool_eq h17, rfl, rfl, CallG.toN (w_missing_Divergent F a0_Les a0_Tail a0_Log_o a0_Log_c a0_Log a0_Lasts_o a0_Lasts_c a0_Lasts a0_Items_o a0_Items_c a0_Items a1_Les a1_Tail a1_Log_o a1_Log_c a1_Log a1_Lasts_o a1_Lasts_c a1_Lasts a1_Items_o a1_Items_c a1_Items e19) ⟨(.inl ⟨r53 a0_Log_o a0_Log, .head _, Cov.refl _⟩), (.inl ⟨r83 a0_Lasts_o a0_Lasts, (.tail _ (.head _)), Cov.refl _⟩), (.inl ⟨r45 a0_Items_o a0_Items, (.tail _ (.tail _ (.head _))), Cov.refl _⟩), (.inl ⟨r53 a1_Log_o a1_Log, (.tail _ (.tail _ (.tail _ (.head _)))), Cov.refl _⟩), (.inl ⟨r83 a1_Lasts_o a1_Lasts, (.tail _ (.tail _ (.tail _ (.tail _ (.head _))))), Cov.refl _⟩), (.inl ⟨r45 a1_Items_o a1_Items, (.tail _ (.tail _ (.tail _ (.tail _ (.tail _ (.head _)))))), Cov.refl _⟩), trivial⟩, rfl, rfl, CallG.toN (w_tholeref14_Divergent F a0_Les a0_Tail a0_Log_o a0_Log_c a0_Log a0_Lasts_o a0_Lasts_c a0_Lasts a0_Items_o a0_Items_c a0_Items a1_Les a1_Tail a1_Log_o a1_Log_c a1_Log a1_Lasts_o a1_Lasts_c a1_Lasts a1_Items_o a1_Items_c a1_Items e23) ⟨(.inl ⟨r53 a0_Log_o a0_Log, .head _, Cov.refl _⟩), (.inl ⟨r83 a0_Lasts_o a0_Lasts, (.tail _ (.head _)), Cov.refl _⟩), (.inl ⟨r45 a0_Items_o a0_Items, (.tail _ (.tail _ (.head _))), Cov.refl _⟩), (.inl ⟨r53 a1_Log_o a1_Log, (.tail _ (.tail _ (.tail _ (.head _)))), Cov.refl _⟩), (.inl ⟨r83 a1_Lasts_o a1_Lasts, (.tail _ (.tail _ (.tail _ (.tail _ (.head _))))), Cov.refl _⟩), (.inl ⟨r45 a1_Items_o a1_Items, (.tail _ (.tail _ (.tail _ (.tail _ (.tail _ (.head _)))))), Cov.refl _⟩), trivial⟩, (w_tholelaw14_entries F ((fr15 11).ob) ((fr15 11).cap) y18 ((fr15 14).ob) ((fr15 14).cap) y22 e27).ok ⟨(.inl ⟨o53 ((fr15 11).ob) ((fr15 11).cap) y18, .head _, Cov.osl_rd⟩), (.inl ⟨o53 ((fr15 14).ob) ((fr15 14).cap) y22, (.tail _ (.head _)), Cov.osl_rd⟩), trivial⟩, bool_eq h28, trivial⟩)) ?_
          intro fr15
          have hy := Option.some.inj hm
          subst hy
          refine GS.ret (fn := Try.f3) [0] [.bool false] [] rfl Try.func3 (by kernel_rfl) trivial (fun w' hs => ?_)
          exact ⟨(), rfl, hs.turnedG (ks := []) rfl rfl⟩
      · skip
        refine GS.region (env' := fun _ => [(4, .bool false)]) (mem' := fun _ => []) (RunsTo.mkd [(0, { act := .load 9 0 0 [] }), (1, { act := .load 10 0 0 [] }), (2, { act := .eq }), (3, { sp := some (.bool true) }), (8, { sp := some (.bool false) })] [4] [] (fun _ => [(fr9 6).x = (fr9 6).x, (fr12 6).x = (fr12 6).x, ((.bool (S_api_Version.beq y10.1 y13.1)) : Value) = .bool true, ((.bool (y10.2 == y13.2)) : Value) = .bool false]) (by kernel_rfl) (by kernel_rfl) (fun _ => by kernel_rfl) (fun _ => ⟨rfl, rfl, bool_eq h16, bool_eq h17, trivial⟩)) ?_
        intro _
        have hy := Option.some.inj hm
        subst hy
        refine GS.ret (fn := Try.f3) [0] [.bool false] [] rfl Try.func3 (by kernel_rfl) trivial (fun w' hs => ?_)
        exact ⟨(), rfl, hs.turnedG (ks := []) rfl rfl⟩
    · skip
      refine GS.region (env' := fun _ => [(4, .bool false)]) (mem' := fun _ => []) (RunsTo.mkd [(0, { act := .load 9 0 0 [] }), (1, { act := .load 10 0 0 [] }), (2, { act := .eq }), (3, { sp := some (.bool false) })] [4] [] (fun _ => [(fr9 6).x = (fr9 6).x, (fr12 6).x = (fr12 6).x, ((.bool (S_api_Version.beq y10.1 y13.1)) : Value) = .bool false]) (by kernel_rfl) (by kernel_rfl) (fun _ => by kernel_rfl) (fun _ => ⟨rfl, rfl, bool_eq h16, trivial⟩)) ?_
      intro _
      have hy := Option.some.inj hm
      subst hy
      refine GS.ret (fn := Try.f3) [0] [.bool false] [] rfl Try.func3 (by kernel_rfl) trivial (fun w' hs => ?_)
      exact ⟨(), rfl, hs.turnedG (ks := []) rfl rfl⟩

theorem w_slices_Clone___api_Item_api_Item_ (F : Nat) (a0_o : Option Addr) (a0_c : Nat) (a0 : List S_api_Item) {y : List S_api_Item} (hm : m_slices_Clone___api_Item_api_Item_ F a0 = some y) : CallG Try.prog 40 #[.slice a0_o a0.length a0_c] (X := Option Addr × Nat) (fun ⟨x0, x1⟩ => .slice x0 y.length x1) [] [r45 a0_o a0] (fun ⟨x0, x1⟩ => [o45 x0 x1 y]) := by
  intro w hg
  rw [m_slices_Clone___api_Item_api_Item_] at hm
  refine GS.start (S := mayT [] [r45 a0_o a0]) (mem := [(1, r45 a0_o a0)]) Try.func40 rfl Try.ntmps40 (Nat.le_of_ble_eq_true rfl) (hg.start rfl) ?_
  refine GS.conv (env' := [(0, .slice a0_o a0.length a0_c)]) rfl rfl ?_
  refine GS.seq ?_
  refine GS.region (env' := fun _ => [(0, .slice a0_o a0.length a0_c)]) (mem' := fun _ => [(1, r45 a0_o a0)]) (RunsTo.mk [] [0] [1] (fun _ => []) (fun _ => by kernel_rfl) (fun _ => trivial)) ?_
  intro _
  refine GS.seq ?_
  refine GS.seq ?_
  refine GS.region (env' := fun _ => [(0, .slice a0_o a0.length a0_c), (4, .bool a0_o.isNone)]) (mem' := fun _ => [(1, r45 a0_o a0)]) (RunsTo.mk [(1, { act := .nilq })] [0, 4] [1] (fun _ => []) (fun _ => by kernel_rfl) (fun _ => trivial)) ?_
  intro _
  refine GS.cond (t := a0_o.isNone) rfl rfl (fun h3 => ?_) (fun h3 => ?_)
  · skip
    refine GS.know (p := a0 = []) (fun w hw => nil_rd (hw.ok 1 _ rfl) h3) (fun hl7 => ?_)
    replace hm : some ([] : List S_api_Item) = some y := by rw [hl7] at hm; exact hm
    refine GS.seq ?_
    refine GS.region (env' := fun _ => [(2, .slice none 0 0)]) (mem' := fun _ => []) (RunsTo.mk [] [2] [] (fun _ => []) (fun _ => by kernel_rfl) (fun _ => trivial)) ?_
    intro _
    refine GS.setMem (mem' := [(2, o45 none 0 ([] : List S_api_Item))]) (fun w hw => Sat.addNil hw rfl) ?_
    have hy := Option.some.inj hm
    subst hy
    refine GS.ret (fn := Try.f40) [0] [.slice none 0 0] [] rfl Try.func40 (by kernel_rfl) trivial (fun w' hs => ?_)
    exact ⟨⟨none, 0⟩, rfl, hs.turnedG (ks := [2]) rfl rfl⟩
  · skip
    refine GS.skip ?_
    refine GS.seq ?_
    refine grd_elim hm (fun g6 hm => ?_)
    refine GS.region (env' := fun fr5 => [(2, .slice ((fr5 2).ob) ((([] : List S_api_Item) ++ a0).length) ((fr5 2).cap))]) (mem' := fun fr5 => [(2, .osl ((fr5 2).ob) ((fr5 2).cap) 45 4 (([] : List (List Value)) ++ (List.map S_api_Item.row a0)))]) (RunsTo.mk [(0, { act := .new (.row 0 4), key := some 2, spf := some (fun f => .slice (some (Addr.mk f.x 0 none)) ((([] : List S_api_Item) : List S_api_Item).length) 0) }), (2, { act := .app (some 1), key := some 2, spf := some (fun f => .slice (f.ob) ((([] : List S_api_Item) ++ a0).length) (f.cap)) })] [2] [2] (fun fr5 => [((.slice (some (Addr.mk (fr5 0).x 0 none)) 0 0) : Value) = .slice (some (Addr.mk (fr5 0).x 0 none)) ((([] : List S_api_Item) : List S_api_Item).length) 0, a0_o = a0_o, a0.length = (List.map S_api_Item.row a0).length, (some (Addr.mk (fr5 0).x 0 none)) = (some (Addr.mk (fr5 0).x 0 none)), 0 = 0, (([] : List S_api_Item) : List S_api_Item).length = ([] : List (List Value)).length, (([] : List (List Value)).length + (List.map S_api_Item.row a0).length) * (40 + 1) ≤ 70368744177664, (List.map S_api_Item.row a0).flatten.all Value.oneCell' = true, ((.slice ((fr5 2).ob) (((([] : List S_api_Item) : List S_api_Item).length) + (List.map S_api_Item.row a0).length) ((fr5 2).cap)) : Value) = .slice ((fr5 2).ob) ((([] : List S_api_Item) ++ a0).length) ((fr5 2).cap)]) (fun fr5 => by kernel_rfl) (fun fr5 => ⟨rfl, rfl, mlen S_api_Item.row a0, rfl, rfl, (by rw [show ([] : List (List Value)) = List.map S_api_Item.row ([] : List S_api_Item) from rfl]; exact mlen S_api_Item.row ([] : List S_api_Item)), appb g6 (by rw [show ([] : List (List Value)) = List.map S_api_Item.row ([] : List S_api_Item) from rfl]; exact (mlen S_api_Item.row ([] : List S_api_Item)).symm) (mlen S_api_Item.row a0).symm, (by rw [show List.map S_api_Item.row a0 = List.map S_api_Item.row a0 from rfl]; exact all_one S_api_Item.row _ (fun _ => rfl)), slen (by simp), trivial⟩)) ?_
    intro fr5
    refine GS.conv (mem' := [(2, o45 ((fr5 2).ob) ((fr5 2).cap) (([] : List S_api_Item) ++ a0))]) rfl (congrArg (fun rr : List (List Value) => ([(2, .osl ((fr5 2).ob) ((fr5 2).cap) 45 4 rr)] : List (Nat × Ent))) (show ([] : List (List Value)) ++ (List.map S_api_Item.row a0) = List.map S_api_Item.row (([] : List S_api_Item) ++ a0) from (by rw [show ([] : List (List Value)) = List.map S_api_Item.row ([] : List S_api_Item) from rfl, show List.map S_api_Item.row a0 = List.map S_api_Item.row a0 from rfl]; exact mapp S_api_Item.row _ _))) ?_
    have hy := Option.some.inj hm
    subst hy
    refine GS.ret (fn := Try.f40) [0] [.slice ((fr5 2).ob) ((([] : List S_api_Item) ++ a0).length) ((fr5 2).cap)] [] rfl Try.func40 (by kernel_rfl) trivial (fun w' hs => ?_)
    exact ⟨⟨(fr5 2).ob, (fr5 2).cap⟩, rfl, hs.turnedG (ks := [2]) rfl rfl⟩

theorem w_slices_Index___api_Item_api_Item_ (F : Nat) (a0_o : Option Addr) (a0_c : Nat) (a0 : List S_api_Item) (a1 : S_api_Item) {y : Int} (hm : m_slices_Index___api_Item_api_Item_ F a0 a1 = some y) : CallG Try.prog 41 #[.slice a0_o a0.length a0_c, .agg #[.string a1.Name, .int .i64 a1.Version.Epoch, .int .i64 a1.Version.N, .int .u32 a1.Crc]] (X := Unit) (fun (_ : Unit) => .int .i64 y) [] [r45 a0_o a0] (fun (_ : Unit) => []) := by
  intro w hg
  rw [m_slices_Index___api_Item_api_Item_] at hm
  refine GS.start (S := mayT [] [r45 a0_o a0]) (mem := [(1, r45 a0_o a0)]) Try.func41 rfl Try.ntmps41 (Nat.le_of_ble_eq_true rfl) (hg.start rfl) ?_
  refine GS.conv (env' := [(0, .slice a0_o a0.length a0_c), (1, .agg #[.string a1.Name, .int .i64 a1.Version.Epoch, .int .i64 a1.Version.N, .int .u32 a1.Crc])]) rfl rfl ?_
  refine GS.seq ?_
  refine GS.region (env' := fun fr1 => [(0, .slice a0_o a0.length a0_c), (3, .pointer (some ⟨(fr1 0).x, 0, none⟩))]) (mem' := fun fr1 => [(1, r45 a0_o a0), (2, .cells ((fr1 0).x) 45 [.string a1.Name, .int .i64 a1.Version.Epoch, .int .i64 a1.Version.N, .int .u32 a1.Crc])]) (RunsTo.mk [(0, { act := .new .var, key := some 2 })] [0, 3] [1, 2] (fun fr1 => []) (fun fr1 => by kernel_rfl) (fun fr1 => trivial)) ?_
  intro fr1
  refine GS.seq ?_
  refine GS.seq ?_
  refine GS.region (env' := fun _ => [(0, .slice a0_o a0.length a0_c), (3, .pointer (some ⟨(fr1 0).x, 0, none⟩)), (7, .int .i64 ((a0.length : Nat) : Int)), (8, .int .i64 0)]) (mem' := fun _ => [(1, r45 a0_o a0), (2, .cells ((fr1 0).x) 45 [.string a1.Name, .int .i64 a1.Version.Epoch, .int .i64 a1.Version.N, .int .u32 a1.Crc])]) (RunsTo.mk [] [0, 3, 7, 8] [1, 2] (fun _ => []) (fun _ => by kernel_rfl) (fun _ => trivial)) ?_
  intro _
  refine GS.block ?_
  refine GS.loop ?_
  refine grd_elim hm (fun g21 hm => ?_)
  refine GS.rekey (env' := [(0, .slice a0_o a0.length a0_c), (3, .pointer (some ⟨(fr1 0).x, 0, none⟩)), (7, .int .i64 ((a0.length : Nat) : Int)), (8, .int .i64 0)]) (mem' := [(1, r45 a0_o a0), (2, .cells ((fr1 0).x) 45 [.string a1.Name, .int .i64 a1.Version.Epoch, .int .i64 a1.Version.N, .int .u32 a1.Crc])]) [0, 3, 7, 8] [(1, 1), (2, 2)] (by kernel_rfl) (by kernel_rfl) rfl ?_
  refine loopL_elim hm (fun st35 fn36 hst37 hfn38 hm => ?_)
  refine GS.loopInv (ι := List S_api_Item × Nat) (I := fun ⟨rs33, v8_1⟩ => a0.drop v8_1 = rs33 ∧ loopL st35 fn36 rs33 v8_1 () = some y) (μ := fun ⟨rs33, v8_1⟩ => rs33.length) (E := fun ⟨rs33, v8_1⟩ => [(0, .slice a0_o a0.length a0_c), (3, .pointer (some ⟨(fr1 0).x, 0, none⟩)), (7, .int .i64 ((a0.length : Nat) : Int)), (8, .int .i64 ((v8_1 : Nat) : Int))]) (M := fun ⟨rs33, v8_1⟩ => [(1, r45 a0_o a0), (2, .cells ((fr1 0).x) 45 [.string a1.Name, .int .i64 a1.Version.Epoch, .int .i64 a1.Version.N, .int .u32 a1.Crc])]) ?_ ⟨a0, 0⟩ ⟨List.drop_zero .., hm⟩
  rintro ⟨rs33, v8_1⟩ ⟨hd20, hm⟩ ih34
  cases rs33 with
  | nil =>
    replace hm := (hfn38 _ _).symm.trans hm
    try dsimp only at hm
    refine GS.seq ?_
    refine GS.region (env' := fun _ => [(0, .slice a0_o a0.length a0_c), (3, .pointer (some ⟨(fr1 0).x, 0, none⟩)), (7, .int .i64 ((a0.length : Nat) : Int)), (8, .int .i64 ((v8_1 : Nat) : Int)), (9, .bool (decide (((v8_1 : Nat) : Int) < ((a0.length : Nat) : Int))))]) (mem' := fun _ => [(1, r45 a0_o a0), (2, .cells ((fr1 0).x) 45 [.string a1.Name, .int .i64 a1.Version.Epoch, .int .i64 a1.Version.N, .int .u32 a1.Crc])]) (RunsTo.mk [] [0, 3, 7, 8, 9] [1, 2] (fun _ => []) (fun _ => by kernel_rfl) (fun _ => trivial)) ?_
    intro _
    refine GS.seq ?_
    refine GS.cond (t := decide (((v8_1 : Nat) : Int) < ((a0.length : Nat) : Int))) rfl rfl (fun h31 => absb h31 (drop_dec0 hd20)) (fun _ => ?_)
    refine GS.exit rfl ?_
    refine GS.seq ?_
    refine GS.region (env' := fun _ => [(4, .int .i64 (-1))]) (mem' := fun _ => []) (RunsTo.mk [] [4] [] (fun _ => []) (fun _ => by kernel_rfl) (fun _ => trivial)) ?_
    intro _
    have hy := Option.some.inj hm
    subst hy
    refine GS.ret (fn := Try.f41) [0] [.int .i64 (-1)] [] rfl Try.func41 (by kernel_rfl) trivial (fun w' hs => ?_)
    exact ⟨(), rfl, hs.turnedG (ks := []) rfl rfl⟩
  | cons x22 rs33 =>
    replace hm := (hst37 _ _ _ _).symm.trans hm
    try dsimp only at hm
    refine GS.seq ?_
    refine GS.region (env' := fun _ => [(0, .slice a0_o a0.length a0_c), (3, .pointer (some ⟨(fr1 0).x, 0, none⟩)), (7, .int .i64 ((a0.length : Nat) : Int)), (8, .int .i64 ((v8_1 : Nat) : Int)), (9, .bool (decide (((v8_1 : Nat) : Int) < ((a0.length : Nat) : Int))))]) (mem' := fun _ => [(1, r45 a0_o a0), (2, .cells ((fr1 0).x) 45 [.string a1.Name, .int .i64 a1.Version.Epoch, .int .i64 a1.Version.N, .int .u32 a1.Crc])]) (RunsTo.mk [] [0, 3, 7, 8, 9] [1, 2] (fun _ => []) (fun _ => by kernel_rfl) (fun _ => trivial)) ?_
    intro _
    refine GS.seq ?_
    refine GS.cond (t := decide (((v8_1 : Nat) : Int) < ((a0.length : Nat) : Int))) rfl rfl (fun _ => ?_) (fun h24 => absb (drop_dec hd20) h24)
    refine GS.skip ?_
    refine GS.seq ?_
    refine GS.block ?_
    refine GS.seq ?_
    refine GS.region (env' := fun _ => [(0, .slice a0_o a0.length a0_c), (3, .pointer (some ⟨(fr1 0).x, 0, none⟩)), (5, .int .i64 ((v8_1 : Nat) : Int)), (7, .int .i64 ((a0.length : Nat) : Int)), (8, .int .i64 ((v8_1 : Nat) : Int))]) (mem' := fun _ => [(1, r45 a0_o a0), (2, .cells ((fr1 0).x) 45 [.string a1.Name, .int .i64 a1.Version.Epoch, .int .i64 a1.Version.N, .int .u32 a1.Crc])]) (RunsTo.mk [] [0, 3, 5, 7, 8] [1, 2] (fun _ => []) (fun _ => by kernel_rfl) (fun _ => trivial)) ?_
    intro _
    refine GS.seq ?_
    refine GS.region (env' := fun _ => [(0, .slice a0_o a0.length a0_c), (3, .pointer (some ⟨(fr1 0).x, 0, none⟩)), (5, .int .i64 ((v8_1 : Nat) : Int)), (7, .int .i64 ((a0.length : Nat) : Int)), (8, .int .i64 ((v8_1 : Nat) : Int)), (16, .bool (S_api_Item.beq a1 x22))]) (mem' := fun _ => [(1, r45 a0_o a0), (2, .cells ((fr1 0).x) 45 [.string a1.Name, .int .i64 a1.Version.Epoch, .int .i64 a1.Version.N, .int .u32 a1.Crc])]) (RunsTo.mkd [(0, { act := .load 2 0 0 [] }), (3, { act := .idx 1 v8_1 }), (4, { act := .load 1 v8_1 0 [.string x22.Name, .int .i64 x22.Version.Epoch, .int .i64 x22.Version.N, .int .u32 x22.Crc] }), (5, { act := .eq })] [0, 3, 5, 7, 8, 16] [1, 2] (fun _ => [(fr1 0).x = (fr1 0).x, a0_o = a0_o, a0.length = (List.map S_api_Item.row a0).length, (((v8_1 : Nat) : Int) : Int) = ((v8_1 : Nat) : Int), v8_1 < a0.length, blk a0_o = blk a0_o, offs a0_o + v8_1 * 4 = offs a0_o + (v8_1 * 4 + 0), (List.map S_api_Item.row a0)[v8_1]? = some [.string x22.Name, .int .i64 x22.Version.Epoch, .int .i64 x22.Version.N, .int .u32 x22.Crc]]) (by kernel_rfl) (by kernel_rfl) (fun _ => by kernel_rfl) (fun _ => ⟨rfl, rfl, mlen S_api_Item.row a0, rfl, (drop_lt hd20), rfl, rfl, map_drop S_api_Item.row hd20, trivial⟩)) ?_
    intro _
    refine GS.cond (t := S_api_Item.beq a1 x22) rfl rfl (fun h27 => ?_) (fun h27 => ?_)
    · replace hm := br_t h27 hm
      refine GS.seq ?_
      refine GS.region (env' := fun _ => [(4, .int .i64 ((v8_1 : Nat) : Int))]) (mem' := fun _ => []) (RunsTo.mk [] [4] [] (fun _ => []) (fun _ => by kernel_rfl) (fun _ => trivial)) ?_
      intro _
      have hy := Option.some.inj hm
      subst hy
      refine GS.ret (fn := Try.f41) [0] [.int .i64 ((v8_1 : Nat) : Int)] [] rfl Try.func41 (by kernel_rfl) trivial (fun w' hs => ?_)
      exact ⟨(), rfl, hs.turnedG (ks := []) rfl rfl⟩
    · replace hm := br_f h27 hm
      refine GS.skip ?_
      refine GS.inBlock ?_
      refine GS.region (env' := fun _ => [(0, .slice a0_o a0.length a0_c), (3, .pointer (some ⟨(fr1 0).x, 0, none⟩)), (7, .int .i64 ((a0.length : Nat) : Int)), (8, .int .i64 ((v8_1 + 1 : Nat) : Int))]) (mem' := fun _ => [(1, r45 a0_o a0), (2, .cells ((fr1 0).x) 45 [.string a1.Name, .int .i64 a1.Version.Epoch, .int .i64 a1.Version.N, .int .u32 a1.Crc])]) (RunsTo.mk [(0, { sp := some (.int .i64 ((v8_1 + 1 : Nat) : Int)) })] [0, 3, 7, 8] [1, 2] (fun _ => [((.int .i64 (IntKind.i64.wrap (((v8_1 : Nat) : Int) + 1))) : Value) = .int .i64 ((v8_1 + 1 : Nat) : Int)]) (fun _ => by kernel_rfl) (fun _ => ⟨natw (drop_lt hd20) g21, trivial⟩)) ?_
      intro _
      refine GS.inLoop ?_
      refine GS.rekey (env' := [(0, .slice a0_o a0.length a0_c), (3, .pointer (some ⟨(fr1 0).x, 0, none⟩)), (7, .int .i64 ((a0.length : Nat) : Int)), (8, .int .i64 ((v8_1 + 1 : Nat) : Int))]) (mem' := [(1, r45 a0_o a0), (2, .cells ((fr1 0).x) 45 [.string a1.Name, .int .i64 a1.Version.Epoch, .int .i64 a1.Version.N, .int .u32 a1.Crc])]) [0, 3, 7, 8] [(1, 1), (2, 2)] (by kernel_rfl) (by kernel_rfl) rfl ?_
      exact ih34 ⟨rs33, v8_1 + 1⟩ ⟨drop_next hd20, hm⟩ (Nat.lt_succ_self _)

theorem w_slices_Delete___api_Item_api_Item_ (F : Nat) (a0_o : Option Addr) (a0_c : Nat) (a0 : List S_api_Item) (a1 : Int) (a2 : Int) (a0_ch : a0.length ≤ a0_c) {y : List S_api_Item} (hm : m_slices_Delete___api_Item_api_Item_ F a0 a1 a2 = some y) : CallG Try.prog 42 #[.slice a0_o a0.length a0_c, .int .i64 a1, .int .i64 a2] (X := Option Addr × Nat) (fun ⟨x0, x1⟩ => .slice x0 y.length x1) [o45 a0_o a0_c a0] [] (fun ⟨x0, x1⟩ => [o45 x0 x1 y]) := by
  intro w hg
  rw [m_slices_Delete___api_Item_api_Item_] at hm
  refine GS.start (S := mayT [o45 a0_o a0_c a0] []) (mem := [(1, o45 a0_o a0_c a0)]) Try.func42 rfl Try.ntmps42 (Nat.le_of_ble_eq_true rfl) (hg.start rfl) ?_
  refine GS.conv (env' := [(0, .slice a0_o a0.length a0_c), (1, .int .i64 a1), (2, .int .i64 a2)]) rfl rfl ?_
  refine GS.seq ?_
  refine GS.region (env' := fun _ => [(0, .slice a0_o a0.length a0_c), (1, .int .i64 a1), (2, .int .i64 a2)]) (mem' := fun _ => [(1, o45 a0_o a0_c a0)]) (RunsTo.mk [] [0, 1, 2] [1] (fun _ => []) (fun _ => by kernel_rfl) (fun _ => trivial)) ?_
  intro _
  refine GS.seq ?_
  refine grd_elim hm (fun g3 hm => ?_)
  refine grd_elim hm (fun g4 hm => ?_)
  refine GS.region (env' := fun _ => [(0, .slice a0_o a0.length a0_c), (1, .int .i64 a1), (2, .int .i64 a2)]) (mem' := fun _ => [(1, o45 a0_o a0_c a0)]) (RunsTo.mk [(5, { act := .cut (Int.toNat a1) (Int.toNat a2) a0.length, sp := some (.slice (cutOb a0_o (Int.toNat a1) a0.length 4) ((Int.toNat a2) - (Int.toNat a1)) (a0.length - (Int.toNat a1))) })] [0, 1, 2] [1] (fun _ => [a1 = (((Int.toNat a1) : Nat) : Int), a2 = (((Int.toNat a2) : Nat) : Int), ((a0.length : Nat) : Int) = ((a0.length : Nat) : Int), (Int.toNat a1) ≤ (Int.toNat a2), (Int.toNat a2) ≤ a0.length, a0.length ≤ a0_c, (some (Operand.tmp 10) : Option Operand) = none → (some (Operand.tmp 12) : Option Operand) = none, (.slice (if a0.length = (Int.toNat a1) then a0_o else (a0_o).map (fun a => a.add ((Int.toNat a1) * 4))) ((Int.toNat a2) - (Int.toNat a1)) (a0.length - (Int.toNat a1)) : Value) = .slice (cutOb a0_o (Int.toNat a1) a0.length 4) ((Int.toNat a2) - (Int.toNat a1)) (a0.length - (Int.toNat a1))]) (fun _ => by kernel_rfl) (fun _ => ⟨g4.eq, g3.eq, rfl, g4.2, g3.2, (Nat.le_trans (Nat.le_refl _) a0_ch), (by intro h; first | rfl | cases h), rfl, trivial⟩)) ?_
  intro _
  refine GS.seq ?_
  refine GS.seq ?_
  refine GS.region (env' := fun _ => [(0, .slice a0_o a0.length a0_c), (1, .int .i64 a1), (2, .int .i64 a2), (16, .bool (a1 == a2))]) (mem' := fun _ => [(1, o45 a0_o a0_c a0)]) (RunsTo.mk [] [0, 1, 2, 16] [1] (fun _ => []) (fun _ => by kernel_rfl) (fun _ => trivial)) ?_
  intro _
  refine GS.cond (t := a1 == a2) rfl rfl (fun h6 => ?_) (fun h6 => ?_)
  · replace hm := br_t h6 hm
    refine GS.seq ?_
    refine GS.region (env' := fun _ => [(6, .slice a0_o a0.length a0_c)]) (mem' := fun _ => [(1, o45 a0_o a0_c a0)]) (RunsTo.mk [] [6] [1] (fun _ => []) (fun _ => by kernel_rfl) (fun _ => trivial)) ?_
    intro _
    have hy := Option.some.inj hm
    subst hy
    refine GS.ret (fn := Try.f42) [0] [.slice a0_o a0.length a0_c] [] rfl Try.func42 (by kernel_rfl) trivial (fun w' hs => ?_)
    exact ⟨⟨a0_o, a0_c⟩, rfl, hs.turnedG (ks := [1]) rfl rfl⟩
  · replace hm := br_f h6 hm
    refine GS.skip ?_
    refine GS.seq ?_
    refine GS.region (env' := fun _ => [(0, .slice a0_o a0.length a0_c), (1, .int .i64 a1), (2, .int .i64 a2), (7, .int .i64 ((a0.length : Nat) : Int))]) (mem' := fun _ => [(1, o45 a0_o a0_c a0)]) (RunsTo.mk [] [0, 1, 2, 7] [1] (fun _ => []) (fun _ => by kernel_rfl) (fun _ => trivial)) ?_
    intro _
    refine GS.seq ?_
    refine grd_elim hm (fun g10 hm => ?_)
    refine grd_elim hm (fun g11 hm => ?_)
    refine grd_elim hm (fun g12 hm => ?_)
    refine GS.region (env' := fun fr9 => [(0, .slice a0_o ((a0.take (Int.toNat a1) ++ a0.drop (Int.toNat a2)).length) a0_c), (7, .int .i64 ((a0.length : Nat) : Int))]) (mem' := fun fr9 => [(1, .osl a0_o a0_c 45 4 ((List.map S_api_Item.row a0).take (Int.toNat a1) ++ (List.map S_api_Item.row a0).drop (Int.toNat a2)))]) (RunsTo.mkd [(2, { act := .cut 0 (Int.toNat a1) a0_c, sp := some (.slice a0_o (Int.toNat a1) a0_c) }), (5, { act := .cut (Int.toNat a2) a0.length a0_c, sp := some (.slice (cutOb a0_o (Int.toNat a2) a0_c 4) (a0.length - (Int.toNat a2)) (a0_c - (Int.toNat a2))) }), (6, { act := .appSelf (Int.toNat a1) (Int.toNat a2) a0_c, key := some 1, sp := some (.slice a0_o ((a0.take (Int.toNat a1) ++ a0.drop (Int.toNat a2)).length) a0_c) })] [0, 7] [1] (fun fr9 => [0 = 0, a1 = (((Int.toNat a1) : Nat) : Int), a0_c = a0_c, 0 ≤ (Int.toNat a1), (Int.toNat a1) ≤ a0_c, a0_c ≤ a0_c, (some (Operand.tmp 21) : Option Operand) = none → (none : Option Operand) = none, (.slice (if a0_c = 0 then a0_o else (a0_o).map (fun a => a.add (0 * 4))) ((Int.toNat a1) - 0) (a0_c - 0) : Value) = .slice a0_o (Int.toNat a1) a0_c, a2 = (((Int.toNat a2) : Nat) : Int), a0.length = a0.length, a0_c = a0_c, (Int.toNat a2) ≤ a0.length, a0.length ≤ a0_c, a0_c ≤ a0_c, (none : Option Operand) = none → (none : Option Operand) = none, (.slice (if a0_c = (Int.toNat a2) then a0_o else (a0_o).map (fun a => a.add ((Int.toNat a2) * 4))) (a0.length - (Int.toNat a2)) (a0_c - (Int.toNat a2)) : Value) = .slice (cutOb a0_o (Int.toNat a2) a0_c 4) (a0.length - (Int.toNat a2)) (a0_c - (Int.toNat a2)), a0_o = a0_o, a0_c = a0_c, (Int.toNat a1) = (Int.toNat a1), (Int.toNat a1) ≤ (List.map S_api_Item.row a0).length, (Int.toNat a2) ≤ (List.map S_api_Item.row a0).length, (List.map S_api_Item.row a0).length ≤ a0_c, (cutOb a0_o (Int.toNat a2) a0_c 4) = cutOb a0_o (Int.toNat a2) a0_c 4, a0.length - (Int.toNat a2) = (List.map S_api_Item.row a0).length - (Int.toNat a2), ((Int.toNat a1) + ((List.map S_api_Item.row a0).length - (Int.toNat a2))) * (40 + 1) ≤ 70368744177664, (List.map S_api_Item.row a0).flatten.all Value.oneCell' = true, (Int.toNat a1) + ((List.map S_api_Item.row a0).length - (Int.toNat a2)) ≤ a0_c, ((.slice a0_o ((Int.toNat a1) + ((List.map S_api_Item.row a0).length - (Int.toNat a2))) a0_c) : Value) = .slice a0_o ((a0.take (Int.toNat a1) ++ a0.drop (Int.toNat a2)).length) a0_c]) (by kernel_rfl) (by kernel_rfl) (fun fr9 => by kernel_rfl) (fun fr9 => ⟨rfl, g10.eq, rfl, (Nat.zero_le _), (Nat.le_trans g10.2 a0_ch), (Nat.le_refl _), (by intro h; first | rfl | cases h), cut_zero _ _ _ _, g3.eq, rfl, rfl, g3.2, (Nat.le_trans (Nat.le_refl _) a0_ch), (Nat.le_refl _), (by intro h; first | rfl | cases h), rfl, rfl, rfl, rfl, (by rw [(mlen S_api_Item.row a0).symm]; exact g10.2), (by rw [(mlen S_api_Item.row a0).symm]; exact (Nat.le_trans g3.2 (Nat.le_refl _))), (by rw [(mlen S_api_Item.row a0).symm]; exact (Nat.le_trans (Nat.le_refl _) a0_ch)), rfl, (by rw [(mlen S_api_Item.row a0).symm]), (by rw [(mlen S_api_Item.row a0).symm]; exact g11), (all_one S_api_Item.row _ (fun _ => rfl)), (by rw [(mlen S_api_Item.row a0).symm]; exact (by have h1 := g12; have h2 : a0.length ≤ a0_c := a0_ch; have h3 : (Int.toNat a2) ≤ a0.length := (Nat.le_trans g3.2 (Nat.le_refl _)); omega)), slen (by rw [(mlen S_api_Item.row a0).symm]; simp only [List.length_append, List.length_take, List.length_drop]; have : (Int.toNat a1) ≤ a0.length := g10.2; omega), trivial⟩)) ?_
    intro fr9
    refine GS.conv (mem' := [(1, o45 a0_o a0_c (a0.take (Int.toNat a1) ++ a0.drop (Int.toNat a2)))]) rfl (congrArg (fun rr : List (List Value) => ([(1, .osl a0_o a0_c 45 4 rr)] : List (Nat × Ent))) (show (List.map S_api_Item.row a0).take (Int.toNat a1) ++ (List.map S_api_Item.row a0).drop (Int.toNat a2) = List.map S_api_Item.row (a0.take (Int.toNat a1) ++ a0.drop (Int.toNat a2)) from (by rw [show List.map S_api_Item.row a0 = List.map S_api_Item.row a0 from rfl]; simp only [List.map_append, List.map_take, List.map_drop]))) ?_
    refine GS.seq ?_
    refine grd_elim hm (fun g14 hm => ?_)
    refine GS.region (env' := fun _ => [(0, .slice a0_o ((a0.take (Int.toNat a1) ++ a0.drop (Int.toNat a2)).length) a0_c)]) (mem' := fun _ => [(1, o45 a0_o a0_c (a0.take (Int.toNat a1) ++ a0.drop (Int.toNat a2)))]) (RunsTo.mk [(4, { act := .cut ((a0.take (Int.toNat a1) ++ a0.drop (Int.toNat a2)).length) a0.length a0_c, sp := some (.slice (cutOb a0_o (a0.take (Int.toNat a1) ++ a0.drop (Int.toNat a2)).length a0_c 4) (a0.length - ((a0.take (Int.toNat a1) ++ a0.drop (Int.toNat a2)).length)) (a0_c - ((a0.take (Int.toNat a1) ++ a0.drop (Int.toNat a2)).length))) }), (5, { act := .clearS (a0.take (Int.toNat a1) ++ a0.drop (Int.toNat a2)).length a0_c, key := some 1 })] [0] [1] (fun _ => [(((a0.take (Int.toNat a1) ++ a0.drop (Int.toNat a2)).length : Nat) : Int) = (((a0.take (Int.toNat a1) ++ a0.drop (Int.toNat a2)).length : Nat) : Int), ((a0.length : Nat) : Int) = ((a0.length : Nat) : Int), a0_c = a0_c, (a0.take (Int.toNat a1) ++ a0.drop (Int.toNat a2)).length ≤ a0.length, a0.length ≤ a0_c, a0_c ≤ a0_c, (some (Operand.tmp 30) : Option Operand) = none → (none : Option Operand) = none, (.slice (if a0_c = (a0.take (Int.toNat a1) ++ a0.drop (Int.toNat a2)).length then a0_o else (a0_o).map (fun a => a.add ((a0.take (Int.toNat a1) ++ a0.drop (Int.toNat a2)).length * 4))) (a0.length - ((a0.take (Int.toNat a1) ++ a0.drop (Int.toNat a2)).length)) (a0_c - ((a0.take (Int.toNat a1) ++ a0.drop (Int.toNat a2)).length)) : Value) = .slice (cutOb a0_o (a0.take (Int.toNat a1) ++ a0.drop (Int.toNat a2)).length a0_c 4) (a0.length - ((a0.take (Int.toNat a1) ++ a0.drop (Int.toNat a2)).length)) (a0_c - ((a0.take (Int.toNat a1) ++ a0.drop (Int.toNat a2)).length)), cutOb a0_o (a0.take (Int.toNat a1) ++ a0.drop (Int.toNat a2)).length a0_c 4 = cutOb a0_o (a0.take (Int.toNat a1) ++ a0.drop (Int.toNat a2)).length a0_c 4, (List.map S_api_Item.row (a0.take (Int.toNat a1) ++ a0.drop (Int.toNat a2))).length ≤ (a0.take (Int.toNat a1) ++ a0.drop (Int.toNat a2)).length, (a0.take (Int.toNat a1) ++ a0.drop (Int.toNat a2)).length + (a0.length - ((a0.take (Int.toNat a1) ++ a0.drop (Int.toNat a2)).length)) ≤ a0_c, a0_c ≤ a0_c]) (fun _ => by kernel_rfl) (fun _ => ⟨rfl, rfl, rfl, g14, a0_ch, (Nat.le_refl _), (by intro h; first | rfl | cases h), rfl, rfl, (by rw [(mlen S_api_Item.row (a0.take (Int.toNat a1) ++ a0.drop (Int.toNat a2))).symm]; exact Nat.le_refl _), (by have h1 : a0.length ≤ a0_c := a0_ch; have h2 : (a0.take (Int.toNat a1) ++ a0.drop (Int.toNat a2)).length ≤ a0.length := g14; omega), (Nat.le_refl _), trivial⟩)) ?_
    intro _
    refine GS.seq ?_
    refine GS.region (env' := fun _ => [(6, .slice a0_o ((a0.take (Int.toNat a1) ++ a0.drop (Int.toNat a2)).length) a0_c)]) (mem' := fun _ => [(1, o45 a0_o a0_c (a0.take (Int.toNat a1) ++ a0.drop (Int.toNat a2)))]) (RunsTo.mk [] [6] [1] (fun _ => []) (fun _ => by kernel_rfl) (fun _ => trivial)) ?_
    intro _
    have hy := Option.some.inj hm
    subst hy
    refine GS.ret (fn := Try.f42) [0] [.slice a0_o ((a0.take (Int.toNat a1) ++ a0.drop (Int.toNat a2)).length) a0_c] [] rfl Try.func42 (by kernel_rfl) trivial (fun w' hs => ?_)
    exact ⟨⟨a0_o, a0_c⟩, rfl, hs.turnedG (ks := [1]) rfl rfl⟩

theorem w_missing_Whole (F : Nat) (a0_Les : Int) (a0_Tail : S_api_Version) (a0_Log_o : Option Addr) (a0_Log_c : Nat) (a0_Log : List S_api_Entry) (a0_Lasts_o : Option Addr) (a0_Lasts_c : Nat) (a0_Lasts : List S_api_Last) (a0_Items_o : Option Addr) (a0_Items_c : Nat) (a0_Items : List S_api_Item) (a1_o : Option Addr) (a1_c : Nat) (a1 : List S_api_Item) {y : Bool} (hm : m_missing_Whole F a0_Les a0_Tail a0_Log a0_Lasts a0_Items a1 = some y) : CallG Try.prog 23 #[.agg #[.int .i64 a0_Les, .int .i64 a0_Tail.Epoch, .int .i64 a0_Tail.N, .slice a0_Log_o a0_Log.length a0_Log_c, .slice a0_Lasts_o a0_Lasts.length a0_Lasts_c, .slice a0_Items_o a0_Items.length a0_Items_c], .slice a1_o a1.length a1_c] (X := Unit) (fun (_ : Unit) => .bool y) [] [r53 a0_Log_o a0_Log, r83 a0_Lasts_o a0_Lasts, r45 a0_Items_o a0_Items, r45 a1_o a1] (fun (_ : Unit) => []) := by
  intro w hg
  rw [m_missing_Whole] at hm
  refine GS.start (S := mayT [] [r53 a0_Log_o a0_Log, r83 a0_Lasts_o a0_Lasts, r45 a0_Items_o a0_Items, r45 a1_o a1]) (mem := [(1, r53 a0_Log_o a0_Log), (2, r83 a0_Lasts_o a0_Lasts), (3, r45 a0_Items_o a0_Items), (4, r45 a1_o a1)]) Try.func23 rfl Try.ntmps23 (Nat.le_of_ble_eq_true rfl) (hg.start rfl) ?_
  refine GS.conv (env' := [(0, .agg #[.int .i64 a0_Les, .int .i64 a0_Tail.Epoch, .int .i64 a0_Tail.N, .slice a0_Log_o a0_Log.length a0_Log_c, .slice a0_Lasts_o a0_Lasts.length a0_Lasts_c, .slice a0_Items_o a0_Items.length a0_Items_c]), (1, .slice a1_o a1.length a1_c)]) rfl rfl ?_
  refine GS.seq ?_
  refine GS.region (env' := fun fr1 => [(1, .slice a1_o a1.length a1_c), (2, .pointer (some ⟨(fr1 0).x, 0, none⟩))]) (mem' := fun fr1 => [(1, r53 a0_Log_o a0_Log), (2, r83 a0_Lasts_o a0_Lasts), (3, r45 a0_Items_o a0_Items), (4, r45 a1_o a1), (5, .cells ((fr1 0).x) 28 [.int .i64 a0_Les, .int .i64 a0_Tail.Epoch, .int .i64 a0_Tail.N, .slice a0_Log_o a0_Log.length a0_Log_c, .slice a0_Lasts_o a0_Lasts.length a0_Lasts_c, .slice a0_Items_o a0_Items.length a0_Items_c])]) (RunsTo.mk [(0, { act := .new .var, key := some 5 })] [1, 2] [1, 2, 3, 4, 5] (fun fr1 => []) (fun fr1 => by kernel_rfl) (fun fr1 => trivial)) ?_
  intro fr1
  refine GS.seq ?_
  refine GS.seq ?_
  refine GS.region (env' := fun _ => [(1, .slice a1_o a1.length a1_c), (2, .pointer (some ⟨(fr1 0).x, 0, none⟩)), (14, .bool (((a1.length : Nat) : Int) != ((a0_Items.length : Nat) : Int)))]) (mem' := fun _ => [(1, r53 a0_Log_o a0_Log), (2, r83 a0_Lasts_o a0_Lasts), (3, r45 a0_Items_o a0_Items), (4, r45 a1_o a1), (5, .cells ((fr1 0).x) 28 [.int .i64 a0_Les, .int .i64 a0_Tail.Epoch, .int .i64 a0_Tail.N, .slice a0_Log_o a0_Log.length a0_Log_c, .slice a0_Lasts_o a0_Lasts.length a0_Lasts_c, .slice a0_Items_o a0_Items.length a0_Items_c])]) (RunsTo.mk [(3, { act := .load 5 0 0 [] })] [1, 2, 14] [1, 2, 3, 4, 5] (fun _ => [(fr1 0).x = (fr1 0).x]) (fun _ => by kernel_rfl) (fun _ => ⟨rfl, trivial⟩)) ?_
  intro _
  refine GS.cond (t := ((a1.length : Nat) : Int) != ((a0_Items.length : Nat) : Int)) rfl rfl (fun h3 => ?_) (fun h3 => ?_)
  · replace hm := br_t h3 hm
    refine GS.seq ?_
    refine GS.region (env' := fun _ => [(4, .bool false)]) (mem' := fun _ => []) (RunsTo.mk [] [4] [] (fun _ => []) (fun _ => by kernel_rfl) (fun _ => trivial)) ?_
    intro _
    have hy := Option.some.inj hm
    subst hy
    refine GS.ret (fn := Try.f23) [0] [.bool false] [] rfl Try.func23 (by kernel_rfl) trivial (fun w' hs => ?_)
    exact ⟨(), rfl, hs.turnedG (ks := []) rfl rfl⟩
  · replace hm := br_f h3 hm
    refine GS.skip ?_
    refine GS.seq ?_
    refine bnd_elim hm (fun y6 e7 hm => ?_)
    refine GS.open_ ?_
    refine GR.run (i := 0) 1 (env' := fun _ => [(2, .pointer (some ⟨(fr1 0).x, 0, none⟩)), (15, .slice a1_o a1.length a1_c)]) (mem' := fun _ => [(1, r53 a0_Log_o a0_Log), (2, r83 a0_Lasts_o a0_Lasts), (3, r45 a0_Items_o a0_Items), (4, r45 a1_o a1), (5, .cells ((fr1 0).x) 28 [.int .i64 a0_Les, .int .i64 a0_Tail.Epoch, .int .i64 a0_Tail.N, .slice a0_Log_o a0_Log.length a0_Log_c, .slice a0_Lasts_o a0_Lasts.length a0_Lasts_c, .slice a0_Items_o a0_Items.length a0_Items_c])]) (Nat.le_of_ble_eq_true (by kernel_rfl)) (RunsTo.mk [] [2, 15] [1, 2, 3, 4, 5] (fun _ => []) (fun _ => by kernel_rfl) (fun _ => trivial)) ?_
    intro _
    refine GR.callG (X := Option Addr × Nat) (i := 1) (g := 40) (args := #[.slice a1_o a1.length a1_c]) (v := fun ⟨x8, x9⟩ => .slice x8 y6.length x9) (own := []) (ro := [r45 a1_o a1]) (es' := fun ⟨x8, x9⟩ => [o45 x8 x9 y6]) (mem' := fun ⟨x8, x9⟩ => [(1, r53 a0_Log_o a0_Log), (2, r83 a0_Lasts_o a0_Lasts), (3, r45 a0_Items_o a0_Items), (4, r45 a1_o a1), (5, .cells ((fr1 0).x) 28 [.int .i64 a0_Les, .int .i64 a0_Tail.Epoch, .int .i64 a0_Tail.N, .slice a0_Log_o a0_Log.length a0_Log_c, .slice a0_Lasts_o a0_Lasts.length a0_Lasts_c, .slice a0_Items_o a0_Items.length a0_Items_c]), (6, o45 x8 x9 y6)]) (env' := fun ⟨x8, x9⟩ => [(2, .pointer (some ⟨(fr1 0).x, 0, none⟩)), (16, .slice x8 y6.length x9)]) [] [6] [2, 16] [1, 2, 3, 4, 5, 6] false (by kernel_rfl) (by kernel_rfl) (by kernel_rfl) (by kernel_rfl) (by kernel_rfl) (fun _ => rfl) (fun _ _ => rfl) ⟨(.inl ⟨4, _, rfl, rfl, Cov.refl _, fun h => by cases h⟩), trivial⟩ (by rintro ⟨x8, x9⟩; kernel_rfl) (by rintro ⟨x8, x9⟩; kernel_rfl) (w_slices_Clone___api_Item_api_Item_ F a1_o a1_c a1 e7) ?_
    rintro ⟨x8, x9⟩
    refine GR.run (i := 2) 1 (env' := fun _ => [(2, .pointer (some ⟨(fr1 0).x, 0, none⟩)), (5, .slice x8 y6.length x9)]) (mem' := fun _ => [(1, r53 a0_Log_o a0_Log), (2, r83 a0_Lasts_o a0_Lasts), (3, r45 a0_Items_o a0_Items), (5, .cells ((fr1 0).x) 28 [.int .i64 a0_Les, .int .i64 a0_Tail.Epoch, .int .i64 a0_Tail.N, .slice a0_Log_o a0_Log.length a0_Log_c, .slice a0_Lasts_o a0_Lasts.length a0_Lasts_c, .slice a0_Items_o a0_Items.length a0_Items_c]), (6, o45 x8 x9 y6)]) (Nat.le_of_ble_eq_true (by kernel_rfl)) (RunsTo.mk [] [2, 5] [1, 2, 3, 5, 6] (fun _ => []) (fun _ => by kernel_rfl) (fun _ => trivial)) ?_
    intro _
    refine GR.done (Nat.le_of_ble_eq_true (by kernel_rfl)) ?_
    refine GS.seq ?_
    refine GS.seq ?_
    refine GS.region (env' := fun _ => [(5, .slice x8 y6.length x9), (18, .slice a0_Items_o a0_Items.length a0_Items_c), (19, .int .i64 ((a0_Items.length : Nat) : Int)), (20, .int .i64 0)]) (mem' := fun _ => [(3, r45 a0_Items_o a0_Items), (6, o45 x8 x9 y6)]) (RunsTo.mk [(1, { act := .load 5 0 0 [] })] [5, 18, 19, 20] [3, 6] (fun _ => [(fr1 0).x = (fr1 0).x]) (fun _ => by kernel_rfl) (fun _ => ⟨rfl, trivial⟩)) ?_
    intro _
    refine GS.block ?_
    refine GS.loop ?_
    refine GS.know (p := y6.length ≤ x9) (fun w hw => by first | (have h := (hw.ok 6 _ rfl).1.1; rw [List.length_map] at h; exact h) | simpa using (hw.ok 6 _ rfl).1.1) (fun k12 => ?_)
    refine grd_elim hm (fun g52 hm => ?_)
    refine GS.rekey (env' := [(5, .slice x8 y6.length x9), (18, .slice a0_Items_o a0_Items.length a0_Items_c), (19, .int .i64 ((a0_Items.length : Nat) : Int)), (20, .int .i64 0)]) (mem' := [(3, r45 a0_Items_o a0_Items), (6, o45 x8 x9 y6)]) [5, 18, 19, 20] [(3, 3), (6, 6)] (by kernel_rfl) (by kernel_rfl) rfl ?_
    refine loopL_elim hm (fun st77 fn78 hst79 hfn80 hm => ?_)
    refine GS.loopInv (ι := List S_api_Item × Nat × List S_api_Item × Option Addr × Nat) (I := fun ⟨rs75, v20_1, l6_1, o6_1, k6_1⟩ => a0_Items.drop v20_1 = rs75 ∧ loopL st77 fn78 rs75 v20_1 l6_1 = some y) (μ := fun ⟨rs75, v20_1, l6_1, o6_1, k6_1⟩ => rs75.length) (E := fun ⟨rs75, v20_1, l6_1, o6_1, k6_1⟩ => [(5, .slice o6_1 l6_1.length k6_1), (18, .slice a0_Items_o a0_Items.length a0_Items_c), (19, .int .i64 ((a0_Items.length : Nat) : Int)), (20, .int .i64 ((v20_1 : Nat) : Int))]) (M := fun ⟨rs75, v20_1, l6_1, o6_1, k6_1⟩ => [(3, r45 a0_Items_o a0_Items), (6, o45 o6_1 k6_1 l6_1)]) ?_ ⟨a0_Items, 0, y6, x8, x9⟩ ⟨List.drop_zero .., hm⟩
    rintro ⟨rs75, v20_1, l6_1, o6_1, k6_1⟩ ⟨hd51, hm⟩ ih76
    cases rs75 with
    | nil =>
      replace hm := (hfn80 _ _).symm.trans hm
      try dsimp only at hm
      refine GS.seq ?_
      refine GS.region (env' := fun _ => [(5, .slice o6_1 l6_1.length k6_1), (18, .slice a0_Items_o a0_Items.length a0_Items_c), (19, .int .i64 ((a0_Items.length : Nat) : Int)), (20, .int .i64 ((v20_1 : Nat) : Int)), (21, .bool (decide (((v20_1 : Nat) : Int) < ((a0_Items.length : Nat) : Int))))]) (mem' := fun _ => [(3, r45 a0_Items_o a0_Items), (6, o45 o6_1 k6_1 l6_1)]) (RunsTo.mk [] [5, 18, 19, 20, 21] [3, 6] (fun _ => []) (fun _ => by kernel_rfl) (fun _ => trivial)) ?_
      intro _
      refine GS.seq ?_
      refine GS.cond (t := decide (((v20_1 : Nat) : Int) < ((a0_Items.length : Nat) : Int))) rfl rfl (fun h73 => absb h73 (drop_dec0 hd51)) (fun _ => ?_)
      refine GS.exit rfl ?_
      refine GS.seq ?_
      refine GS.region (env' := fun _ => [(4, .bool true)]) (mem' := fun _ => []) (RunsTo.mk [] [4] [] (fun _ => []) (fun _ => by kernel_rfl) (fun _ => trivial)) ?_
      intro _
      have hy := Option.some.inj hm
      subst hy
      refine GS.ret (fn := Try.f23) [0] [.bool true] [] rfl Try.func23 (by kernel_rfl) trivial (fun w' hs => ?_)
      exact ⟨(), rfl, hs.turnedG (ks := []) rfl rfl⟩
    | cons x53 rs75 =>
      replace hm := (hst79 _ _ _ _).symm.trans hm
      try dsimp only at hm
      refine GS.seq ?_
      refine GS.region (env' := fun _ => [(5, .slice o6_1 l6_1.length k6_1), (18, .slice a0_Items_o a0_Items.length a0_Items_c), (19, .int .i64 ((a0_Items.length : Nat) : Int)), (20, .int .i64 ((v20_1 : Nat) : Int)), (21, .bool (decide (((v20_1 : Nat) : Int) < ((a0_Items.length : Nat) : Int))))]) (mem' := fun _ => [(3, r45 a0_Items_o a0_Items), (6, o45 o6_1 k6_1 l6_1)]) (RunsTo.mk [] [5, 18, 19, 20, 21] [3, 6] (fun _ => []) (fun _ => by kernel_rfl) (fun _ => trivial)) ?_
      intro _
      refine GS.seq ?_
      refine GS.cond (t := decide (((v20_1 : Nat) : Int) < ((a0_Items.length : Nat) : Int))) rfl rfl (fun _ => ?_) (fun h55 => absb (drop_dec hd51) h55)
      refine GS.skip ?_
      refine GS.seq ?_
      refine GS.block ?_
      refine GS.seq ?_
      refine GS.region (env' := fun fr56 => [(5, .slice o6_1 l6_1.length k6_1), (7, .pointer (some ⟨(fr56 2).x, 0, none⟩)), (18, .slice a0_Items_o a0_Items.length a0_Items_c), (19, .int .i64 ((a0_Items.length : Nat) : Int)), (20, .int .i64 ((v20_1 : Nat) : Int))]) (mem' := fun fr56 => [(3, r45 a0_Items_o a0_Items), (6, o45 o6_1 k6_1 l6_1), (7, .cells ((fr56 2).x) 45 [.string x53.Name, .int .i64 x53.Version.Epoch, .int .i64 x53.Version.N, .int .u32 x53.Crc])]) (RunsTo.mk [(0, { act := .idx 3 v20_1 }), (1, { act := .load 3 v20_1 0 [.string x53.Name, .int .i64 x53.Version.Epoch, .int .i64 x53.Version.N, .int .u32 x53.Crc] }), (2, { act := .new .var, key := some 7 }), (3, { act := .store 0 0 [], key := some 7 })] [5, 7, 18, 19, 20] [3, 6, 7] (fun fr56 => [a0_Items_o = a0_Items_o, a0_Items.length = (List.map S_api_Item.row a0_Items).length, (((v20_1 : Nat) : Int) : Int) = ((v20_1 : Nat) : Int), v20_1 < a0_Items.length, blk a0_Items_o = blk a0_Items_o, offs a0_Items_o + v20_1 * 4 = offs a0_Items_o + (v20_1 * 4 + 0), (List.map S_api_Item.row a0_Items)[v20_1]? = some [.string x53.Name, .int .i64 x53.Version.Epoch, .int .i64 x53.Version.N, .int .u32 x53.Crc], (fr56 2).x = (fr56 2).x, ((.agg #[.string x53.Name, .int .i64 x53.Version.Epoch, .int .i64 x53.Version.N, .int .u32 x53.Crc]) : Value).cells.toList.all Value.oneCell' = true]) (fun fr56 => by kernel_rfl) (fun fr56 => ⟨rfl, mlen S_api_Item.row a0_Items, rfl, (drop_lt hd51), rfl, rfl, map_drop S_api_Item.row hd51, rfl, rfl, trivial⟩)) ?_
      intro fr56
      refine GS.seq ?_
      refine bnd_elim hm (fun y58 e59 hm => ?_)
      refine GS.region (env' := fun _ => [(5, .slice o6_1 l6_1.length k6_1), (8, .int .i64 y58), (18, .slice a0_Items_o a0_Items.length a0_Items_c), (19, .int .i64 ((a0_Items.length : Nat) : Int)), (20, .int .i64 ((v20_1 : Nat) : Int))]) (mem' := fun _ => [(3, r45 a0_Items_o a0_Items), (6, o45 o6_1 k6_1 l6_1)]) (RunsTo.mk [(1, { act := .load 7 0 0 [] }), (2, { act := .call [6] (.int .i64 y58) })] [5, 8, 18, 19, 20] [3, 6] (fun _ => [(fr56 2).x = (fr56 2).x, CallOK Try.prog 41 #[.slice o6_1 l6_1.length k6_1, .agg #[.string x53.Name, .int .i64 x53.Version.Epoch, .int .i64 x53.Version.N, .int .u32 x53.Crc]] (.int .i64 y58) [some (o45 o6_1 k6_1 l6_1)]]) (fun _ => by kernel_rfl) (fun _ => ⟨rfl, (w_slices_Index___api_Item_api_Item_ F o6_1 k6_1 l6_1 x53 e59).ok ⟨(.inl ⟨o45 o6_1 k6_1 l6_1, .head _, Cov.osl_rd⟩), trivial⟩, trivial⟩)) ?_
      intro _
      refine GS.seq ?_
      refine GS.seq ?_
      refine GS.region (env' := fun _ => [(5, .slice o6_1 l6_1.length k6_1), (8, .int .i64 y58), (18, .slice a0_Items_o a0_Items.length a0_Items_c), (19, .int .i64 ((a0_Items.length : Nat) : Int)), (20, .int .i64 ((v20_1 : Nat) : Int)), (28, .bool (decide (y58 < 0)))]) (mem' := fun _ => [(3, r45 a0_Items_o a0_Items), (6, o45 o6_1 k6_1 l6_1)]) (RunsTo.mk [] [5, 8, 18, 19, 20, 28] [3, 6] (fun _ => []) (fun _ => by kernel_rfl) (fun _ => trivial)) ?_
      intro _
      refine GS.cond (t := decide (y58 < 0)) rfl rfl (fun h61 => ?_) (fun h61 => ?_)
      · replace hm := br_t h61 hm
        refine GS.seq ?_
        refine GS.region (env' := fun _ => [(4, .bool false)]) (mem' := fun _ => []) (RunsTo.mk [] [4] [] (fun _ => []) (fun _ => by kernel_rfl) (fun _ => trivial)) ?_
        intro _
        have hy := Option.some.inj hm
        subst hy
        refine GS.ret (fn := Try.f23) [0] [.bool false] [] rfl Try.func23 (by kernel_rfl) trivial (fun w' hs => ?_)
        exact ⟨(), rfl, hs.turnedG (ks := []) rfl rfl⟩
      · replace hm := br_f h61 hm
        refine GS.skip ?_
        refine grd_elim hm (fun g64 hm => ?_)
        refine bnd_elim hm (fun y65 e66 hm => ?_)
        refine GS.know (p := l6_1.length ≤ k6_1) (fun w hw => by first | (have h := (hw.ok 6 _ rfl).1.1; rw [List.length_map] at h; exact h) | simpa using (hw.ok 6 _ rfl).1.1) (fun k67 => ?_)
        refine GS.open_ ?_
        refine GR.run (i := 0) 4 (env' := fun _ => [(5, .slice o6_1 l6_1.length k6_1), (18, .slice a0_Items_o a0_Items.length a0_Items_c), (19, .int .i64 ((a0_Items.length : Nat) : Int)), (20, .int .i64 ((v20_1 : Nat) : Int)), (29, .slice o6_1 l6_1.length k6_1), (30, .int .i64 y58), (32, .int .i64 (y58 + 1))]) (mem' := fun _ => [(3, r45 a0_Items_o a0_Items), (6, o45 o6_1 k6_1 l6_1)]) (Nat.le_of_ble_eq_true (by kernel_rfl)) (RunsTo.mk [(3, { sp := some (.int .i64 (y58 + 1)) })] [5, 18, 19, 20, 29, 30, 32] [3, 6] (fun _ => [((.int .i64 (IntKind.i64.wrap (y58 + 1))) : Value) = .int .i64 (y58 + 1)]) (fun _ => by kernel_rfl) (fun _ => ⟨I64.w g64, trivial⟩)) ?_
        intro _
        refine GR.callG (X := Option Addr × Nat) (i := 4) (g := 42) (args := #[.slice o6_1 l6_1.length k6_1, .int .i64 y58, .int .i64 (y58 + 1)]) (v := fun ⟨x68, x69⟩ => .slice x68 y65.length x69) (own := [o45 o6_1 k6_1 l6_1]) (ro := []) (es' := fun ⟨x68, x69⟩ => [o45 x68 x69 y65]) (mem' := fun ⟨x68, x69⟩ => [(3, r45 a0_Items_o a0_Items), (8, o45 x68 x69 y65)]) (env' := fun ⟨x68, x69⟩ => [(5, .slice o6_1 l6_1.length k6_1), (18, .slice a0_Items_o a0_Items.length a0_Items_c), (19, .int .i64 ((a0_Items.length : Nat) : Int)), (20, .int .i64 ((v20_1 : Nat) : Int)), (33, .slice x68 y65.length x69)]) [6] [8] [5, 18, 19, 20, 33] [3, 8] false (by kernel_rfl) (by kernel_rfl) (by kernel_rfl) (by kernel_rfl) (by kernel_rfl) (fun _ => rfl) (fun _ _ => rfl) trivial (by rintro ⟨x68, x69⟩; kernel_rfl) (by rintro ⟨x68, x69⟩; kernel_rfl) (w_slices_Delete___api_Item_api_Item_ F o6_1 k6_1 l6_1 y58 (y58 + 1) k67 e66) ?_
        rintro ⟨x68, x69⟩
        refine GR.run (i := 5) 1 (env' := fun _ => [(5, .slice x68 y65.length x69), (18, .slice a0_Items_o a0_Items.length a0_Items_c), (19, .int .i64 ((a0_Items.length : Nat) : Int)), (20, .int .i64 ((v20_1 : Nat) : Int))]) (mem' := fun _ => [(3, r45 a0_Items_o a0_Items), (8, o45 x68 x69 y65)]) (Nat.le_of_ble_eq_true (by kernel_rfl)) (RunsTo.mk [] [5, 18, 19, 20] [3, 8] (fun _ => []) (fun _ => by kernel_rfl) (fun _ => trivial)) ?_
        intro _
        refine GR.done (Nat.le_of_ble_eq_true (by kernel_rfl)) ?_
        refine GS.inBlock ?_
        refine GS.region (env' := fun _ => [(5, .slice x68 y65.length x69), (18, .slice a0_Items_o a0_Items.length a0_Items_c), (19, .int .i64 ((a0_Items.length : Nat) : Int)), (20, .int .i64 ((v20_1 + 1 : Nat) : Int))]) (mem' := fun _ => [(3, r45 a0_Items_o a0_Items), (8, o45 x68 x69 y65)]) (RunsTo.mk [(0, { sp := some (.int .i64 ((v20_1 + 1 : Nat) : Int)) })] [5, 18, 19, 20] [3, 8] (fun _ => [((.int .i64 (IntKind.i64.wrap (((v20_1 : Nat) : Int) + 1))) : Value) = .int .i64 ((v20_1 + 1 : Nat) : Int)]) (fun _ => by kernel_rfl) (fun _ => ⟨natw (drop_lt hd51) g52, trivial⟩)) ?_
        intro _
        refine GS.inLoop ?_
        refine GS.rekey (env' := [(5, .slice x68 y65.length x69), (18, .slice a0_Items_o a0_Items.length a0_Items_c), (19, .int .i64 ((a0_Items.length : Nat) : Int)), (20, .int .i64 ((v20_1 + 1 : Nat) : Int))]) (mem' := [(3, r45 a0_Items_o a0_Items), (6, o45 x68 x69 y65)]) [5, 18, 19, 20] [(3, 3), (6, 8)] (by kernel_rfl) (by kernel_rfl) rfl ?_
        exact ih76 ⟨rs75, v20_1 + 1, y65, x68, x69⟩ ⟨drop_next hd51, hm⟩ (Nat.lt_succ_self _)

end Go.Proofs.Ytdelhcdknglibaa
