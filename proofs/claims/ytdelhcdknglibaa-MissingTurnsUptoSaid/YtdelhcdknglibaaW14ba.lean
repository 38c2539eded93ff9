/-
  CHAPTER 14b: the functions do what their models say (1).
-/
import Derived.Test.YtdelhcdknglibaaM14b
set_option linter.unusedVariables false
set_option linter.unusedSimpArgs false
set_option maxRecDepth 100000
namespace Go.Proofs.Ytdelhcdknglibaa
open Go Go.RowKit Sx

theorem w_missing_has_1 (F : Nat) (a0 : S_api_Entry) (a1b : Nat) (a1 : S_api_Version) {y : Bool} (hm : m_missing_has_1 F a0 a1 = some y) : CallG Try.prog 47 #[.agg #[.int .i64 a0.Version.Epoch, .int .i64 a0.Version.N, .bool a0.Remove, .int .i64 a0.Errno, .string a0.Name, .int .i64 a0.Client, .int .i64 a0.Number], .pointer (some ⟨a1b, 0, none⟩)] (X := Unit) (fun (_ : Unit) => .bool y) [] [.rd (some ⟨a1b, 0, none⟩) 2 ([[.int .i64 a1.Epoch, .int .i64 a1.N]] : List (List Value))] (fun (_ : Unit) => []) := by
  intro w hg
  rw [m_missing_has_1] at hm
  refine GS.start (S := mayT [] [.rd (some ⟨a1b, 0, none⟩) 2 ([[.int .i64 a1.Epoch, .int .i64 a1.N]] : List (List Value))]) (mem := [(1, .rd (some ⟨a1b, 0, none⟩) 2 ([[.int .i64 a1.Epoch, .int .i64 a1.N]] : List (List Value)))]) Try.func47 rfl Try.ntmps47 (Nat.le_of_ble_eq_true rfl) (hg.start rfl) ?_
  refine GS.conv (env' := [(0, .agg #[.int .i64 a0.Version.Epoch, .int .i64 a0.Version.N, .bool a0.Remove, .int .i64 a0.Errno, .string a0.Name, .int .i64 a0.Client, .int .i64 a0.Number]), (1, .pointer (some ⟨a1b, 0, none⟩))]) rfl rfl ?_
  refine GS.seq ?_
  refine GS.region (env' := fun fr1 => [(1, .pointer (some ⟨a1b, 0, none⟩)), (2, .pointer (some ⟨(fr1 0).x, 0, none⟩))]) (mem' := fun fr1 => [(1, .rd (some ⟨a1b, 0, none⟩) 2 ([[.int .i64 a1.Epoch, .int .i64 a1.N]] : List (List Value))), (2, .cells ((fr1 0).x) 53 [.int .i64 a0.Version.Epoch, .int .i64 a0.Version.N, .bool a0.Remove, .int .i64 a0.Errno, .string a0.Name, .int .i64 a0.Client, .int .i64 a0.Number])]) (RunsTo.mk [(0, { act := .new .var, key := some 2 })] [1, 2] [1, 2] (fun fr1 => []) (fun fr1 => by kernel_rfl) (fun fr1 => trivial)) ?_
  intro fr1
  refine GS.seq ?_
  refine GS.region (env' := fun _ => [(3, .bool (S_api_Version.beq a0.Version a1))]) (mem' := fun _ => []) (RunsTo.mk [(1, { act := .load 2 0 0 [] }), (2, { act := .load 1 0 0 [.int .i64 a1.Epoch, .int .i64 a1.N] }), (3, { act := .eq })] [3] [] (fun _ => [(fr1 0).x = (fr1 0).x, a1b = blk (some ⟨a1b, 0, none⟩), 0 = offs (some ⟨a1b, 0, none⟩) + (0 * 2 + 0), ([[.int .i64 a1.Epoch, .int .i64 a1.N]] : List (List Value))[0]? = some [.int .i64 a1.Epoch, .int .i64 a1.N]]) (fun _ => by kernel_rfl) (fun _ => ⟨rfl, rfl, rfl, rfl, trivial⟩)) ?_
  intro _
  have hy := Option.some.inj hm
  subst hy
  refine GS.ret (fn := Try.f47) [0] [.bool (S_api_Version.beq a0.Version a1)] [] rfl Try.func47 (by kernel_rfl) trivial (fun w' hs => ?_)
  exact ⟨(), rfl, hs.turnedG (ks := []) rfl rfl⟩

theorem w_slices_IndexFunc___api_Entry_api_Entry_ (F : Nat) (a0_o : Option Addr) (a0_c : Nat) (a0 : List S_api_Entry) (a1c0b : Nat) (a1c0 : S_api_Version) {y : Int} (hm : m_slices_IndexFunc___api_Entry_api_Entry_ F a0 a1c0 = some y) : CallG Try.prog 58 #[.slice a0_o a0.length a0_c, .func (.func 47) #[] #[.pointer (some ⟨a1c0b, 0, none⟩)]] (X := Unit) (fun (_ : Unit) => .int .i64 y) [] [r53 a0_o a0, .rd (some ⟨a1c0b, 0, none⟩) 2 ([[.int .i64 a1c0.Epoch, .int .i64 a1c0.N]] : List (List Value))] (fun (_ : Unit) => []) := by
  intro w hg
  rw [m_slices_IndexFunc___api_Entry_api_Entry_] at hm
  refine GS.start (S := mayT [] [r53 a0_o a0, .rd (some ⟨a1c0b, 0, none⟩) 2 ([[.int .i64 a1c0.Epoch, .int .i64 a1c0.N]] : List (List Value))]) (mem := [(1, r53 a0_o a0), (2, .rd (some ⟨a1c0b, 0, none⟩) 2 ([[.int .i64 a1c0.Epoch, .int .i64 a1c0.N]] : List (List Value)))]) Try.func58 rfl Try.ntmps58 (Nat.le_of_ble_eq_true rfl) (hg.start rfl) ?_
  refine GS.conv (env' := [(0, .slice a0_o a0.length a0_c), (1, .func (.func 47) #[] #[.pointer (some ⟨a1c0b, 0, none⟩)])]) rfl rfl ?_
  refine GS.seq ?_
  refine GS.region (env' := fun _ => [(0, .slice a0_o a0.length a0_c), (1, .func (.func 47) #[] #[.pointer (some ⟨a1c0b, 0, none⟩)])]) (mem' := fun _ => [(1, r53 a0_o a0), (2, .rd (some ⟨a1c0b, 0, none⟩) 2 ([[.int .i64 a1c0.Epoch, .int .i64 a1c0.N]] : List (List Value)))]) (RunsTo.mk [] [0, 1] [1, 2] (fun _ => []) (fun _ => by kernel_rfl) (fun _ => trivial)) ?_
  intro _
  refine GS.seq ?_
  refine GS.seq ?_
  refine GS.region (env' := fun _ => [(0, .slice a0_o a0.length a0_c), (1, .func (.func 47) #[] #[.pointer (some ⟨a1c0b, 0, none⟩)]), (7, .int .i64 ((a0.length : Nat) : Int)), (8, .int .i64 0)]) (mem' := fun _ => [(1, r53 a0_o a0), (2, .rd (some ⟨a1c0b, 0, none⟩) 2 ([[.int .i64 a1c0.Epoch, .int .i64 a1c0.N]] : List (List Value)))]) (RunsTo.mk [] [0, 1, 7, 8] [1, 2] (fun _ => []) (fun _ => by kernel_rfl) (fun _ => trivial)) ?_
  intro _
  refine GS.block ?_
  refine GS.loop ?_
  refine grd_elim hm (fun g25 hm => ?_)
  refine GS.rekey (env' := [(0, .slice a0_o a0.length a0_c), (1, .func (.func 47) #[] #[.pointer (some ⟨a1c0b, 0, none⟩)]), (7, .int .i64 ((a0.length : Nat) : Int)), (8, .int .i64 0)]) (mem' := [(1, r53 a0_o a0), (2, .rd (some ⟨a1c0b, 0, none⟩) 2 ([[.int .i64 a1c0.Epoch, .int .i64 a1c0.N]] : List (List Value)))]) [0, 1, 7, 8] [(1, 1), (2, 2)] (by kernel_rfl) (by kernel_rfl) rfl ?_
  refine loopL_elim hm (fun st41 fn42 hst43 hfn44 hm => ?_)
  refine GS.loopInv (ι := List S_api_Entry × Nat) (I := fun ⟨rs39, v8_1⟩ => a0.drop v8_1 = rs39 ∧ loopL st41 fn42 rs39 v8_1 () = some y) (μ := fun ⟨rs39, v8_1⟩ => rs39.length) (E := fun ⟨rs39, v8_1⟩ => [(0, .slice a0_o a0.length a0_c), (1, .func (.func 47) #[] #[.pointer (some ⟨a1c0b, 0, none⟩)]), (7, .int .i64 ((a0.length : Nat) : Int)), (8, .int .i64 ((v8_1 : Nat) : Int))]) (M := fun ⟨rs39, v8_1⟩ => [(1, r53 a0_o a0), (2, .rd (some ⟨a1c0b, 0, none⟩) 2 ([[.int .i64 a1c0.Epoch, .int .i64 a1c0.N]] : List (List Value)))]) ?_ ⟨a0, 0⟩ ⟨List.drop_zero .., hm⟩
  rintro ⟨rs39, v8_1⟩ ⟨hd24, hm⟩ ih40
  cases rs39 with
  | nil =>
    replace hm := (hfn44 _ _).symm.trans hm
    try dsimp only at hm
    refine GS.seq ?_
    refine GS.region (env' := fun _ => [(0, .slice a0_o a0.length a0_c), (1, .func (.func 47) #[] #[.pointer (some ⟨a1c0b, 0, none⟩)]), (7, .int .i64 ((a0.length : Nat) : Int)), (8, .int .i64 ((v8_1 : Nat) : Int)), (9, .bool (decide (((v8_1 : Nat) : Int) < ((a0.length : Nat) : Int))))]) (mem' := fun _ => [(1, r53 a0_o a0), (2, .rd (some ⟨a1c0b, 0, none⟩) 2 ([[.int .i64 a1c0.Epoch, .int .i64 a1c0.N]] : List (List Value)))]) (RunsTo.mk [] [0, 1, 7, 8, 9] [1, 2] (fun _ => []) (fun _ => by kernel_rfl) (fun _ => trivial)) ?_
    intro _
    refine GS.seq ?_
    refine GS.cond (t := decide (((v8_1 : Nat) : Int) < ((a0.length : Nat) : Int))) rfl rfl (fun h37 => absb h37 (drop_dec0 hd24)) (fun _ => ?_)
    refine GS.exit rfl ?_
    refine GS.seq ?_
    refine GS.region (env' := fun _ => [(4, .int .i64 (-1))]) (mem' := fun _ => []) (RunsTo.mk [] [4] [] (fun _ => []) (fun _ => by kernel_rfl) (fun _ => trivial)) ?_
    intro _
    have hy := Option.some.inj hm
    subst hy
    refine GS.ret (fn := Try.f58) [0] [.int .i64 (-1)] [] rfl Try.func58 (by kernel_rfl) trivial (fun w' hs => ?_)
    exact ⟨(), rfl, hs.turnedG (ks := []) rfl rfl⟩
  | cons x26 rs39 =>
    replace hm := (hst43 _ _ _ _).symm.trans hm
    try dsimp only at hm
    refine GS.seq ?_
    refine GS.region (env' := fun _ => [(0, .slice a0_o a0.length a0_c), (1, .func (.func 47) #[] #[.pointer (some ⟨a1c0b, 0, none⟩)]), (7, .int .i64 ((a0.length : Nat) : Int)), (8, .int .i64 ((v8_1 : Nat) : Int)), (9, .bool (decide (((v8_1 : Nat) : Int) < ((a0.length : Nat) : Int))))]) (mem' := fun _ => [(1, r53 a0_o a0), (2, .rd (some ⟨a1c0b, 0, none⟩) 2 ([[.int .i64 a1c0.Epoch, .int .i64 a1c0.N]] : List (List Value)))]) (RunsTo.mk [] [0, 1, 7, 8, 9] [1, 2] (fun _ => []) (fun _ => by kernel_rfl) (fun _ => trivial)) ?_
    intro _
    refine GS.seq ?_
    refine GS.cond (t := decide (((v8_1 : Nat) : Int) < ((a0.length : Nat) : Int))) rfl rfl (fun _ => ?_) (fun h28 => absb (drop_dec hd24) h28)
    refine GS.skip ?_
    refine GS.seq ?_
    refine GS.block ?_
    refine GS.seq ?_
    refine GS.region (env' := fun _ => [(0, .slice a0_o a0.length a0_c), (1, .func (.func 47) #[] #[.pointer (some ⟨a1c0b, 0, none⟩)]), (5, .int .i64 ((v8_1 : Nat) : Int)), (7, .int .i64 ((a0.length : Nat) : Int)), (8, .int .i64 ((v8_1 : Nat) : Int))]) (mem' := fun _ => [(1, r53 a0_o a0), (2, .rd (some ⟨a1c0b, 0, none⟩) 2 ([[.int .i64 a1c0.Epoch, .int .i64 a1c0.N]] : List (List Value)))]) (RunsTo.mk [] [0, 1, 5, 7, 8] [1, 2] (fun _ => []) (fun _ => by kernel_rfl) (fun _ => trivial)) ?_
    intro _
    refine GS.seq ?_
    refine bnd_elim hm (fun y31 e32 hm => ?_)
    refine GS.region (env' := fun _ => [(0, .slice a0_o a0.length a0_c), (1, .func (.func 47) #[] #[.pointer (some ⟨a1c0b, 0, none⟩)]), (5, .int .i64 ((v8_1 : Nat) : Int)), (7, .int .i64 ((a0.length : Nat) : Int)), (8, .int .i64 ((v8_1 : Nat) : Int)), (16, .bool y31)]) (mem' := fun _ => [(1, r53 a0_o a0), (2, .rd (some ⟨a1c0b, 0, none⟩) 2 ([[.int .i64 a1c0.Epoch, .int .i64 a1c0.N]] : List (List Value)))]) (RunsTo.mk [(3, { act := .idx 1 v8_1 }), (4, { act := .load 1 v8_1 0 [.int .i64 x26.Version.Epoch, .int .i64 x26.Version.N, .bool x26.Remove, .int .i64 x26.Errno, .string x26.Name, .int .i64 x26.Client, .int .i64 x26.Number] }), (5, { act := .call [2] (.bool y31) })] [0, 1, 5, 7, 8, 16] [1, 2] (fun _ => [a0_o = a0_o, a0.length = (List.map S_api_Entry.row a0).length, (((v8_1 : Nat) : Int) : Int) = ((v8_1 : Nat) : Int), v8_1 < a0.length, blk a0_o = blk a0_o, offs a0_o + v8_1 * 7 = offs a0_o + (v8_1 * 7 + 0), (List.map S_api_Entry.row a0)[v8_1]? = some [.int .i64 x26.Version.Epoch, .int .i64 x26.Version.N, .bool x26.Remove, .int .i64 x26.Errno, .string x26.Name, .int .i64 x26.Client, .int .i64 x26.Number], CallOK Try.prog 47 #[.agg #[.int .i64 x26.Version.Epoch, .int .i64 x26.Version.N, .bool x26.Remove, .int .i64 x26.Errno, .string x26.Name, .int .i64 x26.Client, .int .i64 x26.Number], .pointer (some ⟨a1c0b, 0, none⟩)] (.bool y31) [some (.rd (some ⟨a1c0b, 0, none⟩) 2 ([[.int .i64 a1c0.Epoch, .int .i64 a1c0.N]] : List (List Value)))]]) (fun _ => by kernel_rfl) (fun _ => ⟨rfl, mlen S_api_Entry.row a0, rfl, (drop_lt hd24), rfl, rfl, map_drop S_api_Entry.row hd24, (w_missing_has_1 F x26 a1c0b a1c0 e32).ok ⟨(.inl ⟨.rd (some ⟨a1c0b, 0, none⟩) 2 ([[.int .i64 a1c0.Epoch, .int .i64 a1c0.N]] : List (List Value)), .head _, Cov.refl _⟩), trivial⟩, trivial⟩)) ?_
    intro _
    refine GS.cond (t := y31) rfl rfl (fun h33 => ?_) (fun h33 => ?_)
    · replace hm := br_t h33 hm
      refine GS.seq ?_
      refine GS.region (env' := fun _ => [(4, .int .i64 ((v8_1 : Nat) : Int))]) (mem' := fun _ => []) (RunsTo.mk [] [4] [] (fun _ => []) (fun _ => by kernel_rfl) (fun _ => trivial)) ?_
      intro _
      have hy := Option.some.inj hm
      subst hy
      refine GS.ret (fn := Try.f58) [0] [.int .i64 ((v8_1 : Nat) : Int)] [] rfl Try.func58 (by kernel_rfl) trivial (fun w' hs => ?_)
      exact ⟨(), rfl, hs.turnedG (ks := []) rfl rfl⟩
    · replace hm := br_f h33 hm
      refine GS.skip ?_
      refine GS.inBlock ?_
      refine GS.region (env' := fun _ => [(0, .slice a0_o a0.length a0_c), (1, .func (.func 47) #[] #[.pointer (some ⟨a1c0b, 0, none⟩)]), (7, .int .i64 ((a0.length : Nat) : Int)), (8, .int .i64 ((v8_1 + 1 : Nat) : Int))]) (mem' := fun _ => [(1, r53 a0_o a0), (2, .rd (some ⟨a1c0b, 0, none⟩) 2 ([[.int .i64 a1c0.Epoch, .int .i64 a1c0.N]] : List (List Value)))]) (RunsTo.mk [(0, { sp := some (.int .i64 ((v8_1 + 1 : Nat) : Int)) })] [0, 1, 7, 8] [1, 2] (fun _ => [((.int .i64 (IntKind.i64.wrap (((v8_1 : Nat) : Int) + 1))) : Value) = .int .i64 ((v8_1 + 1 : Nat) : Int)]) (fun _ => by kernel_rfl) (fun _ => ⟨natw (drop_lt hd24) g25, trivial⟩)) ?_
      intro _
      refine GS.inLoop ?_
      refine GS.rekey (env' := [(0, .slice a0_o a0.length a0_c), (1, .func (.func 47) #[] #[.pointer (some ⟨a1c0b, 0, none⟩)]), (7, .int .i64 ((a0.length : Nat) : Int)), (8, .int .i64 ((v8_1 + 1 : Nat) : Int))]) (mem' := [(1, r53 a0_o a0), (2, .rd (some ⟨a1c0b, 0, none⟩) 2 ([[.int .i64 a1c0.Epoch, .int .i64 a1c0.N]] : List (List Value)))]) [0, 1, 7, 8] [(1, 1), (2, 2)] (by kernel_rfl) (by kernel_rfl) rfl ?_
      exact ih40 ⟨rs39, v8_1 + 1⟩ ⟨drop_next hd24, hm⟩ (Nat.lt_succ_self _)

theorem w_slices_ContainsFunc___api_Entry_api_Entry_ (F : Nat) (a0_o : Option Addr) (a0_c : Nat) (a0 : List S_api_Entry) (a1c0b : Nat) (a1c0 : S_api_Version) {y : Bool} (hm : m_slices_ContainsFunc___api_Entry_api_Entry_ F a0 a1c0 = some y) : CallG Try.prog 46 #[.slice a0_o a0.length a0_c, .func (.func 47) #[] #[.pointer (some ⟨a1c0b, 0, none⟩)]] (X := Unit) (fun (_ : Unit) => .bool y) [] [r53 a0_o a0, .rd (some ⟨a1c0b, 0, none⟩) 2 ([[.int .i64 a1c0.Epoch, .int .i64 a1c0.N]] : List (List Value))] (fun (_ : Unit) => []) := by
  intro w hg
  rw [m_slices_ContainsFunc___api_Entry_api_Entry_] at hm
  refine GS.start (S := mayT [] [r53 a0_o a0, .rd (some ⟨a1c0b, 0, none⟩) 2 ([[.int .i64 a1c0.Epoch, .int .i64 a1c0.N]] : List (List Value))]) (mem := [(1, r53 a0_o a0), (2, .rd (some ⟨a1c0b, 0, none⟩) 2 ([[.int .i64 a1c0.Epoch, .int .i64 a1c0.N]] : List (List Value)))]) Try.func46 rfl Try.ntmps46 (Nat.le_of_ble_eq_true rfl) (hg.start rfl) ?_
  refine GS.conv (env' := [(0, .slice a0_o a0.length a0_c), (1, .func (.func 47) #[] #[.pointer (some ⟨a1c0b, 0, none⟩)])]) rfl rfl ?_
  refine GS.seq ?_
  refine GS.region (env' := fun _ => [(0, .slice a0_o a0.length a0_c), (1, .func (.func 47) #[] #[.pointer (some ⟨a1c0b, 0, none⟩)])]) (mem' := fun _ => [(1, r53 a0_o a0), (2, .rd (some ⟨a1c0b, 0, none⟩) 2 ([[.int .i64 a1c0.Epoch, .int .i64 a1c0.N]] : List (List Value)))]) (RunsTo.mk [] [0, 1] [1, 2] (fun _ => []) (fun _ => by kernel_rfl) (fun _ => trivial)) ?_
  intro _
  refine GS.seq ?_
  refine bnd_elim hm (fun y3 e4 hm => ?_)
  refine GS.region (env' := fun _ => [(4, .bool (decide (y3 ≥ 0)))]) (mem' := fun _ => []) (RunsTo.mk [(2, { act := .call [1, 2] (.int .i64 y3) })] [4] [] (fun _ => [CallOK Try.prog 58 #[.slice a0_o a0.length a0_c, .func (.func 47) #[] #[.pointer (some ⟨a1c0b, 0, none⟩)]] (.int .i64 y3) [some (r53 a0_o a0), some (.rd (some ⟨a1c0b, 0, none⟩) 2 ([[.int .i64 a1c0.Epoch, .int .i64 a1c0.N]] : List (List Value)))]]) (fun _ => by kernel_rfl) (fun _ => ⟨(w_slices_IndexFunc___api_Entry_api_Entry_ F a0_o a0_c a0 a1c0b a1c0 e4).ok ⟨(.inl ⟨r53 a0_o a0, .head _, Cov.refl _⟩), (.inl ⟨.rd (some ⟨a1c0b, 0, none⟩) 2 ([[.int .i64 a1c0.Epoch, .int .i64 a1c0.N]] : List (List Value)), (.tail _ (.head _)), Cov.refl _⟩), trivial⟩, trivial⟩)) ?_
  intro _
  have hy := Option.some.inj hm
  subst hy
  refine GS.ret (fn := Try.f46) [0] [.bool (decide (y3 ≥ 0))] [] rfl Try.func46 (by kernel_rfl) trivial (fun w' hs => ?_)
  exact ⟨(), rfl, hs.turnedG (ks := []) rfl rfl⟩

theorem w_missing_has (F : Nat) (a0_Les : Int) (a0_Tail : S_api_Version) (a0_Log_o : Option Addr) (a0_Log_c : Nat) (a0_Log : List S_api_Entry) (a0_Lasts_o : Option Addr) (a0_Lasts_c : Nat) (a0_Lasts : List S_api_Last) (a0_Items_o : Option Addr) (a0_Items_c : Nat) (a0_Items : List S_api_Item) (a1 : S_api_Version) {y : Bool} (hm : m_missing_has F a0_Les a0_Tail a0_Log a0_Lasts a0_Items a1 = some y) : CallG Try.prog 28 #[.agg #[.int .i64 a0_Les, .int .i64 a0_Tail.Epoch, .int .i64 a0_Tail.N, .slice a0_Log_o a0_Log.length a0_Log_c, .slice a0_Lasts_o a0_Lasts.length a0_Lasts_c, .slice a0_Items_o a0_Items.length a0_Items_c], .agg #[.int .i64 a1.Epoch, .int .i64 a1.N]] (X := Unit) (fun (_ : Unit) => .bool y) [] [r53 a0_Log_o a0_Log, r83 a0_Lasts_o a0_Lasts, r45 a0_Items_o a0_Items] (fun (_ : Unit) => []) := by
  intro w hg
  rw [m_missing_has] at hm
  refine GS.start (S := mayT [] [r53 a0_Log_o a0_Log, r83 a0_Lasts_o a0_Lasts, r45 a0_Items_o a0_Items]) (mem := [(1, r53 a0_Log_o a0_Log), (2, r83 a0_Lasts_o a0_Lasts), (3, r45 a0_Items_o a0_Items)]) Try.func28 rfl Try.ntmps28 (Nat.le_of_ble_eq_true rfl) (hg.start rfl) ?_
  refine GS.conv (env' := [(0, .agg #[.int .i64 a0_Les, .int .i64 a0_Tail.Epoch, .int .i64 a0_Tail.N, .slice a0_Log_o a0_Log.length a0_Log_c, .slice a0_Lasts_o a0_Lasts.length a0_Lasts_c, .slice a0_Items_o a0_Items.length a0_Items_c]), (1, .agg #[.int .i64 a1.Epoch, .int .i64 a1.N])]) rfl rfl ?_
  refine GS.seq ?_
  refine GS.region (env' := fun fr1 => [(2, .pointer (some ⟨(fr1 0).x, 0, none⟩)), (3, .pointer (some ⟨(fr1 1).x, 0, none⟩))]) (mem' := fun fr1 => [(1, r53 a0_Log_o a0_Log), (2, r83 a0_Lasts_o a0_Lasts), (3, r45 a0_Items_o a0_Items), (4, .cells ((fr1 0).x) 28 [.int .i64 a0_Les, .int .i64 a0_Tail.Epoch, .int .i64 a0_Tail.N, .slice a0_Log_o a0_Log.length a0_Log_c, .slice a0_Lasts_o a0_Lasts.length a0_Lasts_c, .slice a0_Items_o a0_Items.length a0_Items_c]), (5, .cells ((fr1 1).x) 23 [.int .i64 a1.Epoch, .int .i64 a1.N])]) (RunsTo.mk [(0, { act := .new .var, key := some 4 }), (1, { act := .new .var, key := some 5 })] [2, 3] [1, 2, 3, 4, 5] (fun fr1 => []) (fun fr1 => by kernel_rfl) (fun fr1 => trivial)) ?_
  intro fr1
  refine GS.seq ?_
  refine br_elim hm (fun h3 hm => ?_) (fun h3 hm => ?_)
  · skip
    refine GS.region (env' := fun _ => [(4, .bool true)]) (mem' := fun _ => []) (RunsTo.mk [(1, { act := .load 4 0 0 [] }), (2, { act := .load 5 0 0 [] }), (3, { act := .eq }), (4, { sp := some (.bool true) })] [4] [] (fun _ => [(fr1 0).x = (fr1 0).x, (fr1 1).x = (fr1 1).x, ((.bool (S_api_Version.beq a0_Tail a1)) : Value) = .bool true]) (fun _ => by kernel_rfl) (fun _ => ⟨rfl, rfl, bool_eq h3, trivial⟩)) ?_
    intro _
    have hy := Option.some.inj hm
    subst hy
    refine GS.ret (fn := Try.f28) [0] [.bool true] [] rfl Try.func28 (by kernel_rfl) trivial (fun w' hs => ?_)
    exact ⟨(), rfl, hs.turnedG (ks := []) rfl rfl⟩
  · skip
    refine bnd_elim hm (fun y4 e5 hm => ?_)
    refine GS.region (env' := fun _ => [(4, .bool y4)]) (mem' := fun _ => []) (RunsTo.mk [(1, { act := .load 4 0 0 [] }), (2, { act := .load 5 0 0 [] }), (3, { act := .eq }), (4, { sp := some (.bool false) }), (6, { act := .load 4 0 0 [] }), (8, { act := .call [1, 5] (.bool y4) })] [4] [] (fun _ => [(fr1 0).x = (fr1 0).x, (fr1 1).x = (fr1 1).x, ((.bool (S_api_Version.beq a0_Tail a1)) : Value) = .bool false, (fr1 0).x = (fr1 0).x, CallOK Try.prog 46 #[.slice a0_Log_o a0_Log.length a0_Log_c, .func (.func 47) #[] #[.pointer (some ⟨(fr1 1).x, 0, none⟩)]] (.bool y4) [some (r53 a0_Log_o a0_Log), some (.cells ((fr1 1).x) 23 [.int .i64 a1.Epoch, .int .i64 a1.N])]]) (fun _ => by kernel_rfl) (fun _ => ⟨rfl, rfl, bool_eq h3, rfl, (w_slices_ContainsFunc___api_Entry_api_Entry_ F a0_Log_o a0_Log_c a0_Log (fr1 1).x a1 e5).ok ⟨(.inl ⟨r53 a0_Log_o a0_Log, .head _, Cov.refl _⟩), (.inl ⟨.cells ((fr1 1).x) 23 [.int .i64 a1.Epoch, .int .i64 a1.N], (.tail _ (.head _)), Cov.cells_rd⟩), trivial⟩, trivial⟩)) ?_
    intro _
    have hy := Option.some.inj hm
    subst hy
    refine GS.ret (fn := Try.f28) [0] [.bool y4] [] rfl Try.func28 (by kernel_rfl) trivial (fun w' hs => ?_)
    exact ⟨(), rfl, hs.turnedG (ks := []) rfl rfl⟩

theorem w_cmp_isNaN_int_ (F : Nat) (a0 : Int) {y : Bool} (hm : m_cmp_isNaN_int_ F a0 = some y) : CallG Try.prog 59 #[.int .i64 a0] (X := Unit) (fun (_ : Unit) => .bool y) [] [] (fun (_ : Unit) => []) := by
  intro w hg
  rw [m_cmp_isNaN_int_] at hm
  refine GS.start (S := mayT [] []) (mem := []) Try.func59 rfl Try.ntmps59 (Nat.le_of_ble_eq_true rfl) (hg.start rfl) ?_
  refine GS.conv (env' := [(0, .int .i64 a0)]) rfl rfl ?_
  refine GS.seq ?_
  refine GS.region (env' := fun _ => [(0, .int .i64 a0)]) (mem' := fun _ => []) (RunsTo.mk [] [0] [] (fun _ => []) (fun _ => by kernel_rfl) (fun _ => trivial)) ?_
  intro _
  refine GS.seq ?_
  refine GS.region (env' := fun _ => [(2, .bool (a0 != a0))]) (mem' := fun _ => []) (RunsTo.mk [] [2] [] (fun _ => []) (fun _ => by kernel_rfl) (fun _ => trivial)) ?_
  intro _
  have hy := Option.some.inj hm
  subst hy
  refine GS.ret (fn := Try.f59) [0] [.bool (a0 != a0)] [] rfl Try.func59 (by kernel_rfl) trivial (fun w' hs => ?_)
  exact ⟨(), rfl, hs.turnedG (ks := []) rfl rfl⟩

theorem w_cmp_Compare_int_ (F : Nat) (a0 : Int) (a1 : Int) {y : Int} (hm : m_cmp_Compare_int_ F a0 a1 = some y) : CallG Try.prog 48 #[.int .i64 a0, .int .i64 a1] (X := Unit) (fun (_ : Unit) => .int .i64 y) [] [] (fun (_ : Unit) => []) := by
  intro w hg
  rw [m_cmp_Compare_int_] at hm
  refine GS.start (S := mayT [] []) (mem := []) Try.func48 rfl Try.ntmps48 (Nat.le_of_ble_eq_true rfl) (hg.start rfl) ?_
  refine GS.conv (env' := [(0, .int .i64 a0), (1, .int .i64 a1)]) rfl rfl ?_
  refine GS.seq ?_
  refine GS.region (env' := fun _ => [(0, .int .i64 a0), (1, .int .i64 a1)]) (mem' := fun _ => []) (RunsTo.mk [] [0, 1] [] (fun _ => []) (fun _ => by kernel_rfl) (fun _ => trivial)) ?_
  intro _
  refine GS.seq ?_
  refine bnd_elim hm (fun y3 e4 hm => ?_)
  refine GS.region (env' := fun _ => [(0, .int .i64 a0), (1, .int .i64 a1), (5, .bool y3)]) (mem' := fun _ => []) (RunsTo.mk [(1, { act := .call [] (.bool y3) })] [0, 1, 5] [] (fun _ => [CallOK Try.prog 59 #[.int .i64 a0] (.bool y3) []]) (fun _ => by kernel_rfl) (fun _ => ⟨(w_cmp_isNaN_int_ F a0 e4).ok trivial, trivial⟩)) ?_
  intro _
  refine GS.seq ?_
  refine bnd_elim hm (fun y6 e7 hm => ?_)
  refine GS.region (env' := fun _ => [(0, .int .i64 a0), (1, .int .i64 a1), (5, .bool y3), (6, .bool y6)]) (mem' := fun _ => []) (RunsTo.mk [(1, { act := .call [] (.bool y6) })] [0, 1, 5, 6] [] (fun _ => [CallOK Try.prog 59 #[.int .i64 a1] (.bool y6) []]) (fun _ => by kernel_rfl) (fun _ => ⟨(w_cmp_isNaN_int_ F a1 e7).ok trivial, trivial⟩)) ?_
  intro _
  refine GS.seq ?_
  refine GS.seq ?_
  refine GS.region (env' := fun _ => [(0, .int .i64 a0), (1, .int .i64 a1), (6, .bool y6), (11, .bool y3)]) (mem' := fun _ => []) (RunsTo.mk [] [0, 1, 6, 11] [] (fun _ => []) (fun _ => by kernel_rfl) (fun _ => trivial)) ?_
  intro _
  refine GS.cond (t := y3) rfl rfl (fun h9 => ?_) (fun h9 => ?_)
  · replace hm := br_t h9 hm
    refine GS.seq ?_
    refine GS.seq ?_
    refine GS.region (env' := fun _ => [(12, .bool y6)]) (mem' := fun _ => []) (RunsTo.mk [] [12] [] (fun _ => []) (fun _ => by kernel_rfl) (fun _ => trivial)) ?_
    intro _
    refine GS.cond (t := y6) rfl rfl (fun h11 => ?_) (fun h11 => ?_)
    · replace hm := br_t h11 hm
      refine GS.seq ?_
      refine GS.region (env' := fun _ => [(4, .int .i64 0)]) (mem' := fun _ => []) (RunsTo.mk [] [4] [] (fun _ => []) (fun _ => by kernel_rfl) (fun _ => trivial)) ?_
      intro _
      have hy := Option.some.inj hm
      subst hy
      refine GS.ret (fn := Try.f48) [0] [.int .i64 0] [] rfl Try.func48 (by kernel_rfl) trivial (fun w' hs => ?_)
      exact ⟨(), rfl, hs.turnedG (ks := []) rfl rfl⟩
    · replace hm := br_f h11 hm
      refine GS.skip ?_
      refine GS.seq ?_
      refine GS.region (env' := fun _ => [(4, .int .i64 (-1))]) (mem' := fun _ => []) (RunsTo.mk [] [4] [] (fun _ => []) (fun _ => by kernel_rfl) (fun _ => trivial)) ?_
      intro _
      have hy := Option.some.inj hm
      subst hy
      refine GS.ret (fn := Try.f48) [0] [.int .i64 (-1)] [] rfl Try.func48 (by kernel_rfl) trivial (fun w' hs => ?_)
      exact ⟨(), rfl, hs.turnedG (ks := []) rfl rfl⟩
  · replace hm := br_f h9 hm
    refine GS.skip ?_
    refine GS.seq ?_
    refine GS.seq ?_
    refine GS.region (env' := fun _ => [(0, .int .i64 a0), (1, .int .i64 a1), (13, .bool y6)]) (mem' := fun _ => []) (RunsTo.mk [] [0, 1, 13] [] (fun _ => []) (fun _ => by kernel_rfl) (fun _ => trivial)) ?_
    intro _
    refine GS.cond (t := y6) rfl rfl (fun h15 => ?_) (fun h15 => ?_)
    · replace hm := br_t h15 hm
      refine GS.seq ?_
      refine GS.region (env' := fun _ => [(4, .int .i64 1)]) (mem' := fun _ => []) (RunsTo.mk [] [4] [] (fun _ => []) (fun _ => by kernel_rfl) (fun _ => trivial)) ?_
      intro _
      have hy := Option.some.inj hm
      subst hy
      refine GS.ret (fn := Try.f48) [0] [.int .i64 1] [] rfl Try.func48 (by kernel_rfl) trivial (fun w' hs => ?_)
      exact ⟨(), rfl, hs.turnedG (ks := []) rfl rfl⟩
    · replace hm := br_f h15 hm
      refine GS.skip ?_
      refine GS.seq ?_
      refine GS.seq ?_
      refine GS.region (env' := fun _ => [(0, .int .i64 a0), (1, .int .i64 a1), (16, .bool (decide (a0 < a1)))]) (mem' := fun _ => []) (RunsTo.mk [] [0, 1, 16] [] (fun _ => []) (fun _ => by kernel_rfl) (fun _ => trivial)) ?_
      intro _
      refine GS.cond (t := decide (a0 < a1)) rfl rfl (fun h18 => ?_) (fun h18 => ?_)
      · replace hm := br_t h18 hm
        refine GS.seq ?_
        refine GS.region (env' := fun _ => [(4, .int .i64 (-1))]) (mem' := fun _ => []) (RunsTo.mk [] [4] [] (fun _ => []) (fun _ => by kernel_rfl) (fun _ => trivial)) ?_
        intro _
        have hy := Option.some.inj hm
        subst hy
        refine GS.ret (fn := Try.f48) [0] [.int .i64 (-1)] [] rfl Try.func48 (by kernel_rfl) trivial (fun w' hs => ?_)
        exact ⟨(), rfl, hs.turnedG (ks := []) rfl rfl⟩
      · replace hm := br_f h18 hm
        refine GS.skip ?_
        refine GS.seq ?_
        refine GS.seq ?_
        refine GS.region (env' := fun _ => [(19, .bool (decide (a0 > a1)))]) (mem' := fun _ => []) (RunsTo.mk [] [19] [] (fun _ => []) (fun _ => by kernel_rfl) (fun _ => trivial)) ?_
        intro _
        refine GS.cond (t := decide (a0 > a1)) rfl rfl (fun h21 => ?_) (fun h21 => ?_)
        · replace hm := br_t h21 hm
          refine GS.seq ?_
          refine GS.region (env' := fun _ => [(4, .int .i64 1)]) (mem' := fun _ => []) (RunsTo.mk [] [4] [] (fun _ => []) (fun _ => by kernel_rfl) (fun _ => trivial)) ?_
          intro _
          have hy := Option.some.inj hm
          subst hy
          refine GS.ret (fn := Try.f48) [0] [.int .i64 1] [] rfl Try.func48 (by kernel_rfl) trivial (fun w' hs => ?_)
          exact ⟨(), rfl, hs.turnedG (ks := []) rfl rfl⟩
        · replace hm := br_f h21 hm
          refine GS.skip ?_
          refine GS.seq ?_
          refine GS.region (env' := fun _ => [(4, .int .i64 0)]) (mem' := fun _ => []) (RunsTo.mk [] [4] [] (fun _ => []) (fun _ => by kernel_rfl) (fun _ => trivial)) ?_
          intro _
          have hy := Option.some.inj hm
          subst hy
          refine GS.ret (fn := Try.f48) [0] [.int .i64 0] [] rfl Try.func48 (by kernel_rfl) trivial (fun w' hs => ?_)
          exact ⟨(), rfl, hs.turnedG (ks := []) rfl rfl⟩

theorem w_pglog_Cmp (F : Nat) (a0 : S_api_Version) (a1 : S_api_Version) {y : Int} (hm : m_pglog_Cmp F a0 a1 = some y) : CallG Try.prog 29 #[.agg #[.int .i64 a0.Epoch, .int .i64 a0.N], .agg #[.int .i64 a1.Epoch, .int .i64 a1.N]] (X := Unit) (fun (_ : Unit) => .int .i64 y) [] [] (fun (_ : Unit) => []) := by
  intro w hg
  rw [m_pglog_Cmp] at hm
  refine GS.start (S := mayT [] []) (mem := []) Try.func29 rfl Try.ntmps29 (Nat.le_of_ble_eq_true rfl) (hg.start rfl) ?_
  refine GS.conv (env' := [(0, .agg #[.int .i64 a0.Epoch, .int .i64 a0.N]), (1, .agg #[.int .i64 a1.Epoch, .int .i64 a1.N])]) rfl rfl ?_
  refine GS.seq ?_
  refine GS.region (env' := fun fr1 => [(2, .pointer (some ⟨(fr1 0).x, 0, none⟩)), (3, .pointer (some ⟨(fr1 1).x, 0, none⟩))]) (mem' := fun fr1 => [(1, .cells ((fr1 0).x) 23 [.int .i64 a0.Epoch, .int .i64 a0.N]), (2, .cells ((fr1 1).x) 23 [.int .i64 a1.Epoch, .int .i64 a1.N])]) (RunsTo.mk [(0, { act := .new .var, key := some 1 }), (1, { act := .new .var, key := some 2 })] [2, 3] [1, 2] (fun fr1 => []) (fun fr1 => by kernel_rfl) (fun fr1 => trivial)) ?_
  intro fr1
  refine GS.seq ?_
  refine GS.seq ?_
  refine bnd_elim hm (fun y3 e4 hm => ?_)
  refine GS.region (env' := fun _ => [(2, .pointer (some ⟨(fr1 0).x, 0, none⟩)), (3, .pointer (some ⟨(fr1 1).x, 0, none⟩)), (5, .int .i64 y3)]) (mem' := fun _ => [(1, .cells ((fr1 0).x) 23 [.int .i64 a0.Epoch, .int .i64 a0.N]), (2, .cells ((fr1 1).x) 23 [.int .i64 a1.Epoch, .int .i64 a1.N])]) (RunsTo.mk [(1, { act := .load 1 0 0 [] }), (3, { act := .load 2 0 0 [] }), (4, { act := .call [] (.int .i64 y3) })] [2, 3, 5] [1, 2] (fun _ => [(fr1 0).x = (fr1 0).x, (fr1 1).x = (fr1 1).x, CallOK Try.prog 48 #[.int .i64 a0.Epoch, .int .i64 a1.Epoch] (.int .i64 y3) []]) (fun _ => by kernel_rfl) (fun _ => ⟨rfl, rfl, (w_cmp_Compare_int_ F a0.Epoch a1.Epoch e4).ok trivial, trivial⟩)) ?_
  intro _
  refine GS.seq ?_
  refine GS.region (env' := fun _ => [(2, .pointer (some ⟨(fr1 0).x, 0, none⟩)), (3, .pointer (some ⟨(fr1 1).x, 0, none⟩)), (5, .int .i64 y3), (12, .bool (y3 != 0))]) (mem' := fun _ => [(1, .cells ((fr1 0).x) 23 [.int .i64 a0.Epoch, .int .i64 a0.N]), (2, .cells ((fr1 1).x) 23 [.int .i64 a1.Epoch, .int .i64 a1.N])]) (RunsTo.mk [] [2, 3, 5, 12] [1, 2] (fun _ => []) (fun _ => by kernel_rfl) (fun _ => trivial)) ?_
  intro _
  refine GS.cond (t := y3 != 0) rfl rfl (fun h6 => ?_) (fun h6 => ?_)
  · replace hm := br_t h6 hm
    refine GS.seq ?_
    refine GS.region (env' := fun _ => [(4, .int .i64 y3)]) (mem' := fun _ => []) (RunsTo.mk [] [4] [] (fun _ => []) (fun _ => by kernel_rfl) (fun _ => trivial)) ?_
    intro _
    have hy := Option.some.inj hm
    subst hy
    refine GS.ret (fn := Try.f29) [0] [.int .i64 y3] [] rfl Try.func29 (by kernel_rfl) trivial (fun w' hs => ?_)
    exact ⟨(), rfl, hs.turnedG (ks := []) rfl rfl⟩
  · replace hm := br_f h6 hm
    refine GS.skip ?_
    refine GS.seq ?_
    refine bnd_elim hm (fun y9 e10 hm => ?_)
    refine GS.region (env' := fun _ => [(4, .int .i64 y9)]) (mem' := fun _ => []) (RunsTo.mk [(1, { act := .load 1 0 0 [] }), (3, { act := .load 2 0 0 [] }), (4, { act := .call [] (.int .i64 y9) })] [4] [] (fun _ => [(fr1 0).x = (fr1 0).x, (fr1 1).x = (fr1 1).x, CallOK Try.prog 48 #[.int .i64 a0.N, .int .i64 a1.N] (.int .i64 y9) []]) (fun _ => by kernel_rfl) (fun _ => ⟨rfl, rfl, (w_cmp_Compare_int_ F a0.N a1.N e10).ok trivial, trivial⟩)) ?_
    intro _
    have hy := Option.some.inj hm
    subst hy
    refine GS.ret (fn := Try.f29) [0] [.int .i64 y9] [] rfl Try.func29 (by kernel_rfl) trivial (fun w' hs => ?_)
    exact ⟨(), rfl, hs.turnedG (ks := []) rfl rfl⟩

theorem w_missing_Common_1 (F : Nat) (a0 : S_api_Version) (a1b : Nat) (a1_Les : Int) (a1_Tail : S_api_Version) (a1_Log_o : Option Addr) (a1_Log_c : Nat) (a1_Log : List S_api_Entry) (a1_Lasts_o : Option Addr) (a1_Lasts_c : Nat) (a1_Lasts : List S_api_Last) (a1_Items_o : Option Addr) (a1_Items_c : Nat) (a1_Items : List S_api_Item) (a2b : Nat) (a2 : Bool) (a3b : Nat) (a3 : S_api_Version) {y : Bool × S_api_Version} (hm : m_missing_Common_1 F a0 a1_Les a1_Tail a1_Log a1_Lasts a1_Items a2 a3 = some y) : CallG Try.prog 27 #[.agg #[.int .i64 a0.Epoch, .int .i64 a0.N], .pointer (some ⟨a1b, 0, none⟩), .pointer (some ⟨a2b, 0, none⟩), .pointer (some ⟨a3b, 0, none⟩)] (X := Unit) (fun (_ : Unit) => .tuple #[]) [.cells a2b 4 [.bool a2], .cells a3b 23 [.int .i64 a3.Epoch, .int .i64 a3.N]] [r53 a1_Log_o a1_Log, r83 a1_Lasts_o a1_Lasts, r45 a1_Items_o a1_Items, .rd (some ⟨a1b, 0, none⟩) 6 ([[.int .i64 a1_Les, .int .i64 a1_Tail.Epoch, .int .i64 a1_Tail.N, .slice a1_Log_o a1_Log.length a1_Log_c, .slice a1_Lasts_o a1_Lasts.length a1_Lasts_c, .slice a1_Items_o a1_Items.length a1_Items_c]] : List (List Value))] (fun (_ : Unit) => [.cells a2b 4 [.bool y.1], .cells a3b 23 [.int .i64 y.2.Epoch, .int .i64 y.2.N]]) := by
  intro w hg
  rw [m_missing_Common_1] at hm
  refine GS.start (S := mayT [.cells a2b 4 [.bool a2], .cells a3b 23 [.int .i64 a3.Epoch, .int .i64 a3.N]] [r53 a1_Log_o a1_Log, r83 a1_Lasts_o a1_Lasts, r45 a1_Items_o a1_Items, .rd (some ⟨a1b, 0, none⟩) 6 ([[.int .i64 a1_Les, .int .i64 a1_Tail.Epoch, .int .i64 a1_Tail.N, .slice a1_Log_o a1_Log.length a1_Log_c, .slice a1_Lasts_o a1_Lasts.length a1_Lasts_c, .slice a1_Items_o a1_Items.length a1_Items_c]] : List (List Value))]) (mem := [(1, .cells a2b 4 [.bool a2]), (2, .cells a3b 23 [.int .i64 a3.Epoch, .int .i64 a3.N]), (3, r53 a1_Log_o a1_Log), (4, r83 a1_Lasts_o a1_Lasts), (5, r45 a1_Items_o a1_Items), (6, .rd (some ⟨a1b, 0, none⟩) 6 ([[.int .i64 a1_Les, .int .i64 a1_Tail.Epoch, .int .i64 a1_Tail.N, .slice a1_Log_o a1_Log.length a1_Log_c, .slice a1_Lasts_o a1_Lasts.length a1_Lasts_c, .slice a1_Items_o a1_Items.length a1_Items_c]] : List (List Value)))]) Try.func27 rfl Try.ntmps27 (Nat.le_of_ble_eq_true rfl) (hg.start rfl) ?_
  refine GS.conv (env' := [(0, .agg #[.int .i64 a0.Epoch, .int .i64 a0.N]), (1, .pointer (some ⟨a1b, 0, none⟩)), (2, .pointer (some ⟨a2b, 0, none⟩)), (3, .pointer (some ⟨a3b, 0, none⟩))]) rfl rfl ?_
  refine GS.seq ?_
  refine GS.region (env' := fun fr1 => [(1, .pointer (some ⟨a1b, 0, none⟩)), (2, .pointer (some ⟨a2b, 0, none⟩)), (3, .pointer (some ⟨a3b, 0, none⟩)), (4, .pointer (some ⟨(fr1 0).x, 0, none⟩))]) (mem' := fun fr1 => [(1, .cells a2b 4 [.bool a2]), (2, .cells a3b 23 [.int .i64 a3.Epoch, .int .i64 a3.N]), (3, r53 a1_Log_o a1_Log), (4, r83 a1_Lasts_o a1_Lasts), (5, r45 a1_Items_o a1_Items), (6, .rd (some ⟨a1b, 0, none⟩) 6 ([[.int .i64 a1_Les, .int .i64 a1_Tail.Epoch, .int .i64 a1_Tail.N, .slice a1_Log_o a1_Log.length a1_Log_c, .slice a1_Lasts_o a1_Lasts.length a1_Lasts_c, .slice a1_Items_o a1_Items.length a1_Items_c]] : List (List Value))), (7, .cells ((fr1 0).x) 23 [.int .i64 a0.Epoch, .int .i64 a0.N])]) (RunsTo.mk [(0, { act := .new .var, key := some 7 })] [1, 2, 3, 4] [1, 2, 3, 4, 5, 6, 7] (fun fr1 => []) (fun fr1 => by kernel_rfl) (fun fr1 => trivial)) ?_
  intro fr1
  refine GS.seq ?_
  refine jn_elim hm (fun J6 hJ8 hm => ?_)
  refine GS.cut (ι := Bool) (I := fun (v17_1 : Bool) => J6 v17_1 = some y) (E := fun (v17_1 : Bool) => [(2, .pointer (some ⟨a2b, 0, none⟩)), (3, .pointer (some ⟨a3b, 0, none⟩)), (4, .pointer (some ⟨(fr1 0).x, 0, none⟩)), (17, .bool v17_1)]) (M := fun (v17_1 : Bool) => [(1, .cells a2b 4 [.bool a2]), (2, .cells a3b 23 [.int .i64 a3.Epoch, .int .i64 a3.N]), (7, .cells ((fr1 0).x) 23 [.int .i64 a0.Epoch, .int .i64 a0.N])]) ?_ ?_
  rotate_left
  · intro H7
    refine bnd_elim hm (fun y3 e4 hm => ?_)
    refine br_elim hm (fun h5 hm => ?_) (fun h5 hm => ?_)
    · skip
      refine br_elim hm (fun h6 hm => ?_) (fun h6 hm => ?_)
      · skip
        refine GS.region (env' := fun _ => [(2, .pointer (some ⟨a2b, 0, none⟩)), (3, .pointer (some ⟨a3b, 0, none⟩)), (4, .pointer (some ⟨(fr1 0).x, 0, none⟩)), (17, .bool true)]) (mem' := fun _ => [(1, .cells a2b 4 [.bool a2]), (2, .cells a3b 23 [.int .i64 a3.Epoch, .int .i64 a3.N]), (7, .cells ((fr1 0).x) 23 [.int .i64 a0.Epoch, .int .i64 a0.N])]) (RunsTo.mk [(0, { act := .load 6 0 0 [.int .i64 a1_Les, .int .i64 a1_Tail.Epoch, .int .i64 a1_Tail.N, .slice a1_Log_o a1_Log.length a1_Log_c, .slice a1_Lasts_o a1_Lasts.length a1_Lasts_c, .slice a1_Items_o a1_Items.length a1_Items_c] }), (1, { act := .load 7 0 0 [] }), (2, { act := .call [3, 4, 5] (.bool y3) }), (3, { sp := some (.bool true) }), (4, { act := .load 1 0 0 [] }), (6, { sp := some (.bool true) })] [2, 3, 4, 17] [1, 2, 7] (fun _ => [a1b = blk (some ⟨a1b, 0, none⟩), 0 = offs (some ⟨a1b, 0, none⟩) + (0 * 6 + 0), ([[.int .i64 a1_Les, .int .i64 a1_Tail.Epoch, .int .i64 a1_Tail.N, .slice a1_Log_o a1_Log.length a1_Log_c, .slice a1_Lasts_o a1_Lasts.length a1_Lasts_c, .slice a1_Items_o a1_Items.length a1_Items_c]] : List (List Value))[0]? = some [.int .i64 a1_Les, .int .i64 a1_Tail.Epoch, .int .i64 a1_Tail.N, .slice a1_Log_o a1_Log.length a1_Log_c, .slice a1_Lasts_o a1_Lasts.length a1_Lasts_c, .slice a1_Items_o a1_Items.length a1_Items_c], (fr1 0).x = (fr1 0).x, CallOK Try.prog 28 #[.agg #[.int .i64 a1_Les, .int .i64 a1_Tail.Epoch, .int .i64 a1_Tail.N, .slice a1_Log_o a1_Log.length a1_Log_c, .slice a1_Lasts_o a1_Lasts.length a1_Lasts_c, .slice a1_Items_o a1_Items.length a1_Items_c], .agg #[.int .i64 a0.Epoch, .int .i64 a0.N]] (.bool y3) [some (r53 a1_Log_o a1_Log), some (r83 a1_Lasts_o a1_Lasts), some (r45 a1_Items_o a1_Items)], ((.bool y3) : Value) = .bool true, a2b = a2b, ((.bool (!a2)) : Value) = .bool true]) (fun _ => by kernel_rfl) (fun _ => ⟨rfl, rfl, rfl, rfl, (w_missing_has F a1_Les a1_Tail a1_Log_o a1_Log_c a1_Log a1_Lasts_o a1_Lasts_c a1_Lasts a1_Items_o a1_Items_c a1_Items a0 e4).ok ⟨(.inl ⟨r53 a1_Log_o a1_Log, .head _, Cov.refl _⟩), (.inl ⟨r83 a1_Lasts_o a1_Lasts, (.tail _ (.head _)), Cov.refl _⟩), (.inl ⟨r45 a1_Items_o a1_Items, (.tail _ (.tail _ (.head _))), Cov.refl _⟩), trivial⟩, bool_eq h5, rfl, bool_eq h6, trivial⟩)) ?_
        intro _
        refine GS.rekey (env' := [(2, .pointer (some ⟨a2b, 0, none⟩)), (3, .pointer (some ⟨a3b, 0, none⟩)), (4, .pointer (some ⟨(fr1 0).x, 0, none⟩)), (17, .bool true)]) (mem' := [(1, .cells a2b 4 [.bool a2]), (2, .cells a3b 23 [.int .i64 a3.Epoch, .int .i64 a3.N]), (7, .cells ((fr1 0).x) 23 [.int .i64 a0.Epoch, .int .i64 a0.N])]) [2, 3, 4, 17] [(1, 1), (2, 2), (7, 7)] (by kernel_rfl) (by kernel_rfl) rfl ?_
        exact H7 true hm
      · skip
        refine bnd_elim hm (fun y7 e8 hm => ?_)
        refine GS.region (env' := fun _ => [(2, .pointer (some ⟨a2b, 0, none⟩)), (3, .pointer (some ⟨a3b, 0, none⟩)), (4, .pointer (some ⟨(fr1 0).x, 0, none⟩)), (17, .bool (decide (y7 > 0)))]) (mem' := fun _ => [(1, .cells a2b 4 [.bool a2]), (2, .cells a3b 23 [.int .i64 a3.Epoch, .int .i64 a3.N]), (7, .cells ((fr1 0).x) 23 [.int .i64 a0.Epoch, .int .i64 a0.N])]) (RunsTo.mk [(0, { act := .load 6 0 0 [.int .i64 a1_Les, .int .i64 a1_Tail.Epoch, .int .i64 a1_Tail.N, .slice a1_Log_o a1_Log.length a1_Log_c, .slice a1_Lasts_o a1_Lasts.length a1_Lasts_c, .slice a1_Items_o a1_Items.length a1_Items_c] }), (1, { act := .load 7 0 0 [] }), (2, { act := .call [3, 4, 5] (.bool y3) }), (3, { sp := some (.bool true) }), (4, { act := .load 1 0 0 [] }), (6, { sp := some (.bool false) }), (7, { act := .load 7 0 0 [] }), (8, { act := .load 2 0 0 [] }), (9, { act := .call [] (.int .i64 y7) })] [2, 3, 4, 17] [1, 2, 7] (fun _ => [a1b = blk (some ⟨a1b, 0, none⟩), 0 = offs (some ⟨a1b, 0, none⟩) + (0 * 6 + 0), ([[.int .i64 a1_Les, .int .i64 a1_Tail.Epoch, .int .i64 a1_Tail.N, .slice a1_Log_o a1_Log.length a1_Log_c, .slice a1_Lasts_o a1_Lasts.length a1_Lasts_c, .slice a1_Items_o a1_Items.length a1_Items_c]] : List (List Value))[0]? = some [.int .i64 a1_Les, .int .i64 a1_Tail.Epoch, .int .i64 a1_Tail.N, .slice a1_Log_o a1_Log.length a1_Log_c, .slice a1_Lasts_o a1_Lasts.length a1_Lasts_c, .slice a1_Items_o a1_Items.length a1_Items_c], (fr1 0).x = (fr1 0).x, CallOK Try.prog 28 #[.agg #[.int .i64 a1_Les, .int .i64 a1_Tail.Epoch, .int .i64 a1_Tail.N, .slice a1_Log_o a1_Log.length a1_Log_c, .slice a1_Lasts_o a1_Lasts.length a1_Lasts_c, .slice a1_Items_o a1_Items.length a1_Items_c], .agg #[.int .i64 a0.Epoch, .int .i64 a0.N]] (.bool y3) [some (r53 a1_Log_o a1_Log), some (r83 a1_Lasts_o a1_Lasts), some (r45 a1_Items_o a1_Items)], ((.bool y3) : Value) = .bool true, a2b = a2b, ((.bool (!a2)) : Value) = .bool false, (fr1 0).x = (fr1 0).x, a3b = a3b, CallOK Try.prog 29 #[.agg #[.int .i64 a0.Epoch, .int .i64 a0.N], .agg #[.int .i64 a3.Epoch, .int .i64 a3.N]] (.int .i64 y7) []]) (fun _ => by kernel_rfl) (fun _ => ⟨rfl, rfl, rfl, rfl, (w_missing_has F a1_Les a1_Tail a1_Log_o a1_Log_c a1_Log a1_Lasts_o a1_Lasts_c a1_Lasts a1_Items_o a1_Items_c a1_Items a0 e4).ok ⟨(.inl ⟨r53 a1_Log_o a1_Log, .head _, Cov.refl _⟩), (.inl ⟨r83 a1_Lasts_o a1_Lasts, (.tail _ (.head _)), Cov.refl _⟩), (.inl ⟨r45 a1_Items_o a1_Items, (.tail _ (.tail _ (.head _))), Cov.refl _⟩), trivial⟩, bool_eq h5, rfl, bool_eq h6, rfl, rfl, (w_pglog_Cmp F a0 a3 e8).ok trivial, trivial⟩)) ?_
        intro _
        refine GS.rekey (env' := [(2, .pointer (some ⟨a2b, 0, none⟩)), (3, .pointer (some ⟨a3b, 0, none⟩)), (4, .pointer (some ⟨(fr1 0).x, 0, none⟩)), (17, .bool (decide (y7 > 0)))]) (mem' := [(1, .cells a2b 4 [.bool a2]), (2, .cells a3b 23 [.int .i64 a3.Epoch, .int .i64 a3.N]), (7, .cells ((fr1 0).x) 23 [.int .i64 a0.Epoch, .int .i64 a0.N])]) [2, 3, 4, 17] [(1, 1), (2, 2), (7, 7)] (by kernel_rfl) (by kernel_rfl) rfl ?_
        exact H7 (decide (y7 > 0)) hm
    · skip
      refine GS.region (env' := fun _ => [(2, .pointer (some ⟨a2b, 0, none⟩)), (3, .pointer (some ⟨a3b, 0, none⟩)), (4, .pointer (some ⟨(fr1 0).x, 0, none⟩)), (17, .bool false)]) (mem' := fun _ => [(1, .cells a2b 4 [.bool a2]), (2, .cells a3b 23 [.int .i64 a3.Epoch, .int .i64 a3.N]), (7, .cells ((fr1 0).x) 23 [.int .i64 a0.Epoch, .int .i64 a0.N])]) (RunsTo.mk [(0, { act := .load 6 0 0 [.int .i64 a1_Les, .int .i64 a1_Tail.Epoch, .int .i64 a1_Tail.N, .slice a1_Log_o a1_Log.length a1_Log_c, .slice a1_Lasts_o a1_Lasts.length a1_Lasts_c, .slice a1_Items_o a1_Items.length a1_Items_c] }), (1, { act := .load 7 0 0 [] }), (2, { act := .call [3, 4, 5] (.bool y3) }), (3, { sp := some (.bool false) })] [2, 3, 4, 17] [1, 2, 7] (fun _ => [a1b = blk (some ⟨a1b, 0, none⟩), 0 = offs (some ⟨a1b, 0, none⟩) + (0 * 6 + 0), ([[.int .i64 a1_Les, .int .i64 a1_Tail.Epoch, .int .i64 a1_Tail.N, .slice a1_Log_o a1_Log.length a1_Log_c, .slice a1_Lasts_o a1_Lasts.length a1_Lasts_c, .slice a1_Items_o a1_Items.length a1_Items_c]] : List (List Value))[0]? = some [.int .i64 a1_Les, .int .i64 a1_Tail.Epoch, .int .i64 a1_Tail.N, .slice a1_Log_o a1_Log.length a1_Log_c, .slice a1_Lasts_o a1_Lasts.length a1_Lasts_c, .slice a1_Items_o a1_Items.length a1_Items_c], (fr1 0).x = (fr1 0).x, CallOK Try.prog 28 #[.agg #[.int .i64 a1_Les, .int .i64 a1_Tail.Epoch, .int .i64 a1_Tail.N, .slice a1_Log_o a1_Log.length a1_Log_c, .slice a1_Lasts_o a1_Lasts.length a1_Lasts_c, .slice a1_Items_o a1_Items.length a1_Items_c], .agg #[.int .i64 a0.Epoch, .int .i64 a0.N]] (.bool y3) [some (r53 a1_Log_o a1_Log), some (r83 a1_Lasts_o a1_Lasts), some (r45 a1_Items_o a1_Items)], ((.bool y3) : Value) = .bool false]) (fun _ => by kernel_rfl) (fun _ => ⟨rfl, rfl, rfl, rfl, (w_missing_has F a1_Les a1_Tail a1_Log_o a1_Log_c a1_Log a1_Lasts_o a1_Lasts_c a1_Lasts a1_Items_o a1_Items_c a1_Items a0 e4).ok ⟨(.inl ⟨r53 a1_Log_o a1_Log, .head _, Cov.refl _⟩), (.inl ⟨r83 a1_Lasts_o a1_Lasts, (.tail _ (.head _)), Cov.refl _⟩), (.inl ⟨r45 a1_Items_o a1_Items, (.tail _ (.tail _ (.head _))), Cov.refl _⟩), trivial⟩, bool_eq h5, trivial⟩)) ?_
      intro _
      refine GS.rekey (env' := [(2, .pointer (some ⟨a2b, 0, none⟩)), (3, .pointer (some ⟨a3b, 0, none⟩)), (4, .pointer (some ⟨(fr1 0).x, 0, none⟩)), (17, .bool false)]) (mem' := [(1, .cells a2b 4 [.bool a2]), (2, .cells a3b 23 [.int .i64 a3.Epoch, .int .i64 a3.N]), (7, .cells ((fr1 0).x) 23 [.int .i64 a0.Epoch, .int .i64 a0.N])]) [2, 3, 4, 17] [(1, 1), (2, 2), (7, 7)] (by kernel_rfl) (by kernel_rfl) rfl ?_
      exact H7 false hm
  · rintro v17_1 hm
    replace hm := (hJ8 _).symm.trans hm
    try dsimp only at hm
    refine GS.cond (t := v17_1) rfl rfl (fun h9 => ?_) (fun h9 => ?_)
    · replace hm := br_t h9 hm
      refine GS.region (env' := fun _ => []) (mem' := fun _ => [(1, .cells a2b 4 [.bool true]), (2, .cells a3b 23 [.int .i64 a0.Epoch, .int .i64 a0.N])]) (RunsTo.mk [(0, { act := .load 7 0 0 [] }), (1, { act := .store 0 0 [], key := some 2 }), (2, { act := .store 0 0 [], key := some 1 })] [] [1, 2] (fun _ => [(fr1 0).x = (fr1 0).x, a3b = a3b, ((.agg #[.int .i64 a0.Epoch, .int .i64 a0.N]) : Value).cells.toList.all Value.oneCell' = true, a2b = a2b, ((.bool true) : Value).cells.toList.all Value.oneCell' = true]) (fun _ => by kernel_rfl) (fun _ => ⟨rfl, rfl, rfl, rfl, rfl, trivial⟩)) ?_
      intro _
      have hy := Option.some.inj hm
      subst hy
      refine GS.end_ (fn := Try.f27) [] [] [] rfl Try.func27 (by kernel_rfl) trivial (fun w' hs => ?_)
      exact ⟨(), rfl, hs.turnedG (ks := [1, 2]) rfl rfl⟩
    · replace hm := br_f h9 hm
      refine GS.skip ?_
      have hy := Option.some.inj hm
      subst hy
      refine GS.end_ (fn := Try.f27) [] [] [] rfl Try.func27 (by kernel_rfl) trivial (fun w' hs => ?_)
      exact ⟨(), rfl, hs.turnedG (ks := [1, 2]) rfl rfl⟩

theorem w_missing_Common (F : Nat) (a0_Les : Int) (a0_Tail : S_api_Version) (a0_Log_o : Option Addr) (a0_Log_c : Nat) (a0_Log : List S_api_Entry) (a0_Lasts_o : Option Addr) (a0_Lasts_c : Nat) (a0_Lasts : List S_api_Last) (a0_Items_o : Option Addr) (a0_Items_c : Nat) (a0_Items : List S_api_Item) (a1_Les : Int) (a1_Tail : S_api_Version) (a1_Log_o : Option Addr) (a1_Log_c : Nat) (a1_Log : List S_api_Entry) (a1_Lasts_o : Option Addr) (a1_Lasts_c : Nat) (a1_Lasts : List S_api_Last) (a1_Items_o : Option Addr) (a1_Items_c : Nat) (a1_Items : List S_api_Item) {y : S_api_Version × Bool} (hm : m_missing_Common F a0_Les a0_Tail a0_Log a0_Lasts a0_Items a1_Les a1_Tail a1_Log a1_Lasts a1_Items = some y) : CallG Try.prog 9 #[.agg #[.int .i64 a0_Les, .int .i64 a0_Tail.Epoch, .int .i64 a0_Tail.N, .slice a0_Log_o a0_Log.length a0_Log_c, .slice a0_Lasts_o a0_Lasts.length a0_Lasts_c, .slice a0_Items_o a0_Items.length a0_Items_c], .agg #[.int .i64 a1_Les, .int .i64 a1_Tail.Epoch, .int .i64 a1_Tail.N, .slice a1_Log_o a1_Log.length a1_Log_c, .slice a1_Lasts_o a1_Lasts.length a1_Lasts_c, .slice a1_Items_o a1_Items.length a1_Items_c]] (X := Unit) (fun (_ : Unit) => .tuple #[.agg #[.int .i64 y.1.Epoch, .int .i64 y.1.N], .bool y.2]) [] [r53 a0_Log_o a0_Log, r83 a0_Lasts_o a0_Lasts, r45 a0_Items_o a0_Items, r53 a1_Log_o a1_Log, r83 a1_Lasts_o a1_Lasts, r45 a1_Items_o a1_Items] (fun (_ : Unit) => []) := by
  intro w hg
  rw [m_missing_Common] at hm
  refine GS.start (S := mayT [] [r53 a0_Log_o a0_Log, r83 a0_Lasts_o a0_Lasts, r45 a0_Items_o a0_Items, r53 a1_Log_o a1_Log, r83 a1_Lasts_o a1_Lasts, r45 a1_Items_o a1_Items]) (mem := [(1, r53 a0_Log_o a0_Log), (2, r83 a0_Lasts_o a0_Lasts), (3, r45 a0_Items_o a0_Items), (4, r53 a1_Log_o a1_Log), (5, r83 a1_Lasts_o a1_Lasts), (6, r45 a1_Items_o a1_Items)]) Try.func9 rfl Try.ntmps9 (Nat.le_of_ble_eq_true rfl) (hg.start rfl) ?_
  refine GS.conv (env' := [(0, .agg #[.int .i64 a0_Les, .int .i64 a0_Tail.Epoch, .int .i64 a0_Tail.N, .slice a0_Log_o a0_Log.length a0_Log_c, .slice a0_Lasts_o a0_Lasts.length a0_Lasts_c, .slice a0_Items_o a0_Items.length a0_Items_c]), (1, .agg #[.int .i64 a1_Les, .int .i64 a1_Tail.Epoch, .int .i64 a1_Tail.N, .slice a1_Log_o a1_Log.length a1_Log_c, .slice a1_Lasts_o a1_Lasts.length a1_Lasts_c, .slice a1_Items_o a1_Items.length a1_Items_c])]) rfl rfl ?_
  refine GS.seq ?_
  refine GS.region (env' := fun fr1 => [(2, .pointer (some ⟨(fr1 0).x, 0, none⟩)), (3, .pointer (some ⟨(fr1 1).x, 0, none⟩)), (4, .pointer (some ⟨(fr1 2).x, 0, none⟩))]) (mem' := fun fr1 => [(1, r53 a0_Log_o a0_Log), (2, r83 a0_Lasts_o a0_Lasts), (3, r45 a0_Items_o a0_Items), (4, r53 a1_Log_o a1_Log), (5, r83 a1_Lasts_o a1_Lasts), (6, r45 a1_Items_o a1_Items), (7, .cells ((fr1 0).x) 28 [.int .i64 a0_Les, .int .i64 a0_Tail.Epoch, .int .i64 a0_Tail.N, .slice a0_Log_o a0_Log.length a0_Log_c, .slice a0_Lasts_o a0_Lasts.length a0_Lasts_c, .slice a0_Items_o a0_Items.length a0_Items_c]), (8, .cells ((fr1 1).x) 28 [.int .i64 a1_Les, .int .i64 a1_Tail.Epoch, .int .i64 a1_Tail.N, .slice a1_Log_o a1_Log.length a1_Log_c, .slice a1_Lasts_o a1_Lasts.length a1_Lasts_c, .slice a1_Items_o a1_Items.length a1_Items_c]), (9, .cells ((fr1 2).x) 23 [.int .i64 0, .int .i64 0])]) (RunsTo.mk [(0, { act := .new .var, key := some 7 }), (1, { act := .new .var, key := some 8 }), (2, { act := .new .var, key := some 9 })] [2, 3, 4] [1, 2, 3, 4, 5, 6, 7, 8, 9] (fun fr1 => []) (fun fr1 => by kernel_rfl) (fun fr1 => trivial)) ?_
  intro fr1
  refine GS.seq ?_
  refine GS.region (env' := fun fr2 => [(2, .pointer (some ⟨(fr1 0).x, 0, none⟩)), (3, .pointer (some ⟨(fr1 1).x, 0, none⟩)), (4, .pointer (some ⟨(fr1 2).x, 0, none⟩)), (6, .pointer (some ⟨(fr2 1).x, 0, none⟩)), (7, .pointer (some ⟨(fr2 2).x, 0, none⟩))]) (mem' := fun fr2 => [(1, r53 a0_Log_o a0_Log), (2, r83 a0_Lasts_o a0_Lasts), (3, r45 a0_Items_o a0_Items), (4, r53 a1_Log_o a1_Log), (5, r83 a1_Lasts_o a1_Lasts), (6, r45 a1_Items_o a1_Items), (7, .cells ((fr1 0).x) 28 [.int .i64 a0_Les, .int .i64 a0_Tail.Epoch, .int .i64 a0_Tail.N, .slice a0_Log_o a0_Log.length a0_Log_c, .slice a0_Lasts_o a0_Lasts.length a0_Lasts_c, .slice a0_Items_o a0_Items.length a0_Items_c]), (8, .cells ((fr1 1).x) 28 [.int .i64 a1_Les, .int .i64 a1_Tail.Epoch, .int .i64 a1_Tail.N, .slice a1_Log_o a1_Log.length a1_Log_c, .slice a1_Lasts_o a1_Lasts.length a1_Lasts_c, .slice a1_Items_o a1_Items.length a1_Items_c]), (9, .cells ((fr1 2).x) 23 [.int .i64 0, .int .i64 0]), (10, .cells ((fr2 1).x) 23 [.int .i64 0, .int .i64 0]), (11, .cells ((fr2 2).x) 4 [.bool false])]) (RunsTo.mk [(1, { act := .new .var, key := some 10 }), (2, { act := .new .var, key := some 11 }), (3, { act := .store 0 0 [], key := some 10 }), (4, { act := .store 0 0 [], key := some 11 })] [2, 3, 4, 6, 7] [1, 2, 3, 4, 5, 6, 7, 8, 9, 10, 11] (fun fr2 => [(fr2 1).x = (fr2 1).x, ((.agg #[.int .i64 0, .int .i64 0]) : Value).cells.toList.all Value.oneCell' = true, (fr2 2).x = (fr2 2).x, ((.bool false) : Value).cells.toList.all Value.oneCell' = true]) (fun fr2 => by kernel_rfl) (fun fr2 => ⟨rfl, rfl, rfl, rfl, trivial⟩)) ?_
  intro fr2
  refine GS.seq ?_
  refine GS.region (env' := fun _ => [(2, .pointer (some ⟨(fr1 0).x, 0, none⟩)), (4, .pointer (some ⟨(fr1 2).x, 0, none⟩)), (6, .pointer (some ⟨(fr2 1).x, 0, none⟩)), (7, .pointer (some ⟨(fr2 2).x, 0, none⟩)), (8, .func (.func 27) #[] #[.pointer (some ⟨(fr1 1).x, 0, none⟩), .pointer (some ⟨(fr2 2).x, 0, none⟩), .pointer (some ⟨(fr2 1).x, 0, none⟩)])]) (mem' := fun _ => [(1, r53 a0_Log_o a0_Log), (2, r83 a0_Lasts_o a0_Lasts), (3, r45 a0_Items_o a0_Items), (4, r53 a1_Log_o a1_Log), (5, r83 a1_Lasts_o a1_Lasts), (6, r45 a1_Items_o a1_Items), (7, .cells ((fr1 0).x) 28 [.int .i64 a0_Les, .int .i64 a0_Tail.Epoch, .int .i64 a0_Tail.N, .slice a0_Log_o a0_Log.length a0_Log_c, .slice a0_Lasts_o a0_Lasts.length a0_Lasts_c, .slice a0_Items_o a0_Items.length a0_Items_c]), (8, .cells ((fr1 1).x) 28 [.int .i64 a1_Les, .int .i64 a1_Tail.Epoch, .int .i64 a1_Tail.N, .slice a1_Log_o a1_Log.length a1_Log_c, .slice a1_Lasts_o a1_Lasts.length a1_Lasts_c, .slice a1_Items_o a1_Items.length a1_Items_c]), (9, .cells ((fr1 2).x) 23 [.int .i64 0, .int .i64 0]), (10, .cells ((fr2 1).x) 23 [.int .i64 0, .int .i64 0]), (11, .cells ((fr2 2).x) 4 [.bool false])]) (RunsTo.mk [] [2, 4, 6, 7, 8] [1, 2, 3, 4, 5, 6, 7, 8, 9, 10, 11] (fun _ => []) (fun _ => by kernel_rfl) (fun _ => trivial)) ?_
  intro _
  refine GS.seq ?_
  refine bnd_elim hm (fun y5 e6 hm => ?_)
  refine GS.open_ ?_
  refine GR.run (i := 0) 3 (env' := fun _ => [(2, .pointer (some ⟨(fr1 0).x, 0, none⟩)), (4, .pointer (some ⟨(fr1 2).x, 0, none⟩)), (6, .pointer (some ⟨(fr2 1).x, 0, none⟩)), (7, .pointer (some ⟨(fr2 2).x, 0, none⟩)), (8, .func (.func 27) #[] #[.pointer (some ⟨(fr1 1).x, 0, none⟩), .pointer (some ⟨(fr2 2).x, 0, none⟩), .pointer (some ⟨(fr2 1).x, 0, none⟩)]), (13, .func (.func 27) #[] #[.pointer (some ⟨(fr1 1).x, 0, none⟩), .pointer (some ⟨(fr2 2).x, 0, none⟩), .pointer (some ⟨(fr2 1).x, 0, none⟩)]), (15, .agg #[.int .i64 a0_Tail.Epoch, .int .i64 a0_Tail.N])]) (mem' := fun _ => [(1, r53 a0_Log_o a0_Log), (2, r83 a0_Lasts_o a0_Lasts), (3, r45 a0_Items_o a0_Items), (4, r53 a1_Log_o a1_Log), (5, r83 a1_Lasts_o a1_Lasts), (6, r45 a1_Items_o a1_Items), (7, .cells ((fr1 0).x) 28 [.int .i64 a0_Les, .int .i64 a0_Tail.Epoch, .int .i64 a0_Tail.N, .slice a0_Log_o a0_Log.length a0_Log_c, .slice a0_Lasts_o a0_Lasts.length a0_Lasts_c, .slice a0_Items_o a0_Items.length a0_Items_c]), (8, .cells ((fr1 1).x) 28 [.int .i64 a1_Les, .int .i64 a1_Tail.Epoch, .int .i64 a1_Tail.N, .slice a1_Log_o a1_Log.length a1_Log_c, .slice a1_Lasts_o a1_Lasts.length a1_Lasts_c, .slice a1_Items_o a1_Items.length a1_Items_c]), (9, .cells ((fr1 2).x) 23 [.int .i64 0, .int .i64 0]), (10, .cells ((fr2 1).x) 23 [.int .i64 0, .int .i64 0]), (11, .cells ((fr2 2).x) 4 [.bool false])]) (Nat.le_of_ble_eq_true (by kernel_rfl)) (RunsTo.mk [(2, { act := .load 7 0 0 [] })] [2, 4, 6, 7, 8, 13, 15] [1, 2, 3, 4, 5, 6, 7, 8, 9, 10, 11] (fun _ => [(fr1 0).x = (fr1 0).x]) (fun _ => by kernel_rfl) (fun _ => ⟨rfl, trivial⟩)) ?_
  intro _
  refine GR.callG (X := Unit) (i := 3) (g := 27) (args := #[.agg #[.int .i64 a0_Tail.Epoch, .int .i64 a0_Tail.N], .pointer (some ⟨(fr1 1).x, 0, none⟩), .pointer (some ⟨(fr2 2).x, 0, none⟩), .pointer (some ⟨(fr2 1).x, 0, none⟩)]) (v := fun (_ : Unit) => .tuple #[]) (own := [.cells ((fr2 2).x) 4 [.bool false], .cells ((fr2 1).x) 23 [.int .i64 0, .int .i64 0]]) (ro := [r53 a1_Log_o a1_Log, r83 a1_Lasts_o a1_Lasts, r45 a1_Items_o a1_Items, .rd (some ⟨(fr1 1).x, 0, none⟩) 6 ([[.int .i64 a1_Les, .int .i64 a1_Tail.Epoch, .int .i64 a1_Tail.N, .slice a1_Log_o a1_Log.length a1_Log_c, .slice a1_Lasts_o a1_Lasts.length a1_Lasts_c, .slice a1_Items_o a1_Items.length a1_Items_c]] : List (List Value))]) (es' := fun (_ : Unit) => [.cells ((fr2 2).x) 4 [.bool y5.1], .cells ((fr2 1).x) 23 [.int .i64 y5.2.Epoch, .int .i64 y5.2.N]]) (mem' := fun (_ : Unit) => [(1, r53 a0_Log_o a0_Log), (2, r83 a0_Lasts_o a0_Lasts), (3, r45 a0_Items_o a0_Items), (4, r53 a1_Log_o a1_Log), (5, r83 a1_Lasts_o a1_Lasts), (6, r45 a1_Items_o a1_Items), (7, .cells ((fr1 0).x) 28 [.int .i64 a0_Les, .int .i64 a0_Tail.Epoch, .int .i64 a0_Tail.N, .slice a0_Log_o a0_Log.length a0_Log_c, .slice a0_Lasts_o a0_Lasts.length a0_Lasts_c, .slice a0_Items_o a0_Items.length a0_Items_c]), (8, .cells ((fr1 1).x) 28 [.int .i64 a1_Les, .int .i64 a1_Tail.Epoch, .int .i64 a1_Tail.N, .slice a1_Log_o a1_Log.length a1_Log_c, .slice a1_Lasts_o a1_Lasts.length a1_Lasts_c, .slice a1_Items_o a1_Items.length a1_Items_c]), (9, .cells ((fr1 2).x) 23 [.int .i64 0, .int .i64 0]), (10, .cells ((fr2 1).x) 23 [.int .i64 y5.2.Epoch, .int .i64 y5.2.N]), (11, .cells ((fr2 2).x) 4 [.bool y5.1])]) (env' := fun (_ : Unit) => [(2, .pointer (some ⟨(fr1 0).x, 0, none⟩)), (4, .pointer (some ⟨(fr1 2).x, 0, none⟩)), (6, .pointer (some ⟨(fr2 1).x, 0, none⟩)), (7, .pointer (some ⟨(fr2 2).x, 0, none⟩)), (8, .func (.func 27) #[] #[.pointer (some ⟨(fr1 1).x, 0, none⟩), .pointer (some ⟨(fr2 2).x, 0, none⟩), .pointer (some ⟨(fr2 1).x, 0, none⟩)])]) [11, 10] [11, 10] [2, 4, 6, 7, 8] [1, 2, 3, 4, 5, 6, 7, 8, 9, 10, 11] false (by kernel_rfl) (by kernel_rfl) (by kernel_rfl) (by kernel_rfl) (by kernel_rfl) (fun _ => rfl) (fun _ _ => rfl) ⟨(.inl ⟨4, _, rfl, rfl, Cov.refl _, fun h => by cases h⟩), (.inl ⟨5, _, rfl, rfl, Cov.refl _, fun h => by cases h⟩), (.inl ⟨6, _, rfl, rfl, Cov.refl _, fun h => by cases h⟩), (.inl ⟨8, _, rfl, rfl, Cov.cells_rd, fun h => by cases h⟩), trivial⟩ (by rintro _; kernel_rfl) (by rintro _; kernel_rfl) (w_missing_Common_1 F (S_api_Version.mk a0_Tail.Epoch a0_Tail.N) (fr1 1).x a1_Les a1_Tail a1_Log_o a1_Log_c a1_Log a1_Lasts_o a1_Lasts_c a1_Lasts a1_Items_o a1_Items_c a1_Items (fr2 2).x false (fr2 1).x (S_api_Version.mk 0 0) e6) ?_
  rintro _
  refine GR.done (Nat.le_of_ble_eq_true (by kernel_rfl)) ?_
  refine GS.seq ?_
  refine GS.seq ?_
  refine GS.region (env' := fun _ => [(4, .pointer (some ⟨(fr1 2).x, 0, none⟩)), (6, .pointer (some ⟨(fr2 1).x, 0, none⟩)), (7, .pointer (some ⟨(fr2 2).x, 0, none⟩)), (8, .func (.func 27) #[] #[.pointer (some ⟨(fr1 1).x, 0, none⟩), .pointer (some ⟨(fr2 2).x, 0, none⟩), .pointer (some ⟨(fr2 1).x, 0, none⟩)]), (18, .slice a0_Log_o a0_Log.length a0_Log_c), (19, .int .i64 ((a0_Log.length : Nat) : Int)), (20, .int .i64 0)]) (mem' := fun _ => [(1, r53 a0_Log_o a0_Log), (4, r53 a1_Log_o a1_Log), (5, r83 a1_Lasts_o a1_Lasts), (6, r45 a1_Items_o a1_Items), (8, .cells ((fr1 1).x) 28 [.int .i64 a1_Les, .int .i64 a1_Tail.Epoch, .int .i64 a1_Tail.N, .slice a1_Log_o a1_Log.length a1_Log_c, .slice a1_Lasts_o a1_Lasts.length a1_Lasts_c, .slice a1_Items_o a1_Items.length a1_Items_c]), (9, .cells ((fr1 2).x) 23 [.int .i64 0, .int .i64 0]), (10, .cells ((fr2 1).x) 23 [.int .i64 y5.2.Epoch, .int .i64 y5.2.N]), (11, .cells ((fr2 2).x) 4 [.bool y5.1])]) (RunsTo.mk [(1, { act := .load 7 0 0 [] })] [4, 6, 7, 8, 18, 19, 20] [1, 4, 5, 6, 8, 9, 10, 11] (fun _ => [(fr1 0).x = (fr1 0).x]) (fun _ => by kernel_rfl) (fun _ => ⟨rfl, trivial⟩)) ?_
  intro _
  refine GS.block ?_
  refine GS.loop ?_
  refine grd_elim hm (fun g29 hm => ?_)
  refine GS.rekey (env' := [(4, .pointer (some ⟨(fr1 2).x, 0, none⟩)), (6, .pointer (some ⟨(fr2 1).x, 0, none⟩)), (7, .pointer (some ⟨(fr2 2).x, 0, none⟩)), (8, .func (.func 27) #[] #[.pointer (some ⟨(fr1 1).x, 0, none⟩), .pointer (some ⟨(fr2 2).x, 0, none⟩), .pointer (some ⟨(fr2 1).x, 0, none⟩)]), (18, .slice a0_Log_o a0_Log.length a0_Log_c), (19, .int .i64 ((a0_Log.length : Nat) : Int)), (20, .int .i64 0)]) (mem' := [(1, r53 a0_Log_o a0_Log), (4, r53 a1_Log_o a1_Log), (5, r83 a1_Lasts_o a1_Lasts), (6, r45 a1_Items_o a1_Items), (8, .cells ((fr1 1).x) 28 [.int .i64 a1_Les, .int .i64 a1_Tail.Epoch, .int .i64 a1_Tail.N, .slice a1_Log_o a1_Log.length a1_Log_c, .slice a1_Lasts_o a1_Lasts.length a1_Lasts_c, .slice a1_Items_o a1_Items.length a1_Items_c]), (9, .cells ((fr1 2).x) 23 [.int .i64 0, .int .i64 0]), (10, .cells ((fr2 1).x) 23 [.int .i64 y5.2.Epoch, .int .i64 y5.2.N]), (11, .cells ((fr2 2).x) 4 [.bool y5.1])]) [4, 6, 7, 8, 18, 19, 20] [(1, 1), (4, 4), (5, 5), (6, 6), (8, 8), (9, 9), (10, 10), (11, 11)] (by kernel_rfl) (by kernel_rfl) rfl ?_
  refine loopL_elim hm (fun st44 fn45 hst46 hfn47 hm => ?_)
  refine GS.loopInv (ι := List S_api_Entry × Nat × Int × Int × Bool) (I := fun ⟨rs42, v20_1, c10_0_1, c10_1_1, c11_0_1⟩ => a0_Log.drop v20_1 = rs42 ∧ loopL st44 fn45 rs42 v20_1 (c10_0_1, c10_1_1, c11_0_1) = some y) (μ := fun ⟨rs42, v20_1, c10_0_1, c10_1_1, c11_0_1⟩ => rs42.length) (E := fun ⟨rs42, v20_1, c10_0_1, c10_1_1, c11_0_1⟩ => [(4, .pointer (some ⟨(fr1 2).x, 0, none⟩)), (6, .pointer (some ⟨(fr2 1).x, 0, none⟩)), (7, .pointer (some ⟨(fr2 2).x, 0, none⟩)), (8, .func (.func 27) #[] #[.pointer (some ⟨(fr1 1).x, 0, none⟩), .pointer (some ⟨(fr2 2).x, 0, none⟩), .pointer (some ⟨(fr2 1).x, 0, none⟩)]), (18, .slice a0_Log_o a0_Log.length a0_Log_c), (19, .int .i64 ((a0_Log.length : Nat) : Int)), (20, .int .i64 ((v20_1 : Nat) : Int))]) (M := fun ⟨rs42, v20_1, c10_0_1, c10_1_1, c11_0_1⟩ => [(1, r53 a0_Log_o a0_Log), (4, r53 a1_Log_o a1_Log), (5, r83 a1_Lasts_o a1_Lasts), (6, r45 a1_Items_o a1_Items), (8, .cells ((fr1 1).x) 28 [.int .i64 a1_Les, .int .i64 a1_Tail.Epoch, .int .i64 a1_Tail.N, .slice a1_Log_o a1_Log.length a1_Log_c, .slice a1_Lasts_o a1_Lasts.length a1_Lasts_c, .slice a1_Items_o a1_Items.length a1_Items_c]), (9, .cells ((fr1 2).x) 23 [.int .i64 0, .int .i64 0]), (10, .cells ((fr2 1).x) 23 [.int .i64 c10_0_1, .int .i64 c10_1_1]), (11, .cells ((fr2 2).x) 4 [.bool c11_0_1])]) ?_ ⟨a0_Log, 0, y5.2.Epoch, y5.2.N, y5.1⟩ ⟨List.drop_zero .., hm⟩
  rintro ⟨rs42, v20_1, c10_0_1, c10_1_1, c11_0_1⟩ ⟨hd28, hm⟩ ih43
  cases rs42 with
  | nil =>
    replace hm := (hfn47 _ _).symm.trans hm
    try dsimp only at hm
    refine GS.seq ?_
    refine GS.region (env' := fun _ => [(4, .pointer (some ⟨(fr1 2).x, 0, none⟩)), (6, .pointer (some ⟨(fr2 1).x, 0, none⟩)), (7, .pointer (some ⟨(fr2 2).x, 0, none⟩)), (8, .func (.func 27) #[] #[.pointer (some ⟨(fr1 1).x, 0, none⟩), .pointer (some ⟨(fr2 2).x, 0, none⟩), .pointer (some ⟨(fr2 1).x, 0, none⟩)]), (18, .slice a0_Log_o a0_Log.length a0_Log_c), (19, .int .i64 ((a0_Log.length : Nat) : Int)), (20, .int .i64 ((v20_1 : Nat) : Int)), (21, .bool (decide (((v20_1 : Nat) : Int) < ((a0_Log.length : Nat) : Int))))]) (mem' := fun _ => [(1, r53 a0_Log_o a0_Log), (4, r53 a1_Log_o a1_Log), (5, r83 a1_Lasts_o a1_Lasts), (6, r45 a1_Items_o a1_Items), (8, .cells ((fr1 1).x) 28 [.int .i64 a1_Les, .int .i64 a1_Tail.Epoch, .int .i64 a1_Tail.N, .slice a1_Log_o a1_Log.length a1_Log_c, .slice a1_Lasts_o a1_Lasts.length a1_Lasts_c, .slice a1_Items_o a1_Items.length a1_Items_c]), (9, .cells ((fr1 2).x) 23 [.int .i64 0, .int .i64 0]), (10, .cells ((fr2 1).x) 23 [.int .i64 c10_0_1, .int .i64 c10_1_1]), (11, .cells ((fr2 2).x) 4 [.bool c11_0_1])]) (RunsTo.mk [] [4, 6, 7, 8, 18, 19, 20, 21] [1, 4, 5, 6, 8, 9, 10, 11] (fun _ => []) (fun _ => by kernel_rfl) (fun _ => trivial)) ?_
    intro _
    refine GS.seq ?_
    refine GS.cond (t := decide (((v20_1 : Nat) : Int) < ((a0_Log.length : Nat) : Int))) rfl rfl (fun h40 => absb h40 (drop_dec0 hd28)) (fun _ => ?_)
    refine GS.exit rfl ?_
    refine GS.seq ?_
    refine GS.region (env' := fun _ => [(4, .pointer (some ⟨(fr1 2).x, 0, none⟩)), (5, .bool c11_0_1)]) (mem' := fun _ => [(9, .cells ((fr1 2).x) 23 [.int .i64 c10_0_1, .int .i64 c10_1_1])]) (RunsTo.mkd [(0, { act := .load 10 0 0 [] }), (1, { act := .load 11 0 0 [] }), (2, { act := .store 0 0 [], key := some 9 })] [4, 5] [9] (fun _ => [(fr2 1).x = (fr2 1).x, (fr2 2).x = (fr2 2).x, (fr1 2).x = (fr1 2).x, ((.agg #[.int .i64 c10_0_1, .int .i64 c10_1_1]) : Value).cells.toList.all Value.oneCell' = true]) (by kernel_rfl) (by kernel_rfl) (fun _ => by kernel_rfl) (fun _ => ⟨rfl, rfl, rfl, rfl, trivial⟩)) ?_
    intro _
    have hy := Option.some.inj hm
    subst hy
    refine GS.ret (fn := Try.f9) [9, 0] [.agg #[.int .i64 c10_0_1, .int .i64 c10_1_1], .bool c11_0_1] [(fr1 2).x = (fr1 2).x] rfl Try.func9 (by kernel_rfl) ⟨rfl, trivial⟩ (fun w' hs => ?_)
    exact ⟨(), rfl, hs.turnedG (ks := []) rfl rfl⟩
  | cons x30 rs42 =>
    replace hm := (hst46 _ _ _ _).symm.trans hm
    try dsimp only at hm
    refine GS.seq ?_
    refine GS.region (env' := fun _ => [(4, .pointer (some ⟨(fr1 2).x, 0, none⟩)), (6, .pointer (some ⟨(fr2 1).x, 0, none⟩)), (7, .pointer (some ⟨(fr2 2).x, 0, none⟩)), (8, .func (.func 27) #[] #[.pointer (some ⟨(fr1 1).x, 0, none⟩), .pointer (some ⟨(fr2 2).x, 0, none⟩), .pointer (some ⟨(fr2 1).x, 0, none⟩)]), (18, .slice a0_Log_o a0_Log.length a0_Log_c), (19, .int .i64 ((a0_Log.length : Nat) : Int)), (20, .int .i64 ((v20_1 : Nat) : Int)), (21, .bool (decide (((v20_1 : Nat) : Int) < ((a0_Log.length : Nat) : Int))))]) (mem' := fun _ => [(1, r53 a0_Log_o a0_Log), (4, r53 a1_Log_o a1_Log), (5, r83 a1_Lasts_o a1_Lasts), (6, r45 a1_Items_o a1_Items), (8, .cells ((fr1 1).x) 28 [.int .i64 a1_Les, .int .i64 a1_Tail.Epoch, .int .i64 a1_Tail.N, .slice a1_Log_o a1_Log.length a1_Log_c, .slice a1_Lasts_o a1_Lasts.length a1_Lasts_c, .slice a1_Items_o a1_Items.length a1_Items_c]), (9, .cells ((fr1 2).x) 23 [.int .i64 0, .int .i64 0]), (10, .cells ((fr2 1).x) 23 [.int .i64 c10_0_1, .int .i64 c10_1_1]), (11, .cells ((fr2 2).x) 4 [.bool c11_0_1])]) (RunsTo.mk [] [4, 6, 7, 8, 18, 19, 20, 21] [1, 4, 5, 6, 8, 9, 10, 11] (fun _ => []) (fun _ => by kernel_rfl) (fun _ => trivial)) ?_
    intro _
    refine GS.seq ?_
    refine GS.cond (t := decide (((v20_1 : Nat) : Int) < ((a0_Log.length : Nat) : Int))) rfl rfl (fun _ => ?_) (fun h32 => absb (drop_dec hd28) h32)
    refine GS.skip ?_
    refine GS.seq ?_
    refine GS.block ?_
    refine GS.seq ?_
    refine GS.region (env' := fun fr33 => [(4, .pointer (some ⟨(fr1 2).x, 0, none⟩)), (6, .pointer (some ⟨(fr2 1).x, 0, none⟩)), (7, .pointer (some ⟨(fr2 2).x, 0, none⟩)), (8, .func (.func 27) #[] #[.pointer (some ⟨(fr1 1).x, 0, none⟩), .pointer (some ⟨(fr2 2).x, 0, none⟩), .pointer (some ⟨(fr2 1).x, 0, none⟩)]), (10, .pointer (some ⟨(fr33 2).x, 0, none⟩)), (18, .slice a0_Log_o a0_Log.length a0_Log_c), (19, .int .i64 ((a0_Log.length : Nat) : Int)), (20, .int .i64 ((v20_1 : Nat) : Int))]) (mem' := fun fr33 => [(1, r53 a0_Log_o a0_Log), (4, r53 a1_Log_o a1_Log), (5, r83 a1_Lasts_o a1_Lasts), (6, r45 a1_Items_o a1_Items), (8, .cells ((fr1 1).x) 28 [.int .i64 a1_Les, .int .i64 a1_Tail.Epoch, .int .i64 a1_Tail.N, .slice a1_Log_o a1_Log.length a1_Log_c, .slice a1_Lasts_o a1_Lasts.length a1_Lasts_c, .slice a1_Items_o a1_Items.length a1_Items_c]), (9, .cells ((fr1 2).x) 23 [.int .i64 0, .int .i64 0]), (10, .cells ((fr2 1).x) 23 [.int .i64 c10_0_1, .int .i64 c10_1_1]), (11, .cells ((fr2 2).x) 4 [.bool c11_0_1]), (12, .cells ((fr33 2).x) 53 [.int .i64 x30.Version.Epoch, .int .i64 x30.Version.N, .bool x30.Remove, .int .i64 x30.Errno, .string x30.Name, .int .i64 x30.Client, .int .i64 x30.Number])]) (RunsTo.mk [(0, { act := .idx 1 v20_1 }), (1, { act := .load 1 v20_1 0 [.int .i64 x30.Version.Epoch, .int .i64 x30.Version.N, .bool x30.Remove, .int .i64 x30.Errno, .string x30.Name, .int .i64 x30.Client, .int .i64 x30.Number] }), (2, { act := .new .var, key := some 12 }), (3, { act := .store 0 0 [], key := some 12 })] [4, 6, 7, 8, 10, 18, 19, 20] [1, 4, 5, 6, 8, 9, 10, 11, 12] (fun fr33 => [a0_Log_o = a0_Log_o, a0_Log.length = (List.map S_api_Entry.row a0_Log).length, (((v20_1 : Nat) : Int) : Int) = ((v20_1 : Nat) : Int), v20_1 < a0_Log.length, blk a0_Log_o = blk a0_Log_o, offs a0_Log_o + v20_1 * 7 = offs a0_Log_o + (v20_1 * 7 + 0), (List.map S_api_Entry.row a0_Log)[v20_1]? = some [.int .i64 x30.Version.Epoch, .int .i64 x30.Version.N, .bool x30.Remove, .int .i64 x30.Errno, .string x30.Name, .int .i64 x30.Client, .int .i64 x30.Number], (fr33 2).x = (fr33 2).x, ((.agg #[.int .i64 x30.Version.Epoch, .int .i64 x30.Version.N, .bool x30.Remove, .int .i64 x30.Errno, .string x30.Name, .int .i64 x30.Client, .int .i64 x30.Number]) : Value).cells.toList.all Value.oneCell' = true]) (fun fr33 => by kernel_rfl) (fun fr33 => ⟨rfl, mlen S_api_Entry.row a0_Log, rfl, (drop_lt hd28), rfl, rfl, map_drop S_api_Entry.row hd28, rfl, rfl, trivial⟩)) ?_
    intro fr33
    refine bnd_elim hm (fun y35 e36 hm => ?_)
    refine GS.open_ ?_
    refine GR.run (i := 0) 3 (env' := fun _ => [(4, .pointer (some ⟨(fr1 2).x, 0, none⟩)), (6, .pointer (some ⟨(fr2 1).x, 0, none⟩)), (7, .pointer (some ⟨(fr2 2).x, 0, none⟩)), (8, .func (.func 27) #[] #[.pointer (some ⟨(fr1 1).x, 0, none⟩), .pointer (some ⟨(fr2 2).x, 0, none⟩), .pointer (some ⟨(fr2 1).x, 0, none⟩)]), (18, .slice a0_Log_o a0_Log.length a0_Log_c), (19, .int .i64 ((a0_Log.length : Nat) : Int)), (20, .int .i64 ((v20_1 : Nat) : Int)), (24, .func (.func 27) #[] #[.pointer (some ⟨(fr1 1).x, 0, none⟩), .pointer (some ⟨(fr2 2).x, 0, none⟩), .pointer (some ⟨(fr2 1).x, 0, none⟩)]), (26, .agg #[.int .i64 x30.Version.Epoch, .int .i64 x30.Version.N])]) (mem' := fun _ => [(1, r53 a0_Log_o a0_Log), (4, r53 a1_Log_o a1_Log), (5, r83 a1_Lasts_o a1_Lasts), (6, r45 a1_Items_o a1_Items), (8, .cells ((fr1 1).x) 28 [.int .i64 a1_Les, .int .i64 a1_Tail.Epoch, .int .i64 a1_Tail.N, .slice a1_Log_o a1_Log.length a1_Log_c, .slice a1_Lasts_o a1_Lasts.length a1_Lasts_c, .slice a1_Items_o a1_Items.length a1_Items_c]), (9, .cells ((fr1 2).x) 23 [.int .i64 0, .int .i64 0]), (10, .cells ((fr2 1).x) 23 [.int .i64 c10_0_1, .int .i64 c10_1_1]), (11, .cells ((fr2 2).x) 4 [.bool c11_0_1])]) (Nat.le_of_ble_eq_true (by kernel_rfl)) (RunsTo.mk [(2, { act := .load 12 0 0 [] })] [4, 6, 7, 8, 18, 19, 20, 24, 26] [1, 4, 5, 6, 8, 9, 10, 11] (fun _ => [(fr33 2).x = (fr33 2).x]) (fun _ => by kernel_rfl) (fun _ => ⟨rfl, trivial⟩)) ?_
    intro _
    refine GR.callG (X := Unit) (i := 3) (g := 27) (args := #[.agg #[.int .i64 x30.Version.Epoch, .int .i64 x30.Version.N], .pointer (some ⟨(fr1 1).x, 0, none⟩), .pointer (some ⟨(fr2 2).x, 0, none⟩), .pointer (some ⟨(fr2 1).x, 0, none⟩)]) (v := fun (_ : Unit) => .tuple #[]) (own := [.cells ((fr2 2).x) 4 [.bool c11_0_1], .cells ((fr2 1).x) 23 [.int .i64 c10_0_1, .int .i64 c10_1_1]]) (ro := [r53 a1_Log_o a1_Log, r83 a1_Lasts_o a1_Lasts, r45 a1_Items_o a1_Items, .rd (some ⟨(fr1 1).x, 0, none⟩) 6 ([[.int .i64 a1_Les, .int .i64 a1_Tail.Epoch, .int .i64 a1_Tail.N, .slice a1_Log_o a1_Log.length a1_Log_c, .slice a1_Lasts_o a1_Lasts.length a1_Lasts_c, .slice a1_Items_o a1_Items.length a1_Items_c]] : List (List Value))]) (es' := fun (_ : Unit) => [.cells ((fr2 2).x) 4 [.bool y35.1], .cells ((fr2 1).x) 23 [.int .i64 y35.2.Epoch, .int .i64 y35.2.N]]) (mem' := fun (_ : Unit) => [(1, r53 a0_Log_o a0_Log), (4, r53 a1_Log_o a1_Log), (5, r83 a1_Lasts_o a1_Lasts), (6, r45 a1_Items_o a1_Items), (8, .cells ((fr1 1).x) 28 [.int .i64 a1_Les, .int .i64 a1_Tail.Epoch, .int .i64 a1_Tail.N, .slice a1_Log_o a1_Log.length a1_Log_c, .slice a1_Lasts_o a1_Lasts.length a1_Lasts_c, .slice a1_Items_o a1_Items.length a1_Items_c]), (9, .cells ((fr1 2).x) 23 [.int .i64 0, .int .i64 0]), (10, .cells ((fr2 1).x) 23 [.int .i64 y35.2.Epoch, .int .i64 y35.2.N]), (11, .cells ((fr2 2).x) 4 [.bool y35.1])]) (env' := fun (_ : Unit) => [(4, .pointer (some ⟨(fr1 2).x, 0, none⟩)), (6, .pointer (some ⟨(fr2 1).x, 0, none⟩)), (7, .pointer (some ⟨(fr2 2).x, 0, none⟩)), (8, .func (.func 27) #[] #[.pointer (some ⟨(fr1 1).x, 0, none⟩), .pointer (some ⟨(fr2 2).x, 0, none⟩), .pointer (some ⟨(fr2 1).x, 0, none⟩)]), (18, .slice a0_Log_o a0_Log.length a0_Log_c), (19, .int .i64 ((a0_Log.length : Nat) : Int)), (20, .int .i64 ((v20_1 : Nat) : Int))]) [11, 10] [11, 10] [4, 6, 7, 8, 18, 19, 20] [1, 4, 5, 6, 8, 9, 10, 11] false (by kernel_rfl) (by kernel_rfl) (by kernel_rfl) (by kernel_rfl) (by kernel_rfl) (fun _ => rfl) (fun _ _ => rfl) ⟨(.inl ⟨4, _, rfl, rfl, Cov.refl _, fun h => by cases h⟩), (.inl ⟨5, _, rfl, rfl, Cov.refl _, fun h => by cases h⟩), (.inl ⟨6, _, rfl, rfl, Cov.refl _, fun h => by cases h⟩), (.inl ⟨8, _, rfl, rfl, Cov.cells_rd, fun h => by cases h⟩), trivial⟩ (by rintro _; kernel_rfl) (by rintro _; kernel_rfl) (w_missing_Common_1 F x30.Version (fr1 1).x a1_Les a1_Tail a1_Log_o a1_Log_c a1_Log a1_Lasts_o a1_Lasts_c a1_Lasts a1_Items_o a1_Items_c a1_Items (fr2 2).x c11_0_1 (fr2 1).x (S_api_Version.mk c10_0_1 c10_1_1) e36) ?_
    rintro _
    refine GR.done (Nat.le_of_ble_eq_true (by kernel_rfl)) ?_
    refine GS.inBlock ?_
    refine GS.region (env' := fun _ => [(4, .pointer (some ⟨(fr1 2).x, 0, none⟩)), (6, .pointer (some ⟨(fr2 1).x, 0, none⟩)), (7, .pointer (some ⟨(fr2 2).x, 0, none⟩)), (8, .func (.func 27) #[] #[.pointer (some ⟨(fr1 1).x, 0, none⟩), .pointer (some ⟨(fr2 2).x, 0, none⟩), .pointer (some ⟨(fr2 1).x, 0, none⟩)]), (18, .slice a0_Log_o a0_Log.length a0_Log_c), (19, .int .i64 ((a0_Log.length : Nat) : Int)), (20, .int .i64 ((v20_1 + 1 : Nat) : Int))]) (mem' := fun _ => [(1, r53 a0_Log_o a0_Log), (4, r53 a1_Log_o a1_Log), (5, r83 a1_Lasts_o a1_Lasts), (6, r45 a1_Items_o a1_Items), (8, .cells ((fr1 1).x) 28 [.int .i64 a1_Les, .int .i64 a1_Tail.Epoch, .int .i64 a1_Tail.N, .slice a1_Log_o a1_Log.length a1_Log_c, .slice a1_Lasts_o a1_Lasts.length a1_Lasts_c, .slice a1_Items_o a1_Items.length a1_Items_c]), (9, .cells ((fr1 2).x) 23 [.int .i64 0, .int .i64 0]), (10, .cells ((fr2 1).x) 23 [.int .i64 y35.2.Epoch, .int .i64 y35.2.N]), (11, .cells ((fr2 2).x) 4 [.bool y35.1])]) (RunsTo.mk [(0, { sp := some (.int .i64 ((v20_1 + 1 : Nat) : Int)) })] [4, 6, 7, 8, 18, 19, 20] [1, 4, 5, 6, 8, 9, 10, 11] (fun _ => [((.int .i64 (IntKind.i64.wrap (((v20_1 : Nat) : Int) + 1))) : Value) = .int .i64 ((v20_1 + 1 : Nat) : Int)]) (fun _ => by kernel_rfl) (fun _ => ⟨natw (drop_lt hd28) g29, trivial⟩)) ?_
    intro _
    refine GS.inLoop ?_
    refine GS.rekey (env' := [(4, .pointer (some ⟨(fr1 2).x, 0, none⟩)), (6, .pointer (some ⟨(fr2 1).x, 0, none⟩)), (7, .pointer (some ⟨(fr2 2).x, 0, none⟩)), (8, .func (.func 27) #[] #[.pointer (some ⟨(fr1 1).x, 0, none⟩), .pointer (some ⟨(fr2 2).x, 0, none⟩), .pointer (some ⟨(fr2 1).x, 0, none⟩)]), (18, .slice a0_Log_o a0_Log.length a0_Log_c), (19, .int .i64 ((a0_Log.length : Nat) : Int)), (20, .int .i64 ((v20_1 + 1 : Nat) : Int))]) (mem' := [(1, r53 a0_Log_o a0_Log), (4, r53 a1_Log_o a1_Log), (5, r83 a1_Lasts_o a1_Lasts), (6, r45 a1_Items_o a1_Items), (8, .cells ((fr1 1).x) 28 [.int .i64 a1_Les, .int .i64 a1_Tail.Epoch, .int .i64 a1_Tail.N, .slice a1_Log_o a1_Log.length a1_Log_c, .slice a1_Lasts_o a1_Lasts.length a1_Lasts_c, .slice a1_Items_o a1_Items.length a1_Items_c]), (9, .cells ((fr1 2).x) 23 [.int .i64 0, .int .i64 0]), (10, .cells ((fr2 1).x) 23 [.int .i64 y35.2.Epoch, .int .i64 y35.2.N]), (11, .cells ((fr2 2).x) 4 [.bool y35.1])]) [4, 6, 7, 8, 18, 19, 20] [(1, 1), (4, 4), (5, 5), (6, 6), (8, 8), (9, 9), (10, 10), (11, 11)] (by kernel_rfl) (by kernel_rfl) rfl ?_
    exact ih43 ⟨rs42, v20_1 + 1, y35.2.Epoch, y35.2.N, y35.1⟩ ⟨drop_next hd28, hm⟩ (Nat.lt_succ_self _)

theorem w_missing_above (F : Nat) (a0_Les : Int) (a0_Tail : S_api_Version) (a0_Log_o : Option Addr) (a0_Log_c : Nat) (a0_Log : List S_api_Entry) (a0_Lasts_o : Option Addr) (a0_Lasts_c : Nat) (a0_Lasts : List S_api_Last) (a0_Items_o : Option Addr) (a0_Items_c : Nat) (a0_Items : List S_api_Item) (a1 : S_api_Version) {y : List S_api_Entry} (hm : m_missing_above F a0_Les a0_Tail a0_Log a0_Lasts a0_Items a1 = some y) : CallG Try.prog 32 #[.agg #[.int .i64 a0_Les, .int .i64 a0_Tail.Epoch, .int .i64 a0_Tail.N, .slice a0_Log_o a0_Log.length a0_Log_c, .slice a0_Lasts_o a0_Lasts.length a0_Lasts_c, .slice a0_Items_o a0_Items.length a0_Items_c], .agg #[.int .i64 a1.Epoch, .int .i64 a1.N]] (X := Option Addr × Nat) (fun ⟨x0, x1⟩ => .slice x0 y.length x1) [] [r53 a0_Log_o a0_Log, r83 a0_Lasts_o a0_Lasts, r45 a0_Items_o a0_Items] (fun ⟨x0, x1⟩ => [o53 x0 x1 y]) := by
  intro w hg
  rw [m_missing_above] at hm
  refine GS.start (S := mayT [] [r53 a0_Log_o a0_Log, r83 a0_Lasts_o a0_Lasts, r45 a0_Items_o a0_Items]) (mem := [(1, r53 a0_Log_o a0_Log), (2, r83 a0_Lasts_o a0_Lasts), (3, r45 a0_Items_o a0_Items)]) Try.func32 rfl Try.ntmps32 (Nat.le_of_ble_eq_true rfl) (hg.start rfl) ?_
  refine GS.conv (env' := [(0, .agg #[.int .i64 a0_Les, .int .i64 a0_Tail.Epoch, .int .i64 a0_Tail.N, .slice a0_Log_o a0_Log.length a0_Log_c, .slice a0_Lasts_o a0_Lasts.length a0_Lasts_c, .slice a0_Items_o a0_Items.length a0_Items_c]), (1, .agg #[.int .i64 a1.Epoch, .int .i64 a1.N])]) rfl rfl ?_
  refine GS.seq ?_
  refine GS.region (env' := fun fr1 => [(2, .pointer (some ⟨(fr1 0).x, 0, none⟩)), (3, .pointer (some ⟨(fr1 1).x, 0, none⟩))]) (mem' := fun fr1 => [(1, r53 a0_Log_o a0_Log), (2, r83 a0_Lasts_o a0_Lasts), (3, r45 a0_Items_o a0_Items), (4, .cells ((fr1 0).x) 28 [.int .i64 a0_Les, .int .i64 a0_Tail.Epoch, .int .i64 a0_Tail.N, .slice a0_Log_o a0_Log.length a0_Log_c, .slice a0_Lasts_o a0_Lasts.length a0_Lasts_c, .slice a0_Items_o a0_Items.length a0_Items_c]), (5, .cells ((fr1 1).x) 23 [.int .i64 a1.Epoch, .int .i64 a1.N])]) (RunsTo.mk [(0, { act := .new .var, key := some 4 }), (1, { act := .new .var, key := some 5 })] [2, 3] [1, 2, 3, 4, 5] (fun fr1 => []) (fun fr1 => by kernel_rfl) (fun fr1 => trivial)) ?_
  intro fr1
  refine GS.seq ?_
  refine GS.region (env' := fun _ => [(2, .pointer (some ⟨(fr1 0).x, 0, none⟩)), (3, .pointer (some ⟨(fr1 1).x, 0, none⟩)), (5, .slice none 0 0)]) (mem' := fun _ => [(1, r53 a0_Log_o a0_Log), (2, r83 a0_Lasts_o a0_Lasts), (3, r45 a0_Items_o a0_Items), (4, .cells ((fr1 0).x) 28 [.int .i64 a0_Les, .int .i64 a0_Tail.Epoch, .int .i64 a0_Tail.N, .slice a0_Log_o a0_Log.length a0_Log_c, .slice a0_Lasts_o a0_Lasts.length a0_Lasts_c, .slice a0_Items_o a0_Items.length a0_Items_c]), (5, .cells ((fr1 1).x) 23 [.int .i64 a1.Epoch, .int .i64 a1.N])]) (RunsTo.mk [] [2, 3, 5] [1, 2, 3, 4, 5] (fun _ => []) (fun _ => by kernel_rfl) (fun _ => trivial)) ?_
  intro _
  refine GS.seq ?_
  refine GS.seq ?_
  refine GS.region (env' := fun _ => [(3, .pointer (some ⟨(fr1 1).x, 0, none⟩)), (5, .slice none 0 0), (9, .slice a0_Log_o a0_Log.length a0_Log_c), (10, .int .i64 ((a0_Log.length : Nat) : Int)), (11, .int .i64 0)]) (mem' := fun _ => [(1, r53 a0_Log_o a0_Log), (5, .cells ((fr1 1).x) 23 [.int .i64 a1.Epoch, .int .i64 a1.N])]) (RunsTo.mk [(1, { act := .load 4 0 0 [] })] [3, 5, 9, 10, 11] [1, 5] (fun _ => [(fr1 0).x = (fr1 0).x]) (fun _ => by kernel_rfl) (fun _ => ⟨rfl, trivial⟩)) ?_
  intro _
  refine GS.block ?_
  refine GS.loop ?_
  refine grd_elim hm (fun g42 hm => ?_)
  refine GS.setMem (mem' := [(1, r53 a0_Log_o a0_Log), (5, .cells ((fr1 1).x) 23 [.int .i64 a1.Epoch, .int .i64 a1.N]), (20001, o53 none 0 ([] : List S_api_Entry))]) (fun w hw => Sat.addNil hw rfl) ?_
  refine GS.rekey (env' := [(3, .pointer (some ⟨(fr1 1).x, 0, none⟩)), (5, .slice none 0 0), (9, .slice a0_Log_o a0_Log.length a0_Log_c), (10, .int .i64 ((a0_Log.length : Nat) : Int)), (11, .int .i64 0)]) (mem' := [(1, r53 a0_Log_o a0_Log), (5, .cells ((fr1 1).x) 23 [.int .i64 a1.Epoch, .int .i64 a1.N]), (20000, o53 none 0 ([] : List S_api_Entry))]) [3, 5, 9, 10, 11] [(1, 1), (5, 5), (20000, 20001)] (by kernel_rfl) (by kernel_rfl) rfl ?_
  refine loopL_elim hm (fun st67 fn68 hst69 hfn70 hm => ?_)
  refine GS.loopInv (ι := List S_api_Entry × Nat × List S_api_Entry × Option Addr × Nat) (I := fun ⟨rs65, v11_1, l20000_1, o20000_1, k20000_1⟩ => a0_Log.drop v11_1 = rs65 ∧ loopL st67 fn68 rs65 v11_1 l20000_1 = some y) (μ := fun ⟨rs65, v11_1, l20000_1, o20000_1, k20000_1⟩ => rs65.length) (E := fun ⟨rs65, v11_1, l20000_1, o20000_1, k20000_1⟩ => [(3, .pointer (some ⟨(fr1 1).x, 0, none⟩)), (5, .slice o20000_1 l20000_1.length k20000_1), (9, .slice a0_Log_o a0_Log.length a0_Log_c), (10, .int .i64 ((a0_Log.length : Nat) : Int)), (11, .int .i64 ((v11_1 : Nat) : Int))]) (M := fun ⟨rs65, v11_1, l20000_1, o20000_1, k20000_1⟩ => [(1, r53 a0_Log_o a0_Log), (5, .cells ((fr1 1).x) 23 [.int .i64 a1.Epoch, .int .i64 a1.N]), (20000, o53 o20000_1 k20000_1 l20000_1)]) ?_ ⟨a0_Log, 0, ([] : List S_api_Entry), none, 0⟩ ⟨List.drop_zero .., hm⟩
  rintro ⟨rs65, v11_1, l20000_1, o20000_1, k20000_1⟩ ⟨hd41, hm⟩ ih66
  cases rs65 with
  | nil =>
    replace hm := (hfn70 _ _).symm.trans hm
    try dsimp only at hm
    refine GS.seq ?_
    refine GS.region (env' := fun _ => [(3, .pointer (some ⟨(fr1 1).x, 0, none⟩)), (5, .slice o20000_1 l20000_1.length k20000_1), (9, .slice a0_Log_o a0_Log.length a0_Log_c), (10, .int .i64 ((a0_Log.length : Nat) : Int)), (11, .int .i64 ((v11_1 : Nat) : Int)), (12, .bool (decide (((v11_1 : Nat) : Int) < ((a0_Log.length : Nat) : Int))))]) (mem' := fun _ => [(1, r53 a0_Log_o a0_Log), (5, .cells ((fr1 1).x) 23 [.int .i64 a1.Epoch, .int .i64 a1.N]), (20000, o53 o20000_1 k20000_1 l20000_1)]) (RunsTo.mk [] [3, 5, 9, 10, 11, 12] [1, 5, 20000] (fun _ => []) (fun _ => by kernel_rfl) (fun _ => trivial)) ?_
    intro _
    refine GS.seq ?_
    refine GS.cond (t := decide (((v11_1 : Nat) : Int) < ((a0_Log.length : Nat) : Int))) rfl rfl (fun h63 => absb h63 (drop_dec0 hd41)) (fun _ => ?_)
    refine GS.exit rfl ?_
    refine GS.seq ?_
    refine GS.region (env' := fun _ => [(4, .slice o20000_1 l20000_1.length k20000_1)]) (mem' := fun _ => [(20000, o53 o20000_1 k20000_1 l20000_1)]) (RunsTo.mk [] [4] [20000] (fun _ => []) (fun _ => by kernel_rfl) (fun _ => trivial)) ?_
    intro _
    have hy := Option.some.inj hm
    subst hy
    refine GS.ret (fn := Try.f32) [0] [.slice o20000_1 l20000_1.length k20000_1] [] rfl Try.func32 (by kernel_rfl) trivial (fun w' hs => ?_)
    exact ⟨⟨o20000_1, k20000_1⟩, rfl, hs.turnedG (ks := [20000]) rfl rfl⟩
  | cons x43 rs65 =>
    replace hm := (hst69 _ _ _ _).symm.trans hm
    try dsimp only at hm
    refine GS.seq ?_
    refine GS.region (env' := fun _ => [(3, .pointer (some ⟨(fr1 1).x, 0, none⟩)), (5, .slice o20000_1 l20000_1.length k20000_1), (9, .slice a0_Log_o a0_Log.length a0_Log_c), (10, .int .i64 ((a0_Log.length : Nat) : Int)), (11, .int .i64 ((v11_1 : Nat) : Int)), (12, .bool (decide (((v11_1 : Nat) : Int) < ((a0_Log.length : Nat) : Int))))]) (mem' := fun _ => [(1, r53 a0_Log_o a0_Log), (5, .cells ((fr1 1).x) 23 [.int .i64 a1.Epoch, .int .i64 a1.N]), (20000, o53 o20000_1 k20000_1 l20000_1)]) (RunsTo.mk [] [3, 5, 9, 10, 11, 12] [1, 5, 20000] (fun _ => []) (fun _ => by kernel_rfl) (fun _ => trivial)) ?_
    intro _
    refine GS.seq ?_
    refine GS.cond (t := decide (((v11_1 : Nat) : Int) < ((a0_Log.length : Nat) : Int))) rfl rfl (fun _ => ?_) (fun h45 => absb (drop_dec hd41) h45)
    refine GS.skip ?_
    refine GS.seq ?_
    refine GS.block ?_
    refine GS.seq ?_
    refine GS.region (env' := fun fr46 => [(3, .pointer (some ⟨(fr1 1).x, 0, none⟩)), (5, .slice o20000_1 l20000_1.length k20000_1), (7, .pointer (some ⟨(fr46 2).x, 0, none⟩)), (9, .slice a0_Log_o a0_Log.length a0_Log_c), (10, .int .i64 ((a0_Log.length : Nat) : Int)), (11, .int .i64 ((v11_1 : Nat) : Int))]) (mem' := fun fr46 => [(1, r53 a0_Log_o a0_Log), (5, .cells ((fr1 1).x) 23 [.int .i64 a1.Epoch, .int .i64 a1.N]), (20000, o53 o20000_1 k20000_1 l20000_1), (20001, .cells ((fr46 2).x) 53 [.int .i64 x43.Version.Epoch, .int .i64 x43.Version.N, .bool x43.Remove, .int .i64 x43.Errno, .string x43.Name, .int .i64 x43.Client, .int .i64 x43.Number])]) (RunsTo.mk [(0, { act := .idx 1 v11_1 }), (1, { act := .load 1 v11_1 0 [.int .i64 x43.Version.Epoch, .int .i64 x43.Version.N, .bool x43.Remove, .int .i64 x43.Errno, .string x43.Name, .int .i64 x43.Client, .int .i64 x43.Number] }), (2, { act := .new .var, key := some 20001 }), (3, { act := .store 0 0 [], key := some 20001 })] [3, 5, 7, 9, 10, 11] [1, 5, 20000, 20001] (fun fr46 => [a0_Log_o = a0_Log_o, a0_Log.length = (List.map S_api_Entry.row a0_Log).length, (((v11_1 : Nat) : Int) : Int) = ((v11_1 : Nat) : Int), v11_1 < a0_Log.length, blk a0_Log_o = blk a0_Log_o, offs a0_Log_o + v11_1 * 7 = offs a0_Log_o + (v11_1 * 7 + 0), (List.map S_api_Entry.row a0_Log)[v11_1]? = some [.int .i64 x43.Version.Epoch, .int .i64 x43.Version.N, .bool x43.Remove, .int .i64 x43.Errno, .string x43.Name, .int .i64 x43.Client, .int .i64 x43.Number], (fr46 2).x = (fr46 2).x, ((.agg #[.int .i64 x43.Version.Epoch, .int .i64 x43.Version.N, .bool x43.Remove, .int .i64 x43.Errno, .string x43.Name, .int .i64 x43.Client, .int .i64 x43.Number]) : Value).cells.toList.all Value.oneCell' = true]) (fun fr46 => by kernel_rfl) (fun fr46 => ⟨rfl, mlen S_api_Entry.row a0_Log, rfl, (drop_lt hd41), rfl, rfl, map_drop S_api_Entry.row hd41, rfl, rfl, trivial⟩)) ?_
    intro fr46
    refine GS.seq ?_
    refine bnd_elim hm (fun y48 e49 hm => ?_)
    refine GS.region (env' := fun _ => [(3, .pointer (some ⟨(fr1 1).x, 0, none⟩)), (5, .slice o20000_1 l20000_1.length k20000_1), (7, .pointer (some ⟨(fr46 2).x, 0, none⟩)), (9, .slice a0_Log_o a0_Log.length a0_Log_c), (10, .int .i64 ((a0_Log.length : Nat) : Int)), (11, .int .i64 ((v11_1 : Nat) : Int)), (19, .bool (decide (y48 > 0)))]) (mem' := fun _ => [(1, r53 a0_Log_o a0_Log), (5, .cells ((fr1 1).x) 23 [.int .i64 a1.Epoch, .int .i64 a1.N]), (20000, o53 o20000_1 k20000_1 l20000_1), (20001, .cells ((fr46 2).x) 53 [.int .i64 x43.Version.Epoch, .int .i64 x43.Version.N, .bool x43.Remove, .int .i64 x43.Errno, .string x43.Name, .int .i64 x43.Client, .int .i64 x43.Number])]) (RunsTo.mk [(1, { act := .load 20001 0 0 [] }), (2, { act := .load 5 0 0 [] }), (3, { act := .call [] (.int .i64 y48) })] [3, 5, 7, 9, 10, 11, 19] [1, 5, 20000, 20001] (fun _ => [(fr46 2).x = (fr46 2).x, (fr1 1).x = (fr1 1).x, CallOK Try.prog 29 #[.agg #[.int .i64 x43.Version.Epoch, .int .i64 x43.Version.N], .agg #[.int .i64 a1.Epoch, .int .i64 a1.N]] (.int .i64 y48) []]) (fun _ => by kernel_rfl) (fun _ => ⟨rfl, rfl, (w_pglog_Cmp F x43.Version a1 e49).ok trivial, trivial⟩)) ?_
    intro _
    refine GS.cond (t := decide (y48 > 0)) rfl rfl (fun h50 => ?_) (fun h50 => ?_)
    · replace hm := br_t h50 hm
      refine grd_elim hm (fun g52 hm => ?_)
      refine GS.region (env' := fun fr51 => [(3, .pointer (some ⟨(fr1 1).x, 0, none⟩)), (5, .slice ((fr51 3).ob) ((l20000_1 ++ [x43]).length) ((fr51 3).cap)), (9, .slice a0_Log_o a0_Log.length a0_Log_c), (10, .int .i64 ((a0_Log.length : Nat) : Int)), (11, .int .i64 ((v11_1 : Nat) : Int))]) (mem' := fun fr51 => [(1, r53 a0_Log_o a0_Log), (5, .cells ((fr1 1).x) 23 [.int .i64 a1.Epoch, .int .i64 a1.N]), (20000, .osl ((fr51 3).ob) ((fr51 3).cap) 53 7 ((List.map S_api_Entry.row l20000_1) ++ ([[.int .i64 x43.Version.Epoch, .int .i64 x43.Version.N, .bool x43.Remove, .int .i64 x43.Errno, .string x43.Name, .int .i64 x43.Client, .int .i64 x43.Number]] : List (List Value))))]) (RunsTo.mk [(1, { act := .load 20001 0 0 [] }), (2, { act := .new (.row 1 7), key := some 20002, spf := some (fun f => .slice (some (Addr.mk f.x 0 none)) ([x43].length) 1) }), (3, { act := .app (some 20002), key := some 20000, spf := some (fun f => .slice (f.ob) ((l20000_1 ++ [x43]).length) (f.cap)) })] [3, 5, 9, 10, 11] [1, 5, 20000] (fun fr51 => [(fr46 2).x = (fr46 2).x, ((.slice (some (Addr.mk (fr51 2).x 0 none)) 1 1) : Value) = .slice (some (Addr.mk (fr51 2).x 0 none)) ([x43].length) 1, (some (Addr.mk (fr51 2).x 0 none)) = (some (Addr.mk (fr51 2).x 0 none)), [x43].length = ([[.int .i64 x43.Version.Epoch, .int .i64 x43.Version.N, .bool x43.Remove, .int .i64 x43.Errno, .string x43.Name, .int .i64 x43.Client, .int .i64 x43.Number]] : List (List Value)).length, o20000_1 = o20000_1, k20000_1 = k20000_1, l20000_1.length = (List.map S_api_Entry.row l20000_1).length, ((List.map S_api_Entry.row l20000_1).length + ([[.int .i64 x43.Version.Epoch, .int .i64 x43.Version.N, .bool x43.Remove, .int .i64 x43.Errno, .string x43.Name, .int .i64 x43.Client, .int .i64 x43.Number]] : List (List Value)).length) * (64 + 1) ≤ 70368744177664, ([[.int .i64 x43.Version.Epoch, .int .i64 x43.Version.N, .bool x43.Remove, .int .i64 x43.Errno, .string x43.Name, .int .i64 x43.Client, .int .i64 x43.Number]] : List (List Value)).flatten.all Value.oneCell' = true, ((.slice ((fr51 3).ob) (l20000_1.length + ([[.int .i64 x43.Version.Epoch, .int .i64 x43.Version.N, .bool x43.Remove, .int .i64 x43.Errno, .string x43.Name, .int .i64 x43.Client, .int .i64 x43.Number]] : List (List Value)).length) ((fr51 3).cap)) : Value) = .slice ((fr51 3).ob) ((l20000_1 ++ [x43]).length) ((fr51 3).cap)]) (fun fr51 => by kernel_rfl) (fun fr51 => ⟨rfl, rfl, rfl, (by rw [show ([[.int .i64 x43.Version.Epoch, .int .i64 x43.Version.N, .bool x43.Remove, .int .i64 x43.Errno, .string x43.Name, .int .i64 x43.Client, .int .i64 x43.Number]] : List (List Value)) = List.map S_api_Entry.row [x43] from rfl]; exact mlen S_api_Entry.row [x43]), rfl, rfl, mlen S_api_Entry.row l20000_1, appb g52 (mlen S_api_Entry.row l20000_1).symm (by rw [show ([[.int .i64 x43.Version.Epoch, .int .i64 x43.Version.N, .bool x43.Remove, .int .i64 x43.Errno, .string x43.Name, .int .i64 x43.Client, .int .i64 x43.Number]] : List (List Value)) = List.map S_api_Entry.row [x43] from rfl]; exact (mlen S_api_Entry.row [x43]).symm), (by rw [show ([[.int .i64 x43.Version.Epoch, .int .i64 x43.Version.N, .bool x43.Remove, .int .i64 x43.Errno, .string x43.Name, .int .i64 x43.Client, .int .i64 x43.Number]] : List (List Value)) = List.map S_api_Entry.row [x43] from (show ([[.int .i64 x43.Version.Epoch, .int .i64 x43.Version.N, .bool x43.Remove, .int .i64 x43.Errno, .string x43.Name, .int .i64 x43.Client, .int .i64 x43.Number]] : List (List Value)) = List.map S_api_Entry.row [x43] from rfl)]; exact all_one S_api_Entry.row _ (fun _ => rfl)), slen (by simp), trivial⟩)) ?_
      intro fr51
      refine GS.conv (mem' := [(1, r53 a0_Log_o a0_Log), (5, .cells ((fr1 1).x) 23 [.int .i64 a1.Epoch, .int .i64 a1.N]), (20000, o53 ((fr51 3).ob) ((fr51 3).cap) (l20000_1 ++ [x43]))]) rfl (congrArg (fun rr : List (List Value) => ([(1, r53 a0_Log_o a0_Log), (5, .cells ((fr1 1).x) 23 [.int .i64 a1.Epoch, .int .i64 a1.N]), (20000, .osl ((fr51 3).ob) ((fr51 3).cap) 53 7 rr)] : List (Nat × Ent))) (show (List.map S_api_Entry.row l20000_1) ++ ([[.int .i64 x43.Version.Epoch, .int .i64 x43.Version.N, .bool x43.Remove, .int .i64 x43.Errno, .string x43.Name, .int .i64 x43.Client, .int .i64 x43.Number]] : List (List Value)) = List.map S_api_Entry.row (l20000_1 ++ [x43]) from (by rw [show List.map S_api_Entry.row l20000_1 = List.map S_api_Entry.row l20000_1 from rfl, show ([[.int .i64 x43.Version.Epoch, .int .i64 x43.Version.N, .bool x43.Remove, .int .i64 x43.Errno, .string x43.Name, .int .i64 x43.Client, .int .i64 x43.Number]] : List (List Value)) = List.map S_api_Entry.row [x43] from (show ([[.int .i64 x43.Version.Epoch, .int .i64 x43.Version.N, .bool x43.Remove, .int .i64 x43.Errno, .string x43.Name, .int .i64 x43.Client, .int .i64 x43.Number]] : List (List Value)) = List.map S_api_Entry.row [x43] from rfl)]; exact mapp S_api_Entry.row _ _))) ?_
      refine GS.inBlock ?_
      refine GS.region (env' := fun _ => [(3, .pointer (some ⟨(fr1 1).x, 0, none⟩)), (5, .slice ((fr51 3).ob) ((l20000_1 ++ [x43]).length) ((fr51 3).cap)), (9, .slice a0_Log_o a0_Log.length a0_Log_c), (10, .int .i64 ((a0_Log.length : Nat) : Int)), (11, .int .i64 ((v11_1 + 1 : Nat) : Int))]) (mem' := fun _ => [(1, r53 a0_Log_o a0_Log), (5, .cells ((fr1 1).x) 23 [.int .i64 a1.Epoch, .int .i64 a1.N]), (20000, o53 ((fr51 3).ob) ((fr51 3).cap) (l20000_1 ++ [x43]))]) (RunsTo.mk [(0, { sp := some (.int .i64 ((v11_1 + 1 : Nat) : Int)) })] [3, 5, 9, 10, 11] [1, 5, 20000] (fun _ => [((.int .i64 (IntKind.i64.wrap (((v11_1 : Nat) : Int) + 1))) : Value) = .int .i64 ((v11_1 + 1 : Nat) : Int)]) (fun _ => by kernel_rfl) (fun _ => ⟨natw (drop_lt hd41) g42, trivial⟩)) ?_
      intro _
      refine GS.inLoop ?_
      refine GS.rekey (env' := [(3, .pointer (some ⟨(fr1 1).x, 0, none⟩)), (5, .slice ((fr51 3).ob) ((l20000_1 ++ [x43]).length) ((fr51 3).cap)), (9, .slice a0_Log_o a0_Log.length a0_Log_c), (10, .int .i64 ((a0_Log.length : Nat) : Int)), (11, .int .i64 ((v11_1 + 1 : Nat) : Int))]) (mem' := [(1, r53 a0_Log_o a0_Log), (5, .cells ((fr1 1).x) 23 [.int .i64 a1.Epoch, .int .i64 a1.N]), (20000, o53 ((fr51 3).ob) ((fr51 3).cap) (l20000_1 ++ [x43]))]) [3, 5, 9, 10, 11] [(1, 1), (5, 5), (20000, 20000)] (by kernel_rfl) (by kernel_rfl) rfl ?_
      exact ih66 ⟨rs65, v11_1 + 1, (l20000_1 ++ [x43]), (fr51 3).ob, (fr51 3).cap⟩ ⟨drop_next hd41, hm⟩ (Nat.lt_succ_self _)
    · replace hm := br_f h50 hm
      refine GS.skip ?_
      refine GS.inBlock ?_
      refine GS.region (env' := fun _ => [(3, .pointer (some ⟨(fr1 1).x, 0, none⟩)), (5, .slice o20000_1 l20000_1.length k20000_1), (9, .slice a0_Log_o a0_Log.length a0_Log_c), (10, .int .i64 ((a0_Log.length : Nat) : Int)), (11, .int .i64 ((v11_1 + 1 : Nat) : Int))]) (mem' := fun _ => [(1, r53 a0_Log_o a0_Log), (5, .cells ((fr1 1).x) 23 [.int .i64 a1.Epoch, .int .i64 a1.N]), (20000, o53 o20000_1 k20000_1 l20000_1)]) (RunsTo.mk [(0, { sp := some (.int .i64 ((v11_1 + 1 : Nat) : Int)) })] [3, 5, 9, 10, 11] [1, 5, 20000] (fun _ => [((.int .i64 (IntKind.i64.wrap (((v11_1 : Nat) : Int) + 1))) : Value) = .int .i64 ((v11_1 + 1 : Nat) : Int)]) (fun _ => by kernel_rfl) (fun _ => ⟨natw (drop_lt hd41) g42, trivial⟩)) ?_
      intro _
      refine GS.inLoop ?_
      refine GS.rekey (env' := [(3, .pointer (some ⟨(fr1 1).x, 0, none⟩)), (5, .slice o20000_1 l20000_1.length k20000_1), (9, .slice a0_Log_o a0_Log.length a0_Log_c), (10, .int .i64 ((a0_Log.length : Nat) : Int)), (11, .int .i64 ((v11_1 + 1 : Nat) : Int))]) (mem' := [(1, r53 a0_Log_o a0_Log), (5, .cells ((fr1 1).x) 23 [.int .i64 a1.Epoch, .int .i64 a1.N]), (20000, o53 o20000_1 k20000_1 l20000_1)]) [3, 5, 9, 10, 11] [(1, 1), (5, 5), (20000, 20000)] (by kernel_rfl) (by kernel_rfl) rfl ?_
      exact ih66 ⟨rs65, v11_1 + 1, l20000_1, o20000_1, k20000_1⟩ ⟨drop_next hd41, hm⟩ (Nat.lt_succ_self _)

theorem w_missing_Divergent (F : Nat) (a0_Les : Int) (a0_Tail : S_api_Version) (a0_Log_o : Option Addr) (a0_Log_c : Nat) (a0_Log : List S_api_Entry) (a0_Lasts_o : Option Addr) (a0_Lasts_c : Nat) (a0_Lasts : List S_api_Last) (a0_Items_o : Option Addr) (a0_Items_c : Nat) (a0_Items : List S_api_Item) (a1_Les : Int) (a1_Tail : S_api_Version) (a1_Log_o : Option Addr) (a1_Log_c : Nat) (a1_Log : List S_api_Entry) (a1_Lasts_o : Option Addr) (a1_Lasts_c : Nat) (a1_Lasts : List S_api_Last) (a1_Items_o : Option Addr) (a1_Items_c : Nat) (a1_Items : List S_api_Item) {y : List S_api_Entry} (hm : m_missing_Divergent F a0_Les a0_Tail a0_Log a0_Lasts a0_Items a1_Les a1_Tail a1_Log a1_Lasts a1_Items = some y) : CallG Try.prog 12 #[.agg #[.int .i64 a0_Les, .int .i64 a0_Tail.Epoch, .int .i64 a0_Tail.N, .slice a0_Log_o a0_Log.length a0_Log_c, .slice a0_Lasts_o a0_Lasts.length a0_Lasts_c, .slice a0_Items_o a0_Items.length a0_Items_c], .agg #[.int .i64 a1_Les, .int .i64 a1_Tail.Epoch, .int .i64 a1_Tail.N, .slice a1_Log_o a1_Log.length a1_Log_c, .slice a1_Lasts_o a1_Lasts.length a1_Lasts_c, .slice a1_Items_o a1_Items.length a1_Items_c]] (X := Option Addr × Nat) (fun ⟨x0, x1⟩ => .slice x0 y.length x1) [] [r53 a0_Log_o a0_Log, r83 a0_Lasts_o a0_Lasts, r45 a0_Items_o a0_Items, r53 a1_Log_o a1_Log, r83 a1_Lasts_o a1_Lasts, r45 a1_Items_o a1_Items] (fun ⟨x0, x1⟩ => [o53 x0 x1 y]) := by
  intro w hg
  rw [m_missing_Divergent] at hm
  refine GS.start (S := mayT [] [r53 a0_Log_o a0_Log, r83 a0_Lasts_o a0_Lasts, r45 a0_Items_o a0_Items, r53 a1_Log_o a1_Log, r83 a1_Lasts_o a1_Lasts, r45 a1_Items_o a1_Items]) (mem := [(1, r53 a0_Log_o a0_Log), (2, r83 a0_Lasts_o a0_Lasts), (3, r45 a0_Items_o a0_Items), (4, r53 a1_Log_o a1_Log), (5, r83 a1_Lasts_o a1_Lasts), (6, r45 a1_Items_o a1_Items)]) Try.func12 rfl Try.ntmps12 (Nat.le_of_ble_eq_true rfl) (hg.start rfl) ?_
  refine GS.conv (env' := [(0, .agg #[.int .i64 a0_Les, .int .i64 a0_Tail.Epoch, .int .i64 a0_Tail.N, .slice a0_Log_o a0_Log.length a0_Log_c, .slice a0_Lasts_o a0_Lasts.length a0_Lasts_c, .slice a0_Items_o a0_Items.length a0_Items_c]), (1, .agg #[.int .i64 a1_Les, .int .i64 a1_Tail.Epoch, .int .i64 a1_Tail.N, .slice a1_Log_o a1_Log.length a1_Log_c, .slice a1_Lasts_o a1_Lasts.length a1_Lasts_c, .slice a1_Items_o a1_Items.length a1_Items_c])]) rfl rfl ?_
  refine GS.seq ?_
  refine GS.region (env' := fun fr1 => [(2, .pointer (some ⟨(fr1 0).x, 0, none⟩)), (3, .pointer (some ⟨(fr1 1).x, 0, none⟩))]) (mem' := fun fr1 => [(1, r53 a0_Log_o a0_Log), (2, r83 a0_Lasts_o a0_Lasts), (3, r45 a0_Items_o a0_Items), (4, r53 a1_Log_o a1_Log), (5, r83 a1_Lasts_o a1_Lasts), (6, r45 a1_Items_o a1_Items), (7, .cells ((fr1 0).x) 28 [.int .i64 a0_Les, .int .i64 a0_Tail.Epoch, .int .i64 a0_Tail.N, .slice a0_Log_o a0_Log.length a0_Log_c, .slice a0_Lasts_o a0_Lasts.length a0_Lasts_c, .slice a0_Items_o a0_Items.length a0_Items_c]), (8, .cells ((fr1 1).x) 28 [.int .i64 a1_Les, .int .i64 a1_Tail.Epoch, .int .i64 a1_Tail.N, .slice a1_Log_o a1_Log.length a1_Log_c, .slice a1_Lasts_o a1_Lasts.length a1_Lasts_c, .slice a1_Items_o a1_Items.length a1_Items_c])]) (RunsTo.mk [(0, { act := .new .var, key := some 7 }), (1, { act := .new .var, key := some 8 })] [2, 3] [1, 2, 3, 4, 5, 6, 7, 8] (fun fr1 => []) (fun fr1 => by kernel_rfl) (fun fr1 => trivial)) ?_
  intro fr1
  refine GS.seq ?_
  refine bnd_elim hm (fun y3 e4 hm => ?_)
  refine GS.region (env' := fun fr2 => [(2, .pointer (some ⟨(fr1 0).x, 0, none⟩)), (5, .pointer (some ⟨(fr2 6).x, 0, none⟩)), (6, .bool y3.2)]) (mem' := fun fr2 => [(1, r53 a0_Log_o a0_Log), (2, r83 a0_Lasts_o a0_Lasts), (3, r45 a0_Items_o a0_Items), (7, .cells ((fr1 0).x) 28 [.int .i64 a0_Les, .int .i64 a0_Tail.Epoch, .int .i64 a0_Tail.N, .slice a0_Log_o a0_Log.length a0_Log_c, .slice a0_Lasts_o a0_Lasts.length a0_Lasts_c, .slice a0_Items_o a0_Items.length a0_Items_c]), (9, .cells ((fr2 6).x) 23 [.int .i64 y3.1.Epoch, .int .i64 y3.1.N])]) (RunsTo.mk [(0, { act := .load 7 0 0 [] }), (1, { act := .load 8 0 0 [] }), (2, { act := .call [1, 2, 3, 4, 5, 6] (.tuple #[.agg #[.int .i64 y3.1.Epoch, .int .i64 y3.1.N], .bool y3.2]) }), (6, { act := .new .var, key := some 9 }), (7, { act := .store 0 0 [], key := some 9 })] [2, 5, 6] [1, 2, 3, 7, 9] (fun fr2 => [(fr1 0).x = (fr1 0).x, (fr1 1).x = (fr1 1).x, CallOK Try.prog 9 #[.agg #[.int .i64 a0_Les, .int .i64 a0_Tail.Epoch, .int .i64 a0_Tail.N, .slice a0_Log_o a0_Log.length a0_Log_c, .slice a0_Lasts_o a0_Lasts.length a0_Lasts_c, .slice a0_Items_o a0_Items.length a0_Items_c], .agg #[.int .i64 a1_Les, .int .i64 a1_Tail.Epoch, .int .i64 a1_Tail.N, .slice a1_Log_o a1_Log.length a1_Log_c, .slice a1_Lasts_o a1_Lasts.length a1_Lasts_c, .slice a1_Items_o a1_Items.length a1_Items_c]] (.tuple #[.agg #[.int .i64 y3.1.Epoch, .int .i64 y3.1.N], .bool y3.2]) [some (r53 a0_Log_o a0_Log), some (r83 a0_Lasts_o a0_Lasts), some (r45 a0_Items_o a0_Items), some (r53 a1_Log_o a1_Log), some (r83 a1_Lasts_o a1_Lasts), some (r45 a1_Items_o a1_Items)], (fr2 6).x = (fr2 6).x, ((.agg #[.int .i64 y3.1.Epoch, .int .i64 y3.1.N]) : Value).cells.toList.all Value.oneCell' = true]) (fun fr2 => by kernel_rfl) (fun fr2 => ⟨rfl, rfl, (w_missing_Common F a0_Les a0_Tail a0_Log_o a0_Log_c a0_Log a0_Lasts_o a0_Lasts_c a0_Lasts a0_Items_o a0_Items_c a0_Items a1_Les a1_Tail a1_Log_o a1_Log_c a1_Log a1_Lasts_o a1_Lasts_c a1_Lasts a1_Items_o a1_Items_c a1_Items e4).ok ⟨(.inl ⟨r53 a0_Log_o a0_Log, .head _, Cov.refl _⟩), (.inl ⟨r83 a0_Lasts_o a0_Lasts, (.tail _ (.head _)), Cov.refl _⟩), (.inl ⟨r45 a0_Items_o a0_Items, (.tail _ (.tail _ (.head _))), Cov.refl _⟩), (.inl ⟨r53 a1_Log_o a1_Log, (.tail _ (.tail _ (.tail _ (.head _)))), Cov.refl _⟩), (.inl ⟨r83 a1_Lasts_o a1_Lasts, (.tail _ (.tail _ (.tail _ (.tail _ (.head _))))), Cov.refl _⟩), (.inl ⟨r45 a1_Items_o a1_Items, (.tail _ (.tail _ (.tail _ (.tail _ (.tail _ (.head _)))))), Cov.refl _⟩), trivial⟩, rfl, rfl, trivial⟩)) ?_
  intro fr2
  refine GS.seq ?_
  refine GS.seq ?_
  refine GS.region (env' := fun _ => [(2, .pointer (some ⟨(fr1 0).x, 0, none⟩)), (5, .pointer (some ⟨(fr2 6).x, 0, none⟩)), (14, .bool (!y3.2))]) (mem' := fun _ => [(1, r53 a0_Log_o a0_Log), (2, r83 a0_Lasts_o a0_Lasts), (3, r45 a0_Items_o a0_Items), (7, .cells ((fr1 0).x) 28 [.int .i64 a0_Les, .int .i64 a0_Tail.Epoch, .int .i64 a0_Tail.N, .slice a0_Log_o a0_Log.length a0_Log_c, .slice a0_Lasts_o a0_Lasts.length a0_Lasts_c, .slice a0_Items_o a0_Items.length a0_Items_c]), (9, .cells ((fr2 6).x) 23 [.int .i64 y3.1.Epoch, .int .i64 y3.1.N])]) (RunsTo.mk [] [2, 5, 14] [1, 2, 3, 7, 9] (fun _ => []) (fun _ => by kernel_rfl) (fun _ => trivial)) ?_
  intro _
  refine GS.cond (t := !y3.2) rfl rfl (fun h6 => ?_) (fun h6 => ?_)
  · replace hm := br_t h6 hm
    refine GS.seq ?_
    refine GS.region (env' := fun _ => [(4, .slice none 0 0)]) (mem' := fun _ => []) (RunsTo.mk [] [4] [] (fun _ => []) (fun _ => by kernel_rfl) (fun _ => trivial)) ?_
    intro _
    refine GS.setMem (mem' := [(10, o53 none 0 ([] : List S_api_Entry))]) (fun w hw => Sat.addNil hw rfl) ?_
    have hy := Option.some.inj hm
    subst hy
    refine GS.ret (fn := Try.f12) [0] [.slice none 0 0] [] rfl Try.func12 (by kernel_rfl) trivial (fun w' hs => ?_)
    exact ⟨⟨none, 0⟩, rfl, hs.turnedG (ks := [10]) rfl rfl⟩
  · replace hm := br_f h6 hm
    refine GS.skip ?_
    refine GS.seq ?_
    refine bnd_elim hm (fun y9 e10 hm => ?_)
    refine GS.open_ ?_
    refine GR.run (i := 0) 2 (env' := fun _ => [(15, .agg #[.int .i64 a0_Les, .int .i64 a0_Tail.Epoch, .int .i64 a0_Tail.N, .slice a0_Log_o a0_Log.length a0_Log_c, .slice a0_Lasts_o a0_Lasts.length a0_Lasts_c, .slice a0_Items_o a0_Items.length a0_Items_c]), (16, .agg #[.int .i64 y3.1.Epoch, .int .i64 y3.1.N])]) (mem' := fun _ => [(1, r53 a0_Log_o a0_Log), (2, r83 a0_Lasts_o a0_Lasts), (3, r45 a0_Items_o a0_Items)]) (Nat.le_of_ble_eq_true (by kernel_rfl)) (RunsTo.mk [(0, { act := .load 7 0 0 [] }), (1, { act := .load 9 0 0 [] })] [15, 16] [1, 2, 3] (fun _ => [(fr1 0).x = (fr1 0).x, (fr2 6).x = (fr2 6).x]) (fun _ => by kernel_rfl) (fun _ => ⟨rfl, rfl, trivial⟩)) ?_
    intro _
    refine GR.callG (X := Option Addr × Nat) (i := 2) (g := 32) (args := #[.agg #[.int .i64 a0_Les, .int .i64 a0_Tail.Epoch, .int .i64 a0_Tail.N, .slice a0_Log_o a0_Log.length a0_Log_c, .slice a0_Lasts_o a0_Lasts.length a0_Lasts_c, .slice a0_Items_o a0_Items.length a0_Items_c], .agg #[.int .i64 y3.1.Epoch, .int .i64 y3.1.N]]) (v := fun ⟨x11, x12⟩ => .slice x11 y9.length x12) (own := []) (ro := [r53 a0_Log_o a0_Log, r83 a0_Lasts_o a0_Lasts, r45 a0_Items_o a0_Items]) (es' := fun ⟨x11, x12⟩ => [o53 x11 x12 y9]) (mem' := fun ⟨x11, x12⟩ => [(1, r53 a0_Log_o a0_Log), (2, r83 a0_Lasts_o a0_Lasts), (3, r45 a0_Items_o a0_Items), (10, o53 x11 x12 y9)]) (env' := fun ⟨x11, x12⟩ => [(17, .slice x11 y9.length x12)]) [] [10] [17] [1, 2, 3, 10] false (by kernel_rfl) (by kernel_rfl) (by kernel_rfl) (by kernel_rfl) (by kernel_rfl) (fun _ => rfl) (fun _ _ => rfl) ⟨(.inl ⟨1, _, rfl, rfl, Cov.refl _, fun h => by cases h⟩), (.inl ⟨2, _, rfl, rfl, Cov.refl _, fun h => by cases h⟩), (.inl ⟨3, _, rfl, rfl, Cov.refl _, fun h => by cases h⟩), trivial⟩ (by rintro ⟨x11, x12⟩; kernel_rfl) (by rintro ⟨x11, x12⟩; kernel_rfl) (w_missing_above F a0_Les a0_Tail a0_Log_o a0_Log_c a0_Log a0_Lasts_o a0_Lasts_c a0_Lasts a0_Items_o a0_Items_c a0_Items y3.1 e10) ?_
    rintro ⟨x11, x12⟩
    refine GR.run (i := 3) 1 (env' := fun _ => [(4, .slice x11 y9.length x12)]) (mem' := fun _ => [(10, o53 x11 x12 y9)]) (Nat.le_of_ble_eq_true (by kernel_rfl)) (RunsTo.mk [] [4] [10] (fun _ => []) (fun _ => by kernel_rfl) (fun _ => trivial)) ?_
    intro _
    refine GR.done (Nat.le_of_ble_eq_true (by kernel_rfl)) ?_
    have hy := Option.some.inj hm
    subst hy
    refine GS.ret (fn := Try.f12) [0] [.slice x11 y9.length x12] [] rfl Try.func12 (by kernel_rfl) trivial (fun w' hs => ?_)
    exact ⟨⟨x11, x12⟩, rfl, hs.turnedG (ks := [10]) rfl rfl⟩

end Go.Proofs.Ytdelhcdknglibaa
