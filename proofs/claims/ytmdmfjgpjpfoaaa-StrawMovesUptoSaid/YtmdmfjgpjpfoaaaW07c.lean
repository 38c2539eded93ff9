/-
  CHAPTER 7: the walks of lives, Ints, Share.
-/
import Derived.Test.YtmdmfjgpjpfoaaaW07b
import Derived.Test.YtmdmfjgpjpfoaaaP07c
set_option linter.unusedVariables false
set_option maxRecDepth 100000
namespace Go.Proofs.Ytmdmfjgpjpfoaaa
open Go Go.RowKit Sx

theorem lives_ok  : CallOK Try.prog 11 #[] (.bool true) [] := by
  intro w _
  refine GS.start (S := fun _ => False) (mem := []) Try.func11 rfl Try.ntmps11 (Nat.le_of_ble_eq_true rfl) Sat.start ?_
  refine GS.conv (env' := []) rfl rfl ?_
  refine GS.seq ?_
  -- region 0, law.go:11
  refine GS.region (env' := fun _ => []) (mem' := fun _ => []) (RunsTo.mk [] [] [] (fun _ => []) (fun _ => by kernel_rfl) (fun _ => trivial)) ?_
  intro _
  refine GS.seq ?_
  -- region 1, law.go:12
  refine GS.region (env' := fun fr0 => [(1, .int .i64 0), (2, .bool true)]) (mem' := fun fr0 => [(1, .osl (some (Addr.mk (fr0 0).x 0 none)) 1 3 1 (encI [5])), (2, .osl (some (Addr.mk (fr0 1).x 0 none)) 1 3 1 (encI [1]))]) (RunsTo.mk [(0, { act := .new (.row 1 1), key := some 1 }), (1, { act := .new (.row 1 1), key := some 2 }), (2, { act := .call [1, 2] (.tuple #[.int .i64 ((chooseF [5] [1] 7 0).1), .bool ((chooseF [5] [1] 7 0).2)]), sp := some (.tuple #[.int .i64 0, .bool true]) })] [1, 2] [1, 2] (fun fr0 => [CallOK Try.prog 14 #[.slice (some (Addr.mk (fr0 0).x 0 none)) 1 1, .slice (some (Addr.mk (fr0 1).x 0 none)) 1 1, .int .u32 7, .int .i64 0] (.tuple #[.int .i64 ((chooseF [5] [1] 7 0).1), .bool ((chooseF [5] [1] 7 0).2)]) [some (.osl (some (Addr.mk (fr0 0).x 0 none)) 1 3 1 (encI [5])), some (.osl (some (Addr.mk (fr0 1).x 0 none)) 1 3 1 (encI [1]))], (.tuple #[.int .i64 ((chooseF [5] [1] 7 0).1), .bool ((chooseF [5] [1] 7 0).2)] : Value) = .tuple #[.int .i64 0, .bool true]]) (fun fr0 => by kernel_rfl) (fun fr0 => ⟨(choose_ok (some (Addr.mk (fr0 0).x 0 none)) (some (Addr.mk (fr0 1).x 0 none)) 1 1 [5] [1] 7 0 (by first | omega | (simp <;> omega))).weak (by intro w h E hE; simp only [List.mem_cons, Option.some.injEq, List.not_mem_nil, or_false] at hE; exact hE.elim (fun e => by rw [e]; exact Ent.osl_rd (h (.osl (some (Addr.mk (fr0 0).x 0 none)) 1 3 1 (encI [5])) (by simp))) (fun e => by rw [e]; exact Ent.osl_rd (h (.osl (some (Addr.mk (fr0 1).x 0 none)) 1 3 1 (encI [1])) (by simp)))), by rw [lives1], trivial⟩)) ?_
  intro fr0
  refine GS.seq ?_
  -- region 2, law.go:13
  refine GS.region (env' := fun _ => [(1, .int .i64 0), (2, .bool true), (4, .bool false)]) (mem' := fun _ => [(1, .osl (some (Addr.mk (fr0 0).x 0 none)) 1 3 1 (encI [5])), (2, .osl (some (Addr.mk (fr0 1).x 0 none)) 1 3 1 (encI [1]))]) (RunsTo.mk [(0, { act := .call [] (.tuple #[.int .i64 ((chooseF [] [] 7 0).1), .bool ((chooseF [] [] 7 0).2)]), sp := some (.tuple #[.int .i64 0, .bool false]) })] [1, 2, 4] [1, 2] (fun _ => [CallOK Try.prog 14 #[.slice none 0 0, .slice none 0 0, .int .u32 7, .int .i64 0] (.tuple #[.int .i64 ((chooseF [] [] 7 0).1), .bool ((chooseF [] [] 7 0).2)]) [], (.tuple #[.int .i64 ((chooseF [] [] 7 0).1), .bool ((chooseF [] [] 7 0).2)] : Value) = .tuple #[.int .i64 0, .bool false]]) (fun _ => by kernel_rfl) (fun _ => ⟨(choose_ok none none 0 0 [] [] 7 0 (by first | omega | (simp <;> omega))).weak (by intro w h E hE; simp only [List.mem_cons, Option.some.injEq, List.not_mem_nil, or_false] at hE; exact hE.elim (fun e => by rw [e]; exact Ent.rd_nil) (fun e => by rw [e]; exact Ent.rd_nil)), by rw [lives2], trivial⟩)) ?_
  intro _
  refine GS.seq ?_
  -- region 3, law.go:14
  refine GS.region (env' := fun _ => [(0, .bool true)]) (mem' := fun _ => [(1, .osl (some (Addr.mk (fr0 0).x 0 none)) 1 3 1 (encI [5])), (2, .osl (some (Addr.mk (fr0 1).x 0 none)) 1 3 1 (encI [1]))]) (RunsTo.mk [(0, { act := .call [] (.int .i64 (lnF 3 : Int)), sp := some (.int .i64 35184372088832) }), (3, { act := .call [] (.int .i64 (drawF 0 65536)), sp := some (.int .i64 (-4294967296)) }), (7, { act := .call [] (.int .i64 (drawF 65535 1)), sp := some (.int .i64 0) })] [0] [1, 2] (fun _ => [CallOK Try.prog 9 #[.int .i64 3] (.int .i64 (lnF 3 : Int)) [], (.int .i64 (lnF 3 : Int) : Value) = .int .i64 35184372088832, CallOK Try.prog 12 #[.int .u32 0, .int .i64 65536] (.int .i64 (drawF 0 65536)) [], (.int .i64 (drawF 0 65536) : Value) = .int .i64 (-4294967296), CallOK Try.prog 12 #[.int .u32 65535, .int .i64 1] (.int .i64 (drawF 65535 1)) [], (.int .i64 (drawF 65535 1) : Value) = .int .i64 0]) (fun _ => by kernel_rfl) (fun _ => ⟨ln_ok 3, int_eq lives3, draw_ok 0 65536, int_eq lives4, draw_ok 65535 1, int_eq lives5, trivial⟩)) ?_
  intro _
  refine GS.ret (fn := Try.f11) [0] [.bool true] [] rfl Try.func11 (by kernel_rfl) trivial (fun w' hs => ?_)
  exact ⟨rfl, hs.keep⟩

theorem law_ln (u : Int) : CallOK Try.prog 3 #[.int .i64 u] (.bool true) [] := by
  intro w _
  refine GS.start (S := fun _ => False) (mem := []) Try.func3 rfl Try.ntmps3 (Nat.le_of_ble_eq_true rfl) Sat.start ?_
  refine GS.conv (env' := [(0, .int .i64 u)]) rfl rfl ?_
  refine GS.seq ?_
  -- region 0, law.go:21
  refine GS.region (env' := fun _ => [(0, .int .i64 u)]) (mem' := fun _ => []) (RunsTo.mk [] [0] [] (fun _ => []) (fun _ => by kernel_rfl) (fun _ => trivial)) ?_
  intro _
  refine GS.seq ?_
  -- region 1, law.go:21
  refine GS.region (env' := fun _ => [(2, .bool true)]) (mem' := fun _ => []) (RunsTo.mk [(1, { act := .call [] (.int .i64 (lnF u : Int)) }), (3, { act := .call [] (.int .i64 (lnF u : Int)) }), (4, { sp := some (.bool true) }), (6, { act := .call [] (.bool true) })] [2] [] (fun _ => [CallOK Try.prog 9 #[.int .i64 u] (.int .i64 (lnF u : Int)) [], CallOK Try.prog 10 #[.int .i64 u] (.int .i64 (lnF u : Int)) [], (.bool ((lnF u : Int) == (lnF u : Int)) : Value) = .bool true, CallOK Try.prog 11 #[] (.bool true) []]) (fun _ => by kernel_rfl) (fun _ => ⟨ln_ok u, lnref_ok u, bool_eq (by simp), lives_ok, trivial⟩)) ?_
  intro _
  refine GS.ret (fn := Try.f3) [0] [.bool true] [] rfl Try.func3 (by kernel_rfl) trivial (fun w' hs => ?_)
  exact ⟨rfl, hs.keep⟩

theorem law_draws (hh ww : Int) : CallOK Try.prog 4 #[.int .u32 hh, .int .i64 ww] (.bool true) [] := by
  intro w _
  refine GS.start (S := fun _ => False) (mem := []) Try.func4 rfl Try.ntmps4 (Nat.le_of_ble_eq_true rfl) Sat.start ?_
  refine GS.conv (env' := [(0, .int .u32 hh), (1, .int .i64 ww)]) rfl rfl ?_
  refine GS.seq ?_
  -- region 0, law.go:24
  refine GS.region (env' := fun _ => [(0, .int .u32 hh), (1, .int .i64 ww)]) (mem' := fun _ => []) (RunsTo.mk [] [0, 1] [] (fun _ => []) (fun _ => by kernel_rfl) (fun _ => trivial)) ?_
  intro _
  refine GS.seq ?_
  -- region 1, law.go:25
  refine GS.region (env' := fun _ => [(4, .bool true)]) (mem' := fun _ => []) (RunsTo.mk [(2, { act := .call [] (.int .i64 (drawF hh ww)) }), (5, { act := .call [] (.int .i64 (drawF hh ww)) }), (6, { sp := some (.bool true) }), (8, { act := .call [] (.bool true) })] [4] [] (fun _ => [CallOK Try.prog 12 #[.int .u32 hh, .int .i64 ww] (.int .i64 (drawF hh ww)) [], CallOK Try.prog 13 #[.int .u32 hh, .int .i64 ww] (.int .i64 (drawF hh ww)) [], (.bool ((drawF hh ww) == (drawF hh ww)) : Value) = .bool true, CallOK Try.prog 11 #[] (.bool true) []]) (fun _ => by kernel_rfl) (fun _ => ⟨draw_ok hh ww, drawref_ok hh ww, bool_eq (by simp), lives_ok, trivial⟩)) ?_
  intro _
  refine GS.ret (fn := Try.f4) [0] [.bool true] [] rfl Try.func4 (by kernel_rfl) trivial (fun w' hs => ?_)
  exact ⟨rfl, hs.keep⟩

theorem law_rises (n : Nat) (hn : n ≤ 18446744073709551615) : CallOK Try.prog 5 #[.int .u64 (n : Int)] (.bool true) [] := by
  intro w _
  obtain ⟨k, hk⟩ : ∃ k, k = n % 65535 := ⟨_, rfl⟩
  have hk1 : k < 65535 := by rw [hk]; exact Nat.mod_lt _ (by omega)
  have h1 := lnF_rise k hk1
  have h2 := lnF_top ((k + 1 : Nat) : Int)
  refine GS.start (S := fun _ => False) (mem := []) Try.func5 rfl Try.ntmps5 (Nat.le_of_ble_eq_true rfl) Sat.start ?_
  refine GS.conv (env' := [(0, .int .u64 (n : Int))]) rfl rfl ?_
  refine GS.seq ?_
  -- region 0, law.go:40
  refine GS.region (env' := fun _ => [(0, .int .u64 (n : Int))]) (mem' := fun _ => []) (RunsTo.mk [] [0] [] (fun _ => []) (fun _ => by kernel_rfl) (fun _ => trivial)) ?_
  intro _
  refine GS.seq ?_
  -- region 1, law.go:41
  refine GS.region (env' := fun _ => [(3, .int .i64 ((k : Nat) : Int))]) (mem' := fun _ => []) (RunsTo.mk [(1, { sp := some (.int .u64 ((n % 65535 : Nat) : Int)) }), (2, { sp := some (.int .i64 ((k : Nat) : Int)) })] [3] [] (fun _ => [(.int .u64 (Int.tmod (n : Int) 65535) : Value) = .int .u64 ((n % 65535 : Nat) : Int), (.int .i64 (IntKind.i64.wrap ((n % 65535 : Nat) : Int)) : Value) = .int .i64 ((k : Nat) : Int)]) (fun _ => by kernel_rfl) (fun _ => ⟨int_eq (by rw [Int.tmod_eq_emod_of_nonneg (by omega)]; omega), w64 (by omega) (by omega) (by omega), trivial⟩)) ?_
  intro _
  refine GS.seq ?_
  -- region 2, law.go:42
  refine GS.region (env' := fun _ => [(3, .int .i64 ((k : Nat) : Int)), (4, .int .i64 (lnF ((k : Nat) : Int) : Int)), (5, .int .i64 (lnF ((k + 1 : Nat) : Int) : Int))]) (mem' := fun _ => []) (RunsTo.mk [(1, { act := .call [] (.int .i64 (lnF ((k : Nat) : Int) : Int)) }), (3, { sp := some (.int .i64 ((k + 1 : Nat) : Int)) }), (4, { act := .call [] (.int .i64 (lnF ((k + 1 : Nat) : Int) : Int)) })] [3, 4, 5] [] (fun _ => [CallOK Try.prog 9 #[.int .i64 ((k : Nat) : Int)] (.int .i64 (lnF ((k : Nat) : Int) : Int)) [], (.int .i64 (IntKind.i64.wrap (((k : Nat) : Int) + 1)) : Value) = .int .i64 ((k + 1 : Nat) : Int), CallOK Try.prog 9 #[.int .i64 ((k + 1 : Nat) : Int)] (.int .i64 (lnF ((k + 1 : Nat) : Int) : Int)) []]) (fun _ => by kernel_rfl) (fun _ => ⟨ln_ok ((k : Nat) : Int), w64 (by omega) (by omega) (by omega), ln_ok ((k + 1 : Nat) : Int), trivial⟩)) ?_
  intro _
  refine GS.seq ?_
  refine GS.seq ?_
  -- region 3, law.go:43
  refine GS.region (env' := fun _ => [(3, .int .i64 ((k : Nat) : Int)), (4, .int .i64 (lnF ((k : Nat) : Int) : Int)), (32, .bool false)]) (mem' := fun _ => []) (RunsTo.mk [(2, { sp := some (.bool false) }), (5, { sp := some (.bool false) }), (9, { sp := some (.bool false) }), (12, { act := .call [] (.int .i64 (lnF 0 : Int)), sp := some (.int .i64 0) }), (16, { act := .call [] (.int .i64 (lnF 65535 : Int)), sp := some (.int .i64 281474976710656) })] [3, 4, 32] [] (fun _ => [(.bool (decide ((lnF ((k : Nat) : Int) : Int) ≥ (lnF ((k + 1 : Nat) : Int) : Int))) : Value) = .bool false, (.bool (decide ((lnF ((k : Nat) : Int) : Int) < 0)) : Value) = .bool false, (.bool (decide ((lnF ((k + 1 : Nat) : Int) : Int) > 281474976710656)) : Value) = .bool false, CallOK Try.prog 9 #[.int .i64 0] (.int .i64 (lnF 0 : Int)) [], (.int .i64 (lnF 0 : Int) : Value) = .int .i64 0, CallOK Try.prog 9 #[.int .i64 65535] (.int .i64 (lnF 65535 : Int)) [], (.int .i64 (lnF 65535 : Int) : Value) = .int .i64 281474976710656]) (fun _ => by kernel_rfl) (fun _ => ⟨bool_eq (decide_eq_false (by omega)), bool_eq (decide_eq_false (by omega)), bool_eq (decide_eq_false (by omega)), ln_ok 0, int_eq lives6, ln_ok 65535, int_eq lives7, trivial⟩)) ?_
  intro _
  refine GS.cond (t := false) rfl rfl (fun hf => by cases hf) (fun _ => ?_)
  refine GS.skip ?_
  refine GS.seq ?_
  refine GS.seq ?_
  -- region 5, law.go:46
  refine GS.region (env' := fun _ => [(3, .int .i64 ((k : Nat) : Int)), (4, .int .i64 (lnF ((k : Nat) : Int) : Int)), (34, .bool (decide (((k : Nat) : Int) ≥ 32767)))]) (mem' := fun _ => []) (RunsTo.mk [] [3, 4, 34] [] (fun _ => []) (fun _ => by kernel_rfl) (fun _ => trivial)) ?_
  intro _
  refine GS.cond (t := decide (((k : Nat) : Int) ≥ 32767)) rfl rfl (fun h => ?_) (fun h => ?_)
  · replace h := of_decide_eq_true h
    refine GS.seq ?_
    -- region 6, law.go:47
    refine GS.region (env' := fun _ => [(2, .bool true)]) (mem' := fun _ => []) (RunsTo.mk [(0, { act := .call [] (.bool true) })] [2] [] (fun _ => [CallOK Try.prog 11 #[] (.bool true) []]) (fun _ => by kernel_rfl) (fun _ => ⟨lives_ok, trivial⟩)) ?_
    intro _
    refine GS.ret (fn := Try.f5) [0] [.bool true] [] rfl Try.func5 (by kernel_rfl) trivial (fun w' hs => ?_)
    exact ⟨rfl, hs.keep⟩
  · replace h := of_decide_eq_false h
    have ht := lnF_twice k (by omega)
    refine GS.skip ?_
    refine GS.seq ?_
    -- region 7, law.go:49
    refine GS.region (env' := fun _ => [(2, .bool true)]) (mem' := fun _ => []) (RunsTo.mk [(1, { sp := some (.int .i64 ((2 * k : Nat) : Int)) }), (2, { sp := some (.int .i64 ((2 * k + 1 : Nat) : Int)) }), (3, { act := .call [] (.int .i64 (lnF ((2 * k + 1 : Nat) : Int) : Int)) }), (5, { sp := some (.int .i64 ((lnF ((k : Nat) : Int) : Int) + 17592186044416)) }), (6, { sp := some (.bool true) }), (8, { act := .call [] (.bool true) })] [2] [] (fun _ => [(.int .i64 (IntKind.i64.wrap (2 * ((k : Nat) : Int))) : Value) = .int .i64 ((2 * k : Nat) : Int), (.int .i64 (IntKind.i64.wrap (((2 * k : Nat) : Int) + 1)) : Value) = .int .i64 ((2 * k + 1 : Nat) : Int), CallOK Try.prog 9 #[.int .i64 ((2 * k + 1 : Nat) : Int)] (.int .i64 (lnF ((2 * k + 1 : Nat) : Int) : Int)) [], ((.int .i64 (IntKind.i64.wrap ((lnF ((k : Nat) : Int) : Int) + 17592186044416))) : Value) = .int .i64 ((lnF ((k : Nat) : Int) : Int) + 17592186044416), (.bool ((lnF ((2 * k + 1 : Nat) : Int) : Int) == ((lnF ((k : Nat) : Int) : Int) + 17592186044416)) : Value) = .bool true, CallOK Try.prog 11 #[] (.bool true) []]) (fun _ => by kernel_rfl) (fun _ => ⟨w64 (by omega) (by omega) (by omega), w64 (by omega) (by omega) (by omega), ln_ok ((2 * k + 1 : Nat) : Int), w64 rfl (by omega) (by omega), bool_eq (by rw [ht]; simp <;> omega), lives_ok, trivial⟩)) ?_
    intro _
    refine GS.ret (fn := Try.f5) [0] [.bool true] [] rfl Try.func5 (by kernel_rfl) trivial (fun w' hs => ?_)
    exact ⟨rfl, hs.keep⟩

end Go.Proofs.Ytmdmfjgpjpfoaaa
