/-
  THE LAW ExtentWrites: for every input of the given program's function it returns true, and the input reads behind the call as it read before. Proved in the first form, without any condition.
-/
import Derived.Test.YtmdfkklldbfocaaRows
import Derived.JoinedCond
import Derived.Test.YtmdfkklldbfocaaSxh
import Derived.Test.YtmdfkklldbfocaaW05xh
import Derived.Test.YtmdfkklldbfocaaP05d
import Derived.Test.YtmdfkklldbfocaaO05x
set_option linter.unusedVariables false
set_option linter.unusedSimpArgs false
set_option maxRecDepth 100000
namespace Go.Proofs.Ytmdfkklldbfocaa.extentWrites
open Go.ChangeShapes Go.WideShapes Go.ChangeAt Go.RowKit Sx

theorem own : ownKnob Try.prog.godebug = none := by kernel_rfl
theorem laidOut : laidOutB Try.prog = true := by kernel_rfl

theorem contract (H : Type) (enc : TypeId × Value → H) (W : World) (base : Nat) (args : Array Value) (ds gs : List (DataW H)) (before : List MemPlace)
    (hval : ∀ (j : Nat) t v, Try.f3.params[j]? = some t → args[j]? = some v → Value.okWide Try.prog W .any base t v)
    (hW : DataW.Whole enc Try.prog Try.f3.params.toList Rows.extentWritesSpec.vars false W args.toList ds gs before) :
    Calls Try.prog 3 args W fun e W' => ∃ v, e = .returned v ∧ Rows.extentWritesSpec.post enc Try.prog Try.f3 false true false false W args v W' := by
  have hW' := hW
  obtain ⟨p, q, hA0, hV, rfl, hfz, hnd⟩ := hW
  have hA : DataW.TrodAll enc Try.prog W 0 (fun _ => true) true Try.f3.params.toList args.toList ds p := hA0
  rw [Try.params3] at hA hval
  obtain ⟨v0, vs0, d0, ds0, p0, q0, hargs, rfl, rfl, h0, r0⟩ := trodAll_cons hA
  obtain ⟨v1, vs1, d1, ds1, p1, q1, rfl, rfl, rfl, h1, r1⟩ := trodAll_cons r0
  obtain ⟨v2, vs2, d2, ds2, p2, q2, rfl, rfl, rfl, h2, r2⟩ := trodAll_cons r1
  obtain ⟨rfl, rfl, rfl⟩ := trodAll_nil r2
  obtain rfl : args = #[v0, v1, v2] := by cases args; simp_all
  obtain ⟨rfl, rfl⟩ := trodVars_none hV
  have k0 := h0
  have lt0 : ∀ x ∈ p0, x.block < W.heap.size := by obtain ⟨m, hm⟩ := k0; exact DataW.trod_lt m _ _ _ hm
  obtain ⟨a0, a0n, a0c, rfl⟩ := okWide_slice Try.underlying22 (hval 0 22 v0 rfl rfl)
  obtain ⟨fu0, hf0⟩ := h0
  replace hf0 : DataW.trod enc Try.prog W 0 (fun _ => true) true fu0 22 [.slice a0 a0n a0c] = some (d0, p0) := hf0
  obtain ⟨o1, n5, c2, rows6, hc7, hn8, hle9, hl10, he11, hr12, ho13, hb14⟩ := open_rows (sz := 1) Try.underlying22 (by kernel_rfl) (by omega) hf0
  replace hl10 : n5 ≤ 9223372036854775807 := by omega
  obtain ⟨l3, rfl, hq15⟩ := rows_dec rB _ (fun r hr => by obtain ⟨n, y, hy⟩ := hr12 r hr; exact open_u8 Try.underlying5 hy)
  obtain rfl : l3.length = n5 := by simpa using hn8
  replace he11 : (Ent.rd o1 1 (List.map rB l3)).ok W := he11
  simp only [List.cons.injEq, and_true, Value.slice.injEq] at hc7
  obtain ⟨rfl, rfl, rfl⟩ := hc7
  have k1 := h1
  have lt1 : ∀ x ∈ p1, x.block < W.heap.size := by obtain ⟨m, hm⟩ := k1; exact DataW.trod_lt m _ _ _ hm
  obtain ⟨a1, a1n, a1c, rfl⟩ := okWide_slice Try.underlying22 (hval 1 22 v1 rfl rfl)
  obtain ⟨fu1, hf1⟩ := h1
  replace hf1 : DataW.trod enc Try.prog W 0 (fun _ => true) true fu1 22 [.slice a1 a1n a1c] = some (d1, p1) := hf1
  obtain ⟨o17, n21, c18, rows22, hc23, hn24, hle25, hl26, he27, hr28, ho29, hb30⟩ := open_rows (sz := 1) Try.underlying22 (by kernel_rfl) (by omega) hf1
  replace hl26 : n21 ≤ 9223372036854775807 := by omega
  obtain ⟨l19, rfl, hq31⟩ := rows_dec rB _ (fun r hr => by obtain ⟨n, y, hy⟩ := hr28 r hr; exact open_u8 Try.underlying5 hy)
  obtain rfl : l19.length = n21 := by simpa using hn24
  replace he27 : (Ent.rd o17 1 (List.map rB l19)).ok W := he27
  simp only [List.cons.injEq, and_true, Value.slice.injEq] at hc23
  obtain ⟨rfl, rfl, rfl⟩ := hc23
  have k2 := h2
  have lt2 : ∀ x ∈ p2, x.block < W.heap.size := by obtain ⟨m, hm⟩ := k2; exact DataW.trod_lt m _ _ _ hm
  obtain ⟨a2, rfl, a2s⟩ := okWide_array Try.underlying24 (hval 2 24 v2 rfl rfl)
  obtain ⟨fu2, hf2⟩ := h2
  rw [show Try.prog.cellsOf 24 = 2 by kernel_rfl] at a2s
  obtain ⟨a2l, rfl, a2s⟩ := arr_list a2s
  obtain ⟨a2_0, a2l0, rfl⟩ : ∃ c l, a2l = c :: l := by cases a2l with | nil => simp at a2s | cons c l => exact ⟨c, l, rfl⟩
  obtain ⟨a2_1, a2l1, rfl⟩ : ∃ c l, a2l0 = c :: l := by cases a2l0 with | nil => simp at a2s | cons c l => exact ⟨c, l, rfl⟩
  obtain rfl : a2l1 = [] := by simpa using a2s
  replace hf2 : DataW.trod enc Try.prog W 0 (fun _ => true) true fu2 24 [a2_0, a2_1] = some (d2, p2) := hf2
  obtain ⟨n33, y34, hp35, hb36⟩ := trod_elem (i := 0) Try.underlying24 hf2 (by omega) (sz := 1) (by kernel_rfl)
  replace hp35 : DataW.trod enc Try.prog W 0 (fun _ => true) true n33 23 [a2_0] = some y34 := hp35
  obtain ⟨n37, y38, hp39, hb40⟩ := trod_elem (i := 1) Try.underlying24 hf2 (by omega) (sz := 1) (by kernel_rfl)
  replace hp39 : DataW.trod enc Try.prog W 0 (fun _ => true) true n37 23 [a2_1] = some y38 := hp39
  obtain ⟨z41, hc42, hy43, wz44⟩ := DataW.trod_int Try.underlying23 hp35
  replace wz44 := wf_u64 wz44
  obtain rfl : a2_0 = .int .u64 z41 := by simpa using hc42
  obtain ⟨z45, hc46, hy47, wz48⟩ := DataW.trod_int Try.underlying23 hp39
  replace wz48 := wf_u64 wz48
  obtain rfl : a2_1 = .int .u64 z45 := by simpa using hc46
  clear hA0
  simp only [List.append_nil] at hW'
  refine (CallG.law (w_tholelaw05_ExtentWrites 5000 a0 a0c l3 a1 a1c l19 z41 z45  (law_writes 5000 (by omega) l3 l19 wz44.1 wz48.1 (show _ ≤ 9223372036854775807 from (by first | exact hl10 | (have h := hl10; rw [List.length_map] at h; exact h) | (unfold Len; omega))) (show _ ≤ 9223372036854775807 from (by first | exact hl26 | (have h := hl26; rw [List.length_map] at h; exact h) | (unfold Len; omega))))) W ⟨he11, he27, trivial⟩).mono fun e W' ⟨he, hkeep⟩ => ?_
  subst he
  have bel := hkeep.below
  exact ⟨_, rfl, _, _, _, [], _, [], hW', trodAll_mk1 (shut_bool Try.underlying4 _), (trodAll_cons_mk (Below.trod laidOut (by kernel_rfl) (of_decide_eq_true (by kernel_rfl)) k0 bel lt0) (trodAll_cons_mk (Below.trod laidOut (by kernel_rfl) (of_decide_eq_true (by kernel_rfl)) k1 bel lt1) (trodAll_cons_mk (Below.trod laidOut (by kernel_rfl) (of_decide_eq_true (by kernel_rfl)) k2 bel lt2) trodAll_mk0))), rfl, bel.frame _, fun h => by cases h⟩

theorem lifted (os : Os) (started : os.Started) (H : Type) (enc : TypeId × Value → H) :
    ReturnsInHanded {} Try.checked os 3 .any (Rows.extentWritesSpec.pre6 enc Try.prog Try.f3 Rows.extentWritesRow.domain false) (Rows.extentWritesSpec.post enc Try.prog Try.f3 false true false false) := by
  refine returnsInHanded_of_change (C := Try.checked) own started (by kernel_rfl) Try.func3
    (ChangeSpec.witness6 (enc := enc) (C := Try.checked) false ⟨#[], #[.slice none 0 0, .slice none 0 0, .agg #[.int .u64 0, .int .u64 0]], []⟩ 8 (by kernel_rfl) (by kernel_rfl) (by kernel_rfl) (by kernel_rfl)) ?_
  intro W base args ds gs before hval hW hcnd _
  exact contract H enc W base args ds gs before hval hW

/-- THE STATEMENT -/
theorem proved : Rows.ExtentWritesSaid :=
  OpenClaim.holds_of_wide 3 Try.f3 rfl rfl rfl rfl rfl rfl rfl ⟨rfl, rfl, rfl, rfl, rfl⟩ rfl rfl rfl rfl rfl (by kernel_rfl) Try.func3 (by kernel_rfl)
    (of_decide_eq_true (by kernel_rfl)) (by unfold Func.isWrapper; first | (rw [if_pos (by decide +kernel)]; kernel_rfl) | (rw [if_neg (by decide +kernel)]; exact ⟨rfl, rfl⟩))
    (fun os started H enc _ => lifted os started H enc)
end Go.Proofs.Ytmdfkklldbfocaa.extentWrites
