/-
  THE LAW ExtentNone: for every input of the given program's function it returns true, and the input reads behind the call as it read before. Proved in the first form, without any condition.
-/
import Derived.Test.YtmdfkklldbfocaaRows
import Derived.JoinedCond
import Derived.Test.YtmdfkklldbfocaaSxh
import Derived.Test.YtmdfkklldbfocaaW05nc
import Derived.Test.YtmdfkklldbfocaaP05n
import Derived.Test.YtmdfkklldbfocaaO05n
set_option linter.unusedVariables false
set_option linter.unusedSimpArgs false
set_option maxRecDepth 100000
namespace Go.Proofs.Ytmdfkklldbfocaa.extentNone
open Go.ChangeShapes Go.WideShapes Go.ChangeAt Go.RowKit Sx

theorem own : ownKnob Try.prog.godebug = none := by kernel_rfl
theorem laidOut : laidOutB Try.prog = true := by kernel_rfl

theorem contract (H : Type) (enc : TypeId × Value → H) (W : World) (base : Nat) (args : Array Value) (ds gs : List (DataW H)) (before : List MemPlace)
    (hval : ∀ (j : Nat) t v, Try.f7.params[j]? = some t → args[j]? = some v → Value.okWide Try.prog W .any base t v)
    (hW : DataW.Whole enc Try.prog Try.f7.params.toList Rows.extentNoneSpec.vars false W args.toList ds gs before) :
    Calls Try.prog 7 args W fun e W' => ∃ v, e = .returned v ∧ Rows.extentNoneSpec.post enc Try.prog Try.f7 false true false false W args v W' := by
  have hW' := hW
  obtain ⟨p, q, hA0, hV, rfl, hfz, hnd⟩ := hW
  have hA : DataW.TrodAll enc Try.prog W 0 (fun _ => true) true Try.f7.params.toList args.toList ds p := hA0
  rw [Try.params7] at hA hval
  obtain ⟨v0, vs0, d0, ds0, p0, q0, hargs, rfl, rfl, h0, r0⟩ := trodAll_cons hA
  obtain ⟨rfl, rfl, rfl⟩ := trodAll_nil r0
  obtain rfl : args = #[v0] := by cases args; simp_all
  obtain ⟨rfl, rfl⟩ := trodVars_none hV
  have k0 := h0
  have lt0 : ∀ x ∈ p0, x.block < W.heap.size := by obtain ⟨m, hm⟩ := k0; exact DataW.trod_lt m _ _ _ hm
  obtain ⟨a0, rfl, a0s⟩ := okWide_struct Try.underlying37 (hval 0 37 v0 rfl rfl)
  obtain ⟨fu0, hf0⟩ := h0
  rw [show Try.prog.cellsOf 37 = 4 by kernel_rfl] at a0s
  obtain ⟨a0l, rfl, a0s⟩ := arr_list a0s
  obtain ⟨a0_0, a0l0, rfl⟩ : ∃ c l, a0l = c :: l := by cases a0l with | nil => simp at a0s | cons c l => exact ⟨c, l, rfl⟩
  obtain ⟨a0_1, a0l1, rfl⟩ : ∃ c l, a0l0 = c :: l := by cases a0l0 with | nil => simp at a0s | cons c l => exact ⟨c, l, rfl⟩
  obtain ⟨a0_2, a0l2, rfl⟩ : ∃ c l, a0l1 = c :: l := by cases a0l1 with | nil => simp at a0s | cons c l => exact ⟨c, l, rfl⟩
  obtain ⟨a0_3, a0l3, rfl⟩ : ∃ c l, a0l2 = c :: l := by cases a0l2 with | nil => simp at a0s | cons c l => exact ⟨c, l, rfl⟩
  obtain rfl : a0l3 = [] := by simpa using a0s
  replace hf0 : DataW.trod enc Try.prog W 0 (fun _ => true) true fu0 37 [a0_0, a0_1, a0_2, a0_3] = some (d0, p0) := hf0
  obtain ⟨n1, y2, hp3, hb4⟩ := trod_field (i := 0) (off := 0) (ty := 3) Try.underlying37 hf0 (by rfl) (sz := 1) (by kernel_rfl)
  replace hp3 : DataW.trod enc Try.prog W 0 (fun _ => true) true n1 3 [a0_0] = some y2 := hp3
  obtain ⟨n5, y6, hp7, hb8⟩ := trod_field (i := 1) (off := 1) (ty := 3) Try.underlying37 hf0 (by rfl) (sz := 1) (by kernel_rfl)
  replace hp7 : DataW.trod enc Try.prog W 0 (fun _ => true) true n5 3 [a0_1] = some y6 := hp7
  obtain ⟨n9, y10, hp11, hb12⟩ := trod_field (i := 2) (off := 2) (ty := 3) Try.underlying37 hf0 (by rfl) (sz := 1) (by kernel_rfl)
  replace hp11 : DataW.trod enc Try.prog W 0 (fun _ => true) true n9 3 [a0_2] = some y10 := hp11
  obtain ⟨n13, y14, hp15, hb16⟩ := trod_field (i := 3) (off := 3) (ty := 22) Try.underlying37 hf0 (by rfl) (sz := 1) (by kernel_rfl)
  replace hp15 : DataW.trod enc Try.prog W 0 (fun _ => true) true n13 22 [a0_3] = some y14 := hp15
  obtain ⟨z17, hc18, hy19, wz20⟩ := DataW.trod_int Try.underlying3 hp3
  replace wz20 := wf_i64 wz20
  obtain rfl : a0_0 = .int .i64 z17 := by simpa using hc18
  obtain ⟨z21, hc22, hy23, wz24⟩ := DataW.trod_int Try.underlying3 hp7
  replace wz24 := wf_i64 wz24
  obtain rfl : a0_1 = .int .i64 z21 := by simpa using hc22
  obtain ⟨z25, hc26, hy27, wz28⟩ := DataW.trod_int Try.underlying3 hp11
  replace wz28 := wf_i64 wz28
  obtain rfl : a0_2 = .int .i64 z25 := by simpa using hc26
  obtain ⟨o29, n33, c30, rows34, hc35, hn36, hle37, hl38, he39, hr40, ho41, hb42⟩ := open_rows (sz := 1) Try.underlying22 (by kernel_rfl) (by omega) hp15
  replace hl38 : n33 ≤ 9223372036854775807 := by omega
  obtain ⟨l31, rfl, hq43⟩ := rows_dec rB _ (fun r hr => by obtain ⟨n, y, hy⟩ := hr40 r hr; exact open_u8 Try.underlying5 hy)
  obtain rfl : l31.length = n33 := by simpa using hn36
  replace he39 : (Ent.rd o29 1 (List.map rB l31)).ok W := he39
  obtain rfl : a0_3 = .slice o29 l31.length c30 := by simpa using hc35
  clear hA0
  simp only [List.append_nil] at hW'
  refine (CallG.law (w_tholelaw05_ExtentNone 64 z17 z21 z25 o29 c30 l31  (law_none)) W ⟨he39, trivial⟩).mono fun e W' ⟨he, hkeep⟩ => ?_
  subst he
  have bel := hkeep.below
  exact ⟨_, rfl, _, _, _, [], _, [], hW', trodAll_mk1 (shut_bool Try.underlying4 _), (trodAll_cons_mk (Below.trod laidOut (by kernel_rfl) (of_decide_eq_true (by kernel_rfl)) k0 bel lt0) trodAll_mk0), rfl, bel.frame _, fun h => by cases h⟩

theorem lifted (os : Os) (started : os.Started) (H : Type) (enc : TypeId × Value → H) :
    ReturnsInHanded {} Try.checked os 7 .any (Rows.extentNoneSpec.pre6 enc Try.prog Try.f7 Rows.extentNoneRow.domain false) (Rows.extentNoneSpec.post enc Try.prog Try.f7 false true false false) := by
  refine returnsInHanded_of_change (C := Try.checked) own started (by kernel_rfl) Try.func7
    (ChangeSpec.witness6 (enc := enc) (C := Try.checked) false ⟨#[], #[.agg #[.int .i64 0, .int .i64 0, .int .i64 0, .slice none 0 0]], []⟩ 8 (by kernel_rfl) (by kernel_rfl) (by kernel_rfl) (by kernel_rfl)) ?_
  intro W base args ds gs before hval hW hcnd _
  exact contract H enc W base args ds gs before hval hW

/-- THE STATEMENT -/
theorem proved : Rows.ExtentNoneSaid :=
  OpenClaim.holds_of_wide 7 Try.f7 rfl rfl rfl rfl rfl rfl rfl ⟨rfl, rfl, rfl, rfl, rfl⟩ rfl rfl rfl rfl rfl (by kernel_rfl) Try.func7 (by kernel_rfl)
    (of_decide_eq_true (by kernel_rfl)) (by unfold Func.isWrapper; first | (rw [if_pos (by decide +kernel)]; kernel_rfl) | (rw [if_neg (by decide +kernel)]; exact ⟨rfl, rfl⟩))
    (fun os started H enc _ => lifted os started H enc)
end Go.Proofs.Ytmdfkklldbfocaa.extentNone
