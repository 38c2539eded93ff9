/-
  THE LAW RecoveryNone: for every input of the given program's function it returns true, and the input reads behind the call as it read before. Proved in the first form, without any condition.
-/
import Derived.Test.YtmhejmkelhflmaaRows
import Derived.JoinedCond
import Derived.Test.YtmhejmkelhflmaaSxh
import Derived.Test.YtmhejmkelhflmaaW19f
import Derived.Test.YtmhejmkelhflmaaP19
import Derived.Test.YtmhejmkelhflmaaO19
set_option linter.unusedVariables false
set_option linter.unusedSimpArgs false
set_option maxRecDepth 100000
namespace Go.Proofs.Ytmhejmkelhflmaa.recoveryNone
open Go.ChangeShapes Go.WideShapes Go.ChangeAt Go.RowKit Sx

theorem own : ownKnob Try.prog.godebug = none := by kernel_rfl
theorem laidOut : laidOutB Try.prog = true := by kernel_rfl

theorem contract (H : Type) (enc : TypeId × Value → H) (W : World) (base : Nat) (args : Array Value) (ds gs : List (DataW H)) (before : List MemPlace)
    (hval : ∀ (j : Nat) t v, Try.f3.params[j]? = some t → args[j]? = some v → Value.okWide Try.prog W .any base t v)
    (hW : DataW.Whole enc Try.prog Try.f3.params.toList Rows.recoveryNoneSpec.vars false W args.toList ds gs before) :
    Calls Try.prog 3 args W fun e W' => ∃ v, e = .returned v ∧ Rows.recoveryNoneSpec.post enc Try.prog Try.f3 false true false false W args v W' := by
  have hW' := hW
  obtain ⟨p, q, hA0, hV, rfl, hfz, hnd⟩ := hW
  have hA : DataW.TrodAll enc Try.prog W 0 (fun _ => true) true Try.f3.params.toList args.toList ds p := hA0
  rw [Try.params3] at hA hval
  obtain ⟨v0, vs0, d0, ds0, p0, q0, hargs, rfl, rfl, h0, r0⟩ := trodAll_cons hA
  obtain ⟨rfl, rfl, rfl⟩ := trodAll_nil r0
  obtain rfl : args = #[v0] := by cases args; simp_all
  obtain ⟨rfl, rfl⟩ := trodVars_none hV
  have k0 := h0
  have lt0 : ∀ x ∈ p0, x.block < W.heap.size := by obtain ⟨m, hm⟩ := k0; exact DataW.trod_lt m _ _ _ hm
  obtain ⟨a0, rfl, a0s⟩ := okWide_struct Try.underlying48 (hval 0 48 v0 rfl rfl)
  obtain ⟨fu0, hf0⟩ := h0
  rw [show Try.prog.cellsOf 48 = 46 by kernel_rfl] at a0s
  obtain ⟨a0l, rfl, a0s⟩ := arr_list a0s
  obtain ⟨a0_0, a0l0, rfl⟩ : ∃ c l, a0l = c :: l := by cases a0l with | nil => simp at a0s | cons c l => exact ⟨c, l, rfl⟩
  obtain ⟨a0_1, a0l1, rfl⟩ : ∃ c l, a0l0 = c :: l := by cases a0l0 with | nil => simp at a0s | cons c l => exact ⟨c, l, rfl⟩
  obtain ⟨a0_2, a0l2, rfl⟩ : ∃ c l, a0l1 = c :: l := by cases a0l1 with | nil => simp at a0s | cons c l => exact ⟨c, l, rfl⟩
  obtain ⟨a0_3, a0l3, rfl⟩ : ∃ c l, a0l2 = c :: l := by cases a0l2 with | nil => simp at a0s | cons c l => exact ⟨c, l, rfl⟩
  obtain ⟨a0_4, a0l4, rfl⟩ : ∃ c l, a0l3 = c :: l := by cases a0l3 with | nil => simp at a0s | cons c l => exact ⟨c, l, rfl⟩
  obtain ⟨a0_5, a0l5, rfl⟩ : ∃ c l, a0l4 = c :: l := by cases a0l4 with | nil => simp at a0s | cons c l => exact ⟨c, l, rfl⟩
  obtain ⟨a0_6, a0l6, rfl⟩ : ∃ c l, a0l5 = c :: l := by cases a0l5 with | nil => simp at a0s | cons c l => exact ⟨c, l, rfl⟩
  obtain ⟨a0_7, a0l7, rfl⟩ : ∃ c l, a0l6 = c :: l := by cases a0l6 with | nil => simp at a0s | cons c l => exact ⟨c, l, rfl⟩
  obtain ⟨a0_8, a0l8, rfl⟩ : ∃ c l, a0l7 = c :: l := by cases a0l7 with | nil => simp at a0s | cons c l => exact ⟨c, l, rfl⟩
  obtain ⟨a0_9, a0l9, rfl⟩ : ∃ c l, a0l8 = c :: l := by cases a0l8 with | nil => simp at a0s | cons c l => exact ⟨c, l, rfl⟩
  obtain ⟨a0_10, a0l10, rfl⟩ : ∃ c l, a0l9 = c :: l := by cases a0l9 with | nil => simp at a0s | cons c l => exact ⟨c, l, rfl⟩
  obtain ⟨a0_11, a0l11, rfl⟩ : ∃ c l, a0l10 = c :: l := by cases a0l10 with | nil => simp at a0s | cons c l => exact ⟨c, l, rfl⟩
  obtain ⟨a0_12, a0l12, rfl⟩ : ∃ c l, a0l11 = c :: l := by cases a0l11 with | nil => simp at a0s | cons c l => exact ⟨c, l, rfl⟩
  obtain ⟨a0_13, a0l13, rfl⟩ : ∃ c l, a0l12 = c :: l := by cases a0l12 with | nil => simp at a0s | cons c l => exact ⟨c, l, rfl⟩
  obtain ⟨a0_14, a0l14, rfl⟩ : ∃ c l, a0l13 = c :: l := by cases a0l13 with | nil => simp at a0s | cons c l => exact ⟨c, l, rfl⟩
  obtain ⟨a0_15, a0l15, rfl⟩ : ∃ c l, a0l14 = c :: l := by cases a0l14 with | nil => simp at a0s | cons c l => exact ⟨c, l, rfl⟩
  obtain ⟨a0_16, a0l16, rfl⟩ : ∃ c l, a0l15 = c :: l := by cases a0l15 with | nil => simp at a0s | cons c l => exact ⟨c, l, rfl⟩
  obtain ⟨a0_17, a0l17, rfl⟩ : ∃ c l, a0l16 = c :: l := by cases a0l16 with | nil => simp at a0s | cons c l => exact ⟨c, l, rfl⟩
  obtain ⟨a0_18, a0l18, rfl⟩ : ∃ c l, a0l17 = c :: l := by cases a0l17 with | nil => simp at a0s | cons c l => exact ⟨c, l, rfl⟩
  obtain ⟨a0_19, a0l19, rfl⟩ : ∃ c l, a0l18 = c :: l := by cases a0l18 with | nil => simp at a0s | cons c l => exact ⟨c, l, rfl⟩
  obtain ⟨a0_20, a0l20, rfl⟩ : ∃ c l, a0l19 = c :: l := by cases a0l19 with | nil => simp at a0s | cons c l => exact ⟨c, l, rfl⟩
  obtain ⟨a0_21, a0l21, rfl⟩ : ∃ c l, a0l20 = c :: l := by cases a0l20 with | nil => simp at a0s | cons c l => exact ⟨c, l, rfl⟩
  obtain ⟨a0_22, a0l22, rfl⟩ : ∃ c l, a0l21 = c :: l := by cases a0l21 with | nil => simp at a0s | cons c l => exact ⟨c, l, rfl⟩
  obtain ⟨a0_23, a0l23, rfl⟩ : ∃ c l, a0l22 = c :: l := by cases a0l22 with | nil => simp at a0s | cons c l => exact ⟨c, l, rfl⟩
  obtain ⟨a0_24, a0l24, rfl⟩ : ∃ c l, a0l23 = c :: l := by cases a0l23 with | nil => simp at a0s | cons c l => exact ⟨c, l, rfl⟩
  obtain ⟨a0_25, a0l25, rfl⟩ : ∃ c l, a0l24 = c :: l := by cases a0l24 with | nil => simp at a0s | cons c l => exact ⟨c, l, rfl⟩
  obtain ⟨a0_26, a0l26, rfl⟩ : ∃ c l, a0l25 = c :: l := by cases a0l25 with | nil => simp at a0s | cons c l => exact ⟨c, l, rfl⟩
  obtain ⟨a0_27, a0l27, rfl⟩ : ∃ c l, a0l26 = c :: l := by cases a0l26 with | nil => simp at a0s | cons c l => exact ⟨c, l, rfl⟩
  obtain ⟨a0_28, a0l28, rfl⟩ : ∃ c l, a0l27 = c :: l := by cases a0l27 with | nil => simp at a0s | cons c l => exact ⟨c, l, rfl⟩
  obtain ⟨a0_29, a0l29, rfl⟩ : ∃ c l, a0l28 = c :: l := by cases a0l28 with | nil => simp at a0s | cons c l => exact ⟨c, l, rfl⟩
  obtain ⟨a0_30, a0l30, rfl⟩ : ∃ c l, a0l29 = c :: l := by cases a0l29 with | nil => simp at a0s | cons c l => exact ⟨c, l, rfl⟩
  obtain ⟨a0_31, a0l31, rfl⟩ : ∃ c l, a0l30 = c :: l := by cases a0l30 with | nil => simp at a0s | cons c l => exact ⟨c, l, rfl⟩
  obtain ⟨a0_32, a0l32, rfl⟩ : ∃ c l, a0l31 = c :: l := by cases a0l31 with | nil => simp at a0s | cons c l => exact ⟨c, l, rfl⟩
  obtain ⟨a0_33, a0l33, rfl⟩ : ∃ c l, a0l32 = c :: l := by cases a0l32 with | nil => simp at a0s | cons c l => exact ⟨c, l, rfl⟩
  obtain ⟨a0_34, a0l34, rfl⟩ : ∃ c l, a0l33 = c :: l := by cases a0l33 with | nil => simp at a0s | cons c l => exact ⟨c, l, rfl⟩
  obtain ⟨a0_35, a0l35, rfl⟩ : ∃ c l, a0l34 = c :: l := by cases a0l34 with | nil => simp at a0s | cons c l => exact ⟨c, l, rfl⟩
  obtain ⟨a0_36, a0l36, rfl⟩ : ∃ c l, a0l35 = c :: l := by cases a0l35 with | nil => simp at a0s | cons c l => exact ⟨c, l, rfl⟩
  obtain ⟨a0_37, a0l37, rfl⟩ : ∃ c l, a0l36 = c :: l := by cases a0l36 with | nil => simp at a0s | cons c l => exact ⟨c, l, rfl⟩
  obtain ⟨a0_38, a0l38, rfl⟩ : ∃ c l, a0l37 = c :: l := by cases a0l37 with | nil => simp at a0s | cons c l => exact ⟨c, l, rfl⟩
  obtain ⟨a0_39, a0l39, rfl⟩ : ∃ c l, a0l38 = c :: l := by cases a0l38 with | nil => simp at a0s | cons c l => exact ⟨c, l, rfl⟩
  obtain ⟨a0_40, a0l40, rfl⟩ : ∃ c l, a0l39 = c :: l := by cases a0l39 with | nil => simp at a0s | cons c l => exact ⟨c, l, rfl⟩
  obtain ⟨a0_41, a0l41, rfl⟩ : ∃ c l, a0l40 = c :: l := by cases a0l40 with | nil => simp at a0s | cons c l => exact ⟨c, l, rfl⟩
  obtain ⟨a0_42, a0l42, rfl⟩ : ∃ c l, a0l41 = c :: l := by cases a0l41 with | nil => simp at a0s | cons c l => exact ⟨c, l, rfl⟩
  obtain ⟨a0_43, a0l43, rfl⟩ : ∃ c l, a0l42 = c :: l := by cases a0l42 with | nil => simp at a0s | cons c l => exact ⟨c, l, rfl⟩
  obtain ⟨a0_44, a0l44, rfl⟩ : ∃ c l, a0l43 = c :: l := by cases a0l43 with | nil => simp at a0s | cons c l => exact ⟨c, l, rfl⟩
  obtain ⟨a0_45, a0l45, rfl⟩ : ∃ c l, a0l44 = c :: l := by cases a0l44 with | nil => simp at a0s | cons c l => exact ⟨c, l, rfl⟩
  obtain rfl : a0l45 = [] := by simpa using a0s
  replace hf0 : DataW.trod enc Try.prog W 0 (fun _ => true) true fu0 48 [a0_0, a0_1, a0_2, a0_3, a0_4, a0_5, a0_6, a0_7, a0_8, a0_9, a0_10, a0_11, a0_12, a0_13, a0_14, a0_15, a0_16, a0_17, a0_18, a0_19, a0_20, a0_21, a0_22, a0_23, a0_24, a0_25, a0_26, a0_27, a0_28, a0_29, a0_30, a0_31, a0_32, a0_33, a0_34, a0_35, a0_36, a0_37, a0_38, a0_39, a0_40, a0_41, a0_42, a0_43, a0_44, a0_45] = some (d0, p0) := hf0
  obtain ⟨n1, y2, hp3, hb4⟩ := trod_field (i := 0) (off := 0) (ty := 3) Try.underlying48 hf0 (by rfl) (sz := 1) (by kernel_rfl)
  replace hp3 : DataW.trod enc Try.prog W 0 (fun _ => true) true n1 3 [a0_0] = some y2 := hp3
  obtain ⟨n5, y6, hp7, hb8⟩ := trod_field (i := 1) (off := 1) (ty := 23) Try.underlying48 hf0 (by rfl) (sz := 2) (by kernel_rfl)
  replace hp7 : DataW.trod enc Try.prog W 0 (fun _ => true) true n5 23 [a0_1, a0_2] = some y6 := hp7
  obtain ⟨n9, y10, hp11, hb12⟩ := trod_field (i := 2) (off := 3) (ty := 23) Try.underlying48 hf0 (by rfl) (sz := 2) (by kernel_rfl)
  replace hp11 : DataW.trod enc Try.prog W 0 (fun _ => true) true n9 23 [a0_3, a0_4] = some y10 := hp11
  obtain ⟨n13, y14, hp15, hb16⟩ := trod_field (i := 3) (off := 5) (ty := 3) Try.underlying48 hf0 (by rfl) (sz := 1) (by kernel_rfl)
  replace hp15 : DataW.trod enc Try.prog W 0 (fun _ => true) true n13 3 [a0_5] = some y14 := hp15
  obtain ⟨n17, y18, hp19, hb20⟩ := trod_field (i := 4) (off := 6) (ty := 3) Try.underlying48 hf0 (by rfl) (sz := 1) (by kernel_rfl)
  replace hp19 : DataW.trod enc Try.prog W 0 (fun _ => true) true n17 3 [a0_6] = some y18 := hp19
  obtain ⟨n21, y22, hp23, hb24⟩ := trod_field (i := 5) (off := 7) (ty := 25) Try.underlying48 hf0 (by rfl) (sz := 2) (by kernel_rfl)
  replace hp23 : DataW.trod enc Try.prog W 0 (fun _ => true) true n21 25 [a0_7, a0_8] = some y22 := hp23
  obtain ⟨n25, y26, hp27, hb28⟩ := trod_field (i := 6) (off := 9) (ty := 3) Try.underlying48 hf0 (by rfl) (sz := 1) (by kernel_rfl)
  replace hp27 : DataW.trod enc Try.prog W 0 (fun _ => true) true n25 3 [a0_9] = some y26 := hp27
  obtain ⟨n29, y30, hp31, hb32⟩ := trod_field (i := 7) (off := 10) (ty := 3) Try.underlying48 hf0 (by rfl) (sz := 1) (by kernel_rfl)
  replace hp31 : DataW.trod enc Try.prog W 0 (fun _ => true) true n29 3 [a0_10] = some y30 := hp31
  obtain ⟨n33, y34, hp35, hb36⟩ := trod_field (i := 8) (off := 11) (ty := 3) Try.underlying48 hf0 (by rfl) (sz := 1) (by kernel_rfl)
  replace hp35 : DataW.trod enc Try.prog W 0 (fun _ => true) true n33 3 [a0_11] = some y34 := hp35
  obtain ⟨n37, y38, hp39, hb40⟩ := trod_field (i := 9) (off := 12) (ty := 26) Try.underlying48 hf0 (by rfl) (sz := 1) (by kernel_rfl)
  replace hp39 : DataW.trod enc Try.prog W 0 (fun _ => true) true n37 26 [a0_12] = some y38 := hp39
  obtain ⟨n41, y42, hp43, hb44⟩ := trod_field (i := 10) (off := 13) (ty := 27) Try.underlying48 hf0 (by rfl) (sz := 1) (by kernel_rfl)
  replace hp43 : DataW.trod enc Try.prog W 0 (fun _ => true) true n41 27 [a0_13] = some y42 := hp43
  obtain ⟨n45, y46, hp47, hb48⟩ := trod_field (i := 11) (off := 14) (ty := 28) Try.underlying48 hf0 (by rfl) (sz := 1) (by kernel_rfl)
  replace hp47 : DataW.trod enc Try.prog W 0 (fun _ => true) true n45 28 [a0_14] = some y46 := hp47
  obtain ⟨n49, y50, hp51, hb52⟩ := trod_field (i := 12) (off := 15) (ty := 32) Try.underlying48 hf0 (by rfl) (sz := 6) (by kernel_rfl)
  replace hp51 : DataW.trod enc Try.prog W 0 (fun _ => true) true n49 32 [a0_15, a0_16, a0_17, a0_18, a0_19, a0_20] = some y50 := hp51
  obtain ⟨n53, y54, hp55, hb56⟩ := trod_field (i := 13) (off := 21) (ty := 37) Try.underlying48 hf0 (by rfl) (sz := 6) (by kernel_rfl)
  replace hp55 : DataW.trod enc Try.prog W 0 (fun _ => true) true n53 37 [a0_21, a0_22, a0_23, a0_24, a0_25, a0_26] = some y54 := hp55
  obtain ⟨n57, y58, hp59, hb60⟩ := trod_field (i := 14) (off := 27) (ty := 40) Try.underlying48 hf0 (by rfl) (sz := 7) (by kernel_rfl)
  replace hp59 : DataW.trod enc Try.prog W 0 (fun _ => true) true n57 40 [a0_27, a0_28, a0_29, a0_30, a0_31, a0_32, a0_33] = some y58 := hp59
  obtain ⟨n61, y62, hp63, hb64⟩ := trod_field (i := 15) (off := 34) (ty := 43) Try.underlying48 hf0 (by rfl) (sz := 4) (by kernel_rfl)
  replace hp63 : DataW.trod enc Try.prog W 0 (fun _ => true) true n61 43 [a0_34, a0_35, a0_36, a0_37] = some y62 := hp63
  obtain ⟨n65, y66, hp67, hb68⟩ := trod_field (i := 16) (off := 38) (ty := 45) Try.underlying48 hf0 (by rfl) (sz := 5) (by kernel_rfl)
  replace hp67 : DataW.trod enc Try.prog W 0 (fun _ => true) true n65 45 [a0_38, a0_39, a0_40, a0_41, a0_42] = some y66 := hp67
  obtain ⟨n69, y70, hp71, hb72⟩ := trod_field (i := 17) (off := 43) (ty := 35) Try.underlying48 hf0 (by rfl) (sz := 1) (by kernel_rfl)
  replace hp71 : DataW.trod enc Try.prog W 0 (fun _ => true) true n69 35 [a0_43] = some y70 := hp71
  obtain ⟨n73, y74, hp75, hb76⟩ := trod_field (i := 18) (off := 44) (ty := 46) Try.underlying48 hf0 (by rfl) (sz := 1) (by kernel_rfl)
  replace hp75 : DataW.trod enc Try.prog W 0 (fun _ => true) true n73 46 [a0_44] = some y74 := hp75
  obtain ⟨n77, y78, hp79, hb80⟩ := trod_field (i := 19) (off := 45) (ty := 38) Try.underlying48 hf0 (by rfl) (sz := 1) (by kernel_rfl)
  replace hp79 : DataW.trod enc Try.prog W 0 (fun _ => true) true n77 38 [a0_45] = some y78 := hp79
  obtain ⟨z81, hc82, hy83, wz84⟩ := DataW.trod_int Try.underlying3 hp3
  replace wz84 := wf_i64 wz84
  obtain rfl : a0_0 = .int .i64 z81 := by simpa using hc82
  obtain ⟨n85, y86, hp87, hb88⟩ := trod_field (i := 0) (off := 0) (ty := 3) Try.underlying23 hp7 (by rfl) (sz := 1) (by kernel_rfl)
  replace hp87 : DataW.trod enc Try.prog W 0 (fun _ => true) true n85 3 [a0_1] = some y86 := hp87
  obtain ⟨n89, y90, hp91, hb92⟩ := trod_field (i := 1) (off := 1) (ty := 3) Try.underlying23 hp7 (by rfl) (sz := 1) (by kernel_rfl)
  replace hp91 : DataW.trod enc Try.prog W 0 (fun _ => true) true n89 3 [a0_2] = some y90 := hp91
  obtain ⟨z93, hc94, hy95, wz96⟩ := DataW.trod_int Try.underlying3 hp87
  replace wz96 := wf_i64 wz96
  obtain rfl : a0_1 = .int .i64 z93 := by simpa using hc94
  obtain ⟨z97, hc98, hy99, wz100⟩ := DataW.trod_int Try.underlying3 hp91
  replace wz100 := wf_i64 wz100
  obtain rfl : a0_2 = .int .i64 z97 := by simpa using hc98
  obtain ⟨n101, y102, hp103, hb104⟩ := trod_field (i := 0) (off := 0) (ty := 3) Try.underlying23 hp11 (by rfl) (sz := 1) (by kernel_rfl)
  replace hp103 : DataW.trod enc Try.prog W 0 (fun _ => true) true n101 3 [a0_3] = some y102 := hp103
  obtain ⟨n105, y106, hp107, hb108⟩ := trod_field (i := 1) (off := 1) (ty := 3) Try.underlying23 hp11 (by rfl) (sz := 1) (by kernel_rfl)
  replace hp107 : DataW.trod enc Try.prog W 0 (fun _ => true) true n105 3 [a0_4] = some y106 := hp107
  obtain ⟨z109, hc110, hy111, wz112⟩ := DataW.trod_int Try.underlying3 hp103
  replace wz112 := wf_i64 wz112
  obtain rfl : a0_3 = .int .i64 z109 := by simpa using hc110
  obtain ⟨z113, hc114, hy115, wz116⟩ := DataW.trod_int Try.underlying3 hp107
  replace wz116 := wf_i64 wz116
  obtain rfl : a0_4 = .int .i64 z113 := by simpa using hc114
  obtain ⟨z117, hc118, hy119, wz120⟩ := DataW.trod_int Try.underlying3 hp15
  replace wz120 := wf_i64 wz120
  obtain rfl : a0_5 = .int .i64 z117 := by simpa using hc118
  obtain ⟨z121, hc122, hy123, wz124⟩ := DataW.trod_int Try.underlying3 hp19
  replace wz124 := wf_i64 wz124
  obtain rfl : a0_6 = .int .i64 z121 := by simpa using hc122
  obtain ⟨n125, y126, hp127, hb128⟩ := trod_field (i := 0) (off := 0) (ty := 3) Try.underlying25 hp23 (by rfl) (sz := 1) (by kernel_rfl)
  replace hp127 : DataW.trod enc Try.prog W 0 (fun _ => true) true n125 3 [a0_7] = some y126 := hp127
  obtain ⟨n129, y130, hp131, hb132⟩ := trod_field (i := 1) (off := 1) (ty := 3) Try.underlying25 hp23 (by rfl) (sz := 1) (by kernel_rfl)
  replace hp131 : DataW.trod enc Try.prog W 0 (fun _ => true) true n129 3 [a0_8] = some y130 := hp131
  obtain ⟨z133, hc134, hy135, wz136⟩ := DataW.trod_int Try.underlying3 hp127
  replace wz136 := wf_i64 wz136
  obtain rfl : a0_7 = .int .i64 z133 := by simpa using hc134
  obtain ⟨z137, hc138, hy139, wz140⟩ := DataW.trod_int Try.underlying3 hp131
  replace wz140 := wf_i64 wz140
  obtain rfl : a0_8 = .int .i64 z137 := by simpa using hc138
  obtain ⟨z141, hc142, hy143, wz144⟩ := DataW.trod_int Try.underlying3 hp27
  replace wz144 := wf_i64 wz144
  obtain rfl : a0_9 = .int .i64 z141 := by simpa using hc142
  obtain ⟨z145, hc146, hy147, wz148⟩ := DataW.trod_int Try.underlying3 hp31
  replace wz148 := wf_i64 wz148
  obtain rfl : a0_10 = .int .i64 z145 := by simpa using hc146
  obtain ⟨z149, hc150, hy151, wz152⟩ := DataW.trod_int Try.underlying3 hp35
  replace wz152 := wf_i64 wz152
  obtain rfl : a0_11 = .int .i64 z149 := by simpa using hc150
  obtain ⟨o153, n155, c154, _, hc156, _⟩ := open_rows (sz := 3) Try.underlying26 (by kernel_rfl) (by omega) hp39
  obtain rfl : a0_12 = .slice o153 n155 c154 := by simpa using hc156
  obtain ⟨o157, n159, c158, _, hc160, _⟩ := open_rows (sz := 2) Try.underlying27 (by kernel_rfl) (by omega) hp43
  obtain rfl : a0_13 = .slice o157 n159 c158 := by simpa using hc160
  obtain ⟨o161, n163, c162, _, hc164, _⟩ := open_rows (sz := 11) Try.underlying28 (by kernel_rfl) (by omega) hp47
  obtain rfl : a0_14 = .slice o161 n163 c162 := by simpa using hc164
  obtain ⟨n165, y166, hp167, hb168⟩ := trod_field (i := 0) (off := 0) (ty := 3) Try.underlying32 hp51 (by rfl) (sz := 1) (by kernel_rfl)
  replace hp167 : DataW.trod enc Try.prog W 0 (fun _ => true) true n165 3 [a0_15] = some y166 := hp167
  obtain ⟨n169, y170, hp171, hb172⟩ := trod_field (i := 1) (off := 1) (ty := 30) Try.underlying32 hp51 (by rfl) (sz := 2) (by kernel_rfl)
  replace hp171 : DataW.trod enc Try.prog W 0 (fun _ => true) true n169 30 [a0_16, a0_17] = some y170 := hp171
  obtain ⟨n173, y174, hp175, hb176⟩ := trod_field (i := 2) (off := 3) (ty := 30) Try.underlying32 hp51 (by rfl) (sz := 2) (by kernel_rfl)
  replace hp175 : DataW.trod enc Try.prog W 0 (fun _ => true) true n173 30 [a0_18, a0_19] = some y174 := hp175
  obtain ⟨n177, y178, hp179, hb180⟩ := trod_field (i := 3) (off := 5) (ty := 3) Try.underlying32 hp51 (by rfl) (sz := 1) (by kernel_rfl)
  replace hp179 : DataW.trod enc Try.prog W 0 (fun _ => true) true n177 3 [a0_20] = some y178 := hp179
  obtain ⟨z181, hc182, hy183, wz184⟩ := DataW.trod_int Try.underlying3 hp167
  replace wz184 := wf_i64 wz184
  obtain rfl : a0_15 = .int .i64 z181 := by simpa using hc182
  obtain ⟨n185, y186, hp187, hb188⟩ := trod_field (i := 0) (off := 0) (ty := 3) Try.underlying30 hp171 (by rfl) (sz := 1) (by kernel_rfl)
  replace hp187 : DataW.trod enc Try.prog W 0 (fun _ => true) true n185 3 [a0_16] = some y186 := hp187
  obtain ⟨n189, y190, hp191, hb192⟩ := trod_field (i := 1) (off := 1) (ty := 3) Try.underlying30 hp171 (by rfl) (sz := 1) (by kernel_rfl)
  replace hp191 : DataW.trod enc Try.prog W 0 (fun _ => true) true n189 3 [a0_17] = some y190 := hp191
  obtain ⟨z193, hc194, hy195, wz196⟩ := DataW.trod_int Try.underlying3 hp187
  replace wz196 := wf_i64 wz196
  obtain rfl : a0_16 = .int .i64 z193 := by simpa using hc194
  obtain ⟨z197, hc198, hy199, wz200⟩ := DataW.trod_int Try.underlying3 hp191
  replace wz200 := wf_i64 wz200
  obtain rfl : a0_17 = .int .i64 z197 := by simpa using hc198
  obtain ⟨n201, y202, hp203, hb204⟩ := trod_field (i := 0) (off := 0) (ty := 3) Try.underlying30 hp175 (by rfl) (sz := 1) (by kernel_rfl)
  replace hp203 : DataW.trod enc Try.prog W 0 (fun _ => true) true n201 3 [a0_18] = some y202 := hp203
  obtain ⟨n205, y206, hp207, hb208⟩ := trod_field (i := 1) (off := 1) (ty := 3) Try.underlying30 hp175 (by rfl) (sz := 1) (by kernel_rfl)
  replace hp207 : DataW.trod enc Try.prog W 0 (fun _ => true) true n205 3 [a0_19] = some y206 := hp207
  obtain ⟨z209, hc210, hy211, wz212⟩ := DataW.trod_int Try.underlying3 hp203
  replace wz212 := wf_i64 wz212
  obtain rfl : a0_18 = .int .i64 z209 := by simpa using hc210
  obtain ⟨z213, hc214, hy215, wz216⟩ := DataW.trod_int Try.underlying3 hp207
  replace wz216 := wf_i64 wz216
  obtain rfl : a0_19 = .int .i64 z213 := by simpa using hc214
  obtain ⟨z217, hc218, hy219, wz220⟩ := DataW.trod_int Try.underlying3 hp179
  replace wz220 := wf_i64 wz220
  obtain rfl : a0_20 = .int .i64 z217 := by simpa using hc218
  obtain ⟨n221, y222, hp223, hb224⟩ := trod_field (i := 0) (off := 0) (ty := 3) Try.underlying37 hp55 (by rfl) (sz := 1) (by kernel_rfl)
  replace hp223 : DataW.trod enc Try.prog W 0 (fun _ => true) true n221 3 [a0_21] = some y222 := hp223
  obtain ⟨n225, y226, hp227, hb228⟩ := trod_field (i := 1) (off := 1) (ty := 30) Try.underlying37 hp55 (by rfl) (sz := 2) (by kernel_rfl)
  replace hp227 : DataW.trod enc Try.prog W 0 (fun _ => true) true n225 30 [a0_22, a0_23] = some y226 := hp227
  obtain ⟨n229, y230, hp231, hb232⟩ := trod_field (i := 2) (off := 3) (ty := 33) Try.underlying37 hp55 (by rfl) (sz := 1) (by kernel_rfl)
  replace hp231 : DataW.trod enc Try.prog W 0 (fun _ => true) true n229 33 [a0_24] = some y230 := hp231
  obtain ⟨n233, y234, hp235, hb236⟩ := trod_field (i := 3) (off := 4) (ty := 34) Try.underlying37 hp55 (by rfl) (sz := 1) (by kernel_rfl)
  replace hp235 : DataW.trod enc Try.prog W 0 (fun _ => true) true n233 34 [a0_25] = some y234 := hp235
  obtain ⟨n237, y238, hp239, hb240⟩ := trod_field (i := 4) (off := 5) (ty := 35) Try.underlying37 hp55 (by rfl) (sz := 1) (by kernel_rfl)
  replace hp239 : DataW.trod enc Try.prog W 0 (fun _ => true) true n237 35 [a0_26] = some y238 := hp239
  obtain ⟨z241, hc242, hy243, wz244⟩ := DataW.trod_int Try.underlying3 hp223
  replace wz244 := wf_i64 wz244
  obtain rfl : a0_21 = .int .i64 z241 := by simpa using hc242
  obtain ⟨n245, y246, hp247, hb248⟩ := trod_field (i := 0) (off := 0) (ty := 3) Try.underlying30 hp227 (by rfl) (sz := 1) (by kernel_rfl)
  replace hp247 : DataW.trod enc Try.prog W 0 (fun _ => true) true n245 3 [a0_22] = some y246 := hp247
  obtain ⟨n249, y250, hp251, hb252⟩ := trod_field (i := 1) (off := 1) (ty := 3) Try.underlying30 hp227 (by rfl) (sz := 1) (by kernel_rfl)
  replace hp251 : DataW.trod enc Try.prog W 0 (fun _ => true) true n249 3 [a0_23] = some y250 := hp251
  obtain ⟨z253, hc254, hy255, wz256⟩ := DataW.trod_int Try.underlying3 hp247
  replace wz256 := wf_i64 wz256
  obtain rfl : a0_22 = .int .i64 z253 := by simpa using hc254
  obtain ⟨z257, hc258, hy259, wz260⟩ := DataW.trod_int Try.underlying3 hp251
  replace wz260 := wf_i64 wz260
  obtain rfl : a0_23 = .int .i64 z257 := by simpa using hc258
  obtain ⟨o261, n265, c262, rows266, hc267, hn268, hle269, hl270, he271, hr272, ho273, hb274⟩ := open_rows (sz := 7) Try.underlying33 (by kernel_rfl) (by omega) hp231
  replace hl270 : n265 ≤ 9223372036854775807 := by omega
  obtain ⟨l263, rfl, hq275⟩ := rows_dec S_api_Entry.row _ (fun r hr => by obtain ⟨n, y, hy⟩ := hr272 r hr; exact open_S_api_Entry hy)
  obtain rfl : l263.length = n265 := by simpa using hn268
  replace he271 : (Ent.rd o261 7 (List.map S_api_Entry.row l263)).ok W := he271
  obtain rfl : a0_24 = .slice o261 l263.length c262 := by simpa using hc267
  obtain ⟨o277, n281, c278, rows282, hc283, hn284, hle285, hl286, he287, hr288, ho289, hb290⟩ := open_rows (sz := 5) Try.underlying34 (by kernel_rfl) (by omega) hp235
  replace hl286 : n281 ≤ 9223372036854775807 := by omega
  obtain ⟨l279, rfl, hq291⟩ := rows_dec S_api_Last.row _ (fun r hr => by obtain ⟨n, y, hy⟩ := hr288 r hr; exact open_S_api_Last hy)
  obtain rfl : l279.length = n281 := by simpa using hn284
  replace he287 : (Ent.rd o277 5 (List.map S_api_Last.row l279)).ok W := he287
  obtain rfl : a0_25 = .slice o277 l279.length c278 := by simpa using hc283
  obtain ⟨o293, n297, c294, rows298, hc299, hn300, hle301, hl302, he303, hr304, ho305, hb306⟩ := open_rows (sz := 4) Try.underlying35 (by kernel_rfl) (by omega) hp239
  replace hl302 : n297 ≤ 9223372036854775807 := by omega
  obtain ⟨l295, rfl, hq307⟩ := rows_dec S_api_Item.row _ (fun r hr => by obtain ⟨n, y, hy⟩ := hr304 r hr; exact open_S_api_Item hy)
  obtain rfl : l295.length = n297 := by simpa using hn300
  replace he303 : (Ent.rd o293 4 (List.map S_api_Item.row l295)).ok W := he303
  obtain rfl : a0_26 = .slice o293 l295.length c294 := by simpa using hc299
  obtain ⟨n309, y310, hp311, hb312⟩ := trod_field (i := 0) (off := 0) (ty := 30) Try.underlying40 hp59 (by rfl) (sz := 2) (by kernel_rfl)
  replace hp311 : DataW.trod enc Try.prog W 0 (fun _ => true) true n309 30 [a0_27, a0_28] = some y310 := hp311
  obtain ⟨n313, y314, hp315, hb316⟩ := trod_field (i := 1) (off := 2) (ty := 4) Try.underlying40 hp59 (by rfl) (sz := 1) (by kernel_rfl)
  replace hp315 : DataW.trod enc Try.prog W 0 (fun _ => true) true n313 4 [a0_29] = some y314 := hp315
  obtain ⟨n317, y318, hp319, hb320⟩ := trod_field (i := 2) (off := 3) (ty := 38) Try.underlying40 hp59 (by rfl) (sz := 1) (by kernel_rfl)
  replace hp319 : DataW.trod enc Try.prog W 0 (fun _ => true) true n317 38 [a0_30] = some y318 := hp319
  obtain ⟨n321, y322, hp323, hb324⟩ := trod_field (i := 3) (off := 4) (ty := 9) Try.underlying40 hp59 (by rfl) (sz := 1) (by kernel_rfl)
  replace hp323 : DataW.trod enc Try.prog W 0 (fun _ => true) true n321 9 [a0_31] = some y322 := hp323
  obtain ⟨n325, y326, hp327, hb328⟩ := trod_field (i := 4) (off := 5) (ty := 3) Try.underlying40 hp59 (by rfl) (sz := 1) (by kernel_rfl)
  replace hp327 : DataW.trod enc Try.prog W 0 (fun _ => true) true n325 3 [a0_32] = some y326 := hp327
  obtain ⟨n329, y330, hp331, hb332⟩ := trod_field (i := 5) (off := 6) (ty := 3) Try.underlying40 hp59 (by rfl) (sz := 1) (by kernel_rfl)
  replace hp331 : DataW.trod enc Try.prog W 0 (fun _ => true) true n329 3 [a0_33] = some y330 := hp331
  obtain ⟨n333, y334, hp335, hb336⟩ := trod_field (i := 0) (off := 0) (ty := 3) Try.underlying30 hp311 (by rfl) (sz := 1) (by kernel_rfl)
  replace hp335 : DataW.trod enc Try.prog W 0 (fun _ => true) true n333 3 [a0_27] = some y334 := hp335
  obtain ⟨n337, y338, hp339, hb340⟩ := trod_field (i := 1) (off := 1) (ty := 3) Try.underlying30 hp311 (by rfl) (sz := 1) (by kernel_rfl)
  replace hp339 : DataW.trod enc Try.prog W 0 (fun _ => true) true n337 3 [a0_28] = some y338 := hp339
  obtain ⟨z341, hc342, hy343, wz344⟩ := DataW.trod_int Try.underlying3 hp335
  replace wz344 := wf_i64 wz344
  obtain rfl : a0_27 = .int .i64 z341 := by simpa using hc342
  obtain ⟨z345, hc346, hy347, wz348⟩ := DataW.trod_int Try.underlying3 hp339
  replace wz348 := wf_i64 wz348
  obtain rfl : a0_28 = .int .i64 z345 := by simpa using hc346
  obtain ⟨z349, hc350, hy351⟩ := DataW.trod_bool Try.underlying4 hp315
  obtain rfl : a0_29 = .bool z349 := by simpa using hc350
  obtain ⟨z352, hc353, hy354, wz355⟩ := DataW.trod_int Try.underlying38 hp319
  replace wz355 := wf_i64 wz355
  obtain rfl : a0_30 = .int .i64 z352 := by simpa using hc353
  obtain ⟨z356, hc357, hy358, wz359⟩ := DataW.trod_string Try.underlying9 hp323
  obtain rfl : a0_31 = .string z356 := by simpa using hc357
  obtain ⟨z360, hc361, hy362, wz363⟩ := DataW.trod_int Try.underlying3 hp327
  replace wz363 := wf_i64 wz363
  obtain rfl : a0_32 = .int .i64 z360 := by simpa using hc361
  obtain ⟨z364, hc365, hy366, wz367⟩ := DataW.trod_int Try.underlying3 hp331
  replace wz367 := wf_i64 wz367
  obtain rfl : a0_33 = .int .i64 z364 := by simpa using hc365
  obtain ⟨n368, y369, hp370, hb371⟩ := trod_field (i := 0) (off := 0) (ty := 9) Try.underlying43 hp63 (by rfl) (sz := 1) (by kernel_rfl)
  replace hp370 : DataW.trod enc Try.prog W 0 (fun _ => true) true n368 9 [a0_34] = some y369 := hp370
  obtain ⟨n372, y373, hp374, hb375⟩ := trod_field (i := 1) (off := 1) (ty := 30) Try.underlying43 hp63 (by rfl) (sz := 2) (by kernel_rfl)
  replace hp374 : DataW.trod enc Try.prog W 0 (fun _ => true) true n372 30 [a0_35, a0_36] = some y373 := hp374
  obtain ⟨n376, y377, hp378, hb379⟩ := trod_field (i := 2) (off := 3) (ty := 41) Try.underlying43 hp63 (by rfl) (sz := 1) (by kernel_rfl)
  replace hp378 : DataW.trod enc Try.prog W 0 (fun _ => true) true n376 41 [a0_37] = some y377 := hp378
  obtain ⟨z380, hc381, hy382, wz383⟩ := DataW.trod_string Try.underlying9 hp370
  obtain rfl : a0_34 = .string z380 := by simpa using hc381
  obtain ⟨n384, y385, hp386, hb387⟩ := trod_field (i := 0) (off := 0) (ty := 3) Try.underlying30 hp374 (by rfl) (sz := 1) (by kernel_rfl)
  replace hp386 : DataW.trod enc Try.prog W 0 (fun _ => true) true n384 3 [a0_35] = some y385 := hp386
  obtain ⟨n388, y389, hp390, hb391⟩ := trod_field (i := 1) (off := 1) (ty := 3) Try.underlying30 hp374 (by rfl) (sz := 1) (by kernel_rfl)
  replace hp390 : DataW.trod enc Try.prog W 0 (fun _ => true) true n388 3 [a0_36] = some y389 := hp390
  obtain ⟨z392, hc393, hy394, wz395⟩ := DataW.trod_int Try.underlying3 hp386
  replace wz395 := wf_i64 wz395
  obtain rfl : a0_35 = .int .i64 z392 := by simpa using hc393
  obtain ⟨z396, hc397, hy398, wz399⟩ := DataW.trod_int Try.underlying3 hp390
  replace wz399 := wf_i64 wz399
  obtain rfl : a0_36 = .int .i64 z396 := by simpa using hc397
  obtain ⟨o400, n404, c401, rows405, hc406, hn407, hle408, hl409, he410, hr411, ho412, hb413⟩ := open_rows (sz := 1) Try.underlying41 (by kernel_rfl) (by omega) hp378
  replace hl409 : n404 ≤ 9223372036854775807 := by omega
  obtain ⟨l402, rfl, hq414⟩ := rows_dec rB _ (fun r hr => by obtain ⟨n, y, hy⟩ := hr411 r hr; exact open_u8 Try.underlying5 hy)
  obtain rfl : l402.length = n404 := by simpa using hn407
  replace he410 : (Ent.rd o400 1 (List.map rB l402)).ok W := he410
  obtain rfl : a0_37 = .slice o400 l402.length c401 := by simpa using hc406
  obtain ⟨n416, y417, hp418, hb419⟩ := trod_field (i := 0) (off := 0) (ty := 3) Try.underlying45 hp67 (by rfl) (sz := 1) (by kernel_rfl)
  replace hp418 : DataW.trod enc Try.prog W 0 (fun _ => true) true n416 3 [a0_38] = some y417 := hp418
  obtain ⟨n420, y421, hp422, hb423⟩ := trod_field (i := 1) (off := 1) (ty := 9) Try.underlying45 hp67 (by rfl) (sz := 1) (by kernel_rfl)
  replace hp422 : DataW.trod enc Try.prog W 0 (fun _ => true) true n420 9 [a0_39] = some y421 := hp422
  obtain ⟨n424, y425, hp426, hb427⟩ := trod_field (i := 2) (off := 2) (ty := 41) Try.underlying45 hp67 (by rfl) (sz := 1) (by kernel_rfl)
  replace hp426 : DataW.trod enc Try.prog W 0 (fun _ => true) true n424 41 [a0_40] = some y425 := hp426
  obtain ⟨n428, y429, hp430, hb431⟩ := trod_field (i := 3) (off := 3) (ty := 30) Try.underlying45 hp67 (by rfl) (sz := 2) (by kernel_rfl)
  replace hp430 : DataW.trod enc Try.prog W 0 (fun _ => true) true n428 30 [a0_41, a0_42] = some y429 := hp430
  obtain ⟨z432, hc433, hy434, wz435⟩ := DataW.trod_int Try.underlying3 hp418
  replace wz435 := wf_i64 wz435
  obtain rfl : a0_38 = .int .i64 z432 := by simpa using hc433
  obtain ⟨z436, hc437, hy438, wz439⟩ := DataW.trod_string Try.underlying9 hp422
  obtain rfl : a0_39 = .string z436 := by simpa using hc437
  obtain ⟨o440, n444, c441, rows445, hc446, hn447, hle448, hl449, he450, hr451, ho452, hb453⟩ := open_rows (sz := 1) Try.underlying41 (by kernel_rfl) (by omega) hp426
  replace hl449 : n444 ≤ 9223372036854775807 := by omega
  obtain ⟨l442, rfl, hq454⟩ := rows_dec rB _ (fun r hr => by obtain ⟨n, y, hy⟩ := hr451 r hr; exact open_u8 Try.underlying5 hy)
  obtain rfl : l442.length = n444 := by simpa using hn447
  replace he450 : (Ent.rd o440 1 (List.map rB l442)).ok W := he450
  obtain rfl : a0_40 = .slice o440 l442.length c441 := by simpa using hc446
  obtain ⟨n456, y457, hp458, hb459⟩ := trod_field (i := 0) (off := 0) (ty := 3) Try.underlying30 hp430 (by rfl) (sz := 1) (by kernel_rfl)
  replace hp458 : DataW.trod enc Try.prog W 0 (fun _ => true) true n456 3 [a0_41] = some y457 := hp458
  obtain ⟨n460, y461, hp462, hb463⟩ := trod_field (i := 1) (off := 1) (ty := 3) Try.underlying30 hp430 (by rfl) (sz := 1) (by kernel_rfl)
  replace hp462 : DataW.trod enc Try.prog W 0 (fun _ => true) true n460 3 [a0_42] = some y461 := hp462
  obtain ⟨z464, hc465, hy466, wz467⟩ := DataW.trod_int Try.underlying3 hp458
  replace wz467 := wf_i64 wz467
  obtain rfl : a0_41 = .int .i64 z464 := by simpa using hc465
  obtain ⟨z468, hc469, hy470, wz471⟩ := DataW.trod_int Try.underlying3 hp462
  replace wz471 := wf_i64 wz471
  obtain rfl : a0_42 = .int .i64 z468 := by simpa using hc469
  obtain ⟨o472, n476, c473, rows477, hc478, hn479, hle480, hl481, he482, hr483, ho484, hb485⟩ := open_rows (sz := 4) Try.underlying35 (by kernel_rfl) (by omega) hp71
  replace hl481 : n476 ≤ 9223372036854775807 := by omega
  obtain ⟨l474, rfl, hq486⟩ := rows_dec S_api_Item.row _ (fun r hr => by obtain ⟨n, y, hy⟩ := hr483 r hr; exact open_S_api_Item hy)
  obtain rfl : l474.length = n476 := by simpa using hn479
  replace he482 : (Ent.rd o472 4 (List.map S_api_Item.row l474)).ok W := he482
  obtain rfl : a0_43 = .slice o472 l474.length c473 := by simpa using hc478
  obtain ⟨o488, n492, c489, rows493, hc494, hn495, hle496, hl497, he498, hr499, ho500, hb501⟩ := open_rows (sz := 1) Try.underlying46 (by kernel_rfl) (by omega) hp75
  replace hl497 : n492 ≤ 9223372036854775807 := by omega
  obtain ⟨l490, rfl, hq502⟩ := rows_dec rS _ (fun r hr => by obtain ⟨n, y, hy⟩ := hr499 r hr; exact open_str Try.underlying9 hy)
  obtain rfl : l490.length = n492 := by simpa using hn495
  replace he498 : (Ent.rd o488 1 (List.map rS l490)).ok W := he498
  obtain rfl : a0_44 = .slice o488 l490.length c489 := by simpa using hc494
  obtain ⟨z504, hc505, hy506, wz507⟩ := DataW.trod_int Try.underlying38 hp79
  replace wz507 := wf_i64 wz507
  obtain rfl : a0_45 = .int .i64 z504 := by simpa using hc505
  clear hA0
  simp only [List.append_nil] at hW'
  refine (CallG.law (w_tholelaw19_RecoveryNone 64 z81 (S_api_Node.mk z93 z97) (S_api_Node.mk z109 z113) z117 z121 (S_api_Pg.mk z133 z137) z141 z145 z149 o153 n155 c154 o157 n159 c158 o161 n163 c162 (S_api_Info.mk z181 (S_api_Version.mk z193 z197) (S_api_Version.mk z209 z213) z217) z241 (S_api_Version.mk z253 z257) o261 c262 l263 o277 c278 l279 o293 c294 l295 (S_api_Entry.mk (S_api_Version.mk z341 z345) z349 z352 z356 z360 z364) z380 (S_api_Version.mk z392 z396) o400 c401 l402 z432 z436 o440 c441 l442 (S_api_Version.mk z464 z468) o472 c473 l474 o488 c489 l490 z504  (law_none ..)) W ⟨he271, he287, he303, he410, he450, he482, he498, trivial⟩).mono fun e W' ⟨he, hkeep⟩ => ?_
  subst he
  have bel := hkeep.below
  exact ⟨_, rfl, _, _, _, [], _, [], hW', trodAll_mk1 (shut_bool Try.underlying4 _), (trodAll_cons_mk (Below.trod laidOut (by kernel_rfl) (of_decide_eq_true (by kernel_rfl)) k0 bel lt0) trodAll_mk0), rfl, bel.frame _, fun h => by cases h⟩

theorem lifted (os : Os) (started : os.Started) (H : Type) (enc : TypeId × Value → H) :
    ReturnsInHanded {} Try.checked os 3 .any (Rows.recoveryNoneSpec.pre6 enc Try.prog Try.f3 Rows.recoveryNoneRow.domain false) (Rows.recoveryNoneSpec.post enc Try.prog Try.f3 false true false false) := by
  refine returnsInHanded_of_change (C := Try.checked) own started (by kernel_rfl) Try.func3
    (ChangeSpec.witness6 (enc := enc) (C := Try.checked) false ⟨#[], #[.agg #[.int .i64 0, .int .i64 0, .int .i64 0, .int .i64 0, .int .i64 0, .int .i64 0, .int .i64 0, .int .i64 0, .int .i64 0, .int .i64 0, .int .i64 0, .int .i64 0, .slice none 0 0, .slice none 0 0, .slice none 0 0, .int .i64 0, .int .i64 0, .int .i64 0, .int .i64 0, .int .i64 0, .int .i64 0, .int .i64 0, .int .i64 0, .int .i64 0, .slice none 0 0, .slice none 0 0, .slice none 0 0, .int .i64 0, .int .i64 0, .bool false, .int .i64 0, .string (ByteArray.mk #[]), .int .i64 0, .int .i64 0, .string (ByteArray.mk #[]), .int .i64 0, .int .i64 0, .slice none 0 0, .int .i64 0, .string (ByteArray.mk #[]), .slice none 0 0, .int .i64 0, .int .i64 0, .slice none 0 0, .slice none 0 0, .int .i64 0]], []⟩ 8 (by kernel_rfl) (by kernel_rfl) (by kernel_rfl) (by kernel_rfl)) ?_
  intro W base args ds gs before hval hW hcnd _
  exact contract H enc W base args ds gs before hval hW

/-- THE STATEMENT -/
theorem proved : Rows.RecoveryNoneSaid :=
  OpenClaim.holds_of_wide 3 Try.f3 rfl rfl rfl rfl rfl rfl rfl ⟨rfl, rfl, rfl, rfl, rfl⟩ rfl rfl rfl rfl rfl (by kernel_rfl) Try.func3 (by kernel_rfl)
    (of_decide_eq_true (by kernel_rfl)) (by unfold Func.isWrapper; first | (rw [if_pos (by decide +kernel)]; kernel_rfl) | (rw [if_neg (by decide +kernel)]; exact ⟨rfl, rfl⟩))
    (fun os started H enc _ => lifted os started H enc)
end Go.Proofs.Ytmhejmkelhflmaa.recoveryNone
