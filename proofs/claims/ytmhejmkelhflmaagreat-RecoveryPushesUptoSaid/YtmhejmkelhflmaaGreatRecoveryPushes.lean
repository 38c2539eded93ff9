/-
  THE LAW RecoveryPushes: for every input of the given program's function it returns true, and the input reads behind the call as it read before. Proved in the second form: where what came in is of bulk at most 1048576.
-/
import Derived.Test.YtmhejmkelhflmaaGreatRows
import Derived.JoinedCond
import Derived.Test.YtmhejmkelhflmaaGreatSxh
import Derived.Test.YtmhejmkelhflmaaGreatBulk
import Derived.Test.YtmhejmkelhflmaaGreatW19pi
import Derived.Test.YtmhejmkelhflmaaGreatP19p
import Derived.Test.YtmhejmkelhflmaaGreatO19p
set_option linter.unusedVariables false
set_option linter.unusedSimpArgs false
set_option maxRecDepth 100000
namespace Go.Proofs.YtmhejmkelhflmaaGreat.recoveryPushesUpto
open Go.ChangeShapes Go.WideShapes Go.ChangeAt Go.RowKit Sx

theorem own : ownKnob Tryz.prog.godebug = none := by kernel_rfl
theorem laidOut : laidOutB Tryz.prog = true := by kernel_rfl

theorem contract (H : Type) (enc : TypeId × Value → H) (W : World) (base : Nat) (args : Array Value) (ds gs : List (DataW H)) (before : List MemPlace)
    (hval : ∀ (j : Nat) t v, Tryz.f3.params[j]? = some t → args[j]? = some v → Value.okWide Tryz.prog W .any base t v)
    (hW : DataW.Whole enc Tryz.prog Tryz.f3.params.toList Rows.recoveryPushesSpec.vars false W args.toList ds gs before) (hk : Rows.uptoSmall H (ds ++ gs) = true) :
    Calls Tryz.prog 3 args W fun e W' => ∃ v, e = .returned v ∧ Rows.recoveryPushesSpec.post enc Tryz.prog Tryz.f3 false true false false W args v W' := by
  have hW' := hW
  obtain ⟨p, q, hA0, hV, rfl, hfz, hnd⟩ := hW
  have hA : DataW.TrodAll enc Tryz.prog W 0 (fun _ => true) true Tryz.f3.params.toList args.toList ds p := hA0
  rw [Tryz.params3] at hA hval
  obtain ⟨v0, vs0, d0, ds0, p0, q0, hargs, rfl, rfl, h0, r0⟩ := trodAll_cons hA
  obtain ⟨v1, vs1, d1, ds1, p1, q1, rfl, rfl, rfl, h1, r1⟩ := trodAll_cons r0
  obtain ⟨v2, vs2, d2, ds2, p2, q2, rfl, rfl, rfl, h2, r2⟩ := trodAll_cons r1
  obtain ⟨rfl, rfl, rfl⟩ := trodAll_nil r2
  obtain rfl : args = #[v0, v1, v2] := by cases args; simp_all
  obtain ⟨rfl, rfl⟩ := trodVars_none hV
  have k0 := h0
  have lt0 : ∀ x ∈ p0, x.block < W.heap.size := by obtain ⟨m, hm⟩ := k0; exact DataW.trod_lt m _ _ _ hm
  have bk0 : Rows.uptoBulk d0 ≤ 1048576 := bulk_arg hk (by simp)
  obtain ⟨a0, rfl, a0s⟩ := okWide_struct Tryz.underlying48 (hval 0 48 v0 rfl rfl)
  obtain ⟨fu0, hf0⟩ := h0
  rw [show Tryz.prog.cellsOf 48 = 46 by kernel_rfl] at a0s
  obtain ⟨a0l, rfl, a0s⟩ := arr_list a0s
  obtain ⟨a0_0, a0l0, rfl⟩ : ∃ c l, a0l = c :: l := by cases a0l with | nil => simp at a0s | cons c l => exact ⟨c, l, rfl⟩
  obtain ⟨a0_1, a0l1, rfl⟩ : ∃ c l, a0l0 = c :: l := by cases a0l0 with | nil => simp at a0s | cons c l => exact ⟨c, l, rfl⟩
  obtain ⟨a0_2, a0l2, rfl⟩ : ∃ c l, a0l1 = c :: l := by cases a0l1 with | nil => simp at a0s | cons c l => exact ⟨c, l, rfl⟩
  obtain ⟨a0_3, a0l3, rfl⟩ : ∃ c l, a0l2 = c :: l := by cases a0l2 with | nil => simp at a0s | cons c l => exact ⟨c, l, rfl⟩
  obtain ⟨a0_4, a0l4, rfl⟩ : ∃ c l, a0l3 = c :: l := by cases a0l3 with | nil => simp at a0s | cons c l => exact ⟨c, l, rfl⟩
  obtain ⟨a0_5, a0l5, rfl⟩ : ∃ c l, a0l4 = c :: l := by cases a0l4 with | nil => simp at a0s | cons c l => exact ⟨c, l, rfl⟩
  obtain ⟨a0_6, a0l6, rfl⟩ : ∃ c l, a0l5 = c :: l := by cases a0l5 with | nil => simp at a0s | cons c l => exact ⟨c, l, rfl⟩
  obtain ⟨a0_7, a0l7, rfl⟩ : ∃ c l, a0l6 = c :: l := by cases a0l6 with | nil => simp at a0s | cons c l => exact ⟨c, l, rfl⟩
  obtain ⟨a0_8, a0l8, rfl⟩ : ∃ c l, a0l7 = c :: l := by cases a0l7 with | nil => simp at a0s | cons c l => exact ⟨c, l, rfl⟩
  obtain ⟨a0_9, a0l9, rfl⟩ : ∃ c l, a0l8 = c :: l := by cases a0l8 with | nil => simp at a0s | cons c l => exact ⟨c, l, rfl⟩
  obtain ⟨a0_10, a0l10, rfl⟩ : ∃ c l, a0l9 = c :: l := by cases a0l9 with | nil => simp at a0s | cons c l => exact ⟨c, l, rfl⟩
  obtain ⟨a0_11, a0l11, rfl⟩ : ∃ c l, a0l10 = c :: l := by cases a0l10 with | nil => simp at a0s | cons c l => exact ⟨c, l, rfl⟩
  obtain ⟨a0_12, a0l12, rfl⟩ : ∃ c l, a0l11 = c :: l := by cases a0l11 with | nil => simp at a0s | cons c l => exact ⟨c, l, rfl⟩
  obtain ⟨a0_13, a0l13, rfl⟩ : ∃ c l, a0l12 = c :: l := by cases a0l12 with | nil => simp at a0s | cons c l => exact ⟨c, l, rfl⟩
  obtain ⟨a0_14, a0l14, rfl⟩ : ∃ c l, a0l13 = c :: l := by cases a0l13 with | nil => simp at a0s | cons c l => exact ⟨c, l, rfl⟩
  obtain ⟨a0_15, a0l15, rfl⟩ : ∃ c l, a0l14 = c :: l := by cases a0l14 with | nil => simp at a0s | cons c l => exact ⟨c, l, rfl⟩
  obtain ⟨a0_16, a0l16, rfl⟩ : ∃ c l, a0l15 = c :: l := by cases a0l15 with | nil => simp at a0s | cons c l => exact ⟨c, l, rfl⟩
  obtain ⟨a0_17, a0l17, rfl⟩ : ∃ c l, a0l16 = c :: l := by cases a0l16 with | nil => simp at a0s | cons c l => exact ⟨c, l, rfl⟩
  obtain ⟨a0_18, a0l18, rfl⟩ : ∃ c l, a0l17 = c :: l := by cases a0l17 with | nil => simp at a0s | cons c l => exact ⟨c, l, rfl⟩
  obtain ⟨a0_19, a0l19, rfl⟩ : ∃ c l, a0l18 = c :: l := by cases a0l18 with | nil => simp at a0s | cons c l => exact ⟨c, l, rfl⟩
  obtain ⟨a0_20, a0l20, rfl⟩ : ∃ c l, a0l19 = c :: l := by cases a0l19 with | nil => simp at a0s | cons c l => exact ⟨c, l, rfl⟩
  obtain ⟨a0_21, a0l21, rfl⟩ : ∃ c l, a0l20 = c :: l := by cases a0l20 with | nil => simp at a0s | cons c l => exact ⟨c, l, rfl⟩
  obtain ⟨a0_22, a0l22, rfl⟩ : ∃ c l, a0l21 = c :: l := by cases a0l21 with | nil => simp at a0s | cons c l => exact ⟨c, l, rfl⟩
  obtain ⟨a0_23, a0l23, rfl⟩ : ∃ c l, a0l22 = c :: l := by cases a0l22 with | nil => simp at a0s | cons c l => exact ⟨c, l, rfl⟩
  obtain ⟨a0_24, a0l24, rfl⟩ : ∃ c l, a0l23 = c :: l := by cases a0l23 with | nil => simp at a0s | cons c l => exact ⟨c, l, rfl⟩
  obtain ⟨a0_25, a0l25, rfl⟩ : ∃ c l, a0l24 = c :: l := by cases a0l24 with | nil => simp at a0s | cons c l => exact ⟨c, l, rfl⟩
  obtain ⟨a0_26, a0l26, rfl⟩ : ∃ c l, a0l25 = c :: l := by cases a0l25 with | nil => simp at a0s | cons c l => exact ⟨c, l, rfl⟩
  obtain ⟨a0_27, a0l27, rfl⟩ : ∃ c l, a0l26 = c :: l := by cases a0l26 with | nil => simp at a0s | cons c l => exact ⟨c, l, rfl⟩
  obtain ⟨a0_28, a0l28, rfl⟩ : ∃ c l, a0l27 = c :: l := by cases a0l27 with | nil => simp at a0s | cons c l => exact ⟨c, l, rfl⟩
  obtain ⟨a0_29, a0l29, rfl⟩ : ∃ c l, a0l28 = c :: l := by cases a0l28 with | nil => simp at a0s | cons c l => exact ⟨c, l, rfl⟩
  obtain ⟨a0_30, a0l30, rfl⟩ : ∃ c l, a0l29 = c :: l := by cases a0l29 with | nil => simp at a0s | cons c l => exact ⟨c, l, rfl⟩
  obtain ⟨a0_31, a0l31, rfl⟩ : ∃ c l, a0l30 = c :: l := by cases a0l30 with | nil => simp at a0s | cons c l => exact ⟨c, l, rfl⟩
  obtain ⟨a0_32, a0l32, rfl⟩ : ∃ c l, a0l31 = c :: l := by cases a0l31 with | nil => simp at a0s | cons c l => exact ⟨c, l, rfl⟩
  obtain ⟨a0_33, a0l33, rfl⟩ : ∃ c l, a0l32 = c :: l := by cases a0l32 with | nil => simp at a0s | cons c l => exact ⟨c, l, rfl⟩
  obtain ⟨a0_34, a0l34, rfl⟩ : ∃ c l, a0l33 = c :: l := by cases a0l33 with | nil => simp at a0s | cons c l => exact ⟨c, l, rfl⟩
  obtain ⟨a0_35, a0l35, rfl⟩ : ∃ c l, a0l34 = c :: l := by cases a0l34 with | nil => simp at a0s | cons c l => exact ⟨c, l, rfl⟩
  obtain ⟨a0_36, a0l36, rfl⟩ : ∃ c l, a0l35 = c :: l := by cases a0l35 with | nil => simp at a0s | cons c l => exact ⟨c, l, rfl⟩
  obtain ⟨a0_37, a0l37, rfl⟩ : ∃ c l, a0l36 = c :: l := by cases a0l36 with | nil => simp at a0s | cons c l => exact ⟨c, l, rfl⟩
  obtain ⟨a0_38, a0l38, rfl⟩ : ∃ c l, a0l37 = c :: l := by cases a0l37 with | nil => simp at a0s | cons c l => exact ⟨c, l, rfl⟩
  obtain ⟨a0_39, a0l39, rfl⟩ : ∃ c l, a0l38 = c :: l := by cases a0l38 with | nil => simp at a0s | cons c l => exact ⟨c, l, rfl⟩
  obtain ⟨a0_40, a0l40, rfl⟩ : ∃ c l, a0l39 = c :: l := by cases a0l39 with | nil => simp at a0s | cons c l => exact ⟨c, l, rfl⟩
  obtain ⟨a0_41, a0l41, rfl⟩ : ∃ c l, a0l40 = c :: l := by cases a0l40 with | nil => simp at a0s | cons c l => exact ⟨c, l, rfl⟩
  obtain ⟨a0_42, a0l42, rfl⟩ : ∃ c l, a0l41 = c :: l := by cases a0l41 with | nil => simp at a0s | cons c l => exact ⟨c, l, rfl⟩
  obtain ⟨a0_43, a0l43, rfl⟩ : ∃ c l, a0l42 = c :: l := by cases a0l42 with | nil => simp at a0s | cons c l => exact ⟨c, l, rfl⟩
  obtain ⟨a0_44, a0l44, rfl⟩ : ∃ c l, a0l43 = c :: l := by cases a0l43 with | nil => simp at a0s | cons c l => exact ⟨c, l, rfl⟩
  obtain ⟨a0_45, a0l45, rfl⟩ : ∃ c l, a0l44 = c :: l := by cases a0l44 with | nil => simp at a0s | cons c l => exact ⟨c, l, rfl⟩
  obtain rfl : a0l45 = [] := by simpa using a0s
  replace hf0 : DataW.trod enc Tryz.prog W 0 (fun _ => true) true fu0 48 [a0_0, a0_1, a0_2, a0_3, a0_4, a0_5, a0_6, a0_7, a0_8, a0_9, a0_10, a0_11, a0_12, a0_13, a0_14, a0_15, a0_16, a0_17, a0_18, a0_19, a0_20, a0_21, a0_22, a0_23, a0_24, a0_25, a0_26, a0_27, a0_28, a0_29, a0_30, a0_31, a0_32, a0_33, a0_34, a0_35, a0_36, a0_37, a0_38, a0_39, a0_40, a0_41, a0_42, a0_43, a0_44, a0_45] = some (d0, p0) := hf0
  obtain ⟨n1, y2, hp3, hb4⟩ := trod_field (i := 0) (off := 0) (ty := 3) Tryz.underlying48 hf0 (by rfl) (sz := 1) (by kernel_rfl)
  replace hp3 : DataW.trod enc Tryz.prog W 0 (fun _ => true) true n1 3 [a0_0] = some y2 := hp3
  have bk5 := bulk_agg bk0 hb4
  obtain ⟨n6, y7, hp8, hb9⟩ := trod_field (i := 1) (off := 1) (ty := 23) Tryz.underlying48 hf0 (by rfl) (sz := 2) (by kernel_rfl)
  replace hp8 : DataW.trod enc Tryz.prog W 0 (fun _ => true) true n6 23 [a0_1, a0_2] = some y7 := hp8
  have bk10 := bulk_agg bk0 hb9
  obtain ⟨n11, y12, hp13, hb14⟩ := trod_field (i := 2) (off := 3) (ty := 23) Tryz.underlying48 hf0 (by rfl) (sz := 2) (by kernel_rfl)
  replace hp13 : DataW.trod enc Tryz.prog W 0 (fun _ => true) true n11 23 [a0_3, a0_4] = some y12 := hp13
  have bk15 := bulk_agg bk0 hb14
  obtain ⟨n16, y17, hp18, hb19⟩ := trod_field (i := 3) (off := 5) (ty := 3) Tryz.underlying48 hf0 (by rfl) (sz := 1) (by kernel_rfl)
  replace hp18 : DataW.trod enc Tryz.prog W 0 (fun _ => true) true n16 3 [a0_5] = some y17 := hp18
  have bk20 := bulk_agg bk0 hb19
  obtain ⟨n21, y22, hp23, hb24⟩ := trod_field (i := 4) (off := 6) (ty := 3) Tryz.underlying48 hf0 (by rfl) (sz := 1) (by kernel_rfl)
  replace hp23 : DataW.trod enc Tryz.prog W 0 (fun _ => true) true n21 3 [a0_6] = some y22 := hp23
  have bk25 := bulk_agg bk0 hb24
  obtain ⟨n26, y27, hp28, hb29⟩ := trod_field (i := 5) (off := 7) (ty := 25) Tryz.underlying48 hf0 (by rfl) (sz := 2) (by kernel_rfl)
  replace hp28 : DataW.trod enc Tryz.prog W 0 (fun _ => true) true n26 25 [a0_7, a0_8] = some y27 := hp28
  have bk30 := bulk_agg bk0 hb29
  obtain ⟨n31, y32, hp33, hb34⟩ := trod_field (i := 6) (off := 9) (ty := 3) Tryz.underlying48 hf0 (by rfl) (sz := 1) (by kernel_rfl)
  replace hp33 : DataW.trod enc Tryz.prog W 0 (fun _ => true) true n31 3 [a0_9] = some y32 := hp33
  have bk35 := bulk_agg bk0 hb34
  obtain ⟨n36, y37, hp38, hb39⟩ := trod_field (i := 7) (off := 10) (ty := 3) Tryz.underlying48 hf0 (by rfl) (sz := 1) (by kernel_rfl)
  replace hp38 : DataW.trod enc Tryz.prog W 0 (fun _ => true) true n36 3 [a0_10] = some y37 := hp38
  have bk40 := bulk_agg bk0 hb39
  obtain ⟨n41, y42, hp43, hb44⟩ := trod_field (i := 8) (off := 11) (ty := 3) Tryz.underlying48 hf0 (by rfl) (sz := 1) (by kernel_rfl)
  replace hp43 : DataW.trod enc Tryz.prog W 0 (fun _ => true) true n41 3 [a0_11] = some y42 := hp43
  have bk45 := bulk_agg bk0 hb44
  obtain ⟨n46, y47, hp48, hb49⟩ := trod_field (i := 9) (off := 12) (ty := 26) Tryz.underlying48 hf0 (by rfl) (sz := 1) (by kernel_rfl)
  replace hp48 : DataW.trod enc Tryz.prog W 0 (fun _ => true) true n46 26 [a0_12] = some y47 := hp48
  have bk50 := bulk_agg bk0 hb49
  obtain ⟨n51, y52, hp53, hb54⟩ := trod_field (i := 10) (off := 13) (ty := 27) Tryz.underlying48 hf0 (by rfl) (sz := 1) (by kernel_rfl)
  replace hp53 : DataW.trod enc Tryz.prog W 0 (fun _ => true) true n51 27 [a0_13] = some y52 := hp53
  have bk55 := bulk_agg bk0 hb54
  obtain ⟨n56, y57, hp58, hb59⟩ := trod_field (i := 11) (off := 14) (ty := 28) Tryz.underlying48 hf0 (by rfl) (sz := 1) (by kernel_rfl)
  replace hp58 : DataW.trod enc Tryz.prog W 0 (fun _ => true) true n56 28 [a0_14] = some y57 := hp58
  have bk60 := bulk_agg bk0 hb59
  obtain ⟨n61, y62, hp63, hb64⟩ := trod_field (i := 12) (off := 15) (ty := 32) Tryz.underlying48 hf0 (by rfl) (sz := 6) (by kernel_rfl)
  replace hp63 : DataW.trod enc Tryz.prog W 0 (fun _ => true) true n61 32 [a0_15, a0_16, a0_17, a0_18, a0_19, a0_20] = some y62 := hp63
  have bk65 := bulk_agg bk0 hb64
  obtain ⟨n66, y67, hp68, hb69⟩ := trod_field (i := 13) (off := 21) (ty := 37) Tryz.underlying48 hf0 (by rfl) (sz := 6) (by kernel_rfl)
  replace hp68 : DataW.trod enc Tryz.prog W 0 (fun _ => true) true n66 37 [a0_21, a0_22, a0_23, a0_24, a0_25, a0_26] = some y67 := hp68
  have bk70 := bulk_agg bk0 hb69
  obtain ⟨n71, y72, hp73, hb74⟩ := trod_field (i := 14) (off := 27) (ty := 40) Tryz.underlying48 hf0 (by rfl) (sz := 7) (by kernel_rfl)
  replace hp73 : DataW.trod enc Tryz.prog W 0 (fun _ => true) true n71 40 [a0_27, a0_28, a0_29, a0_30, a0_31, a0_32, a0_33] = some y72 := hp73
  have bk75 := bulk_agg bk0 hb74
  obtain ⟨n76, y77, hp78, hb79⟩ := trod_field (i := 15) (off := 34) (ty := 43) Tryz.underlying48 hf0 (by rfl) (sz := 4) (by kernel_rfl)
  replace hp78 : DataW.trod enc Tryz.prog W 0 (fun _ => true) true n76 43 [a0_34, a0_35, a0_36, a0_37] = some y77 := hp78
  have bk80 := bulk_agg bk0 hb79
  obtain ⟨n81, y82, hp83, hb84⟩ := trod_field (i := 16) (off := 38) (ty := 45) Tryz.underlying48 hf0 (by rfl) (sz := 5) (by kernel_rfl)
  replace hp83 : DataW.trod enc Tryz.prog W 0 (fun _ => true) true n81 45 [a0_38, a0_39, a0_40, a0_41, a0_42] = some y82 := hp83
  have bk85 := bulk_agg bk0 hb84
  obtain ⟨n86, y87, hp88, hb89⟩ := trod_field (i := 17) (off := 43) (ty := 35) Tryz.underlying48 hf0 (by rfl) (sz := 1) (by kernel_rfl)
  replace hp88 : DataW.trod enc Tryz.prog W 0 (fun _ => true) true n86 35 [a0_43] = some y87 := hp88
  have bk90 := bulk_agg bk0 hb89
  obtain ⟨n91, y92, hp93, hb94⟩ := trod_field (i := 18) (off := 44) (ty := 46) Tryz.underlying48 hf0 (by rfl) (sz := 1) (by kernel_rfl)
  replace hp93 : DataW.trod enc Tryz.prog W 0 (fun _ => true) true n91 46 [a0_44] = some y92 := hp93
  have bk95 := bulk_agg bk0 hb94
  obtain ⟨n96, y97, hp98, hb99⟩ := trod_field (i := 19) (off := 45) (ty := 38) Tryz.underlying48 hf0 (by rfl) (sz := 1) (by kernel_rfl)
  replace hp98 : DataW.trod enc Tryz.prog W 0 (fun _ => true) true n96 38 [a0_45] = some y97 := hp98
  have bk100 := bulk_agg bk0 hb99
  obtain ⟨z101, hc102, hy103, wz104⟩ := DataW.trod_int Tryz.underlying3 hp3
  replace wz104 := wf_i64 wz104
  obtain rfl : a0_0 = .int .i64 z101 := by simpa using hc102
  obtain ⟨n105, y106, hp107, hb108⟩ := trod_field (i := 0) (off := 0) (ty := 3) Tryz.underlying23 hp8 (by rfl) (sz := 1) (by kernel_rfl)
  replace hp107 : DataW.trod enc Tryz.prog W 0 (fun _ => true) true n105 3 [a0_1] = some y106 := hp107
  have bk109 := bulk_agg bk10 hb108
  obtain ⟨n110, y111, hp112, hb113⟩ := trod_field (i := 1) (off := 1) (ty := 3) Tryz.underlying23 hp8 (by rfl) (sz := 1) (by kernel_rfl)
  replace hp112 : DataW.trod enc Tryz.prog W 0 (fun _ => true) true n110 3 [a0_2] = some y111 := hp112
  have bk114 := bulk_agg bk10 hb113
  obtain ⟨z115, hc116, hy117, wz118⟩ := DataW.trod_int Tryz.underlying3 hp107
  replace wz118 := wf_i64 wz118
  obtain rfl : a0_1 = .int .i64 z115 := by simpa using hc116
  obtain ⟨z119, hc120, hy121, wz122⟩ := DataW.trod_int Tryz.underlying3 hp112
  replace wz122 := wf_i64 wz122
  obtain rfl : a0_2 = .int .i64 z119 := by simpa using hc120
  obtain ⟨n123, y124, hp125, hb126⟩ := trod_field (i := 0) (off := 0) (ty := 3) Tryz.underlying23 hp13 (by rfl) (sz := 1) (by kernel_rfl)
  replace hp125 : DataW.trod enc Tryz.prog W 0 (fun _ => true) true n123 3 [a0_3] = some y124 := hp125
  have bk127 := bulk_agg bk15 hb126
  obtain ⟨n128, y129, hp130, hb131⟩ := trod_field (i := 1) (off := 1) (ty := 3) Tryz.underlying23 hp13 (by rfl) (sz := 1) (by kernel_rfl)
  replace hp130 : DataW.trod enc Tryz.prog W 0 (fun _ => true) true n128 3 [a0_4] = some y129 := hp130
  have bk132 := bulk_agg bk15 hb131
  obtain ⟨z133, hc134, hy135, wz136⟩ := DataW.trod_int Tryz.underlying3 hp125
  replace wz136 := wf_i64 wz136
  obtain rfl : a0_3 = .int .i64 z133 := by simpa using hc134
  obtain ⟨z137, hc138, hy139, wz140⟩ := DataW.trod_int Tryz.underlying3 hp130
  replace wz140 := wf_i64 wz140
  obtain rfl : a0_4 = .int .i64 z137 := by simpa using hc138
  obtain ⟨z141, hc142, hy143, wz144⟩ := DataW.trod_int Tryz.underlying3 hp18
  replace wz144 := wf_i64 wz144
  obtain rfl : a0_5 = .int .i64 z141 := by simpa using hc142
  obtain ⟨z145, hc146, hy147, wz148⟩ := DataW.trod_int Tryz.underlying3 hp23
  replace wz148 := wf_i64 wz148
  obtain rfl : a0_6 = .int .i64 z145 := by simpa using hc146
  obtain ⟨n149, y150, hp151, hb152⟩ := trod_field (i := 0) (off := 0) (ty := 3) Tryz.underlying25 hp28 (by rfl) (sz := 1) (by kernel_rfl)
  replace hp151 : DataW.trod enc Tryz.prog W 0 (fun _ => true) true n149 3 [a0_7] = some y150 := hp151
  have bk153 := bulk_agg bk30 hb152
  obtain ⟨n154, y155, hp156, hb157⟩ := trod_field (i := 1) (off := 1) (ty := 3) Tryz.underlying25 hp28 (by rfl) (sz := 1) (by kernel_rfl)
  replace hp156 : DataW.trod enc Tryz.prog W 0 (fun _ => true) true n154 3 [a0_8] = some y155 := hp156
  have bk158 := bulk_agg bk30 hb157
  obtain ⟨z159, hc160, hy161, wz162⟩ := DataW.trod_int Tryz.underlying3 hp151
  replace wz162 := wf_i64 wz162
  obtain rfl : a0_7 = .int .i64 z159 := by simpa using hc160
  obtain ⟨z163, hc164, hy165, wz166⟩ := DataW.trod_int Tryz.underlying3 hp156
  replace wz166 := wf_i64 wz166
  obtain rfl : a0_8 = .int .i64 z163 := by simpa using hc164
  obtain ⟨z167, hc168, hy169, wz170⟩ := DataW.trod_int Tryz.underlying3 hp33
  replace wz170 := wf_i64 wz170
  obtain rfl : a0_9 = .int .i64 z167 := by simpa using hc168
  obtain ⟨z171, hc172, hy173, wz174⟩ := DataW.trod_int Tryz.underlying3 hp38
  replace wz174 := wf_i64 wz174
  obtain rfl : a0_10 = .int .i64 z171 := by simpa using hc172
  obtain ⟨z175, hc176, hy177, wz178⟩ := DataW.trod_int Tryz.underlying3 hp43
  replace wz178 := wf_i64 wz178
  obtain rfl : a0_11 = .int .i64 z175 := by simpa using hc176
  obtain ⟨o179, n181, c180, _, hc182, _⟩ := open_rows (sz := 3) Tryz.underlying26 (by kernel_rfl) (by omega) hp48
  obtain rfl : a0_12 = .slice o179 n181 c180 := by simpa using hc182
  obtain ⟨o183, n185, c184, _, hc186, _⟩ := open_rows (sz := 2) Tryz.underlying27 (by kernel_rfl) (by omega) hp53
  obtain rfl : a0_13 = .slice o183 n185 c184 := by simpa using hc186
  obtain ⟨o187, n189, c188, _, hc190, _⟩ := open_rows (sz := 11) Tryz.underlying28 (by kernel_rfl) (by omega) hp58
  obtain rfl : a0_14 = .slice o187 n189 c188 := by simpa using hc190
  obtain ⟨n191, y192, hp193, hb194⟩ := trod_field (i := 0) (off := 0) (ty := 3) Tryz.underlying32 hp63 (by rfl) (sz := 1) (by kernel_rfl)
  replace hp193 : DataW.trod enc Tryz.prog W 0 (fun _ => true) true n191 3 [a0_15] = some y192 := hp193
  have bk195 := bulk_agg bk65 hb194
  obtain ⟨n196, y197, hp198, hb199⟩ := trod_field (i := 1) (off := 1) (ty := 30) Tryz.underlying32 hp63 (by rfl) (sz := 2) (by kernel_rfl)
  replace hp198 : DataW.trod enc Tryz.prog W 0 (fun _ => true) true n196 30 [a0_16, a0_17] = some y197 := hp198
  have bk200 := bulk_agg bk65 hb199
  obtain ⟨n201, y202, hp203, hb204⟩ := trod_field (i := 2) (off := 3) (ty := 30) Tryz.underlying32 hp63 (by rfl) (sz := 2) (by kernel_rfl)
  replace hp203 : DataW.trod enc Tryz.prog W 0 (fun _ => true) true n201 30 [a0_18, a0_19] = some y202 := hp203
  have bk205 := bulk_agg bk65 hb204
  obtain ⟨n206, y207, hp208, hb209⟩ := trod_field (i := 3) (off := 5) (ty := 3) Tryz.underlying32 hp63 (by rfl) (sz := 1) (by kernel_rfl)
  replace hp208 : DataW.trod enc Tryz.prog W 0 (fun _ => true) true n206 3 [a0_20] = some y207 := hp208
  have bk210 := bulk_agg bk65 hb209
  obtain ⟨z211, hc212, hy213, wz214⟩ := DataW.trod_int Tryz.underlying3 hp193
  replace wz214 := wf_i64 wz214
  obtain rfl : a0_15 = .int .i64 z211 := by simpa using hc212
  obtain ⟨n215, y216, hp217, hb218⟩ := trod_field (i := 0) (off := 0) (ty := 3) Tryz.underlying30 hp198 (by rfl) (sz := 1) (by kernel_rfl)
  replace hp217 : DataW.trod enc Tryz.prog W 0 (fun _ => true) true n215 3 [a0_16] = some y216 := hp217
  have bk219 := bulk_agg bk200 hb218
  obtain ⟨n220, y221, hp222, hb223⟩ := trod_field (i := 1) (off := 1) (ty := 3) Tryz.underlying30 hp198 (by rfl) (sz := 1) (by kernel_rfl)
  replace hp222 : DataW.trod enc Tryz.prog W 0 (fun _ => true) true n220 3 [a0_17] = some y221 := hp222
  have bk224 := bulk_agg bk200 hb223
  obtain ⟨z225, hc226, hy227, wz228⟩ := DataW.trod_int Tryz.underlying3 hp217
  replace wz228 := wf_i64 wz228
  obtain rfl : a0_16 = .int .i64 z225 := by simpa using hc226
  obtain ⟨z229, hc230, hy231, wz232⟩ := DataW.trod_int Tryz.underlying3 hp222
  replace wz232 := wf_i64 wz232
  obtain rfl : a0_17 = .int .i64 z229 := by simpa using hc230
  obtain ⟨n233, y234, hp235, hb236⟩ := trod_field (i := 0) (off := 0) (ty := 3) Tryz.underlying30 hp203 (by rfl) (sz := 1) (by kernel_rfl)
  replace hp235 : DataW.trod enc Tryz.prog W 0 (fun _ => true) true n233 3 [a0_18] = some y234 := hp235
  have bk237 := bulk_agg bk205 hb236
  obtain ⟨n238, y239, hp240, hb241⟩ := trod_field (i := 1) (off := 1) (ty := 3) Tryz.underlying30 hp203 (by rfl) (sz := 1) (by kernel_rfl)
  replace hp240 : DataW.trod enc Tryz.prog W 0 (fun _ => true) true n238 3 [a0_19] = some y239 := hp240
  have bk242 := bulk_agg bk205 hb241
  obtain ⟨z243, hc244, hy245, wz246⟩ := DataW.trod_int Tryz.underlying3 hp235
  replace wz246 := wf_i64 wz246
  obtain rfl : a0_18 = .int .i64 z243 := by simpa using hc244
  obtain ⟨z247, hc248, hy249, wz250⟩ := DataW.trod_int Tryz.underlying3 hp240
  replace wz250 := wf_i64 wz250
  obtain rfl : a0_19 = .int .i64 z247 := by simpa using hc248
  obtain ⟨z251, hc252, hy253, wz254⟩ := DataW.trod_int Tryz.underlying3 hp208
  replace wz254 := wf_i64 wz254
  obtain rfl : a0_20 = .int .i64 z251 := by simpa using hc252
  obtain ⟨n255, y256, hp257, hb258⟩ := trod_field (i := 0) (off := 0) (ty := 3) Tryz.underlying37 hp68 (by rfl) (sz := 1) (by kernel_rfl)
  replace hp257 : DataW.trod enc Tryz.prog W 0 (fun _ => true) true n255 3 [a0_21] = some y256 := hp257
  have bk259 := bulk_agg bk70 hb258
  obtain ⟨n260, y261, hp262, hb263⟩ := trod_field (i := 1) (off := 1) (ty := 30) Tryz.underlying37 hp68 (by rfl) (sz := 2) (by kernel_rfl)
  replace hp262 : DataW.trod enc Tryz.prog W 0 (fun _ => true) true n260 30 [a0_22, a0_23] = some y261 := hp262
  have bk264 := bulk_agg bk70 hb263
  obtain ⟨n265, y266, hp267, hb268⟩ := trod_field (i := 2) (off := 3) (ty := 33) Tryz.underlying37 hp68 (by rfl) (sz := 1) (by kernel_rfl)
  replace hp267 : DataW.trod enc Tryz.prog W 0 (fun _ => true) true n265 33 [a0_24] = some y266 := hp267
  have bk269 := bulk_agg bk70 hb268
  obtain ⟨n270, y271, hp272, hb273⟩ := trod_field (i := 3) (off := 4) (ty := 34) Tryz.underlying37 hp68 (by rfl) (sz := 1) (by kernel_rfl)
  replace hp272 : DataW.trod enc Tryz.prog W 0 (fun _ => true) true n270 34 [a0_25] = some y271 := hp272
  have bk274 := bulk_agg bk70 hb273
  obtain ⟨n275, y276, hp277, hb278⟩ := trod_field (i := 4) (off := 5) (ty := 35) Tryz.underlying37 hp68 (by rfl) (sz := 1) (by kernel_rfl)
  replace hp277 : DataW.trod enc Tryz.prog W 0 (fun _ => true) true n275 35 [a0_26] = some y276 := hp277
  have bk279 := bulk_agg bk70 hb278
  obtain ⟨z280, hc281, hy282, wz283⟩ := DataW.trod_int Tryz.underlying3 hp257
  replace wz283 := wf_i64 wz283
  obtain rfl : a0_21 = .int .i64 z280 := by simpa using hc281
  obtain ⟨n284, y285, hp286, hb287⟩ := trod_field (i := 0) (off := 0) (ty := 3) Tryz.underlying30 hp262 (by rfl) (sz := 1) (by kernel_rfl)
  replace hp286 : DataW.trod enc Tryz.prog W 0 (fun _ => true) true n284 3 [a0_22] = some y285 := hp286
  have bk288 := bulk_agg bk264 hb287
  obtain ⟨n289, y290, hp291, hb292⟩ := trod_field (i := 1) (off := 1) (ty := 3) Tryz.underlying30 hp262 (by rfl) (sz := 1) (by kernel_rfl)
  replace hp291 : DataW.trod enc Tryz.prog W 0 (fun _ => true) true n289 3 [a0_23] = some y290 := hp291
  have bk293 := bulk_agg bk264 hb292
  obtain ⟨z294, hc295, hy296, wz297⟩ := DataW.trod_int Tryz.underlying3 hp286
  replace wz297 := wf_i64 wz297
  obtain rfl : a0_22 = .int .i64 z294 := by simpa using hc295
  obtain ⟨z298, hc299, hy300, wz301⟩ := DataW.trod_int Tryz.underlying3 hp291
  replace wz301 := wf_i64 wz301
  obtain rfl : a0_23 = .int .i64 z298 := by simpa using hc299
  obtain ⟨o302, n306, c303, rows307, hc308, hn309, hle310, hl311, he312, hr313, ho314, hb315⟩ := open_rows (sz := 7) Tryz.underlying33 (by kernel_rfl) (by omega) hp267
  replace hl311 : n306 ≤ 9223372036854775807 := by omega
  have hs317 : rows307.length ≤ 1048576 := bulk_slice bk269 (hb315.imp (fun h => ⟨h.1, by rw [h.2]; rfl⟩) (fun ⟨ys, zs, h1, h2, _⟩ => ⟨ys, zs, h1, h2⟩))
  rw [hn309] at hs317
  obtain ⟨l304, rfl, hq316⟩ := rows_dec S_api_Entry.row _ (fun r hr => by obtain ⟨n, y, hy⟩ := hr313 r hr; exact open_S_api_Entry hy)
  obtain rfl : l304.length = n306 := by simpa using hn309
  replace he312 : (Ent.rd o302 7 (List.map S_api_Entry.row l304)).ok W := he312
  obtain rfl : a0_24 = .slice o302 l304.length c303 := by simpa using hc308
  obtain ⟨o318, n322, c319, rows323, hc324, hn325, hle326, hl327, he328, hr329, ho330, hb331⟩ := open_rows (sz := 5) Tryz.underlying34 (by kernel_rfl) (by omega) hp272
  replace hl327 : n322 ≤ 9223372036854775807 := by omega
  have hs333 : rows323.length ≤ 1048576 := bulk_slice bk274 (hb331.imp (fun h => ⟨h.1, by rw [h.2]; rfl⟩) (fun ⟨ys, zs, h1, h2, _⟩ => ⟨ys, zs, h1, h2⟩))
  rw [hn325] at hs333
  obtain ⟨l320, rfl, hq332⟩ := rows_dec S_api_Last.row _ (fun r hr => by obtain ⟨n, y, hy⟩ := hr329 r hr; exact open_S_api_Last hy)
  obtain rfl : l320.length = n322 := by simpa using hn325
  replace he328 : (Ent.rd o318 5 (List.map S_api_Last.row l320)).ok W := he328
  obtain rfl : a0_25 = .slice o318 l320.length c319 := by simpa using hc324
  obtain ⟨o334, n338, c335, rows339, hc340, hn341, hle342, hl343, he344, hr345, ho346, hb347⟩ := open_rows (sz := 4) Tryz.underlying35 (by kernel_rfl) (by omega) hp277
  replace hl343 : n338 ≤ 9223372036854775807 := by omega
  have hs349 : rows339.length ≤ 1048576 := bulk_slice bk279 (hb347.imp (fun h => ⟨h.1, by rw [h.2]; rfl⟩) (fun ⟨ys, zs, h1, h2, _⟩ => ⟨ys, zs, h1, h2⟩))
  rw [hn341] at hs349
  obtain ⟨l336, rfl, hq348⟩ := rows_dec S_api_Item.row _ (fun r hr => by obtain ⟨n, y, hy⟩ := hr345 r hr; exact open_S_api_Item hy)
  obtain rfl : l336.length = n338 := by simpa using hn341
  replace he344 : (Ent.rd o334 4 (List.map S_api_Item.row l336)).ok W := he344
  obtain rfl : a0_26 = .slice o334 l336.length c335 := by simpa using hc340
  obtain ⟨n350, y351, hp352, hb353⟩ := trod_field (i := 0) (off := 0) (ty := 30) Tryz.underlying40 hp73 (by rfl) (sz := 2) (by kernel_rfl)
  replace hp352 : DataW.trod enc Tryz.prog W 0 (fun _ => true) true n350 30 [a0_27, a0_28] = some y351 := hp352
  have bk354 := bulk_agg bk75 hb353
  obtain ⟨n355, y356, hp357, hb358⟩ := trod_field (i := 1) (off := 2) (ty := 4) Tryz.underlying40 hp73 (by rfl) (sz := 1) (by kernel_rfl)
  replace hp357 : DataW.trod enc Tryz.prog W 0 (fun _ => true) true n355 4 [a0_29] = some y356 := hp357
  have bk359 := bulk_agg bk75 hb358
  obtain ⟨n360, y361, hp362, hb363⟩ := trod_field (i := 2) (off := 3) (ty := 38) Tryz.underlying40 hp73 (by rfl) (sz := 1) (by kernel_rfl)
  replace hp362 : DataW.trod enc Tryz.prog W 0 (fun _ => true) true n360 38 [a0_30] = some y361 := hp362
  have bk364 := bulk_agg bk75 hb363
  obtain ⟨n365, y366, hp367, hb368⟩ := trod_field (i := 3) (off := 4) (ty := 9) Tryz.underlying40 hp73 (by rfl) (sz := 1) (by kernel_rfl)
  replace hp367 : DataW.trod enc Tryz.prog W 0 (fun _ => true) true n365 9 [a0_31] = some y366 := hp367
  have bk369 := bulk_agg bk75 hb368
  obtain ⟨n370, y371, hp372, hb373⟩ := trod_field (i := 4) (off := 5) (ty := 3) Tryz.underlying40 hp73 (by rfl) (sz := 1) (by kernel_rfl)
  replace hp372 : DataW.trod enc Tryz.prog W 0 (fun _ => true) true n370 3 [a0_32] = some y371 := hp372
  have bk374 := bulk_agg bk75 hb373
  obtain ⟨n375, y376, hp377, hb378⟩ := trod_field (i := 5) (off := 6) (ty := 3) Tryz.underlying40 hp73 (by rfl) (sz := 1) (by kernel_rfl)
  replace hp377 : DataW.trod enc Tryz.prog W 0 (fun _ => true) true n375 3 [a0_33] = some y376 := hp377
  have bk379 := bulk_agg bk75 hb378
  obtain ⟨n380, y381, hp382, hb383⟩ := trod_field (i := 0) (off := 0) (ty := 3) Tryz.underlying30 hp352 (by rfl) (sz := 1) (by kernel_rfl)
  replace hp382 : DataW.trod enc Tryz.prog W 0 (fun _ => true) true n380 3 [a0_27] = some y381 := hp382
  have bk384 := bulk_agg bk354 hb383
  obtain ⟨n385, y386, hp387, hb388⟩ := trod_field (i := 1) (off := 1) (ty := 3) Tryz.underlying30 hp352 (by rfl) (sz := 1) (by kernel_rfl)
  replace hp387 : DataW.trod enc Tryz.prog W 0 (fun _ => true) true n385 3 [a0_28] = some y386 := hp387
  have bk389 := bulk_agg bk354 hb388
  obtain ⟨z390, hc391, hy392, wz393⟩ := DataW.trod_int Tryz.underlying3 hp382
  replace wz393 := wf_i64 wz393
  obtain rfl : a0_27 = .int .i64 z390 := by simpa using hc391
  obtain ⟨z394, hc395, hy396, wz397⟩ := DataW.trod_int Tryz.underlying3 hp387
  replace wz397 := wf_i64 wz397
  obtain rfl : a0_28 = .int .i64 z394 := by simpa using hc395
  obtain ⟨z398, hc399, hy400⟩ := DataW.trod_bool Tryz.underlying4 hp357
  obtain rfl : a0_29 = .bool z398 := by simpa using hc399
  obtain ⟨z401, hc402, hy403, wz404⟩ := DataW.trod_int Tryz.underlying38 hp362
  replace wz404 := wf_i64 wz404
  obtain rfl : a0_30 = .int .i64 z401 := by simpa using hc402
  obtain ⟨z405, hc406, hy407, wz408⟩ := DataW.trod_string Tryz.underlying9 hp367
  obtain rfl : a0_31 = .string z405 := by simpa using hc406
  have sb409 := bulk_str bk369 hy407
  obtain ⟨z410, hc411, hy412, wz413⟩ := DataW.trod_int Tryz.underlying3 hp372
  replace wz413 := wf_i64 wz413
  obtain rfl : a0_32 = .int .i64 z410 := by simpa using hc411
  obtain ⟨z414, hc415, hy416, wz417⟩ := DataW.trod_int Tryz.underlying3 hp377
  replace wz417 := wf_i64 wz417
  obtain rfl : a0_33 = .int .i64 z414 := by simpa using hc415
  obtain ⟨n418, y419, hp420, hb421⟩ := trod_field (i := 0) (off := 0) (ty := 9) Tryz.underlying43 hp78 (by rfl) (sz := 1) (by kernel_rfl)
  replace hp420 : DataW.trod enc Tryz.prog W 0 (fun _ => true) true n418 9 [a0_34] = some y419 := hp420
  have bk422 := bulk_agg bk80 hb421
  obtain ⟨n423, y424, hp425, hb426⟩ := trod_field (i := 1) (off := 1) (ty := 30) Tryz.underlying43 hp78 (by rfl) (sz := 2) (by kernel_rfl)
  replace hp425 : DataW.trod enc Tryz.prog W 0 (fun _ => true) true n423 30 [a0_35, a0_36] = some y424 := hp425
  have bk427 := bulk_agg bk80 hb426
  obtain ⟨n428, y429, hp430, hb431⟩ := trod_field (i := 2) (off := 3) (ty := 41) Tryz.underlying43 hp78 (by rfl) (sz := 1) (by kernel_rfl)
  replace hp430 : DataW.trod enc Tryz.prog W 0 (fun _ => true) true n428 41 [a0_37] = some y429 := hp430
  have bk432 := bulk_agg bk80 hb431
  obtain ⟨z433, hc434, hy435, wz436⟩ := DataW.trod_string Tryz.underlying9 hp420
  obtain rfl : a0_34 = .string z433 := by simpa using hc434
  have sb437 := bulk_str bk422 hy435
  obtain ⟨n438, y439, hp440, hb441⟩ := trod_field (i := 0) (off := 0) (ty := 3) Tryz.underlying30 hp425 (by rfl) (sz := 1) (by kernel_rfl)
  replace hp440 : DataW.trod enc Tryz.prog W 0 (fun _ => true) true n438 3 [a0_35] = some y439 := hp440
  have bk442 := bulk_agg bk427 hb441
  obtain ⟨n443, y444, hp445, hb446⟩ := trod_field (i := 1) (off := 1) (ty := 3) Tryz.underlying30 hp425 (by rfl) (sz := 1) (by kernel_rfl)
  replace hp445 : DataW.trod enc Tryz.prog W 0 (fun _ => true) true n443 3 [a0_36] = some y444 := hp445
  have bk447 := bulk_agg bk427 hb446
  obtain ⟨z448, hc449, hy450, wz451⟩ := DataW.trod_int Tryz.underlying3 hp440
  replace wz451 := wf_i64 wz451
  obtain rfl : a0_35 = .int .i64 z448 := by simpa using hc449
  obtain ⟨z452, hc453, hy454, wz455⟩ := DataW.trod_int Tryz.underlying3 hp445
  replace wz455 := wf_i64 wz455
  obtain rfl : a0_36 = .int .i64 z452 := by simpa using hc453
  obtain ⟨o456, n460, c457, rows461, hc462, hn463, hle464, hl465, he466, hr467, ho468, hb469⟩ := open_rows (sz := 1) Tryz.underlying41 (by kernel_rfl) (by omega) hp430
  replace hl465 : n460 ≤ 9223372036854775807 := by omega
  have hs471 : rows461.length ≤ 1048576 := bulk_slice bk432 (hb469.imp (fun h => ⟨h.1, by rw [h.2]; rfl⟩) (fun ⟨ys, zs, h1, h2, _⟩ => ⟨ys, zs, h1, h2⟩))
  rw [hn463] at hs471
  obtain ⟨l458, rfl, hq470⟩ := rows_dec rB _ (fun r hr => by obtain ⟨n, y, hy⟩ := hr467 r hr; exact open_u8 Tryz.underlying5 hy)
  obtain rfl : l458.length = n460 := by simpa using hn463
  replace he466 : (Ent.rd o456 1 (List.map rB l458)).ok W := he466
  obtain rfl : a0_37 = .slice o456 l458.length c457 := by simpa using hc462
  obtain ⟨n472, y473, hp474, hb475⟩ := trod_field (i := 0) (off := 0) (ty := 3) Tryz.underlying45 hp83 (by rfl) (sz := 1) (by kernel_rfl)
  replace hp474 : DataW.trod enc Tryz.prog W 0 (fun _ => true) true n472 3 [a0_38] = some y473 := hp474
  have bk476 := bulk_agg bk85 hb475
  obtain ⟨n477, y478, hp479, hb480⟩ := trod_field (i := 1) (off := 1) (ty := 9) Tryz.underlying45 hp83 (by rfl) (sz := 1) (by kernel_rfl)
  replace hp479 : DataW.trod enc Tryz.prog W 0 (fun _ => true) true n477 9 [a0_39] = some y478 := hp479
  have bk481 := bulk_agg bk85 hb480
  obtain ⟨n482, y483, hp484, hb485⟩ := trod_field (i := 2) (off := 2) (ty := 41) Tryz.underlying45 hp83 (by rfl) (sz := 1) (by kernel_rfl)
  replace hp484 : DataW.trod enc Tryz.prog W 0 (fun _ => true) true n482 41 [a0_40] = some y483 := hp484
  have bk486 := bulk_agg bk85 hb485
  obtain ⟨n487, y488, hp489, hb490⟩ := trod_field (i := 3) (off := 3) (ty := 30) Tryz.underlying45 hp83 (by rfl) (sz := 2) (by kernel_rfl)
  replace hp489 : DataW.trod enc Tryz.prog W 0 (fun _ => true) true n487 30 [a0_41, a0_42] = some y488 := hp489
  have bk491 := bulk_agg bk85 hb490
  obtain ⟨z492, hc493, hy494, wz495⟩ := DataW.trod_int Tryz.underlying3 hp474
  replace wz495 := wf_i64 wz495
  obtain rfl : a0_38 = .int .i64 z492 := by simpa using hc493
  obtain ⟨z496, hc497, hy498, wz499⟩ := DataW.trod_string Tryz.underlying9 hp479
  obtain rfl : a0_39 = .string z496 := by simpa using hc497
  have sb500 := bulk_str bk481 hy498
  obtain ⟨o501, n505, c502, rows506, hc507, hn508, hle509, hl510, he511, hr512, ho513, hb514⟩ := open_rows (sz := 1) Tryz.underlying41 (by kernel_rfl) (by omega) hp484
  replace hl510 : n505 ≤ 9223372036854775807 := by omega
  have hs516 : rows506.length ≤ 1048576 := bulk_slice bk486 (hb514.imp (fun h => ⟨h.1, by rw [h.2]; rfl⟩) (fun ⟨ys, zs, h1, h2, _⟩ => ⟨ys, zs, h1, h2⟩))
  rw [hn508] at hs516
  obtain ⟨l503, rfl, hq515⟩ := rows_dec rB _ (fun r hr => by obtain ⟨n, y, hy⟩ := hr512 r hr; exact open_u8 Tryz.underlying5 hy)
  obtain rfl : l503.length = n505 := by simpa using hn508
  replace he511 : (Ent.rd o501 1 (List.map rB l503)).ok W := he511
  obtain rfl : a0_40 = .slice o501 l503.length c502 := by simpa using hc507
  obtain ⟨n517, y518, hp519, hb520⟩ := trod_field (i := 0) (off := 0) (ty := 3) Tryz.underlying30 hp489 (by rfl) (sz := 1) (by kernel_rfl)
  replace hp519 : DataW.trod enc Tryz.prog W 0 (fun _ => true) true n517 3 [a0_41] = some y518 := hp519
  have bk521 := bulk_agg bk491 hb520
  obtain ⟨n522, y523, hp524, hb525⟩ := trod_field (i := 1) (off := 1) (ty := 3) Tryz.underlying30 hp489 (by rfl) (sz := 1) (by kernel_rfl)
  replace hp524 : DataW.trod enc Tryz.prog W 0 (fun _ => true) true n522 3 [a0_42] = some y523 := hp524
  have bk526 := bulk_agg bk491 hb525
  obtain ⟨z527, hc528, hy529, wz530⟩ := DataW.trod_int Tryz.underlying3 hp519
  replace wz530 := wf_i64 wz530
  obtain rfl : a0_41 = .int .i64 z527 := by simpa using hc528
  obtain ⟨z531, hc532, hy533, wz534⟩ := DataW.trod_int Tryz.underlying3 hp524
  replace wz534 := wf_i64 wz534
  obtain rfl : a0_42 = .int .i64 z531 := by simpa using hc532
  obtain ⟨o535, n539, c536, rows540, hc541, hn542, hle543, hl544, he545, hr546, ho547, hb548⟩ := open_rows (sz := 4) Tryz.underlying35 (by kernel_rfl) (by omega) hp88
  replace hl544 : n539 ≤ 9223372036854775807 := by omega
  have hs550 : rows540.length ≤ 1048576 := bulk_slice bk90 (hb548.imp (fun h => ⟨h.1, by rw [h.2]; rfl⟩) (fun ⟨ys, zs, h1, h2, _⟩ => ⟨ys, zs, h1, h2⟩))
  rw [hn542] at hs550
  obtain ⟨l537, rfl, hq549⟩ := rows_dec S_api_Item.row _ (fun r hr => by obtain ⟨n, y, hy⟩ := hr546 r hr; exact open_S_api_Item hy)
  obtain rfl : l537.length = n539 := by simpa using hn542
  replace he545 : (Ent.rd o535 4 (List.map S_api_Item.row l537)).ok W := he545
  obtain rfl : a0_43 = .slice o535 l537.length c536 := by simpa using hc541
  obtain ⟨o551, n555, c552, rows556, hc557, hn558, hle559, hl560, he561, hr562, ho563, hb564⟩ := open_rows (sz := 1) Tryz.underlying46 (by kernel_rfl) (by omega) hp93
  replace hl560 : n555 ≤ 9223372036854775807 := by omega
  have hs566 : rows556.length ≤ 1048576 := bulk_slice bk95 (hb564.imp (fun h => ⟨h.1, by rw [h.2]; rfl⟩) (fun ⟨ys, zs, h1, h2, _⟩ => ⟨ys, zs, h1, h2⟩))
  rw [hn558] at hs566
  obtain ⟨l553, rfl, hq565⟩ := rows_dec rS _ (fun r hr => by obtain ⟨n, y, hy⟩ := hr562 r hr; exact open_str Tryz.underlying9 hy)
  obtain rfl : l553.length = n555 := by simpa using hn558
  replace he561 : (Ent.rd o551 1 (List.map rS l553)).ok W := he561
  obtain rfl : a0_44 = .slice o551 l553.length c552 := by simpa using hc557
  obtain ⟨z567, hc568, hy569, wz570⟩ := DataW.trod_int Tryz.underlying38 hp98
  replace wz570 := wf_i64 wz570
  obtain rfl : a0_45 = .int .i64 z567 := by simpa using hc568
  have k1 := h1
  have lt1 : ∀ x ∈ p1, x.block < W.heap.size := by obtain ⟨m, hm⟩ := k1; exact DataW.trod_lt m _ _ _ hm
  have bk1 : Rows.uptoBulk d1 ≤ 1048576 := bulk_arg hk (by simp)
  obtain ⟨a1, rfl, a1s⟩ := okWide_struct Tryz.underlying43 (hval 1 43 v1 rfl rfl)
  obtain ⟨fu1, hf1⟩ := h1
  rw [show Tryz.prog.cellsOf 43 = 4 by kernel_rfl] at a1s
  obtain ⟨a1l, rfl, a1s⟩ := arr_list a1s
  obtain ⟨a1_0, a1l0, rfl⟩ : ∃ c l, a1l = c :: l := by cases a1l with | nil => simp at a1s | cons c l => exact ⟨c, l, rfl⟩
  obtain ⟨a1_1, a1l1, rfl⟩ : ∃ c l, a1l0 = c :: l := by cases a1l0 with | nil => simp at a1s | cons c l => exact ⟨c, l, rfl⟩
  obtain ⟨a1_2, a1l2, rfl⟩ : ∃ c l, a1l1 = c :: l := by cases a1l1 with | nil => simp at a1s | cons c l => exact ⟨c, l, rfl⟩
  obtain ⟨a1_3, a1l3, rfl⟩ : ∃ c l, a1l2 = c :: l := by cases a1l2 with | nil => simp at a1s | cons c l => exact ⟨c, l, rfl⟩
  obtain rfl : a1l3 = [] := by simpa using a1s
  replace hf1 : DataW.trod enc Tryz.prog W 0 (fun _ => true) true fu1 43 [a1_0, a1_1, a1_2, a1_3] = some (d1, p1) := hf1
  obtain ⟨n571, y572, hp573, hb574⟩ := trod_field (i := 0) (off := 0) (ty := 9) Tryz.underlying43 hf1 (by rfl) (sz := 1) (by kernel_rfl)
  replace hp573 : DataW.trod enc Tryz.prog W 0 (fun _ => true) true n571 9 [a1_0] = some y572 := hp573
  have bk575 := bulk_agg bk1 hb574
  obtain ⟨n576, y577, hp578, hb579⟩ := trod_field (i := 1) (off := 1) (ty := 30) Tryz.underlying43 hf1 (by rfl) (sz := 2) (by kernel_rfl)
  replace hp578 : DataW.trod enc Tryz.prog W 0 (fun _ => true) true n576 30 [a1_1, a1_2] = some y577 := hp578
  have bk580 := bulk_agg bk1 hb579
  obtain ⟨n581, y582, hp583, hb584⟩ := trod_field (i := 2) (off := 3) (ty := 41) Tryz.underlying43 hf1 (by rfl) (sz := 1) (by kernel_rfl)
  replace hp583 : DataW.trod enc Tryz.prog W 0 (fun _ => true) true n581 41 [a1_3] = some y582 := hp583
  have bk585 := bulk_agg bk1 hb584
  obtain ⟨z586, hc587, hy588, wz589⟩ := DataW.trod_string Tryz.underlying9 hp573
  obtain rfl : a1_0 = .string z586 := by simpa using hc587
  have sb590 := bulk_str bk575 hy588
  obtain ⟨n591, y592, hp593, hb594⟩ := trod_field (i := 0) (off := 0) (ty := 3) Tryz.underlying30 hp578 (by rfl) (sz := 1) (by kernel_rfl)
  replace hp593 : DataW.trod enc Tryz.prog W 0 (fun _ => true) true n591 3 [a1_1] = some y592 := hp593
  have bk595 := bulk_agg bk580 hb594
  obtain ⟨n596, y597, hp598, hb599⟩ := trod_field (i := 1) (off := 1) (ty := 3) Tryz.underlying30 hp578 (by rfl) (sz := 1) (by kernel_rfl)
  replace hp598 : DataW.trod enc Tryz.prog W 0 (fun _ => true) true n596 3 [a1_2] = some y597 := hp598
  have bk600 := bulk_agg bk580 hb599
  obtain ⟨z601, hc602, hy603, wz604⟩ := DataW.trod_int Tryz.underlying3 hp593
  replace wz604 := wf_i64 wz604
  obtain rfl : a1_1 = .int .i64 z601 := by simpa using hc602
  obtain ⟨z605, hc606, hy607, wz608⟩ := DataW.trod_int Tryz.underlying3 hp598
  replace wz608 := wf_i64 wz608
  obtain rfl : a1_2 = .int .i64 z605 := by simpa using hc606
  obtain ⟨o609, n613, c610, rows614, hc615, hn616, hle617, hl618, he619, hr620, ho621, hb622⟩ := open_rows (sz := 1) Tryz.underlying41 (by kernel_rfl) (by omega) hp583
  replace hl618 : n613 ≤ 9223372036854775807 := by omega
  have hs624 : rows614.length ≤ 1048576 := bulk_slice bk585 (hb622.imp (fun h => ⟨h.1, by rw [h.2]; rfl⟩) (fun ⟨ys, zs, h1, h2, _⟩ => ⟨ys, zs, h1, h2⟩))
  rw [hn616] at hs624
  obtain ⟨l611, rfl, hq623⟩ := rows_dec rB _ (fun r hr => by obtain ⟨n, y, hy⟩ := hr620 r hr; exact open_u8 Tryz.underlying5 hy)
  obtain rfl : l611.length = n613 := by simpa using hn616
  replace he619 : (Ent.rd o609 1 (List.map rB l611)).ok W := he619
  obtain rfl : a1_3 = .slice o609 l611.length c610 := by simpa using hc615
  have k2 := h2
  have lt2 : ∀ x ∈ p2, x.block < W.heap.size := by obtain ⟨m, hm⟩ := k2; exact DataW.trod_lt m _ _ _ hm
  have bk2 : Rows.uptoBulk d2 ≤ 1048576 := bulk_arg hk (by simp)
  obtain ⟨a2, rfl, a2s⟩ := okWide_array Tryz.underlying49 (hval 2 49 v2 rfl rfl)
  obtain ⟨fu2, hf2⟩ := h2
  rw [show Tryz.prog.cellsOf 49 = 3 by kernel_rfl] at a2s
  obtain ⟨a2l, rfl, a2s⟩ := arr_list a2s
  obtain ⟨a2_0, a2l0, rfl⟩ : ∃ c l, a2l = c :: l := by cases a2l with | nil => simp at a2s | cons c l => exact ⟨c, l, rfl⟩
  obtain ⟨a2_1, a2l1, rfl⟩ : ∃ c l, a2l0 = c :: l := by cases a2l0 with | nil => simp at a2s | cons c l => exact ⟨c, l, rfl⟩
  obtain ⟨a2_2, a2l2, rfl⟩ : ∃ c l, a2l1 = c :: l := by cases a2l1 with | nil => simp at a2s | cons c l => exact ⟨c, l, rfl⟩
  obtain rfl : a2l2 = [] := by simpa using a2s
  replace hf2 : DataW.trod enc Tryz.prog W 0 (fun _ => true) true fu2 49 [a2_0, a2_1, a2_2] = some (d2, p2) := hf2
  obtain ⟨n625, y626, hp627, hb628⟩ := trod_elem (i := 0) Tryz.underlying49 hf2 (by omega) (sz := 1) (by kernel_rfl)
  replace hp627 : DataW.trod enc Tryz.prog W 0 (fun _ => true) true n625 3 [a2_0] = some y626 := hp627
  have bk629 := bulk_agg bk2 hb628
  obtain ⟨n630, y631, hp632, hb633⟩ := trod_elem (i := 1) Tryz.underlying49 hf2 (by omega) (sz := 1) (by kernel_rfl)
  replace hp632 : DataW.trod enc Tryz.prog W 0 (fun _ => true) true n630 3 [a2_1] = some y631 := hp632
  have bk634 := bulk_agg bk2 hb633
  obtain ⟨n635, y636, hp637, hb638⟩ := trod_elem (i := 2) Tryz.underlying49 hf2 (by omega) (sz := 1) (by kernel_rfl)
  replace hp637 : DataW.trod enc Tryz.prog W 0 (fun _ => true) true n635 3 [a2_2] = some y636 := hp637
  have bk639 := bulk_agg bk2 hb638
  obtain ⟨z640, hc641, hy642, wz643⟩ := DataW.trod_int Tryz.underlying3 hp627
  replace wz643 := wf_i64 wz643
  obtain rfl : a2_0 = .int .i64 z640 := by simpa using hc641
  obtain ⟨z644, hc645, hy646, wz647⟩ := DataW.trod_int Tryz.underlying3 hp632
  replace wz647 := wf_i64 wz647
  obtain rfl : a2_1 = .int .i64 z644 := by simpa using hc645
  obtain ⟨z648, hc649, hy650, wz651⟩ := DataW.trod_int Tryz.underlying3 hp637
  replace wz651 := wf_i64 wz651
  obtain rfl : a2_2 = .int .i64 z648 := by simpa using hc649
  clear hA0
  simp only [List.append_nil] at hW'
  refine (CallG.law (w_tholelaw19_RecoveryPushes 64 z101 (S_api_Node.mk z115 z119) (S_api_Node.mk z133 z137) z141 z145 (S_api_Pg.mk z159 z163) z167 z171 z175 o179 n181 c180 o183 n185 c184 o187 n189 c188 (S_api_Info.mk z211 (S_api_Version.mk z225 z229) (S_api_Version.mk z243 z247) z251) z280 (S_api_Version.mk z294 z298) o302 c303 l304 o318 c319 l320 o334 c335 l336 (S_api_Entry.mk (S_api_Version.mk z390 z394) z398 z401 z405 z410 z414) z433 (S_api_Version.mk z448 z452) o456 c457 l458 z492 z496 o501 c502 l503 (S_api_Version.mk z527 z531) o535 c536 l537 o551 c552 l553 z567 z586 (S_api_Version.mk z601 z605) o609 c610 l611 z640 z644 z648  (law_pushes (show _ ≤ 1048576 from sb590) (show _ ≤ 1048576 from (by first | exact hs624 | (have h := hs624; rw [List.length_map] at h; exact h))))) W ⟨he312, he328, he344, he466, he511, he545, he561, he619, trivial⟩).mono fun e W' ⟨he, hkeep⟩ => ?_
  subst he
  have bel := hkeep.below
  exact ⟨_, rfl, _, _, _, [], _, [], hW', trodAll_mk1 (shut_bool Tryz.underlying4 _), (trodAll_cons_mk (Below.trod laidOut (by kernel_rfl) (of_decide_eq_true (by kernel_rfl)) k0 bel lt0) (trodAll_cons_mk (Below.trod laidOut (by kernel_rfl) (of_decide_eq_true (by kernel_rfl)) k1 bel lt1) (trodAll_cons_mk (Below.trod laidOut (by kernel_rfl) (of_decide_eq_true (by kernel_rfl)) k2 bel lt2) trodAll_mk0))), rfl, bel.frame _, fun h => by cases h⟩

theorem lifted (os : Os) (started : os.Started) (H : Type) (enc : TypeId × Value → H) (F : Stop.Interp) :
    ReturnsInHanded {} Tryz.checked os 3 .any ((Rows.OpenSpec.upto Rows.recoveryPushesSpec).pre6 enc Tryz.prog Tryz.f3 Rows.recoveryPushesUptoRow.domain false) (((Rows.OpenSpec.upto Rows.recoveryPushesSpec).at F).post enc Tryz.prog Tryz.f3 false true false false) := by
  refine returnsInHanded_of_cond (C := Tryz.checked) (s := Rows.OpenSpec.upto Rows.recoveryPushesSpec) (k := Rows.uptoSmall) rfl own started (by kernel_rfl) Tryz.func3
    (OpenSpec.witness (enc := enc) (C := Tryz.checked) (s := Rows.OpenSpec.upto Rows.recoveryPushesSpec) (k := Rows.uptoSmall) rfl false ⟨#[], #[.agg #[.int .i64 0, .int .i64 0, .int .i64 0, .int .i64 0, .int .i64 0, .int .i64 0, .int .i64 0, .int .i64 0, .int .i64 0, .int .i64 0, .int .i64 0, .int .i64 0, .slice none 0 0, .slice none 0 0, .slice none 0 0, .int .i64 0, .int .i64 0, .int .i64 0, .int .i64 0, .int .i64 0, .int .i64 0, .int .i64 0, .int .i64 0, .int .i64 0, .slice none 0 0, .slice none 0 0, .slice none 0 0, .int .i64 0, .int .i64 0, .bool false, .int .i64 0, .string (ByteArray.mk #[]), .int .i64 0, .int .i64 0, .string (ByteArray.mk #[]), .int .i64 0, .int .i64 0, .slice none 0 0, .int .i64 0, .string (ByteArray.mk #[]), .slice none 0 0, .int .i64 0, .int .i64 0, .slice none 0 0, .slice none 0 0, .int .i64 0], .agg #[.string (ByteArray.mk #[]), .int .i64 0, .int .i64 0, .slice none 0 0], .agg #[.int .i64 0, .int .i64 0, .int .i64 0]], []⟩ 8 (by kernel_rfl) (by kernel_rfl) (by kernel_rfl)
      (x := ([.agg [.lit (.int .i64 0), .agg [.lit (.int .i64 0), .lit (.int .i64 0)], .agg [.lit (.int .i64 0), .lit (.int .i64 0)], .lit (.int .i64 0), .lit (.int .i64 0), .agg [.lit (.int .i64 0), .lit (.int .i64 0)], .lit (.int .i64 0), .lit (.int .i64 0), .lit (.int .i64 0), .nil, .nil, .nil, .agg [.lit (.int .i64 0), .agg [.lit (.int .i64 0), .lit (.int .i64 0)], .agg [.lit (.int .i64 0), .lit (.int .i64 0)], .lit (.int .i64 0)], .agg [.lit (.int .i64 0), .agg [.lit (.int .i64 0), .lit (.int .i64 0)], .nil, .nil, .nil], .agg [.agg [.lit (.int .i64 0), .lit (.int .i64 0)], .lit (.bool false), .lit (.int .i64 0), .lit (.string []), .lit (.int .i64 0), .lit (.int .i64 0)], .agg [.lit (.string []), .agg [.lit (.int .i64 0), .lit (.int .i64 0)], .nil], .agg [.lit (.int .i64 0), .lit (.string []), .nil, .agg [.lit (.int .i64 0), .lit (.int .i64 0)]], .nil, .nil, .lit (.int .i64 0)], .agg [.lit (.string []), .agg [.lit (.int .i64 0), .lit (.int .i64 0)], .nil], .agg [.lit (.int .i64 0), .lit (.int .i64 0), .lit (.int .i64 0)]], [], [])) (by kernel_rfl) rfl (by kernel_rfl)) ?_
  intro W base args ds gs before hval hW _ hk _
  exact contract H enc W base args ds gs before hval hW hk

/-- THE STATEMENT -/
theorem proved : Rows.RecoveryPushesUptoSaid :=
  OpenClaim.holds_of_cond 3 Tryz.f3 rfl rfl rfl rfl rfl rfl rfl ⟨rfl, rfl, rfl, rfl, rfl⟩ rfl rfl rfl rfl rfl (by kernel_rfl) Tryz.func3 (by kernel_rfl)
    (of_decide_eq_true (by kernel_rfl)) (by unfold Func.isWrapper; first | (rw [if_pos (by decide +kernel)]; kernel_rfl) | (rw [if_neg (by decide +kernel)]; exact ⟨rfl, rfl⟩))
    (fun os started H enc _ F => lifted os started H enc F)
end Go.Proofs.YtmhejmkelhflmaaGreat.recoveryPushesUpto
