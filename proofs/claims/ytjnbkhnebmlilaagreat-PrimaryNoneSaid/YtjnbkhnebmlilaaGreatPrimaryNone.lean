/-
  THE LAW PrimaryNone: for every input of the given program's function it returns true, and the input reads behind the call as it read before. Proved in the first form, without any condition.
-/
import Derived.Test.YtjnbkhnebmlilaaGreatRows
import Derived.JoinedCond
import Derived.Test.YtjnbkhnebmlilaaGreatSxh
import Derived.Test.YtjnbkhnebmlilaaGreatW18ni
import Derived.Test.YtjnbkhnebmlilaaGreatP18n
import Derived.Test.YtjnbkhnebmlilaaGreatO18n
set_option linter.unusedVariables false
set_option linter.unusedSimpArgs false
set_option maxRecDepth 100000
namespace Go.Proofs.YtjnbkhnebmlilaaGreat.primaryNone
open Go.ChangeShapes Go.WideShapes Go.ChangeAt Go.RowKit Sx

theorem own : ownKnob Tryz.prog.godebug = none := by kernel_rfl
theorem laidOut : laidOutB Tryz.prog = true := by kernel_rfl

theorem contract (H : Type) (enc : TypeId × Value → H) (W : World) (base : Nat) (args : Array Value) (ds gs : List (DataW H)) (before : List MemPlace)
    (hval : ∀ (j : Nat) t v, Tryz.f5.params[j]? = some t → args[j]? = some v → Value.okWide Tryz.prog W .any base t v)
    (hW : DataW.Whole enc Tryz.prog Tryz.f5.params.toList Rows.primaryNoneSpec.vars false W args.toList ds gs before) :
    Calls Tryz.prog 5 args W fun e W' => ∃ v, e = .returned v ∧ Rows.primaryNoneSpec.post enc Tryz.prog Tryz.f5 false true false false W args v W' := by
  have hW' := hW
  obtain ⟨p, q, hA0, hV, rfl, hfz, hnd⟩ := hW
  have hA : DataW.TrodAll enc Tryz.prog W 0 (fun _ => true) true Tryz.f5.params.toList args.toList ds p := hA0
  rw [Tryz.params5] at hA hval
  obtain ⟨v0, vs0, d0, ds0, p0, q0, hargs, rfl, rfl, h0, r0⟩ := trodAll_cons hA
  obtain ⟨rfl, rfl, rfl⟩ := trodAll_nil r0
  obtain rfl : args = #[v0] := by cases args; simp_all
  obtain ⟨rfl, rfl⟩ := trodVars_none hV
  have k0 := h0
  have lt0 : ∀ x ∈ p0, x.block < W.heap.size := by obtain ⟨m, hm⟩ := k0; exact DataW.trod_lt m _ _ _ hm
  obtain ⟨a0, rfl, a0s⟩ := okWide_struct Tryz.underlying77 (hval 0 77 v0 rfl rfl)
  obtain ⟨fu0, hf0⟩ := h0
  rw [show Tryz.prog.cellsOf 77 = 53 by kernel_rfl] at a0s
  obtain ⟨a0l, rfl, a0s⟩ := arr_list a0s
  obtain ⟨a0_0, a0l0, rfl⟩ : ∃ c l, a0l = c :: l := by cases a0l with | nil => simp at a0s | cons c l => exact ⟨c, l, rfl⟩
  obtain ⟨a0_1, a0l1, rfl⟩ : ∃ c l, a0l0 = c :: l := by cases a0l0 with | nil => simp at a0s | cons c l => exact ⟨c, l, rfl⟩
  obtain ⟨a0_2, a0l2, rfl⟩ : ∃ c l, a0l1 = c :: l := by cases a0l1 with | nil => simp at a0s | cons c l => exact ⟨c, l, rfl⟩
  obtain ⟨a0_3, a0l3, rfl⟩ : ∃ c l, a0l2 = c :: l := by cases a0l2 with | nil => simp at a0s | cons c l => exact ⟨c, l, rfl⟩
  obtain ⟨a0_4, a0l4, rfl⟩ : ∃ c l, a0l3 = c :: l := by cases a0l3 with | nil => simp at a0s | cons c l => exact ⟨c, l, rfl⟩
  obtain ⟨a0_5, a0l5, rfl⟩ : ∃ c l, a0l4 = c :: l := by cases a0l4 with | nil => simp at a0s | cons c l => exact ⟨c, l, rfl⟩
  obtain ⟨a0_6, a0l6, rfl⟩ : ∃ c l, a0l5 = c :: l := by cases a0l5 with | nil => simp at a0s | cons c l => exact ⟨c, l, rfl⟩
  obtain ⟨a0_7, a0l7, rfl⟩ : ∃ c l, a0l6 = c :: l := by cases a0l6 with | nil => simp at a0s | cons c l => exact ⟨c, l, rfl⟩
  obtain ⟨a0_8, a0l8, rfl⟩ : ∃ c l, a0l7 = c :: l := by cases a0l7 with | nil => simp at a0s | cons c l => exact ⟨c, l, rfl⟩
  obtain ⟨a0_9, a0l9, rfl⟩ : ∃ c l, a0l8 = c :: l := by cases a0l8 with | nil => simp at a0s | cons c l => exact ⟨c, l, rfl⟩
  obtain ⟨a0_10, a0l10, rfl⟩ : ∃ c l, a0l9 = c :: l := by cases a0l9 with | nil => simp at a0s | cons c l => exact ⟨c, l, rfl⟩
  obtain ⟨a0_11, a0l11, rfl⟩ : ∃ c l, a0l10 = c :: l := by cases a0l10 with | nil => simp at a0s | cons c l => exact ⟨c, l, rfl⟩
  obtain ⟨a0_12, a0l12, rfl⟩ : ∃ c l, a0l11 = c :: l := by cases a0l11 with | nil => simp at a0s | cons c l => exact ⟨c, l, rfl⟩
  obtain ⟨a0_13, a0l13, rfl⟩ : ∃ c l, a0l12 = c :: l := by cases a0l12 with | nil => simp at a0s | cons c l => exact ⟨c, l, rfl⟩
  obtain ⟨a0_14, a0l14, rfl⟩ : ∃ c l, a0l13 = c :: l := by cases a0l13 with | nil => simp at a0s | cons c l => exact ⟨c, l, rfl⟩
  obtain ⟨a0_15, a0l15, rfl⟩ : ∃ c l, a0l14 = c :: l := by cases a0l14 with | nil => simp at a0s | cons c l => exact ⟨c, l, rfl⟩
  obtain ⟨a0_16, a0l16, rfl⟩ : ∃ c l, a0l15 = c :: l := by cases a0l15 with | nil => simp at a0s | cons c l => exact ⟨c, l, rfl⟩
  obtain ⟨a0_17, a0l17, rfl⟩ : ∃ c l, a0l16 = c :: l := by cases a0l16 with | nil => simp at a0s | cons c l => exact ⟨c, l, rfl⟩
  obtain ⟨a0_18, a0l18, rfl⟩ : ∃ c l, a0l17 = c :: l := by cases a0l17 with | nil => simp at a0s | cons c l => exact ⟨c, l, rfl⟩
  obtain ⟨a0_19, a0l19, rfl⟩ : ∃ c l, a0l18 = c :: l := by cases a0l18 with | nil => simp at a0s | cons c l => exact ⟨c, l, rfl⟩
  obtain ⟨a0_20, a0l20, rfl⟩ : ∃ c l, a0l19 = c :: l := by cases a0l19 with | nil => simp at a0s | cons c l => exact ⟨c, l, rfl⟩
  obtain ⟨a0_21, a0l21, rfl⟩ : ∃ c l, a0l20 = c :: l := by cases a0l20 with | nil => simp at a0s | cons c l => exact ⟨c, l, rfl⟩
  obtain ⟨a0_22, a0l22, rfl⟩ : ∃ c l, a0l21 = c :: l := by cases a0l21 with | nil => simp at a0s | cons c l => exact ⟨c, l, rfl⟩
  obtain ⟨a0_23, a0l23, rfl⟩ : ∃ c l, a0l22 = c :: l := by cases a0l22 with | nil => simp at a0s | cons c l => exact ⟨c, l, rfl⟩
  obtain ⟨a0_24, a0l24, rfl⟩ : ∃ c l, a0l23 = c :: l := by cases a0l23 with | nil => simp at a0s | cons c l => exact ⟨c, l, rfl⟩
  obtain ⟨a0_25, a0l25, rfl⟩ : ∃ c l, a0l24 = c :: l := by cases a0l24 with | nil => simp at a0s | cons c l => exact ⟨c, l, rfl⟩
  obtain ⟨a0_26, a0l26, rfl⟩ : ∃ c l, a0l25 = c :: l := by cases a0l25 with | nil => simp at a0s | cons c l => exact ⟨c, l, rfl⟩
  obtain ⟨a0_27, a0l27, rfl⟩ : ∃ c l, a0l26 = c :: l := by cases a0l26 with | nil => simp at a0s | cons c l => exact ⟨c, l, rfl⟩
  obtain ⟨a0_28, a0l28, rfl⟩ : ∃ c l, a0l27 = c :: l := by cases a0l27 with | nil => simp at a0s | cons c l => exact ⟨c, l, rfl⟩
  obtain ⟨a0_29, a0l29, rfl⟩ : ∃ c l, a0l28 = c :: l := by cases a0l28 with | nil => simp at a0s | cons c l => exact ⟨c, l, rfl⟩
  obtain ⟨a0_30, a0l30, rfl⟩ : ∃ c l, a0l29 = c :: l := by cases a0l29 with | nil => simp at a0s | cons c l => exact ⟨c, l, rfl⟩
  obtain ⟨a0_31, a0l31, rfl⟩ : ∃ c l, a0l30 = c :: l := by cases a0l30 with | nil => simp at a0s | cons c l => exact ⟨c, l, rfl⟩
  obtain ⟨a0_32, a0l32, rfl⟩ : ∃ c l, a0l31 = c :: l := by cases a0l31 with | nil => simp at a0s | cons c l => exact ⟨c, l, rfl⟩
  obtain ⟨a0_33, a0l33, rfl⟩ : ∃ c l, a0l32 = c :: l := by cases a0l32 with | nil => simp at a0s | cons c l => exact ⟨c, l, rfl⟩
  obtain ⟨a0_34, a0l34, rfl⟩ : ∃ c l, a0l33 = c :: l := by cases a0l33 with | nil => simp at a0s | cons c l => exact ⟨c, l, rfl⟩
  obtain ⟨a0_35, a0l35, rfl⟩ : ∃ c l, a0l34 = c :: l := by cases a0l34 with | nil => simp at a0s | cons c l => exact ⟨c, l, rfl⟩
  obtain ⟨a0_36, a0l36, rfl⟩ : ∃ c l, a0l35 = c :: l := by cases a0l35 with | nil => simp at a0s | cons c l => exact ⟨c, l, rfl⟩
  obtain ⟨a0_37, a0l37, rfl⟩ : ∃ c l, a0l36 = c :: l := by cases a0l36 with | nil => simp at a0s | cons c l => exact ⟨c, l, rfl⟩
  obtain ⟨a0_38, a0l38, rfl⟩ : ∃ c l, a0l37 = c :: l := by cases a0l37 with | nil => simp at a0s | cons c l => exact ⟨c, l, rfl⟩
  obtain ⟨a0_39, a0l39, rfl⟩ : ∃ c l, a0l38 = c :: l := by cases a0l38 with | nil => simp at a0s | cons c l => exact ⟨c, l, rfl⟩
  obtain ⟨a0_40, a0l40, rfl⟩ : ∃ c l, a0l39 = c :: l := by cases a0l39 with | nil => simp at a0s | cons c l => exact ⟨c, l, rfl⟩
  obtain ⟨a0_41, a0l41, rfl⟩ : ∃ c l, a0l40 = c :: l := by cases a0l40 with | nil => simp at a0s | cons c l => exact ⟨c, l, rfl⟩
  obtain ⟨a0_42, a0l42, rfl⟩ : ∃ c l, a0l41 = c :: l := by cases a0l41 with | nil => simp at a0s | cons c l => exact ⟨c, l, rfl⟩
  obtain ⟨a0_43, a0l43, rfl⟩ : ∃ c l, a0l42 = c :: l := by cases a0l42 with | nil => simp at a0s | cons c l => exact ⟨c, l, rfl⟩
  obtain ⟨a0_44, a0l44, rfl⟩ : ∃ c l, a0l43 = c :: l := by cases a0l43 with | nil => simp at a0s | cons c l => exact ⟨c, l, rfl⟩
  obtain ⟨a0_45, a0l45, rfl⟩ : ∃ c l, a0l44 = c :: l := by cases a0l44 with | nil => simp at a0s | cons c l => exact ⟨c, l, rfl⟩
  obtain ⟨a0_46, a0l46, rfl⟩ : ∃ c l, a0l45 = c :: l := by cases a0l45 with | nil => simp at a0s | cons c l => exact ⟨c, l, rfl⟩
  obtain ⟨a0_47, a0l47, rfl⟩ : ∃ c l, a0l46 = c :: l := by cases a0l46 with | nil => simp at a0s | cons c l => exact ⟨c, l, rfl⟩
  obtain ⟨a0_48, a0l48, rfl⟩ : ∃ c l, a0l47 = c :: l := by cases a0l47 with | nil => simp at a0s | cons c l => exact ⟨c, l, rfl⟩
  obtain ⟨a0_49, a0l49, rfl⟩ : ∃ c l, a0l48 = c :: l := by cases a0l48 with | nil => simp at a0s | cons c l => exact ⟨c, l, rfl⟩
  obtain ⟨a0_50, a0l50, rfl⟩ : ∃ c l, a0l49 = c :: l := by cases a0l49 with | nil => simp at a0s | cons c l => exact ⟨c, l, rfl⟩
  obtain ⟨a0_51, a0l51, rfl⟩ : ∃ c l, a0l50 = c :: l := by cases a0l50 with | nil => simp at a0s | cons c l => exact ⟨c, l, rfl⟩
  obtain ⟨a0_52, a0l52, rfl⟩ : ∃ c l, a0l51 = c :: l := by cases a0l51 with | nil => simp at a0s | cons c l => exact ⟨c, l, rfl⟩
  obtain rfl : a0l52 = [] := by simpa using a0s
  replace hf0 : DataW.trod enc Tryz.prog W 0 (fun _ => true) true fu0 77 [a0_0, a0_1, a0_2, a0_3, a0_4, a0_5, a0_6, a0_7, a0_8, a0_9, a0_10, a0_11, a0_12, a0_13, a0_14, a0_15, a0_16, a0_17, a0_18, a0_19, a0_20, a0_21, a0_22, a0_23, a0_24, a0_25, a0_26, a0_27, a0_28, a0_29, a0_30, a0_31, a0_32, a0_33, a0_34, a0_35, a0_36, a0_37, a0_38, a0_39, a0_40, a0_41, a0_42, a0_43, a0_44, a0_45, a0_46, a0_47, a0_48, a0_49, a0_50, a0_51, a0_52] = some (d0, p0) := hf0
  obtain ⟨n1, y2, hp3, hb4⟩ := trod_field (i := 0) (off := 0) (ty := 3) Tryz.underlying77 hf0 (by rfl) (sz := 1) (by kernel_rfl)
  replace hp3 : DataW.trod enc Tryz.prog W 0 (fun _ => true) true n1 3 [a0_0] = some y2 := hp3
  obtain ⟨n5, y6, hp7, hb8⟩ := trod_field (i := 1) (off := 1) (ty := 65) Tryz.underlying77 hf0 (by rfl) (sz := 46) (by kernel_rfl)
  replace hp7 : DataW.trod enc Tryz.prog W 0 (fun _ => true) true n5 65 [a0_1, a0_2, a0_3, a0_4, a0_5, a0_6, a0_7, a0_8, a0_9, a0_10, a0_11, a0_12, a0_13, a0_14, a0_15, a0_16, a0_17, a0_18, a0_19, a0_20, a0_21, a0_22, a0_23, a0_24, a0_25, a0_26, a0_27, a0_28, a0_29, a0_30, a0_31, a0_32, a0_33, a0_34, a0_35, a0_36, a0_37, a0_38, a0_39, a0_40, a0_41, a0_42, a0_43, a0_44, a0_45, a0_46] = some y6 := hp7
  obtain ⟨n9, y10, hp11, hb12⟩ := trod_field (i := 2) (off := 47) (ty := 62) Tryz.underlying77 hf0 (by rfl) (sz := 4) (by kernel_rfl)
  replace hp11 : DataW.trod enc Tryz.prog W 0 (fun _ => true) true n9 62 [a0_47, a0_48, a0_49, a0_50] = some y10 := hp11
  obtain ⟨n13, y14, hp15, hb16⟩ := trod_field (i := 3) (off := 51) (ty := 29) Tryz.underlying77 hf0 (by rfl) (sz := 1) (by kernel_rfl)
  replace hp15 : DataW.trod enc Tryz.prog W 0 (fun _ => true) true n13 29 [a0_51] = some y14 := hp15
  obtain ⟨n17, y18, hp19, hb20⟩ := trod_field (i := 4) (off := 52) (ty := 4) Tryz.underlying77 hf0 (by rfl) (sz := 1) (by kernel_rfl)
  replace hp19 : DataW.trod enc Tryz.prog W 0 (fun _ => true) true n17 4 [a0_52] = some y18 := hp19
  obtain ⟨z21, hc22, hy23, wz24⟩ := DataW.trod_int Tryz.underlying3 hp3
  replace wz24 := wf_i64 wz24
  obtain rfl : a0_0 = .int .i64 z21 := by simpa using hc22
  obtain ⟨n25, y26, hp27, hb28⟩ := trod_field (i := 0) (off := 0) (ty := 3) Tryz.underlying65 hp7 (by rfl) (sz := 1) (by kernel_rfl)
  replace hp27 : DataW.trod enc Tryz.prog W 0 (fun _ => true) true n25 3 [a0_1] = some y26 := hp27
  obtain ⟨n29, y30, hp31, hb32⟩ := trod_field (i := 1) (off := 1) (ty := 55) Tryz.underlying65 hp7 (by rfl) (sz := 2) (by kernel_rfl)
  replace hp31 : DataW.trod enc Tryz.prog W 0 (fun _ => true) true n29 55 [a0_2, a0_3] = some y30 := hp31
  obtain ⟨n33, y34, hp35, hb36⟩ := trod_field (i := 2) (off := 3) (ty := 55) Tryz.underlying65 hp7 (by rfl) (sz := 2) (by kernel_rfl)
  replace hp35 : DataW.trod enc Tryz.prog W 0 (fun _ => true) true n33 55 [a0_4, a0_5] = some y34 := hp35
  obtain ⟨n37, y38, hp39, hb40⟩ := trod_field (i := 3) (off := 5) (ty := 3) Tryz.underlying65 hp7 (by rfl) (sz := 1) (by kernel_rfl)
  replace hp39 : DataW.trod enc Tryz.prog W 0 (fun _ => true) true n37 3 [a0_6] = some y38 := hp39
  obtain ⟨n41, y42, hp43, hb44⟩ := trod_field (i := 4) (off := 6) (ty := 3) Tryz.underlying65 hp7 (by rfl) (sz := 1) (by kernel_rfl)
  replace hp43 : DataW.trod enc Tryz.prog W 0 (fun _ => true) true n41 3 [a0_7] = some y42 := hp43
  obtain ⟨n45, y46, hp47, hb48⟩ := trod_field (i := 5) (off := 7) (ty := 51) Tryz.underlying65 hp7 (by rfl) (sz := 2) (by kernel_rfl)
  replace hp47 : DataW.trod enc Tryz.prog W 0 (fun _ => true) true n45 51 [a0_8, a0_9] = some y46 := hp47
  obtain ⟨n49, y50, hp51, hb52⟩ := trod_field (i := 6) (off := 9) (ty := 3) Tryz.underlying65 hp7 (by rfl) (sz := 1) (by kernel_rfl)
  replace hp51 : DataW.trod enc Tryz.prog W 0 (fun _ => true) true n49 3 [a0_10] = some y50 := hp51
  obtain ⟨n53, y54, hp55, hb56⟩ := trod_field (i := 7) (off := 10) (ty := 3) Tryz.underlying65 hp7 (by rfl) (sz := 1) (by kernel_rfl)
  replace hp55 : DataW.trod enc Tryz.prog W 0 (fun _ => true) true n53 3 [a0_11] = some y54 := hp55
  obtain ⟨n57, y58, hp59, hb60⟩ := trod_field (i := 8) (off := 11) (ty := 3) Tryz.underlying65 hp7 (by rfl) (sz := 1) (by kernel_rfl)
  replace hp59 : DataW.trod enc Tryz.prog W 0 (fun _ => true) true n57 3 [a0_12] = some y58 := hp59
  obtain ⟨n61, y62, hp63, hb64⟩ := trod_field (i := 9) (off := 12) (ty := 56) Tryz.underlying65 hp7 (by rfl) (sz := 1) (by kernel_rfl)
  replace hp63 : DataW.trod enc Tryz.prog W 0 (fun _ => true) true n61 56 [a0_13] = some y62 := hp63
  obtain ⟨n65, y66, hp67, hb68⟩ := trod_field (i := 10) (off := 13) (ty := 57) Tryz.underlying65 hp7 (by rfl) (sz := 1) (by kernel_rfl)
  replace hp67 : DataW.trod enc Tryz.prog W 0 (fun _ => true) true n65 57 [a0_14] = some y66 := hp67
  obtain ⟨n69, y70, hp71, hb72⟩ := trod_field (i := 11) (off := 14) (ty := 58) Tryz.underlying65 hp7 (by rfl) (sz := 1) (by kernel_rfl)
  replace hp71 : DataW.trod enc Tryz.prog W 0 (fun _ => true) true n69 58 [a0_15] = some y70 := hp71
  obtain ⟨n73, y74, hp75, hb76⟩ := trod_field (i := 12) (off := 15) (ty := 60) Tryz.underlying65 hp7 (by rfl) (sz := 6) (by kernel_rfl)
  replace hp75 : DataW.trod enc Tryz.prog W 0 (fun _ => true) true n73 60 [a0_16, a0_17, a0_18, a0_19, a0_20, a0_21] = some y74 := hp75
  obtain ⟨n77, y78, hp79, hb80⟩ := trod_field (i := 13) (off := 21) (ty := 28) Tryz.underlying65 hp7 (by rfl) (sz := 6) (by kernel_rfl)
  replace hp79 : DataW.trod enc Tryz.prog W 0 (fun _ => true) true n77 28 [a0_22, a0_23, a0_24, a0_25, a0_26, a0_27] = some y78 := hp79
  obtain ⟨n81, y82, hp83, hb84⟩ := trod_field (i := 14) (off := 27) (ty := 31) Tryz.underlying65 hp7 (by rfl) (sz := 7) (by kernel_rfl)
  replace hp83 : DataW.trod enc Tryz.prog W 0 (fun _ => true) true n81 31 [a0_28, a0_29, a0_30, a0_31, a0_32, a0_33, a0_34] = some y82 := hp83
  obtain ⟨n85, y86, hp87, hb88⟩ := trod_field (i := 15) (off := 34) (ty := 62) Tryz.underlying65 hp7 (by rfl) (sz := 4) (by kernel_rfl)
  replace hp87 : DataW.trod enc Tryz.prog W 0 (fun _ => true) true n85 62 [a0_35, a0_36, a0_37, a0_38] = some y86 := hp87
  obtain ⟨n89, y90, hp91, hb92⟩ := trod_field (i := 16) (off := 38) (ty := 34) Tryz.underlying65 hp7 (by rfl) (sz := 5) (by kernel_rfl)
  replace hp91 : DataW.trod enc Tryz.prog W 0 (fun _ => true) true n89 34 [a0_39, a0_40, a0_41, a0_42, a0_43] = some y90 := hp91
  obtain ⟨n93, y94, hp95, hb96⟩ := trod_field (i := 17) (off := 43) (ty := 26) Tryz.underlying65 hp7 (by rfl) (sz := 1) (by kernel_rfl)
  replace hp95 : DataW.trod enc Tryz.prog W 0 (fun _ => true) true n93 26 [a0_44] = some y94 := hp95
  obtain ⟨n97, y98, hp99, hb100⟩ := trod_field (i := 18) (off := 44) (ty := 63) Tryz.underlying65 hp7 (by rfl) (sz := 1) (by kernel_rfl)
  replace hp99 : DataW.trod enc Tryz.prog W 0 (fun _ => true) true n97 63 [a0_45] = some y98 := hp99
  obtain ⟨n101, y102, hp103, hb104⟩ := trod_field (i := 19) (off := 45) (ty := 29) Tryz.underlying65 hp7 (by rfl) (sz := 1) (by kernel_rfl)
  replace hp103 : DataW.trod enc Tryz.prog W 0 (fun _ => true) true n101 29 [a0_46] = some y102 := hp103
  obtain ⟨z105, hc106, hy107, wz108⟩ := DataW.trod_int Tryz.underlying3 hp27
  replace wz108 := wf_i64 wz108
  obtain rfl : a0_1 = .int .i64 z105 := by simpa using hc106
  obtain ⟨n109, y110, hp111, hb112⟩ := trod_field (i := 0) (off := 0) (ty := 3) Tryz.underlying55 hp31 (by rfl) (sz := 1) (by kernel_rfl)
  replace hp111 : DataW.trod enc Tryz.prog W 0 (fun _ => true) true n109 3 [a0_2] = some y110 := hp111
  obtain ⟨n113, y114, hp115, hb116⟩ := trod_field (i := 1) (off := 1) (ty := 3) Tryz.underlying55 hp31 (by rfl) (sz := 1) (by kernel_rfl)
  replace hp115 : DataW.trod enc Tryz.prog W 0 (fun _ => true) true n113 3 [a0_3] = some y114 := hp115
  obtain ⟨z117, hc118, hy119, wz120⟩ := DataW.trod_int Tryz.underlying3 hp111
  replace wz120 := wf_i64 wz120
  obtain rfl : a0_2 = .int .i64 z117 := by simpa using hc118
  obtain ⟨z121, hc122, hy123, wz124⟩ := DataW.trod_int Tryz.underlying3 hp115
  replace wz124 := wf_i64 wz124
  obtain rfl : a0_3 = .int .i64 z121 := by simpa using hc122
  obtain ⟨n125, y126, hp127, hb128⟩ := trod_field (i := 0) (off := 0) (ty := 3) Tryz.underlying55 hp35 (by rfl) (sz := 1) (by kernel_rfl)
  replace hp127 : DataW.trod enc Tryz.prog W 0 (fun _ => true) true n125 3 [a0_4] = some y126 := hp127
  obtain ⟨n129, y130, hp131, hb132⟩ := trod_field (i := 1) (off := 1) (ty := 3) Tryz.underlying55 hp35 (by rfl) (sz := 1) (by kernel_rfl)
  replace hp131 : DataW.trod enc Tryz.prog W 0 (fun _ => true) true n129 3 [a0_5] = some y130 := hp131
  obtain ⟨z133, hc134, hy135, wz136⟩ := DataW.trod_int Tryz.underlying3 hp127
  replace wz136 := wf_i64 wz136
  obtain rfl : a0_4 = .int .i64 z133 := by simpa using hc134
  obtain ⟨z137, hc138, hy139, wz140⟩ := DataW.trod_int Tryz.underlying3 hp131
  replace wz140 := wf_i64 wz140
  obtain rfl : a0_5 = .int .i64 z137 := by simpa using hc138
  obtain ⟨z141, hc142, hy143, wz144⟩ := DataW.trod_int Tryz.underlying3 hp39
  replace wz144 := wf_i64 wz144
  obtain rfl : a0_6 = .int .i64 z141 := by simpa using hc142
  obtain ⟨z145, hc146, hy147, wz148⟩ := DataW.trod_int Tryz.underlying3 hp43
  replace wz148 := wf_i64 wz148
  obtain rfl : a0_7 = .int .i64 z145 := by simpa using hc146
  obtain ⟨n149, y150, hp151, hb152⟩ := trod_field (i := 0) (off := 0) (ty := 3) Tryz.underlying51 hp47 (by rfl) (sz := 1) (by kernel_rfl)
  replace hp151 : DataW.trod enc Tryz.prog W 0 (fun _ => true) true n149 3 [a0_8] = some y150 := hp151
  obtain ⟨n153, y154, hp155, hb156⟩ := trod_field (i := 1) (off := 1) (ty := 3) Tryz.underlying51 hp47 (by rfl) (sz := 1) (by kernel_rfl)
  replace hp155 : DataW.trod enc Tryz.prog W 0 (fun _ => true) true n153 3 [a0_9] = some y154 := hp155
  obtain ⟨z157, hc158, hy159, wz160⟩ := DataW.trod_int Tryz.underlying3 hp151
  replace wz160 := wf_i64 wz160
  obtain rfl : a0_8 = .int .i64 z157 := by simpa using hc158
  obtain ⟨z161, hc162, hy163, wz164⟩ := DataW.trod_int Tryz.underlying3 hp155
  replace wz164 := wf_i64 wz164
  obtain rfl : a0_9 = .int .i64 z161 := by simpa using hc162
  obtain ⟨z165, hc166, hy167, wz168⟩ := DataW.trod_int Tryz.underlying3 hp51
  replace wz168 := wf_i64 wz168
  obtain rfl : a0_10 = .int .i64 z165 := by simpa using hc166
  obtain ⟨z169, hc170, hy171, wz172⟩ := DataW.trod_int Tryz.underlying3 hp55
  replace wz172 := wf_i64 wz172
  obtain rfl : a0_11 = .int .i64 z169 := by simpa using hc170
  obtain ⟨z173, hc174, hy175, wz176⟩ := DataW.trod_int Tryz.underlying3 hp59
  replace wz176 := wf_i64 wz176
  obtain rfl : a0_12 = .int .i64 z173 := by simpa using hc174
  obtain ⟨o177, n179, c178, _, hc180, _⟩ := open_rows (sz := 3) Tryz.underlying56 (by kernel_rfl) (by omega) hp63
  obtain rfl : a0_13 = .slice o177 n179 c178 := by simpa using hc180
  obtain ⟨o181, n183, c182, _, hc184, _⟩ := open_rows (sz := 2) Tryz.underlying57 (by kernel_rfl) (by omega) hp67
  obtain rfl : a0_14 = .slice o181 n183 c182 := by simpa using hc184
  obtain ⟨o185, n187, c186, _, hc188, _⟩ := open_rows (sz := 11) Tryz.underlying58 (by kernel_rfl) (by omega) hp71
  obtain rfl : a0_15 = .slice o185 n187 c186 := by simpa using hc188
  obtain ⟨n189, y190, hp191, hb192⟩ := trod_field (i := 0) (off := 0) (ty := 3) Tryz.underlying60 hp75 (by rfl) (sz := 1) (by kernel_rfl)
  replace hp191 : DataW.trod enc Tryz.prog W 0 (fun _ => true) true n189 3 [a0_16] = some y190 := hp191
  obtain ⟨n193, y194, hp195, hb196⟩ := trod_field (i := 1) (off := 1) (ty := 23) Tryz.underlying60 hp75 (by rfl) (sz := 2) (by kernel_rfl)
  replace hp195 : DataW.trod enc Tryz.prog W 0 (fun _ => true) true n193 23 [a0_17, a0_18] = some y194 := hp195
  obtain ⟨n197, y198, hp199, hb200⟩ := trod_field (i := 2) (off := 3) (ty := 23) Tryz.underlying60 hp75 (by rfl) (sz := 2) (by kernel_rfl)
  replace hp199 : DataW.trod enc Tryz.prog W 0 (fun _ => true) true n197 23 [a0_19, a0_20] = some y198 := hp199
  obtain ⟨n201, y202, hp203, hb204⟩ := trod_field (i := 3) (off := 5) (ty := 3) Tryz.underlying60 hp75 (by rfl) (sz := 1) (by kernel_rfl)
  replace hp203 : DataW.trod enc Tryz.prog W 0 (fun _ => true) true n201 3 [a0_21] = some y202 := hp203
  obtain ⟨z205, hc206, hy207, wz208⟩ := DataW.trod_int Tryz.underlying3 hp191
  replace wz208 := wf_i64 wz208
  obtain rfl : a0_16 = .int .i64 z205 := by simpa using hc206
  obtain ⟨n209, y210, hp211, hb212⟩ := trod_field (i := 0) (off := 0) (ty := 3) Tryz.underlying23 hp195 (by rfl) (sz := 1) (by kernel_rfl)
  replace hp211 : DataW.trod enc Tryz.prog W 0 (fun _ => true) true n209 3 [a0_17] = some y210 := hp211
  obtain ⟨n213, y214, hp215, hb216⟩ := trod_field (i := 1) (off := 1) (ty := 3) Tryz.underlying23 hp195 (by rfl) (sz := 1) (by kernel_rfl)
  replace hp215 : DataW.trod enc Tryz.prog W 0 (fun _ => true) true n213 3 [a0_18] = some y214 := hp215
  obtain ⟨z217, hc218, hy219, wz220⟩ := DataW.trod_int Tryz.underlying3 hp211
  replace wz220 := wf_i64 wz220
  obtain rfl : a0_17 = .int .i64 z217 := by simpa using hc218
  obtain ⟨z221, hc222, hy223, wz224⟩ := DataW.trod_int Tryz.underlying3 hp215
  replace wz224 := wf_i64 wz224
  obtain rfl : a0_18 = .int .i64 z221 := by simpa using hc222
  obtain ⟨n225, y226, hp227, hb228⟩ := trod_field (i := 0) (off := 0) (ty := 3) Tryz.underlying23 hp199 (by rfl) (sz := 1) (by kernel_rfl)
  replace hp227 : DataW.trod enc Tryz.prog W 0 (fun _ => true) true n225 3 [a0_19] = some y226 := hp227
  obtain ⟨n229, y230, hp231, hb232⟩ := trod_field (i := 1) (off := 1) (ty := 3) Tryz.underlying23 hp199 (by rfl) (sz := 1) (by kernel_rfl)
  replace hp231 : DataW.trod enc Tryz.prog W 0 (fun _ => true) true n229 3 [a0_20] = some y230 := hp231
  obtain ⟨z233, hc234, hy235, wz236⟩ := DataW.trod_int Tryz.underlying3 hp227
  replace wz236 := wf_i64 wz236
  obtain rfl : a0_19 = .int .i64 z233 := by simpa using hc234
  obtain ⟨z237, hc238, hy239, wz240⟩ := DataW.trod_int Tryz.underlying3 hp231
  replace wz240 := wf_i64 wz240
  obtain rfl : a0_20 = .int .i64 z237 := by simpa using hc238
  obtain ⟨z241, hc242, hy243, wz244⟩ := DataW.trod_int Tryz.underlying3 hp203
  replace wz244 := wf_i64 wz244
  obtain rfl : a0_21 = .int .i64 z241 := by simpa using hc242
  obtain ⟨n245, y246, hp247, hb248⟩ := trod_field (i := 0) (off := 0) (ty := 3) Tryz.underlying28 hp79 (by rfl) (sz := 1) (by kernel_rfl)
  replace hp247 : DataW.trod enc Tryz.prog W 0 (fun _ => true) true n245 3 [a0_22] = some y246 := hp247
  obtain ⟨n249, y250, hp251, hb252⟩ := trod_field (i := 1) (off := 1) (ty := 23) Tryz.underlying28 hp79 (by rfl) (sz := 2) (by kernel_rfl)
  replace hp251 : DataW.trod enc Tryz.prog W 0 (fun _ => true) true n249 23 [a0_23, a0_24] = some y250 := hp251
  obtain ⟨n253, y254, hp255, hb256⟩ := trod_field (i := 2) (off := 3) (ty := 24) Tryz.underlying28 hp79 (by rfl) (sz := 1) (by kernel_rfl)
  replace hp255 : DataW.trod enc Tryz.prog W 0 (fun _ => true) true n253 24 [a0_25] = some y254 := hp255
  obtain ⟨n257, y258, hp259, hb260⟩ := trod_field (i := 3) (off := 4) (ty := 25) Tryz.underlying28 hp79 (by rfl) (sz := 1) (by kernel_rfl)
  replace hp259 : DataW.trod enc Tryz.prog W 0 (fun _ => true) true n257 25 [a0_26] = some y258 := hp259
  obtain ⟨n261, y262, hp263, hb264⟩ := trod_field (i := 4) (off := 5) (ty := 26) Tryz.underlying28 hp79 (by rfl) (sz := 1) (by kernel_rfl)
  replace hp263 : DataW.trod enc Tryz.prog W 0 (fun _ => true) true n261 26 [a0_27] = some y262 := hp263
  obtain ⟨z265, hc266, hy267, wz268⟩ := DataW.trod_int Tryz.underlying3 hp247
  replace wz268 := wf_i64 wz268
  obtain rfl : a0_22 = .int .i64 z265 := by simpa using hc266
  obtain ⟨n269, y270, hp271, hb272⟩ := trod_field (i := 0) (off := 0) (ty := 3) Tryz.underlying23 hp251 (by rfl) (sz := 1) (by kernel_rfl)
  replace hp271 : DataW.trod enc Tryz.prog W 0 (fun _ => true) true n269 3 [a0_23] = some y270 := hp271
  obtain ⟨n273, y274, hp275, hb276⟩ := trod_field (i := 1) (off := 1) (ty := 3) Tryz.underlying23 hp251 (by rfl) (sz := 1) (by kernel_rfl)
  replace hp275 : DataW.trod enc Tryz.prog W 0 (fun _ => true) true n273 3 [a0_24] = some y274 := hp275
  obtain ⟨z277, hc278, hy279, wz280⟩ := DataW.trod_int Tryz.underlying3 hp271
  replace wz280 := wf_i64 wz280
  obtain rfl : a0_23 = .int .i64 z277 := by simpa using hc278
  obtain ⟨z281, hc282, hy283, wz284⟩ := DataW.trod_int Tryz.underlying3 hp275
  replace wz284 := wf_i64 wz284
  obtain rfl : a0_24 = .int .i64 z281 := by simpa using hc282
  obtain ⟨o285, n289, c286, rows290, hc291, hn292, hle293, hl294, he295, hr296, ho297, hb298⟩ := open_rows (sz := 7) Tryz.underlying24 (by kernel_rfl) (by omega) hp255
  replace hl294 : n289 ≤ 9223372036854775807 := by omega
  obtain ⟨l287, rfl, hq299⟩ := rows_dec S_api_Entry.row _ (fun r hr => by obtain ⟨n, y, hy⟩ := hr296 r hr; exact open_S_api_Entry hy)
  obtain rfl : l287.length = n289 := by simpa using hn292
  replace he295 : (Ent.rd o285 7 (List.map S_api_Entry.row l287)).ok W := he295
  obtain rfl : a0_25 = .slice o285 l287.length c286 := by simpa using hc291
  obtain ⟨o301, n305, c302, rows306, hc307, hn308, hle309, hl310, he311, hr312, ho313, hb314⟩ := open_rows (sz := 5) Tryz.underlying25 (by kernel_rfl) (by omega) hp259
  replace hl310 : n305 ≤ 9223372036854775807 := by omega
  obtain ⟨l303, rfl, hq315⟩ := rows_dec S_api_Last.row _ (fun r hr => by obtain ⟨n, y, hy⟩ := hr312 r hr; exact open_S_api_Last hy)
  obtain rfl : l303.length = n305 := by simpa using hn308
  replace he311 : (Ent.rd o301 5 (List.map S_api_Last.row l303)).ok W := he311
  obtain rfl : a0_26 = .slice o301 l303.length c302 := by simpa using hc307
  obtain ⟨o317, n321, c318, rows322, hc323, hn324, hle325, hl326, he327, hr328, ho329, hb330⟩ := open_rows (sz := 4) Tryz.underlying26 (by kernel_rfl) (by omega) hp263
  replace hl326 : n321 ≤ 9223372036854775807 := by omega
  obtain ⟨l319, rfl, hq331⟩ := rows_dec S_api_Item.row _ (fun r hr => by obtain ⟨n, y, hy⟩ := hr328 r hr; exact open_S_api_Item hy)
  obtain rfl : l319.length = n321 := by simpa using hn324
  replace he327 : (Ent.rd o317 4 (List.map S_api_Item.row l319)).ok W := he327
  obtain rfl : a0_27 = .slice o317 l319.length c318 := by simpa using hc323
  obtain ⟨n333, y334, hp335, hb336⟩ := trod_field (i := 0) (off := 0) (ty := 23) Tryz.underlying31 hp83 (by rfl) (sz := 2) (by kernel_rfl)
  replace hp335 : DataW.trod enc Tryz.prog W 0 (fun _ => true) true n333 23 [a0_28, a0_29] = some y334 := hp335
  obtain ⟨n337, y338, hp339, hb340⟩ := trod_field (i := 1) (off := 2) (ty := 4) Tryz.underlying31 hp83 (by rfl) (sz := 1) (by kernel_rfl)
  replace hp339 : DataW.trod enc Tryz.prog W 0 (fun _ => true) true n337 4 [a0_30] = some y338 := hp339
  obtain ⟨n341, y342, hp343, hb344⟩ := trod_field (i := 2) (off := 3) (ty := 29) Tryz.underlying31 hp83 (by rfl) (sz := 1) (by kernel_rfl)
  replace hp343 : DataW.trod enc Tryz.prog W 0 (fun _ => true) true n341 29 [a0_31] = some y342 := hp343
  obtain ⟨n345, y346, hp347, hb348⟩ := trod_field (i := 3) (off := 4) (ty := 9) Tryz.underlying31 hp83 (by rfl) (sz := 1) (by kernel_rfl)
  replace hp347 : DataW.trod enc Tryz.prog W 0 (fun _ => true) true n345 9 [a0_32] = some y346 := hp347
  obtain ⟨n349, y350, hp351, hb352⟩ := trod_field (i := 4) (off := 5) (ty := 3) Tryz.underlying31 hp83 (by rfl) (sz := 1) (by kernel_rfl)
  replace hp351 : DataW.trod enc Tryz.prog W 0 (fun _ => true) true n349 3 [a0_33] = some y350 := hp351
  obtain ⟨n353, y354, hp355, hb356⟩ := trod_field (i := 5) (off := 6) (ty := 3) Tryz.underlying31 hp83 (by rfl) (sz := 1) (by kernel_rfl)
  replace hp355 : DataW.trod enc Tryz.prog W 0 (fun _ => true) true n353 3 [a0_34] = some y354 := hp355
  obtain ⟨n357, y358, hp359, hb360⟩ := trod_field (i := 0) (off := 0) (ty := 3) Tryz.underlying23 hp335 (by rfl) (sz := 1) (by kernel_rfl)
  replace hp359 : DataW.trod enc Tryz.prog W 0 (fun _ => true) true n357 3 [a0_28] = some y358 := hp359
  obtain ⟨n361, y362, hp363, hb364⟩ := trod_field (i := 1) (off := 1) (ty := 3) Tryz.underlying23 hp335 (by rfl) (sz := 1) (by kernel_rfl)
  replace hp363 : DataW.trod enc Tryz.prog W 0 (fun _ => true) true n361 3 [a0_29] = some y362 := hp363
  obtain ⟨z365, hc366, hy367, wz368⟩ := DataW.trod_int Tryz.underlying3 hp359
  replace wz368 := wf_i64 wz368
  obtain rfl : a0_28 = .int .i64 z365 := by simpa using hc366
  obtain ⟨z369, hc370, hy371, wz372⟩ := DataW.trod_int Tryz.underlying3 hp363
  replace wz372 := wf_i64 wz372
  obtain rfl : a0_29 = .int .i64 z369 := by simpa using hc370
  obtain ⟨z373, hc374, hy375⟩ := DataW.trod_bool Tryz.underlying4 hp339
  obtain rfl : a0_30 = .bool z373 := by simpa using hc374
  obtain ⟨z376, hc377, hy378, wz379⟩ := DataW.trod_int Tryz.underlying29 hp343
  replace wz379 := wf_i64 wz379
  obtain rfl : a0_31 = .int .i64 z376 := by simpa using hc377
  obtain ⟨z380, hc381, hy382, wz383⟩ := DataW.trod_string Tryz.underlying9 hp347
  obtain rfl : a0_32 = .string z380 := by simpa using hc381
  obtain ⟨z384, hc385, hy386, wz387⟩ := DataW.trod_int Tryz.underlying3 hp351
  replace wz387 := wf_i64 wz387
  obtain rfl : a0_33 = .int .i64 z384 := by simpa using hc385
  obtain ⟨z388, hc389, hy390, wz391⟩ := DataW.trod_int Tryz.underlying3 hp355
  replace wz391 := wf_i64 wz391
  obtain rfl : a0_34 = .int .i64 z388 := by simpa using hc389
  obtain ⟨n392, y393, hp394, hb395⟩ := trod_field (i := 0) (off := 0) (ty := 9) Tryz.underlying62 hp87 (by rfl) (sz := 1) (by kernel_rfl)
  replace hp394 : DataW.trod enc Tryz.prog W 0 (fun _ => true) true n392 9 [a0_35] = some y393 := hp394
  obtain ⟨n396, y397, hp398, hb399⟩ := trod_field (i := 1) (off := 1) (ty := 23) Tryz.underlying62 hp87 (by rfl) (sz := 2) (by kernel_rfl)
  replace hp398 : DataW.trod enc Tryz.prog W 0 (fun _ => true) true n396 23 [a0_36, a0_37] = some y397 := hp398
  obtain ⟨n400, y401, hp402, hb403⟩ := trod_field (i := 2) (off := 3) (ty := 32) Tryz.underlying62 hp87 (by rfl) (sz := 1) (by kernel_rfl)
  replace hp402 : DataW.trod enc Tryz.prog W 0 (fun _ => true) true n400 32 [a0_38] = some y401 := hp402
  obtain ⟨z404, hc405, hy406, wz407⟩ := DataW.trod_string Tryz.underlying9 hp394
  obtain rfl : a0_35 = .string z404 := by simpa using hc405
  obtain ⟨n408, y409, hp410, hb411⟩ := trod_field (i := 0) (off := 0) (ty := 3) Tryz.underlying23 hp398 (by rfl) (sz := 1) (by kernel_rfl)
  replace hp410 : DataW.trod enc Tryz.prog W 0 (fun _ => true) true n408 3 [a0_36] = some y409 := hp410
  obtain ⟨n412, y413, hp414, hb415⟩ := trod_field (i := 1) (off := 1) (ty := 3) Tryz.underlying23 hp398 (by rfl) (sz := 1) (by kernel_rfl)
  replace hp414 : DataW.trod enc Tryz.prog W 0 (fun _ => true) true n412 3 [a0_37] = some y413 := hp414
  obtain ⟨z416, hc417, hy418, wz419⟩ := DataW.trod_int Tryz.underlying3 hp410
  replace wz419 := wf_i64 wz419
  obtain rfl : a0_36 = .int .i64 z416 := by simpa using hc417
  obtain ⟨z420, hc421, hy422, wz423⟩ := DataW.trod_int Tryz.underlying3 hp414
  replace wz423 := wf_i64 wz423
  obtain rfl : a0_37 = .int .i64 z420 := by simpa using hc421
  obtain ⟨o424, n428, c425, rows429, hc430, hn431, hle432, hl433, he434, hr435, ho436, hb437⟩ := open_rows (sz := 1) Tryz.underlying32 (by kernel_rfl) (by omega) hp402
  replace hl433 : n428 ≤ 9223372036854775807 := by omega
  obtain ⟨l426, rfl, hq438⟩ := rows_dec rB _ (fun r hr => by obtain ⟨n, y, hy⟩ := hr435 r hr; exact open_u8 Tryz.underlying5 hy)
  obtain rfl : l426.length = n428 := by simpa using hn431
  replace he434 : (Ent.rd o424 1 (List.map rB l426)).ok W := he434
  obtain rfl : a0_38 = .slice o424 l426.length c425 := by simpa using hc430
  obtain ⟨n440, y441, hp442, hb443⟩ := trod_field (i := 0) (off := 0) (ty := 3) Tryz.underlying34 hp91 (by rfl) (sz := 1) (by kernel_rfl)
  replace hp442 : DataW.trod enc Tryz.prog W 0 (fun _ => true) true n440 3 [a0_39] = some y441 := hp442
  obtain ⟨n444, y445, hp446, hb447⟩ := trod_field (i := 1) (off := 1) (ty := 9) Tryz.underlying34 hp91 (by rfl) (sz := 1) (by kernel_rfl)
  replace hp446 : DataW.trod enc Tryz.prog W 0 (fun _ => true) true n444 9 [a0_40] = some y445 := hp446
  obtain ⟨n448, y449, hp450, hb451⟩ := trod_field (i := 2) (off := 2) (ty := 32) Tryz.underlying34 hp91 (by rfl) (sz := 1) (by kernel_rfl)
  replace hp450 : DataW.trod enc Tryz.prog W 0 (fun _ => true) true n448 32 [a0_41] = some y449 := hp450
  obtain ⟨n452, y453, hp454, hb455⟩ := trod_field (i := 3) (off := 3) (ty := 23) Tryz.underlying34 hp91 (by rfl) (sz := 2) (by kernel_rfl)
  replace hp454 : DataW.trod enc Tryz.prog W 0 (fun _ => true) true n452 23 [a0_42, a0_43] = some y453 := hp454
  obtain ⟨z456, hc457, hy458, wz459⟩ := DataW.trod_int Tryz.underlying3 hp442
  replace wz459 := wf_i64 wz459
  obtain rfl : a0_39 = .int .i64 z456 := by simpa using hc457
  obtain ⟨z460, hc461, hy462, wz463⟩ := DataW.trod_string Tryz.underlying9 hp446
  obtain rfl : a0_40 = .string z460 := by simpa using hc461
  obtain ⟨o464, n468, c465, rows469, hc470, hn471, hle472, hl473, he474, hr475, ho476, hb477⟩ := open_rows (sz := 1) Tryz.underlying32 (by kernel_rfl) (by omega) hp450
  replace hl473 : n468 ≤ 9223372036854775807 := by omega
  obtain ⟨l466, rfl, hq478⟩ := rows_dec rB _ (fun r hr => by obtain ⟨n, y, hy⟩ := hr475 r hr; exact open_u8 Tryz.underlying5 hy)
  obtain rfl : l466.length = n468 := by simpa using hn471
  replace he474 : (Ent.rd o464 1 (List.map rB l466)).ok W := he474
  obtain rfl : a0_41 = .slice o464 l466.length c465 := by simpa using hc470
  obtain ⟨n480, y481, hp482, hb483⟩ := trod_field (i := 0) (off := 0) (ty := 3) Tryz.underlying23 hp454 (by rfl) (sz := 1) (by kernel_rfl)
  replace hp482 : DataW.trod enc Tryz.prog W 0 (fun _ => true) true n480 3 [a0_42] = some y481 := hp482
  obtain ⟨n484, y485, hp486, hb487⟩ := trod_field (i := 1) (off := 1) (ty := 3) Tryz.underlying23 hp454 (by rfl) (sz := 1) (by kernel_rfl)
  replace hp486 : DataW.trod enc Tryz.prog W 0 (fun _ => true) true n484 3 [a0_43] = some y485 := hp486
  obtain ⟨z488, hc489, hy490, wz491⟩ := DataW.trod_int Tryz.underlying3 hp482
  replace wz491 := wf_i64 wz491
  obtain rfl : a0_42 = .int .i64 z488 := by simpa using hc489
  obtain ⟨z492, hc493, hy494, wz495⟩ := DataW.trod_int Tryz.underlying3 hp486
  replace wz495 := wf_i64 wz495
  obtain rfl : a0_43 = .int .i64 z492 := by simpa using hc493
  obtain ⟨o496, n500, c497, rows501, hc502, hn503, hle504, hl505, he506, hr507, ho508, hb509⟩ := open_rows (sz := 4) Tryz.underlying26 (by kernel_rfl) (by omega) hp95
  replace hl505 : n500 ≤ 9223372036854775807 := by omega
  obtain ⟨l498, rfl, hq510⟩ := rows_dec S_api_Item.row _ (fun r hr => by obtain ⟨n, y, hy⟩ := hr507 r hr; exact open_S_api_Item hy)
  obtain rfl : l498.length = n500 := by simpa using hn503
  replace he506 : (Ent.rd o496 4 (List.map S_api_Item.row l498)).ok W := he506
  obtain rfl : a0_44 = .slice o496 l498.length c497 := by simpa using hc502
  obtain ⟨o512, n516, c513, rows517, hc518, hn519, hle520, hl521, he522, hr523, ho524, hb525⟩ := open_rows (sz := 1) Tryz.underlying63 (by kernel_rfl) (by omega) hp99
  replace hl521 : n516 ≤ 9223372036854775807 := by omega
  obtain ⟨l514, rfl, hq526⟩ := rows_dec rS _ (fun r hr => by obtain ⟨n, y, hy⟩ := hr523 r hr; exact open_str Tryz.underlying9 hy)
  obtain rfl : l514.length = n516 := by simpa using hn519
  replace he522 : (Ent.rd o512 1 (List.map rS l514)).ok W := he522
  obtain rfl : a0_45 = .slice o512 l514.length c513 := by simpa using hc518
  obtain ⟨z528, hc529, hy530, wz531⟩ := DataW.trod_int Tryz.underlying29 hp103
  replace wz531 := wf_i64 wz531
  obtain rfl : a0_46 = .int .i64 z528 := by simpa using hc529
  obtain ⟨n532, y533, hp534, hb535⟩ := trod_field (i := 0) (off := 0) (ty := 9) Tryz.underlying62 hp11 (by rfl) (sz := 1) (by kernel_rfl)
  replace hp534 : DataW.trod enc Tryz.prog W 0 (fun _ => true) true n532 9 [a0_47] = some y533 := hp534
  obtain ⟨n536, y537, hp538, hb539⟩ := trod_field (i := 1) (off := 1) (ty := 23) Tryz.underlying62 hp11 (by rfl) (sz := 2) (by kernel_rfl)
  replace hp538 : DataW.trod enc Tryz.prog W 0 (fun _ => true) true n536 23 [a0_48, a0_49] = some y537 := hp538
  obtain ⟨n540, y541, hp542, hb543⟩ := trod_field (i := 2) (off := 3) (ty := 32) Tryz.underlying62 hp11 (by rfl) (sz := 1) (by kernel_rfl)
  replace hp542 : DataW.trod enc Tryz.prog W 0 (fun _ => true) true n540 32 [a0_50] = some y541 := hp542
  obtain ⟨z544, hc545, hy546, wz547⟩ := DataW.trod_string Tryz.underlying9 hp534
  obtain rfl : a0_47 = .string z544 := by simpa using hc545
  obtain ⟨n548, y549, hp550, hb551⟩ := trod_field (i := 0) (off := 0) (ty := 3) Tryz.underlying23 hp538 (by rfl) (sz := 1) (by kernel_rfl)
  replace hp550 : DataW.trod enc Tryz.prog W 0 (fun _ => true) true n548 3 [a0_48] = some y549 := hp550
  obtain ⟨n552, y553, hp554, hb555⟩ := trod_field (i := 1) (off := 1) (ty := 3) Tryz.underlying23 hp538 (by rfl) (sz := 1) (by kernel_rfl)
  replace hp554 : DataW.trod enc Tryz.prog W 0 (fun _ => true) true n552 3 [a0_49] = some y553 := hp554
  obtain ⟨z556, hc557, hy558, wz559⟩ := DataW.trod_int Tryz.underlying3 hp550
  replace wz559 := wf_i64 wz559
  obtain rfl : a0_48 = .int .i64 z556 := by simpa using hc557
  obtain ⟨z560, hc561, hy562, wz563⟩ := DataW.trod_int Tryz.underlying3 hp554
  replace wz563 := wf_i64 wz563
  obtain rfl : a0_49 = .int .i64 z560 := by simpa using hc561
  obtain ⟨o564, n568, c565, rows569, hc570, hn571, hle572, hl573, he574, hr575, ho576, hb577⟩ := open_rows (sz := 1) Tryz.underlying32 (by kernel_rfl) (by omega) hp542
  replace hl573 : n568 ≤ 9223372036854775807 := by omega
  obtain ⟨l566, rfl, hq578⟩ := rows_dec rB _ (fun r hr => by obtain ⟨n, y, hy⟩ := hr575 r hr; exact open_u8 Tryz.underlying5 hy)
  obtain rfl : l566.length = n568 := by simpa using hn571
  replace he574 : (Ent.rd o564 1 (List.map rB l566)).ok W := he574
  obtain rfl : a0_50 = .slice o564 l566.length c565 := by simpa using hc570
  obtain ⟨z580, hc581, hy582, wz583⟩ := DataW.trod_int Tryz.underlying29 hp15
  replace wz583 := wf_i64 wz583
  obtain rfl : a0_51 = .int .i64 z580 := by simpa using hc581
  obtain ⟨z584, hc585, hy586⟩ := DataW.trod_bool Tryz.underlying4 hp19
  obtain rfl : a0_52 = .bool z584 := by simpa using hc585
  clear hA0
  simp only [List.append_nil] at hW'
  refine (CallG.law (w_tholelaw18_PrimaryNone 64 z21 z105 (S_api_Node.mk z117 z121) (S_api_Node.mk z133 z137) z141 z145 (S_api_Pg.mk z157 z161) z165 z169 z173 o177 n179 c178 o181 n183 c182 o185 n187 c186 (S_api_Info.mk z205 (S_api_Version.mk z217 z221) (S_api_Version.mk z233 z237) z241) z265 (S_api_Version.mk z277 z281) o285 c286 l287 o301 c302 l303 o317 c318 l319 (S_api_Entry.mk (S_api_Version.mk z365 z369) z373 z376 z380 z384 z388) z404 (S_api_Version.mk z416 z420) o424 c425 l426 z456 z460 o464 c465 l466 (S_api_Version.mk z488 z492) o496 c497 l498 o512 c513 l514 z528 z544 (S_api_Version.mk z556 z560) o564 c565 l566 z580 z584  (law_none)) W ⟨he295, he311, he327, he434, he474, he506, he522, he574, trivial⟩).mono fun e W' ⟨he, hkeep⟩ => ?_
  subst he
  have bel := hkeep.below
  exact ⟨_, rfl, _, _, _, [], _, [], hW', trodAll_mk1 (shut_bool Tryz.underlying4 _), (trodAll_cons_mk (Below.trod laidOut (by kernel_rfl) (of_decide_eq_true (by kernel_rfl)) k0 bel lt0) trodAll_mk0), rfl, bel.frame _, fun h => by cases h⟩

theorem lifted (os : Os) (started : os.Started) (H : Type) (enc : TypeId × Value → H) :
    ReturnsInHanded {} Tryz.checked os 5 .any (Rows.primaryNoneSpec.pre6 enc Tryz.prog Tryz.f5 Rows.primaryNoneRow.domain false) (Rows.primaryNoneSpec.post enc Tryz.prog Tryz.f5 false true false false) := by
  refine returnsInHanded_of_change (C := Tryz.checked) own started (by kernel_rfl) Tryz.func5
    (ChangeSpec.witness6 (enc := enc) (C := Tryz.checked) false ⟨#[], #[.agg #[.int .i64 0, .int .i64 0, .int .i64 0, .int .i64 0, .int .i64 0, .int .i64 0, .int .i64 0, .int .i64 0, .int .i64 0, .int .i64 0, .int .i64 0, .int .i64 0, .int .i64 0, .slice none 0 0, .slice none 0 0, .slice none 0 0, .int .i64 0, .int .i64 0, .int .i64 0, .int .i64 0, .int .i64 0, .int .i64 0, .int .i64 0, .int .i64 0, .int .i64 0, .slice none 0 0, .slice none 0 0, .slice none 0 0, .int .i64 0, .int .i64 0, .bool false, .int .i64 0, .string (ByteArray.mk #[]), .int .i64 0, .int .i64 0, .string (ByteArray.mk #[]), .int .i64 0, .int .i64 0, .slice none 0 0, .int .i64 0, .string (ByteArray.mk #[]), .slice none 0 0, .int .i64 0, .int .i64 0, .slice none 0 0, .slice none 0 0, .int .i64 0, .string (ByteArray.mk #[]), .int .i64 0, .int .i64 0, .slice none 0 0, .int .i64 0, .bool false]], []⟩ 8 (by kernel_rfl) (by kernel_rfl) (by kernel_rfl) (by kernel_rfl)) ?_
  intro W base args ds gs before hval hW hcnd _
  exact contract H enc W base args ds gs before hval hW

/-- THE STATEMENT -/
theorem proved : Rows.PrimaryNoneSaid :=
  OpenClaim.holds_of_wide 5 Tryz.f5 rfl rfl rfl rfl rfl rfl rfl ⟨rfl, rfl, rfl, rfl, rfl⟩ rfl rfl rfl rfl rfl (by kernel_rfl) Tryz.func5 (by kernel_rfl)
    (of_decide_eq_true (by kernel_rfl)) (by unfold Func.isWrapper; first | (rw [if_pos (by decide +kernel)]; kernel_rfl) | (rw [if_neg (by decide +kernel)]; exact ⟨rfl, rfl⟩))
    (fun os started H enc _ => lifted os started H enc)
end Go.Proofs.YtjnbkhnebmlilaaGreat.primaryNone
