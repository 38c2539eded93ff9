/-
  THE LAW AuthorityOrders: for every input of the given program's function it returns true, and the input reads behind the call as it read before. Proved in the first form, without any condition.
-/
import Derived.Test.YthaokdobgmbeeaaRows
import Derived.JoinedCond
import Derived.Test.YthaokdobgmbeeaaSxh
import Derived.Test.YthaokdobgmbeeaaW16d
import Derived.Test.YthaokdobgmbeeaaOinf
set_option linter.unusedVariables false
set_option linter.unusedSimpArgs false
set_option maxRecDepth 100000
namespace Go.Proofs.Ythaokdobgmbeeaa.authorityOrders
open Go.ChangeShapes Go.WideShapes Go.ChangeAt Go.RowKit Sx

theorem own : ownKnob Try.prog.godebug = none := by kernel_rfl
theorem laidOut : laidOutB Try.prog = true := by kernel_rfl

theorem contract (H : Type) (enc : TypeId × Value → H) (W : World) (base : Nat) (args : Array Value) (ds gs : List (DataW H)) (before : List MemPlace)
    (hval : ∀ (j : Nat) t v, Try.f4.params[j]? = some t → args[j]? = some v → Value.okWide Try.prog W .any base t v)
    (hW : DataW.Whole enc Try.prog Try.f4.params.toList Rows.authorityOrdersSpec.vars false W args.toList ds gs before) :
    Calls Try.prog 4 args W fun e W' => ∃ v, e = .returned v ∧ Rows.authorityOrdersSpec.post enc Try.prog Try.f4 false true false false W args v W' := by
  have hW' := hW
  obtain ⟨p, q, hA0, hV, rfl, hfz, hnd⟩ := hW
  have hA : DataW.TrodAll enc Try.prog W 0 (fun _ => true) true Try.f4.params.toList args.toList ds p := hA0
  rw [Try.params4] at hA hval
  obtain ⟨v0, vs0, d0, ds0, p0, q0, hargs, rfl, rfl, h0, r0⟩ := trodAll_cons hA
  obtain ⟨v1, vs1, d1, ds1, p1, q1, rfl, rfl, rfl, h1, r1⟩ := trodAll_cons r0
  obtain ⟨v2, vs2, d2, ds2, p2, q2, rfl, rfl, rfl, h2, r2⟩ := trodAll_cons r1
  obtain ⟨rfl, rfl, rfl⟩ := trodAll_nil r2
  obtain rfl : args = #[v0, v1, v2] := by cases args; simp_all
  obtain ⟨rfl, rfl⟩ := trodVars_none hV
  have k0 := h0
  have lt0 : ∀ x ∈ p0, x.block < W.heap.size := by obtain ⟨m, hm⟩ := k0; exact DataW.trod_lt m _ _ _ hm
  obtain ⟨a0, rfl, a0s⟩ := okWide_struct Try.underlying34 (hval 0 34 v0 rfl rfl)
  obtain ⟨fu0, hf0⟩ := h0
  rw [show Try.prog.cellsOf 34 = 6 by kernel_rfl] at a0s
  obtain ⟨a0l, rfl, a0s⟩ := arr_list a0s
  obtain ⟨a0_0, a0l0, rfl⟩ : ∃ c l, a0l = c :: l := by cases a0l with | nil => simp at a0s | cons c l => exact ⟨c, l, rfl⟩
  obtain ⟨a0_1, a0l1, rfl⟩ : ∃ c l, a0l0 = c :: l := by cases a0l0 with | nil => simp at a0s | cons c l => exact ⟨c, l, rfl⟩
  obtain ⟨a0_2, a0l2, rfl⟩ : ∃ c l, a0l1 = c :: l := by cases a0l1 with | nil => simp at a0s | cons c l => exact ⟨c, l, rfl⟩
  obtain ⟨a0_3, a0l3, rfl⟩ : ∃ c l, a0l2 = c :: l := by cases a0l2 with | nil => simp at a0s | cons c l => exact ⟨c, l, rfl⟩
  obtain ⟨a0_4, a0l4, rfl⟩ : ∃ c l, a0l3 = c :: l := by cases a0l3 with | nil => simp at a0s | cons c l => exact ⟨c, l, rfl⟩
  obtain ⟨a0_5, a0l5, rfl⟩ : ∃ c l, a0l4 = c :: l := by cases a0l4 with | nil => simp at a0s | cons c l => exact ⟨c, l, rfl⟩
  obtain rfl : a0l5 = [] := by simpa using a0s
  replace hf0 : DataW.trod enc Try.prog W 0 (fun _ => true) true fu0 34 [a0_0, a0_1, a0_2, a0_3, a0_4, a0_5] = some (d0, p0) := hf0
  obtain ⟨n1, y2, hp3, hb4⟩ := trod_field (i := 0) (off := 0) (ty := 3) Try.underlying34 hf0 (by rfl) (sz := 1) (by kernel_rfl)
  replace hp3 : DataW.trod enc Try.prog W 0 (fun _ => true) true n1 3 [a0_0] = some y2 := hp3
  obtain ⟨n5, y6, hp7, hb8⟩ := trod_field (i := 1) (off := 1) (ty := 32) Try.underlying34 hf0 (by rfl) (sz := 2) (by kernel_rfl)
  replace hp7 : DataW.trod enc Try.prog W 0 (fun _ => true) true n5 32 [a0_1, a0_2] = some y6 := hp7
  obtain ⟨n9, y10, hp11, hb12⟩ := trod_field (i := 2) (off := 3) (ty := 32) Try.underlying34 hf0 (by rfl) (sz := 2) (by kernel_rfl)
  replace hp11 : DataW.trod enc Try.prog W 0 (fun _ => true) true n9 32 [a0_3, a0_4] = some y10 := hp11
  obtain ⟨n13, y14, hp15, hb16⟩ := trod_field (i := 3) (off := 5) (ty := 3) Try.underlying34 hf0 (by rfl) (sz := 1) (by kernel_rfl)
  replace hp15 : DataW.trod enc Try.prog W 0 (fun _ => true) true n13 3 [a0_5] = some y14 := hp15
  obtain ⟨z17, hc18, hy19, wz20⟩ := DataW.trod_int Try.underlying3 hp3
  replace wz20 := wf_i64 wz20
  obtain rfl : a0_0 = .int .i64 z17 := by simpa using hc18
  obtain ⟨n21, y22, hp23, hb24⟩ := trod_field (i := 0) (off := 0) (ty := 3) Try.underlying32 hp7 (by rfl) (sz := 1) (by kernel_rfl)
  replace hp23 : DataW.trod enc Try.prog W 0 (fun _ => true) true n21 3 [a0_1] = some y22 := hp23
  obtain ⟨n25, y26, hp27, hb28⟩ := trod_field (i := 1) (off := 1) (ty := 3) Try.underlying32 hp7 (by rfl) (sz := 1) (by kernel_rfl)
  replace hp27 : DataW.trod enc Try.prog W 0 (fun _ => true) true n25 3 [a0_2] = some y26 := hp27
  obtain ⟨z29, hc30, hy31, wz32⟩ := DataW.trod_int Try.underlying3 hp23
  replace wz32 := wf_i64 wz32
  obtain rfl : a0_1 = .int .i64 z29 := by simpa using hc30
  obtain ⟨z33, hc34, hy35, wz36⟩ := DataW.trod_int Try.underlying3 hp27
  replace wz36 := wf_i64 wz36
  obtain rfl : a0_2 = .int .i64 z33 := by simpa using hc34
  obtain ⟨n37, y38, hp39, hb40⟩ := trod_field (i := 0) (off := 0) (ty := 3) Try.underlying32 hp11 (by rfl) (sz := 1) (by kernel_rfl)
  replace hp39 : DataW.trod enc Try.prog W 0 (fun _ => true) true n37 3 [a0_3] = some y38 := hp39
  obtain ⟨n41, y42, hp43, hb44⟩ := trod_field (i := 1) (off := 1) (ty := 3) Try.underlying32 hp11 (by rfl) (sz := 1) (by kernel_rfl)
  replace hp43 : DataW.trod enc Try.prog W 0 (fun _ => true) true n41 3 [a0_4] = some y42 := hp43
  obtain ⟨z45, hc46, hy47, wz48⟩ := DataW.trod_int Try.underlying3 hp39
  replace wz48 := wf_i64 wz48
  obtain rfl : a0_3 = .int .i64 z45 := by simpa using hc46
  obtain ⟨z49, hc50, hy51, wz52⟩ := DataW.trod_int Try.underlying3 hp43
  replace wz52 := wf_i64 wz52
  obtain rfl : a0_4 = .int .i64 z49 := by simpa using hc50
  obtain ⟨z53, hc54, hy55, wz56⟩ := DataW.trod_int Try.underlying3 hp15
  replace wz56 := wf_i64 wz56
  obtain rfl : a0_5 = .int .i64 z53 := by simpa using hc54
  have k1 := h1
  have lt1 : ∀ x ∈ p1, x.block < W.heap.size := by obtain ⟨m, hm⟩ := k1; exact DataW.trod_lt m _ _ _ hm
  obtain ⟨a1, rfl, a1s⟩ := okWide_struct Try.underlying34 (hval 1 34 v1 rfl rfl)
  obtain ⟨fu1, hf1⟩ := h1
  rw [show Try.prog.cellsOf 34 = 6 by kernel_rfl] at a1s
  obtain ⟨a1l, rfl, a1s⟩ := arr_list a1s
  obtain ⟨a1_0, a1l0, rfl⟩ : ∃ c l, a1l = c :: l := by cases a1l with | nil => simp at a1s | cons c l => exact ⟨c, l, rfl⟩
  obtain ⟨a1_1, a1l1, rfl⟩ : ∃ c l, a1l0 = c :: l := by cases a1l0 with | nil => simp at a1s | cons c l => exact ⟨c, l, rfl⟩
  obtain ⟨a1_2, a1l2, rfl⟩ : ∃ c l, a1l1 = c :: l := by cases a1l1 with | nil => simp at a1s | cons c l => exact ⟨c, l, rfl⟩
  obtain ⟨a1_3, a1l3, rfl⟩ : ∃ c l, a1l2 = c :: l := by cases a1l2 with | nil => simp at a1s | cons c l => exact ⟨c, l, rfl⟩
  obtain ⟨a1_4, a1l4, rfl⟩ : ∃ c l, a1l3 = c :: l := by cases a1l3 with | nil => simp at a1s | cons c l => exact ⟨c, l, rfl⟩
  obtain ⟨a1_5, a1l5, rfl⟩ : ∃ c l, a1l4 = c :: l := by cases a1l4 with | nil => simp at a1s | cons c l => exact ⟨c, l, rfl⟩
  obtain rfl : a1l5 = [] := by simpa using a1s
  replace hf1 : DataW.trod enc Try.prog W 0 (fun _ => true) true fu1 34 [a1_0, a1_1, a1_2, a1_3, a1_4, a1_5] = some (d1, p1) := hf1
  obtain ⟨n57, y58, hp59, hb60⟩ := trod_field (i := 0) (off := 0) (ty := 3) Try.underlying34 hf1 (by rfl) (sz := 1) (by kernel_rfl)
  replace hp59 : DataW.trod enc Try.prog W 0 (fun _ => true) true n57 3 [a1_0] = some y58 := hp59
  obtain ⟨n61, y62, hp63, hb64⟩ := trod_field (i := 1) (off := 1) (ty := 32) Try.underlying34 hf1 (by rfl) (sz := 2) (by kernel_rfl)
  replace hp63 : DataW.trod enc Try.prog W 0 (fun _ => true) true n61 32 [a1_1, a1_2] = some y62 := hp63
  obtain ⟨n65, y66, hp67, hb68⟩ := trod_field (i := 2) (off := 3) (ty := 32) Try.underlying34 hf1 (by rfl) (sz := 2) (by kernel_rfl)
  replace hp67 : DataW.trod enc Try.prog W 0 (fun _ => true) true n65 32 [a1_3, a1_4] = some y66 := hp67
  obtain ⟨n69, y70, hp71, hb72⟩ := trod_field (i := 3) (off := 5) (ty := 3) Try.underlying34 hf1 (by rfl) (sz := 1) (by kernel_rfl)
  replace hp71 : DataW.trod enc Try.prog W 0 (fun _ => true) true n69 3 [a1_5] = some y70 := hp71
  obtain ⟨z73, hc74, hy75, wz76⟩ := DataW.trod_int Try.underlying3 hp59
  replace wz76 := wf_i64 wz76
  obtain rfl : a1_0 = .int .i64 z73 := by simpa using hc74
  obtain ⟨n77, y78, hp79, hb80⟩ := trod_field (i := 0) (off := 0) (ty := 3) Try.underlying32 hp63 (by rfl) (sz := 1) (by kernel_rfl)
  replace hp79 : DataW.trod enc Try.prog W 0 (fun _ => true) true n77 3 [a1_1] = some y78 := hp79
  obtain ⟨n81, y82, hp83, hb84⟩ := trod_field (i := 1) (off := 1) (ty := 3) Try.underlying32 hp63 (by rfl) (sz := 1) (by kernel_rfl)
  replace hp83 : DataW.trod enc Try.prog W 0 (fun _ => true) true n81 3 [a1_2] = some y82 := hp83
  obtain ⟨z85, hc86, hy87, wz88⟩ := DataW.trod_int Try.underlying3 hp79
  replace wz88 := wf_i64 wz88
  obtain rfl : a1_1 = .int .i64 z85 := by simpa using hc86
  obtain ⟨z89, hc90, hy91, wz92⟩ := DataW.trod_int Try.underlying3 hp83
  replace wz92 := wf_i64 wz92
  obtain rfl : a1_2 = .int .i64 z89 := by simpa using hc90
  obtain ⟨n93, y94, hp95, hb96⟩ := trod_field (i := 0) (off := 0) (ty := 3) Try.underlying32 hp67 (by rfl) (sz := 1) (by kernel_rfl)
  replace hp95 : DataW.trod enc Try.prog W 0 (fun _ => true) true n93 3 [a1_3] = some y94 := hp95
  obtain ⟨n97, y98, hp99, hb100⟩ := trod_field (i := 1) (off := 1) (ty := 3) Try.underlying32 hp67 (by rfl) (sz := 1) (by kernel_rfl)
  replace hp99 : DataW.trod enc Try.prog W 0 (fun _ => true) true n97 3 [a1_4] = some y98 := hp99
  obtain ⟨z101, hc102, hy103, wz104⟩ := DataW.trod_int Try.underlying3 hp95
  replace wz104 := wf_i64 wz104
  obtain rfl : a1_3 = .int .i64 z101 := by simpa using hc102
  obtain ⟨z105, hc106, hy107, wz108⟩ := DataW.trod_int Try.underlying3 hp99
  replace wz108 := wf_i64 wz108
  obtain rfl : a1_4 = .int .i64 z105 := by simpa using hc106
  obtain ⟨z109, hc110, hy111, wz112⟩ := DataW.trod_int Try.underlying3 hp71
  replace wz112 := wf_i64 wz112
  obtain rfl : a1_5 = .int .i64 z109 := by simpa using hc110
  have k2 := h2
  have lt2 : ∀ x ∈ p2, x.block < W.heap.size := by obtain ⟨m, hm⟩ := k2; exact DataW.trod_lt m _ _ _ hm
  obtain ⟨a2, rfl, a2s⟩ := okWide_struct Try.underlying34 (hval 2 34 v2 rfl rfl)
  obtain ⟨fu2, hf2⟩ := h2
  rw [show Try.prog.cellsOf 34 = 6 by kernel_rfl] at a2s
  obtain ⟨a2l, rfl, a2s⟩ := arr_list a2s
  obtain ⟨a2_0, a2l0, rfl⟩ : ∃ c l, a2l = c :: l := by cases a2l with | nil => simp at a2s | cons c l => exact ⟨c, l, rfl⟩
  obtain ⟨a2_1, a2l1, rfl⟩ : ∃ c l, a2l0 = c :: l := by cases a2l0 with | nil => simp at a2s | cons c l => exact ⟨c, l, rfl⟩
  obtain ⟨a2_2, a2l2, rfl⟩ : ∃ c l, a2l1 = c :: l := by cases a2l1 with | nil => simp at a2s | cons c l => exact ⟨c, l, rfl⟩
  obtain ⟨a2_3, a2l3, rfl⟩ : ∃ c l, a2l2 = c :: l := by cases a2l2 with | nil => simp at a2s | cons c l => exact ⟨c, l, rfl⟩
  obtain ⟨a2_4, a2l4, rfl⟩ : ∃ c l, a2l3 = c :: l := by cases a2l3 with | nil => simp at a2s | cons c l => exact ⟨c, l, rfl⟩
  obtain ⟨a2_5, a2l5, rfl⟩ : ∃ c l, a2l4 = c :: l := by cases a2l4 with | nil => simp at a2s | cons c l => exact ⟨c, l, rfl⟩
  obtain rfl : a2l5 = [] := by simpa using a2s
  replace hf2 : DataW.trod enc Try.prog W 0 (fun _ => true) true fu2 34 [a2_0, a2_1, a2_2, a2_3, a2_4, a2_5] = some (d2, p2) := hf2
  obtain ⟨n113, y114, hp115, hb116⟩ := trod_field (i := 0) (off := 0) (ty := 3) Try.underlying34 hf2 (by rfl) (sz := 1) (by kernel_rfl)
  replace hp115 : DataW.trod enc Try.prog W 0 (fun _ => true) true n113 3 [a2_0] = some y114 := hp115
  obtain ⟨n117, y118, hp119, hb120⟩ := trod_field (i := 1) (off := 1) (ty := 32) Try.underlying34 hf2 (by rfl) (sz := 2) (by kernel_rfl)
  replace hp119 : DataW.trod enc Try.prog W 0 (fun _ => true) true n117 32 [a2_1, a2_2] = some y118 := hp119
  obtain ⟨n121, y122, hp123, hb124⟩ := trod_field (i := 2) (off := 3) (ty := 32) Try.underlying34 hf2 (by rfl) (sz := 2) (by kernel_rfl)
  replace hp123 : DataW.trod enc Try.prog W 0 (fun _ => true) true n121 32 [a2_3, a2_4] = some y122 := hp123
  obtain ⟨n125, y126, hp127, hb128⟩ := trod_field (i := 3) (off := 5) (ty := 3) Try.underlying34 hf2 (by rfl) (sz := 1) (by kernel_rfl)
  replace hp127 : DataW.trod enc Try.prog W 0 (fun _ => true) true n125 3 [a2_5] = some y126 := hp127
  obtain ⟨z129, hc130, hy131, wz132⟩ := DataW.trod_int Try.underlying3 hp115
  replace wz132 := wf_i64 wz132
  obtain rfl : a2_0 = .int .i64 z129 := by simpa using hc130
  obtain ⟨n133, y134, hp135, hb136⟩ := trod_field (i := 0) (off := 0) (ty := 3) Try.underlying32 hp119 (by rfl) (sz := 1) (by kernel_rfl)
  replace hp135 : DataW.trod enc Try.prog W 0 (fun _ => true) true n133 3 [a2_1] = some y134 := hp135
  obtain ⟨n137, y138, hp139, hb140⟩ := trod_field (i := 1) (off := 1) (ty := 3) Try.underlying32 hp119 (by rfl) (sz := 1) (by kernel_rfl)
  replace hp139 : DataW.trod enc Try.prog W 0 (fun _ => true) true n137 3 [a2_2] = some y138 := hp139
  obtain ⟨z141, hc142, hy143, wz144⟩ := DataW.trod_int Try.underlying3 hp135
  replace wz144 := wf_i64 wz144
  obtain rfl : a2_1 = .int .i64 z141 := by simpa using hc142
  obtain ⟨z145, hc146, hy147, wz148⟩ := DataW.trod_int Try.underlying3 hp139
  replace wz148 := wf_i64 wz148
  obtain rfl : a2_2 = .int .i64 z145 := by simpa using hc146
  obtain ⟨n149, y150, hp151, hb152⟩ := trod_field (i := 0) (off := 0) (ty := 3) Try.underlying32 hp123 (by rfl) (sz := 1) (by kernel_rfl)
  replace hp151 : DataW.trod enc Try.prog W 0 (fun _ => true) true n149 3 [a2_3] = some y150 := hp151
  obtain ⟨n153, y154, hp155, hb156⟩ := trod_field (i := 1) (off := 1) (ty := 3) Try.underlying32 hp123 (by rfl) (sz := 1) (by kernel_rfl)
  replace hp155 : DataW.trod enc Try.prog W 0 (fun _ => true) true n153 3 [a2_4] = some y154 := hp155
  obtain ⟨z157, hc158, hy159, wz160⟩ := DataW.trod_int Try.underlying3 hp151
  replace wz160 := wf_i64 wz160
  obtain rfl : a2_3 = .int .i64 z157 := by simpa using hc158
  obtain ⟨z161, hc162, hy163, wz164⟩ := DataW.trod_int Try.underlying3 hp155
  replace wz164 := wf_i64 wz164
  obtain rfl : a2_4 = .int .i64 z161 := by simpa using hc162
  obtain ⟨z165, hc166, hy167, wz168⟩ := DataW.trod_int Try.underlying3 hp127
  replace wz168 := wf_i64 wz168
  obtain rfl : a2_5 = .int .i64 z165 := by simpa using hc166
  clear hA0
  simp only [List.append_nil] at hW'
  refine (law_orders ⟨z17, z29, z33, z45, z49, z53⟩ ⟨z73, z85, z89, z101, z105, z109⟩ ⟨z129, z141, z145, z157, z161, z165⟩ W (fun E hE => by cases hE)).mono fun e W' ⟨he, hkeep⟩ => ?_
  subst he
  have bel := hkeep.below
  exact ⟨_, rfl, _, _, _, [], _, [], hW', trodAll_mk1 (shut_bool Try.underlying4 _), (trodAll_cons_mk (Below.trod laidOut (by kernel_rfl) (of_decide_eq_true (by kernel_rfl)) k0 bel lt0) (trodAll_cons_mk (Below.trod laidOut (by kernel_rfl) (of_decide_eq_true (by kernel_rfl)) k1 bel lt1) (trodAll_cons_mk (Below.trod laidOut (by kernel_rfl) (of_decide_eq_true (by kernel_rfl)) k2 bel lt2) trodAll_mk0))), rfl, bel.frame _, fun h => by cases h⟩

theorem lifted (os : Os) (started : os.Started) (H : Type) (enc : TypeId × Value → H) :
    ReturnsInHanded {} Try.checked os 4 .any (Rows.authorityOrdersSpec.pre6 enc Try.prog Try.f4 Rows.authorityOrdersRow.domain false) (Rows.authorityOrdersSpec.post enc Try.prog Try.f4 false true false false) := by
  refine returnsInHanded_of_change (C := Try.checked) own started (by kernel_rfl) Try.func4
    (ChangeSpec.witness6 (enc := enc) (C := Try.checked) false ⟨#[], #[.agg #[.int .i64 0, .int .i64 0, .int .i64 0, .int .i64 0, .int .i64 0, .int .i64 0], .agg #[.int .i64 0, .int .i64 0, .int .i64 0, .int .i64 0, .int .i64 0, .int .i64 0], .agg #[.int .i64 0, .int .i64 0, .int .i64 0, .int .i64 0, .int .i64 0, .int .i64 0]], []⟩ 8 (by kernel_rfl) (by kernel_rfl) (by kernel_rfl) (by kernel_rfl)) ?_
  intro W base args ds gs before hval hW hcnd _
  exact contract H enc W base args ds gs before hval hW

/-- THE STATEMENT -/
theorem proved : Rows.AuthorityOrdersSaid :=
  OpenClaim.holds_of_wide 4 Try.f4 rfl rfl rfl rfl rfl rfl rfl ⟨rfl, rfl, rfl, rfl, rfl⟩ rfl rfl rfl rfl rfl (by kernel_rfl) Try.func4 (by kernel_rfl)
    (of_decide_eq_true (by kernel_rfl)) (by unfold Func.isWrapper; first | (rw [if_pos (by decide +kernel)]; kernel_rfl) | (rw [if_neg (by decide +kernel)]; exact ⟨rfl, rfl⟩))
    (fun os started H enc _ => lifted os started H enc)
end Go.Proofs.Ythaokdobgmbeeaa.authorityOrders
