/-
  THE LAW ScrubEnds: for every input of the given program's function it returns true, and the input reads behind the call as it read before. Proved in the second form: where what came in is of bulk at most 1048576.
-/
import Derived.Test.YtcegkgbceogflaaRows
import Derived.JoinedCond
import Derived.Test.YtcegkgbceogflaaSxh
import Derived.Test.YtcegkgbceogflaaBulk
import Derived.Test.YtcegkgbceogflaaW21ee
import Derived.Test.YtcegkgbceogflaaP21e
import Derived.Test.YtcegkgbceogflaaO21e
set_option linter.unusedVariables false
set_option linter.unusedSimpArgs false
set_option maxRecDepth 100000
namespace Go.Proofs.Ytcegkgbceogflaa.scrubEndsUpto
open Go.ChangeShapes Go.WideShapes Go.ChangeAt Go.RowKit Sx

theorem own : ownKnob Try.prog.godebug = none := by kernel_rfl
theorem laidOut : laidOutB Try.prog = true := by kernel_rfl

theorem contract (H : Type) (enc : TypeId × Value → H) (W : World) (base : Nat) (args : Array Value) (ds gs : List (DataW H)) (before : List MemPlace)
    (hval : ∀ (j : Nat) t v, Try.f4.params[j]? = some t → args[j]? = some v → Value.okWide Try.prog W .any base t v)
    (hW : DataW.Whole enc Try.prog Try.f4.params.toList Rows.scrubEndsSpec.vars false W args.toList ds gs before) (hk : Rows.uptoSmall H (ds ++ gs) = true) :
    Calls Try.prog 4 args W fun e W' => ∃ v, e = .returned v ∧ Rows.scrubEndsSpec.post enc Try.prog Try.f4 false true false false W args v W' := by
  have hW' := hW
  obtain ⟨p, q, hA0, hV, rfl, hfz, hnd⟩ := hW
  have hA : DataW.TrodAll enc Try.prog W 0 (fun _ => true) true Try.f4.params.toList args.toList ds p := hA0
  rw [Try.params4] at hA hval
  obtain ⟨v0, vs0, d0, ds0, p0, q0, hargs, rfl, rfl, h0, r0⟩ := trodAll_cons hA
  obtain ⟨v1, vs1, d1, ds1, p1, q1, rfl, rfl, rfl, h1, r1⟩ := trodAll_cons r0
  obtain ⟨rfl, rfl, rfl⟩ := trodAll_nil r1
  obtain rfl : args = #[v0, v1] := by cases args; simp_all
  obtain ⟨rfl, rfl⟩ := trodVars_none hV
  have k0 := h0
  have lt0 : ∀ x ∈ p0, x.block < W.heap.size := by obtain ⟨m, hm⟩ := k0; exact DataW.trod_lt m _ _ _ hm
  have bk0 : Rows.uptoBulk d0 ≤ 1048576 := bulk_arg hk (by simp)
  obtain ⟨a0, rfl, a0s⟩ := okWide_struct Try.underlying62 (hval 0 62 v0 rfl rfl)
  obtain ⟨fu0, hf0⟩ := h0
  rw [show Try.prog.cellsOf 62 = 15 by kernel_rfl] at a0s
  obtain ⟨a0l, rfl, a0s⟩ := arr_list a0s
  obtain ⟨a0_0, a0l0, rfl⟩ : ∃ c l, a0l = c :: l := by cases a0l with | nil => simp at a0s | cons c l => exact ⟨c, l, rfl⟩
  obtain ⟨a0_1, a0l1, rfl⟩ : ∃ c l, a0l0 = c :: l := by cases a0l0 with | nil => simp at a0s | cons c l => exact ⟨c, l, rfl⟩
  obtain ⟨a0_2, a0l2, rfl⟩ : ∃ c l, a0l1 = c :: l := by cases a0l1 with | nil => simp at a0s | cons c l => exact ⟨c, l, rfl⟩
  obtain ⟨a0_3, a0l3, rfl⟩ : ∃ c l, a0l2 = c :: l := by cases a0l2 with | nil => simp at a0s | cons c l => exact ⟨c, l, rfl⟩
  obtain ⟨a0_4, a0l4, rfl⟩ : ∃ c l, a0l3 = c :: l := by cases a0l3 with | nil => simp at a0s | cons c l => exact ⟨c, l, rfl⟩
  obtain ⟨a0_5, a0l5, rfl⟩ : ∃ c l, a0l4 = c :: l := by cases a0l4 with | nil => simp at a0s | cons c l => exact ⟨c, l, rfl⟩
  obtain ⟨a0_6, a0l6, rfl⟩ : ∃ c l, a0l5 = c :: l := by cases a0l5 with | nil => simp at a0s | cons c l => exact ⟨c, l, rfl⟩
  obtain ⟨a0_7, a0l7, rfl⟩ : ∃ c l, a0l6 = c :: l := by cases a0l6 with | nil => simp at a0s | cons c l => exact ⟨c, l, rfl⟩
  obtain ⟨a0_8, a0l8, rfl⟩ : ∃ c l, a0l7 = c :: l := by cases a0l7 with | nil => simp at a0s | cons c l => exact ⟨c, l, rfl⟩
  obtain ⟨a0_9, a0l9, rfl⟩ : ∃ c l, a0l8 = c :: l := by cases a0l8 with | nil => simp at a0s | cons c l => exact ⟨c, l, rfl⟩
  obtain ⟨a0_10, a0l10, rfl⟩ : ∃ c l, a0l9 = c :: l := by cases a0l9 with | nil => simp at a0s | cons c l => exact ⟨c, l, rfl⟩
  obtain ⟨a0_11, a0l11, rfl⟩ : ∃ c l, a0l10 = c :: l := by cases a0l10 with | nil => simp at a0s | cons c l => exact ⟨c, l, rfl⟩
  obtain ⟨a0_12, a0l12, rfl⟩ : ∃ c l, a0l11 = c :: l := by cases a0l11 with | nil => simp at a0s | cons c l => exact ⟨c, l, rfl⟩
  obtain ⟨a0_13, a0l13, rfl⟩ : ∃ c l, a0l12 = c :: l := by cases a0l12 with | nil => simp at a0s | cons c l => exact ⟨c, l, rfl⟩
  obtain ⟨a0_14, a0l14, rfl⟩ : ∃ c l, a0l13 = c :: l := by cases a0l13 with | nil => simp at a0s | cons c l => exact ⟨c, l, rfl⟩
  obtain rfl : a0l14 = [] := by simpa using a0s
  replace hf0 : DataW.trod enc Try.prog W 0 (fun _ => true) true fu0 62 [a0_0, a0_1, a0_2, a0_3, a0_4, a0_5, a0_6, a0_7, a0_8, a0_9, a0_10, a0_11, a0_12, a0_13, a0_14] = some (d0, p0) := hf0
  obtain ⟨n1, y2, hp3, hb4⟩ := trod_field (i := 0) (off := 0) (ty := 25) Try.underlying62 hf0 (by rfl) (sz := 2) (by kernel_rfl)
  replace hp3 : DataW.trod enc Try.prog W 0 (fun _ => true) true n1 25 [a0_0, a0_1] = some y2 := hp3
  have bk5 := bulk_agg bk0 hb4
  obtain ⟨n6, y7, hp8, hb9⟩ := trod_field (i := 1) (off := 2) (ty := 3) Try.underlying62 hf0 (by rfl) (sz := 1) (by kernel_rfl)
  replace hp8 : DataW.trod enc Try.prog W 0 (fun _ => true) true n6 3 [a0_2] = some y7 := hp8
  have bk10 := bulk_agg bk0 hb9
  obtain ⟨n11, y12, hp13, hb14⟩ := trod_field (i := 2) (off := 3) (ty := 3) Try.underlying62 hf0 (by rfl) (sz := 1) (by kernel_rfl)
  replace hp13 : DataW.trod enc Try.prog W 0 (fun _ => true) true n11 3 [a0_3] = some y12 := hp13
  have bk15 := bulk_agg bk0 hb14
  obtain ⟨n16, y17, hp18, hb19⟩ := trod_field (i := 3) (off := 4) (ty := 3) Try.underlying62 hf0 (by rfl) (sz := 1) (by kernel_rfl)
  replace hp18 : DataW.trod enc Try.prog W 0 (fun _ => true) true n16 3 [a0_4] = some y17 := hp18
  have bk20 := bulk_agg bk0 hb19
  obtain ⟨n21, y22, hp23, hb24⟩ := trod_field (i := 4) (off := 5) (ty := 58) Try.underlying62 hf0 (by rfl) (sz := 1) (by kernel_rfl)
  replace hp23 : DataW.trod enc Try.prog W 0 (fun _ => true) true n21 58 [a0_5] = some y22 := hp23
  have bk25 := bulk_agg bk0 hb24
  obtain ⟨n26, y27, hp28, hb29⟩ := trod_field (i := 5) (off := 6) (ty := 37) Try.underlying62 hf0 (by rfl) (sz := 6) (by kernel_rfl)
  replace hp28 : DataW.trod enc Try.prog W 0 (fun _ => true) true n26 37 [a0_6, a0_7, a0_8, a0_9, a0_10, a0_11] = some y27 := hp28
  have bk30 := bulk_agg bk0 hb29
  obtain ⟨n31, y32, hp33, hb34⟩ := trod_field (i := 6) (off := 12) (ty := 60) Try.underlying62 hf0 (by rfl) (sz := 3) (by kernel_rfl)
  replace hp33 : DataW.trod enc Try.prog W 0 (fun _ => true) true n31 60 [a0_12, a0_13, a0_14] = some y32 := hp33
  have bk35 := bulk_agg bk0 hb34
  obtain ⟨n36, y37, hp38, hb39⟩ := trod_field (i := 0) (off := 0) (ty := 3) Try.underlying25 hp3 (by rfl) (sz := 1) (by kernel_rfl)
  replace hp38 : DataW.trod enc Try.prog W 0 (fun _ => true) true n36 3 [a0_0] = some y37 := hp38
  have bk40 := bulk_agg bk5 hb39
  obtain ⟨n41, y42, hp43, hb44⟩ := trod_field (i := 1) (off := 1) (ty := 3) Try.underlying25 hp3 (by rfl) (sz := 1) (by kernel_rfl)
  replace hp43 : DataW.trod enc Try.prog W 0 (fun _ => true) true n41 3 [a0_1] = some y42 := hp43
  have bk45 := bulk_agg bk5 hb44
  obtain ⟨z46, hc47, hy48, wz49⟩ := DataW.trod_int Try.underlying3 hp38
  replace wz49 := wf_i64 wz49
  obtain rfl : a0_0 = .int .i64 z46 := by simpa using hc47
  obtain ⟨z50, hc51, hy52, wz53⟩ := DataW.trod_int Try.underlying3 hp43
  replace wz53 := wf_i64 wz53
  obtain rfl : a0_1 = .int .i64 z50 := by simpa using hc51
  obtain ⟨z54, hc55, hy56, wz57⟩ := DataW.trod_int Try.underlying3 hp8
  replace wz57 := wf_i64 wz57
  obtain rfl : a0_2 = .int .i64 z54 := by simpa using hc55
  obtain ⟨z58, hc59, hy60, wz61⟩ := DataW.trod_int Try.underlying3 hp13
  replace wz61 := wf_i64 wz61
  obtain rfl : a0_3 = .int .i64 z58 := by simpa using hc59
  obtain ⟨z62, hc63, hy64, wz65⟩ := DataW.trod_int Try.underlying3 hp18
  replace wz65 := wf_i64 wz65
  obtain rfl : a0_4 = .int .i64 z62 := by simpa using hc63
  obtain ⟨o66, c67, l68, hc69, hl70, wl71, he72, hb73⟩ := open_ints_arg Try.underlying58 Try.underlying3 (by kernel_rfl) hp23
  replace hl70 : l68.length ≤ 1048576 := bulk_slice bk25 (hb73.imp (fun h => ⟨h.1, by rw [h.2]; rfl⟩) id)
  obtain rfl : a0_5 = .slice o66 l68.length c67 := by simpa using hc69
  obtain ⟨n74, y75, hp76, hb77⟩ := trod_field (i := 0) (off := 0) (ty := 3) Try.underlying37 hp28 (by rfl) (sz := 1) (by kernel_rfl)
  replace hp76 : DataW.trod enc Try.prog W 0 (fun _ => true) true n74 3 [a0_6] = some y75 := hp76
  have bk78 := bulk_agg bk30 hb77
  obtain ⟨n79, y80, hp81, hb82⟩ := trod_field (i := 1) (off := 1) (ty := 30) Try.underlying37 hp28 (by rfl) (sz := 2) (by kernel_rfl)
  replace hp81 : DataW.trod enc Try.prog W 0 (fun _ => true) true n79 30 [a0_7, a0_8] = some y80 := hp81
  have bk83 := bulk_agg bk30 hb82
  obtain ⟨n84, y85, hp86, hb87⟩ := trod_field (i := 2) (off := 3) (ty := 33) Try.underlying37 hp28 (by rfl) (sz := 1) (by kernel_rfl)
  replace hp86 : DataW.trod enc Try.prog W 0 (fun _ => true) true n84 33 [a0_9] = some y85 := hp86
  have bk88 := bulk_agg bk30 hb87
  obtain ⟨n89, y90, hp91, hb92⟩ := trod_field (i := 3) (off := 4) (ty := 34) Try.underlying37 hp28 (by rfl) (sz := 1) (by kernel_rfl)
  replace hp91 : DataW.trod enc Try.prog W 0 (fun _ => true) true n89 34 [a0_10] = some y90 := hp91
  have bk93 := bulk_agg bk30 hb92
  obtain ⟨n94, y95, hp96, hb97⟩ := trod_field (i := 4) (off := 5) (ty := 35) Try.underlying37 hp28 (by rfl) (sz := 1) (by kernel_rfl)
  replace hp96 : DataW.trod enc Try.prog W 0 (fun _ => true) true n94 35 [a0_11] = some y95 := hp96
  have bk98 := bulk_agg bk30 hb97
  obtain ⟨z99, hc100, hy101, wz102⟩ := DataW.trod_int Try.underlying3 hp76
  replace wz102 := wf_i64 wz102
  obtain rfl : a0_6 = .int .i64 z99 := by simpa using hc100
  obtain ⟨n103, y104, hp105, hb106⟩ := trod_field (i := 0) (off := 0) (ty := 3) Try.underlying30 hp81 (by rfl) (sz := 1) (by kernel_rfl)
  replace hp105 : DataW.trod enc Try.prog W 0 (fun _ => true) true n103 3 [a0_7] = some y104 := hp105
  have bk107 := bulk_agg bk83 hb106
  obtain ⟨n108, y109, hp110, hb111⟩ := trod_field (i := 1) (off := 1) (ty := 3) Try.underlying30 hp81 (by rfl) (sz := 1) (by kernel_rfl)
  replace hp110 : DataW.trod enc Try.prog W 0 (fun _ => true) true n108 3 [a0_8] = some y109 := hp110
  have bk112 := bulk_agg bk83 hb111
  obtain ⟨z113, hc114, hy115, wz116⟩ := DataW.trod_int Try.underlying3 hp105
  replace wz116 := wf_i64 wz116
  obtain rfl : a0_7 = .int .i64 z113 := by simpa using hc114
  obtain ⟨z117, hc118, hy119, wz120⟩ := DataW.trod_int Try.underlying3 hp110
  replace wz120 := wf_i64 wz120
  obtain rfl : a0_8 = .int .i64 z117 := by simpa using hc118
  obtain ⟨o121, n125, c122, rows126, hc127, hn128, hle129, hl130, he131, hr132, ho133, hb134⟩ := open_rows (sz := 7) Try.underlying33 (by kernel_rfl) (by omega) hp86
  replace hl130 : n125 ≤ 9223372036854775807 := by omega
  have hs136 : rows126.length ≤ 1048576 := bulk_slice bk88 (hb134.imp (fun h => ⟨h.1, by rw [h.2]; rfl⟩) (fun ⟨ys, zs, h1, h2, _⟩ => ⟨ys, zs, h1, h2⟩))
  rw [hn128] at hs136
  obtain ⟨l123, rfl, hq135⟩ := rows_dec S_api_Entry.row _ (fun r hr => by obtain ⟨n, y, hy⟩ := hr132 r hr; exact open_S_api_Entry hy)
  obtain rfl : l123.length = n125 := by simpa using hn128
  replace he131 : (Ent.rd o121 7 (List.map S_api_Entry.row l123)).ok W := he131
  obtain rfl : a0_9 = .slice o121 l123.length c122 := by simpa using hc127
  obtain ⟨o137, n141, c138, rows142, hc143, hn144, hle145, hl146, he147, hr148, ho149, hb150⟩ := open_rows (sz := 5) Try.underlying34 (by kernel_rfl) (by omega) hp91
  replace hl146 : n141 ≤ 9223372036854775807 := by omega
  have hs152 : rows142.length ≤ 1048576 := bulk_slice bk93 (hb150.imp (fun h => ⟨h.1, by rw [h.2]; rfl⟩) (fun ⟨ys, zs, h1, h2, _⟩ => ⟨ys, zs, h1, h2⟩))
  rw [hn144] at hs152
  obtain ⟨l139, rfl, hq151⟩ := rows_dec S_api_Last.row _ (fun r hr => by obtain ⟨n, y, hy⟩ := hr148 r hr; exact open_S_api_Last hy)
  obtain rfl : l139.length = n141 := by simpa using hn144
  replace he147 : (Ent.rd o137 5 (List.map S_api_Last.row l139)).ok W := he147
  obtain rfl : a0_10 = .slice o137 l139.length c138 := by simpa using hc143
  obtain ⟨o153, n157, c154, rows158, hc159, hn160, hle161, hl162, he163, hr164, ho165, hb166⟩ := open_rows (sz := 4) Try.underlying35 (by kernel_rfl) (by omega) hp96
  replace hl162 : n157 ≤ 9223372036854775807 := by omega
  have hs168 : rows158.length ≤ 1048576 := bulk_slice bk98 (hb166.imp (fun h => ⟨h.1, by rw [h.2]; rfl⟩) (fun ⟨ys, zs, h1, h2, _⟩ => ⟨ys, zs, h1, h2⟩))
  rw [hn160] at hs168
  obtain ⟨l155, rfl, hq167⟩ := rows_dec S_api_Item.row _ (fun r hr => by obtain ⟨n, y, hy⟩ := hr164 r hr; exact open_S_api_Item hy)
  obtain rfl : l155.length = n157 := by simpa using hn160
  replace he163 : (Ent.rd o153 4 (List.map S_api_Item.row l155)).ok W := he163
  obtain rfl : a0_11 = .slice o153 l155.length c154 := by simpa using hc159
  obtain ⟨n169, y170, hp171, hb172⟩ := trod_field (i := 0) (off := 0) (ty := 3) Try.underlying60 hp33 (by rfl) (sz := 1) (by kernel_rfl)
  replace hp171 : DataW.trod enc Try.prog W 0 (fun _ => true) true n169 3 [a0_12] = some y170 := hp171
  have bk173 := bulk_agg bk35 hb172
  obtain ⟨n174, y175, hp176, hb177⟩ := trod_field (i := 1) (off := 1) (ty := 35) Try.underlying60 hp33 (by rfl) (sz := 1) (by kernel_rfl)
  replace hp176 : DataW.trod enc Try.prog W 0 (fun _ => true) true n174 35 [a0_13] = some y175 := hp176
  have bk178 := bulk_agg bk35 hb177
  obtain ⟨n179, y180, hp181, hb182⟩ := trod_field (i := 2) (off := 2) (ty := 46) Try.underlying60 hp33 (by rfl) (sz := 1) (by kernel_rfl)
  replace hp181 : DataW.trod enc Try.prog W 0 (fun _ => true) true n179 46 [a0_14] = some y180 := hp181
  have bk183 := bulk_agg bk35 hb182
  obtain ⟨z184, hc185, hy186, wz187⟩ := DataW.trod_int Try.underlying3 hp171
  replace wz187 := wf_i64 wz187
  obtain rfl : a0_12 = .int .i64 z184 := by simpa using hc185
  obtain ⟨o188, n192, c189, rows193, hc194, hn195, hle196, hl197, he198, hr199, ho200, hb201⟩ := open_rows (sz := 4) Try.underlying35 (by kernel_rfl) (by omega) hp176
  replace hl197 : n192 ≤ 9223372036854775807 := by omega
  have hs203 : rows193.length ≤ 1048576 := bulk_slice bk178 (hb201.imp (fun h => ⟨h.1, by rw [h.2]; rfl⟩) (fun ⟨ys, zs, h1, h2, _⟩ => ⟨ys, zs, h1, h2⟩))
  rw [hn195] at hs203
  obtain ⟨l190, rfl, hq202⟩ := rows_dec S_api_Item.row _ (fun r hr => by obtain ⟨n, y, hy⟩ := hr199 r hr; exact open_S_api_Item hy)
  obtain rfl : l190.length = n192 := by simpa using hn195
  replace he198 : (Ent.rd o188 4 (List.map S_api_Item.row l190)).ok W := he198
  obtain rfl : a0_13 = .slice o188 l190.length c189 := by simpa using hc194
  obtain ⟨o204, n208, c205, rows209, hc210, hn211, hle212, hl213, he214, hr215, ho216, hb217⟩ := open_rows (sz := 1) Try.underlying46 (by kernel_rfl) (by omega) hp181
  replace hl213 : n208 ≤ 9223372036854775807 := by omega
  have hs219 : rows209.length ≤ 1048576 := bulk_slice bk183 (hb217.imp (fun h => ⟨h.1, by rw [h.2]; rfl⟩) (fun ⟨ys, zs, h1, h2, _⟩ => ⟨ys, zs, h1, h2⟩))
  rw [hn211] at hs219
  obtain ⟨l206, rfl, hq218⟩ := rows_dec rS _ (fun r hr => by obtain ⟨n, y, hy⟩ := hr215 r hr; exact open_str Try.underlying9 hy)
  obtain rfl : l206.length = n208 := by simpa using hn211
  replace he214 : (Ent.rd o204 1 (List.map rS l206)).ok W := he214
  obtain rfl : a0_14 = .slice o204 l206.length c205 := by simpa using hc210
  have k1 := h1
  have lt1 : ∀ x ∈ p1, x.block < W.heap.size := by obtain ⟨m, hm⟩ := k1; exact DataW.trod_lt m _ _ _ hm
  have bk1 : Rows.uptoBulk d1 ≤ 1048576 := bulk_arg hk (by simp)
  obtain ⟨a1, a1n, a1c, rfl⟩ := okWide_slice Try.underlying63 (hval 1 63 v1 rfl rfl)
  obtain ⟨fu1, hf1⟩ := h1
  replace hf1 : DataW.trod enc Try.prog W 0 (fun _ => true) true fu1 63 [.slice a1 a1n a1c] = some (d1, p1) := hf1
  obtain ⟨o220, n223, c221, rows224, hc225, hn226, hle227, hl228, he229, hr230, ho231, hb232⟩ := open_rows (sz := 3) Try.underlying63 (by kernel_rfl) (by omega) hf1
  replace hl228 : n223 ≤ 9223372036854775807 := by omega
  have hs234 : rows224.length ≤ 1048576 := bulk_slice bk1 (hb232.imp (fun h => ⟨h.1, by rw [h.2]; rfl⟩) (fun ⟨ys, zs, h1, h2, _⟩ => ⟨ys, zs, h1, h2⟩))
  rw [hn226] at hs234
  obtain ⟨hh235, l222, rfl, hq233, hB237⟩ := rows_nestB nR60 nJ60 (fun x => x.Items.length ≤ 1048576 ∧ x.Bad.length ≤ 1048576) (w := W) (fun r hr => by obtain ⟨n, y, hy, hk⟩ := rows_bulk bk1 hb232 r hr; exact openNB_60 hy hk)
  obtain rfl : l222.length = n223 := by rw [← hn226, nrows_len]
  simp only [List.cons.injEq, and_true, Value.slice.injEq] at hc225
  obtain ⟨rfl, rfl, rfl⟩ := hc225
  clear hA0
  simp only [List.append_nil] at hW'
  refine (CallG.law (w_tholelaw21_ScrubEnds 64 (S_api_Pg.mk z46 z50) z54 z58 z62 o66 c67 l68 z99 (S_api_Version.mk z113 z117) o121 c122 l123 o137 c138 l139 o153 c154 l155 z184 o188 c189 l190 o204 c205 l206 a1 a1c hh235 l222  (law_ends 64 (S_api_Pg.mk z46 z50) z54 z58 z62 l68 z99 (S_api_Version.mk z113 z117) l123 l139 l155 z184 l190 l206 l222 (by first | exact hl70 | (have h := hl70; rw [List.length_map] at h; exact h)) (by first | exact hs136 | (have h := hs136; rw [List.length_map] at h; exact h)) (by first | exact hs152 | (have h := hs152; rw [List.length_map] at h; exact h)) (by first | exact hs168 | (have h := hs168; rw [List.length_map] at h; exact h)) (by first | exact hs203 | (have h := hs203; rw [List.length_map] at h; exact h)) (by first | exact hs219 | (have h := hs219; rw [List.length_map] at h; exact h)) (fun c hc => ⟨Nat.le_trans (hB237 c hc).1 (by decide), Nat.le_trans (hB237 c hc).2 (by decide)⟩))) W ⟨he72, he131, he147, he163, he198, he214, he229, hq233, trivial⟩).mono fun e W' ⟨he, hkeep⟩ => ?_
  subst he
  have bel := hkeep.below
  exact ⟨_, rfl, _, _, _, [], _, [], hW', trodAll_mk1 (shut_bool Try.underlying4 _), (trodAll_cons_mk (Below.trod laidOut (by kernel_rfl) (of_decide_eq_true (by kernel_rfl)) k0 bel lt0) (trodAll_cons_mk (Below.trod laidOut (by kernel_rfl) (of_decide_eq_true (by kernel_rfl)) k1 bel lt1) trodAll_mk0)), rfl, bel.frame _, fun h => by cases h⟩

theorem lifted (os : Os) (started : os.Started) (H : Type) (enc : TypeId × Value → H) (F : Stop.Interp) :
    ReturnsInHanded {} Try.checked os 4 .any ((Rows.OpenSpec.upto Rows.scrubEndsSpec).pre6 enc Try.prog Try.f4 Rows.scrubEndsUptoRow.domain false) (((Rows.OpenSpec.upto Rows.scrubEndsSpec).at F).post enc Try.prog Try.f4 false true false false) := by
  refine returnsInHanded_of_cond (C := Try.checked) (s := Rows.OpenSpec.upto Rows.scrubEndsSpec) (k := Rows.uptoSmall) rfl own started (by kernel_rfl) Try.func4
    (OpenSpec.witness (enc := enc) (C := Try.checked) (s := Rows.OpenSpec.upto Rows.scrubEndsSpec) (k := Rows.uptoSmall) rfl false ⟨#[], #[.agg #[.int .i64 0, .int .i64 0, .int .i64 0, .int .i64 0, .int .i64 0, .slice none 0 0, .int .i64 0, .int .i64 0, .int .i64 0, .slice none 0 0, .slice none 0 0, .slice none 0 0, .int .i64 0, .slice none 0 0, .slice none 0 0], .slice none 0 0], []⟩ 8 (by kernel_rfl) (by kernel_rfl) (by kernel_rfl)
      (x := ([.agg [.agg [.lit (.int .i64 0), .lit (.int .i64 0)], .lit (.int .i64 0), .lit (.int .i64 0), .lit (.int .i64 0), .nil, .agg [.lit (.int .i64 0), .agg [.lit (.int .i64 0), .lit (.int .i64 0)], .nil, .nil, .nil], .agg [.lit (.int .i64 0), .nil, .nil]], .nil], [], [])) (by kernel_rfl) rfl (by kernel_rfl)) ?_
  intro W base args ds gs before hval hW _ hk _
  exact contract H enc W base args ds gs before hval hW hk

/-- THE STATEMENT -/
theorem proved : Rows.ScrubEndsUptoSaid :=
  OpenClaim.holds_of_cond 4 Try.f4 rfl rfl rfl rfl rfl rfl rfl ⟨rfl, rfl, rfl, rfl, rfl⟩ rfl rfl rfl rfl rfl (by kernel_rfl) Try.func4 (by kernel_rfl)
    (of_decide_eq_true (by kernel_rfl)) (by unfold Func.isWrapper; first | (rw [if_pos (by decide +kernel)]; kernel_rfl) | (rw [if_neg (by decide +kernel)]; exact ⟨rfl, rfl⟩))
    (fun os started H enc _ F => lifted os started H enc F)
end Go.Proofs.Ytcegkgbceogflaa.scrubEndsUpto
