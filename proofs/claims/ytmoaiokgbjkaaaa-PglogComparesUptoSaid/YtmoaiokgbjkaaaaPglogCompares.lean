/-
  THE LAW PglogCompares: for every input of the given program's function it returns true, and the input reads behind the call as it read before. Proved in the second form: where what came in is of bulk at most 1048576.
-/
import Derived.Test.YtmoaiokgbjkaaaaRows
import Derived.JoinedCond
import Derived.Test.YtmoaiokgbjkaaaaSxh
import Derived.Test.YtmoaiokgbjkaaaaBulk
import Derived.Test.YtmoaiokgbjkaaaaW13j
import Derived.Test.YtmoaiokgbjkaaaaP13
import Derived.Test.YtmoaiokgbjkaaaaO13
set_option linter.unusedVariables false
set_option linter.unusedSimpArgs false
set_option maxRecDepth 100000
namespace Go.Proofs.Ytmoaiokgbjkaaaa.pglogComparesUpto
open Go.ChangeShapes Go.WideShapes Go.ChangeAt Go.RowKit Sx

theorem own : ownKnob Try.prog.godebug = none := by kernel_rfl
theorem laidOut : laidOutB Try.prog = true := by kernel_rfl

theorem contract (H : Type) (enc : TypeId × Value → H) (W : World) (base : Nat) (args : Array Value) (ds gs : List (DataW H)) (before : List MemPlace)
    (hval : ∀ (j : Nat) t v, Try.f3.params[j]? = some t → args[j]? = some v → Value.okWide Try.prog W .any base t v)
    (hW : DataW.Whole enc Try.prog Try.f3.params.toList Rows.pglogComparesSpec.vars false W args.toList ds gs before) (hk : Rows.uptoSmall H (ds ++ gs) = true) :
    Calls Try.prog 3 args W fun e W' => ∃ v, e = .returned v ∧ Rows.pglogComparesSpec.post enc Try.prog Try.f3 false true false false W args v W' := by
  have hW' := hW
  obtain ⟨p, q, hA0, hV, rfl, hfz, hnd⟩ := hW
  have hA : DataW.TrodAll enc Try.prog W 0 (fun _ => true) true Try.f3.params.toList args.toList ds p := hA0
  rw [Try.params3] at hA hval
  obtain ⟨v0, vs0, d0, ds0, p0, q0, hargs, rfl, rfl, h0, r0⟩ := trodAll_cons hA
  obtain ⟨v1, vs1, d1, ds1, p1, q1, rfl, rfl, rfl, h1, r1⟩ := trodAll_cons r0
  obtain ⟨v2, vs2, d2, ds2, p2, q2, rfl, rfl, rfl, h2, r2⟩ := trodAll_cons r1
  obtain ⟨rfl, rfl, rfl⟩ := trodAll_nil r2
  obtain rfl : args = #[v0, v1, v2] := by cases args; simp_all
  obtain ⟨rfl, rfl⟩ := trodVars_none hV
  have k0 := h0
  have lt0 : ∀ x ∈ p0, x.block < W.heap.size := by obtain ⟨m, hm⟩ := k0; exact DataW.trod_lt m _ _ _ hm
  have bk0 : Rows.uptoBulk d0 ≤ 1048576 := bulk_arg hk (by simp)
  obtain ⟨a0, rfl, a0s⟩ := okWide_struct Try.underlying23 (hval 0 23 v0 rfl rfl)
  obtain ⟨fu0, hf0⟩ := h0
  rw [show Try.prog.cellsOf 23 = 2 by kernel_rfl] at a0s
  obtain ⟨a0l, rfl, a0s⟩ := arr_list a0s
  obtain ⟨a0_0, a0l0, rfl⟩ : ∃ c l, a0l = c :: l := by cases a0l with | nil => simp at a0s | cons c l => exact ⟨c, l, rfl⟩
  obtain ⟨a0_1, a0l1, rfl⟩ : ∃ c l, a0l0 = c :: l := by cases a0l0 with | nil => simp at a0s | cons c l => exact ⟨c, l, rfl⟩
  obtain rfl : a0l1 = [] := by simpa using a0s
  replace hf0 : DataW.trod enc Try.prog W 0 (fun _ => true) true fu0 23 [a0_0, a0_1] = some (d0, p0) := hf0
  obtain ⟨n1, y2, hp3, hb4⟩ := trod_field (i := 0) (off := 0) (ty := 3) Try.underlying23 hf0 (by rfl) (sz := 1) (by kernel_rfl)
  replace hp3 : DataW.trod enc Try.prog W 0 (fun _ => true) true n1 3 [a0_0] = some y2 := hp3
  have bk5 := bulk_agg bk0 hb4
  obtain ⟨n6, y7, hp8, hb9⟩ := trod_field (i := 1) (off := 1) (ty := 3) Try.underlying23 hf0 (by rfl) (sz := 1) (by kernel_rfl)
  replace hp8 : DataW.trod enc Try.prog W 0 (fun _ => true) true n6 3 [a0_1] = some y7 := hp8
  have bk10 := bulk_agg bk0 hb9
  obtain ⟨z11, hc12, hy13, wz14⟩ := DataW.trod_int Try.underlying3 hp3
  replace wz14 := wf_i64 wz14
  obtain rfl : a0_0 = .int .i64 z11 := by simpa using hc12
  obtain ⟨z15, hc16, hy17, wz18⟩ := DataW.trod_int Try.underlying3 hp8
  replace wz18 := wf_i64 wz18
  obtain rfl : a0_1 = .int .i64 z15 := by simpa using hc16
  have k1 := h1
  have lt1 : ∀ x ∈ p1, x.block < W.heap.size := by obtain ⟨m, hm⟩ := k1; exact DataW.trod_lt m _ _ _ hm
  have bk1 : Rows.uptoBulk d1 ≤ 1048576 := bulk_arg hk (by simp)
  obtain ⟨a1, rfl, a1s⟩ := okWide_struct Try.underlying23 (hval 1 23 v1 rfl rfl)
  obtain ⟨fu1, hf1⟩ := h1
  rw [show Try.prog.cellsOf 23 = 2 by kernel_rfl] at a1s
  obtain ⟨a1l, rfl, a1s⟩ := arr_list a1s
  obtain ⟨a1_0, a1l0, rfl⟩ : ∃ c l, a1l = c :: l := by cases a1l with | nil => simp at a1s | cons c l => exact ⟨c, l, rfl⟩
  obtain ⟨a1_1, a1l1, rfl⟩ : ∃ c l, a1l0 = c :: l := by cases a1l0 with | nil => simp at a1s | cons c l => exact ⟨c, l, rfl⟩
  obtain rfl : a1l1 = [] := by simpa using a1s
  replace hf1 : DataW.trod enc Try.prog W 0 (fun _ => true) true fu1 23 [a1_0, a1_1] = some (d1, p1) := hf1
  obtain ⟨n19, y20, hp21, hb22⟩ := trod_field (i := 0) (off := 0) (ty := 3) Try.underlying23 hf1 (by rfl) (sz := 1) (by kernel_rfl)
  replace hp21 : DataW.trod enc Try.prog W 0 (fun _ => true) true n19 3 [a1_0] = some y20 := hp21
  have bk23 := bulk_agg bk1 hb22
  obtain ⟨n24, y25, hp26, hb27⟩ := trod_field (i := 1) (off := 1) (ty := 3) Try.underlying23 hf1 (by rfl) (sz := 1) (by kernel_rfl)
  replace hp26 : DataW.trod enc Try.prog W 0 (fun _ => true) true n24 3 [a1_1] = some y25 := hp26
  have bk28 := bulk_agg bk1 hb27
  obtain ⟨z29, hc30, hy31, wz32⟩ := DataW.trod_int Try.underlying3 hp21
  replace wz32 := wf_i64 wz32
  obtain rfl : a1_0 = .int .i64 z29 := by simpa using hc30
  obtain ⟨z33, hc34, hy35, wz36⟩ := DataW.trod_int Try.underlying3 hp26
  replace wz36 := wf_i64 wz36
  obtain rfl : a1_1 = .int .i64 z33 := by simpa using hc34
  have k2 := h2
  have lt2 : ∀ x ∈ p2, x.block < W.heap.size := by obtain ⟨m, hm⟩ := k2; exact DataW.trod_lt m _ _ _ hm
  have bk2 : Rows.uptoBulk d2 ≤ 1048576 := bulk_arg hk (by simp)
  obtain ⟨a2, rfl, a2s⟩ := okWide_array Try.underlying29 (hval 2 29 v2 rfl rfl)
  obtain ⟨fu2, hf2⟩ := h2
  rw [show Try.prog.cellsOf 29 = 12 by kernel_rfl] at a2s
  obtain ⟨a2l, rfl, a2s⟩ := arr_list a2s
  obtain ⟨a2_0, a2l0, rfl⟩ : ∃ c l, a2l = c :: l := by cases a2l with | nil => simp at a2s | cons c l => exact ⟨c, l, rfl⟩
  obtain ⟨a2_1, a2l1, rfl⟩ : ∃ c l, a2l0 = c :: l := by cases a2l0 with | nil => simp at a2s | cons c l => exact ⟨c, l, rfl⟩
  obtain ⟨a2_2, a2l2, rfl⟩ : ∃ c l, a2l1 = c :: l := by cases a2l1 with | nil => simp at a2s | cons c l => exact ⟨c, l, rfl⟩
  obtain ⟨a2_3, a2l3, rfl⟩ : ∃ c l, a2l2 = c :: l := by cases a2l2 with | nil => simp at a2s | cons c l => exact ⟨c, l, rfl⟩
  obtain ⟨a2_4, a2l4, rfl⟩ : ∃ c l, a2l3 = c :: l := by cases a2l3 with | nil => simp at a2s | cons c l => exact ⟨c, l, rfl⟩
  obtain ⟨a2_5, a2l5, rfl⟩ : ∃ c l, a2l4 = c :: l := by cases a2l4 with | nil => simp at a2s | cons c l => exact ⟨c, l, rfl⟩
  obtain ⟨a2_6, a2l6, rfl⟩ : ∃ c l, a2l5 = c :: l := by cases a2l5 with | nil => simp at a2s | cons c l => exact ⟨c, l, rfl⟩
  obtain ⟨a2_7, a2l7, rfl⟩ : ∃ c l, a2l6 = c :: l := by cases a2l6 with | nil => simp at a2s | cons c l => exact ⟨c, l, rfl⟩
  obtain ⟨a2_8, a2l8, rfl⟩ : ∃ c l, a2l7 = c :: l := by cases a2l7 with | nil => simp at a2s | cons c l => exact ⟨c, l, rfl⟩
  obtain ⟨a2_9, a2l9, rfl⟩ : ∃ c l, a2l8 = c :: l := by cases a2l8 with | nil => simp at a2s | cons c l => exact ⟨c, l, rfl⟩
  obtain ⟨a2_10, a2l10, rfl⟩ : ∃ c l, a2l9 = c :: l := by cases a2l9 with | nil => simp at a2s | cons c l => exact ⟨c, l, rfl⟩
  obtain ⟨a2_11, a2l11, rfl⟩ : ∃ c l, a2l10 = c :: l := by cases a2l10 with | nil => simp at a2s | cons c l => exact ⟨c, l, rfl⟩
  obtain rfl : a2l11 = [] := by simpa using a2s
  replace hf2 : DataW.trod enc Try.prog W 0 (fun _ => true) true fu2 29 [a2_0, a2_1, a2_2, a2_3, a2_4, a2_5, a2_6, a2_7, a2_8, a2_9, a2_10, a2_11] = some (d2, p2) := hf2
  obtain ⟨n37, y38, hp39, hb40⟩ := trod_elem (i := 0) Try.underlying29 hf2 (by omega) (sz := 6) (by kernel_rfl)
  replace hp39 : DataW.trod enc Try.prog W 0 (fun _ => true) true n37 28 [a2_0, a2_1, a2_2, a2_3, a2_4, a2_5] = some y38 := hp39
  have bk41 := bulk_agg bk2 hb40
  obtain ⟨n42, y43, hp44, hb45⟩ := trod_elem (i := 1) Try.underlying29 hf2 (by omega) (sz := 6) (by kernel_rfl)
  replace hp44 : DataW.trod enc Try.prog W 0 (fun _ => true) true n42 28 [a2_6, a2_7, a2_8, a2_9, a2_10, a2_11] = some y43 := hp44
  have bk46 := bulk_agg bk2 hb45
  obtain ⟨n47, y48, hp49, hb50⟩ := trod_field (i := 0) (off := 0) (ty := 3) Try.underlying28 hp39 (by rfl) (sz := 1) (by kernel_rfl)
  replace hp49 : DataW.trod enc Try.prog W 0 (fun _ => true) true n47 3 [a2_0] = some y48 := hp49
  have bk51 := bulk_agg bk41 hb50
  obtain ⟨n52, y53, hp54, hb55⟩ := trod_field (i := 1) (off := 1) (ty := 23) Try.underlying28 hp39 (by rfl) (sz := 2) (by kernel_rfl)
  replace hp54 : DataW.trod enc Try.prog W 0 (fun _ => true) true n52 23 [a2_1, a2_2] = some y53 := hp54
  have bk56 := bulk_agg bk41 hb55
  obtain ⟨n57, y58, hp59, hb60⟩ := trod_field (i := 2) (off := 3) (ty := 24) Try.underlying28 hp39 (by rfl) (sz := 1) (by kernel_rfl)
  replace hp59 : DataW.trod enc Try.prog W 0 (fun _ => true) true n57 24 [a2_3] = some y58 := hp59
  have bk61 := bulk_agg bk41 hb60
  obtain ⟨n62, y63, hp64, hb65⟩ := trod_field (i := 3) (off := 4) (ty := 25) Try.underlying28 hp39 (by rfl) (sz := 1) (by kernel_rfl)
  replace hp64 : DataW.trod enc Try.prog W 0 (fun _ => true) true n62 25 [a2_4] = some y63 := hp64
  have bk66 := bulk_agg bk41 hb65
  obtain ⟨n67, y68, hp69, hb70⟩ := trod_field (i := 4) (off := 5) (ty := 26) Try.underlying28 hp39 (by rfl) (sz := 1) (by kernel_rfl)
  replace hp69 : DataW.trod enc Try.prog W 0 (fun _ => true) true n67 26 [a2_5] = some y68 := hp69
  have bk71 := bulk_agg bk41 hb70
  obtain ⟨z72, hc73, hy74, wz75⟩ := DataW.trod_int Try.underlying3 hp49
  replace wz75 := wf_i64 wz75
  obtain rfl : a2_0 = .int .i64 z72 := by simpa using hc73
  obtain ⟨n76, y77, hp78, hb79⟩ := trod_field (i := 0) (off := 0) (ty := 3) Try.underlying23 hp54 (by rfl) (sz := 1) (by kernel_rfl)
  replace hp78 : DataW.trod enc Try.prog W 0 (fun _ => true) true n76 3 [a2_1] = some y77 := hp78
  have bk80 := bulk_agg bk56 hb79
  obtain ⟨n81, y82, hp83, hb84⟩ := trod_field (i := 1) (off := 1) (ty := 3) Try.underlying23 hp54 (by rfl) (sz := 1) (by kernel_rfl)
  replace hp83 : DataW.trod enc Try.prog W 0 (fun _ => true) true n81 3 [a2_2] = some y82 := hp83
  have bk85 := bulk_agg bk56 hb84
  obtain ⟨z86, hc87, hy88, wz89⟩ := DataW.trod_int Try.underlying3 hp78
  replace wz89 := wf_i64 wz89
  obtain rfl : a2_1 = .int .i64 z86 := by simpa using hc87
  obtain ⟨z90, hc91, hy92, wz93⟩ := DataW.trod_int Try.underlying3 hp83
  replace wz93 := wf_i64 wz93
  obtain rfl : a2_2 = .int .i64 z90 := by simpa using hc91
  obtain ⟨o94, n98, c95, rows99, hc100, hn101, hle102, hl103, he104, hr105, ho106, hb107⟩ := open_rows (sz := 7) Try.underlying24 (by kernel_rfl) (by omega) hp59
  replace hl103 : n98 ≤ 9223372036854775807 := by omega
  have hs109 : rows99.length ≤ 1048576 := bulk_slice bk61 (hb107.imp (fun h => ⟨h.1, by rw [h.2]; rfl⟩) (fun ⟨ys, zs, h1, h2, _⟩ => ⟨ys, zs, h1, h2⟩))
  rw [hn101] at hs109
  obtain ⟨l96, rfl, hq108⟩ := rows_dec S_api_Entry.row _ (fun r hr => by obtain ⟨n, y, hy⟩ := hr105 r hr; exact open_S_api_Entry hy)
  obtain rfl : l96.length = n98 := by simpa using hn101
  replace he104 : (Ent.rd o94 7 (List.map S_api_Entry.row l96)).ok W := he104
  obtain rfl : a2_3 = .slice o94 l96.length c95 := by simpa using hc100
  obtain ⟨o110, n114, c111, rows115, hc116, hn117, hle118, hl119, he120, hr121, ho122, hb123⟩ := open_rows (sz := 5) Try.underlying25 (by kernel_rfl) (by omega) hp64
  replace hl119 : n114 ≤ 9223372036854775807 := by omega
  have hs125 : rows115.length ≤ 1048576 := bulk_slice bk66 (hb123.imp (fun h => ⟨h.1, by rw [h.2]; rfl⟩) (fun ⟨ys, zs, h1, h2, _⟩ => ⟨ys, zs, h1, h2⟩))
  rw [hn117] at hs125
  obtain ⟨l112, rfl, hq124⟩ := rows_dec S_api_Last.row _ (fun r hr => by obtain ⟨n, y, hy⟩ := hr121 r hr; exact open_S_api_Last hy)
  obtain rfl : l112.length = n114 := by simpa using hn117
  replace he120 : (Ent.rd o110 5 (List.map S_api_Last.row l112)).ok W := he120
  obtain rfl : a2_4 = .slice o110 l112.length c111 := by simpa using hc116
  obtain ⟨o126, n130, c127, rows131, hc132, hn133, hle134, hl135, he136, hr137, ho138, hb139⟩ := open_rows (sz := 4) Try.underlying26 (by kernel_rfl) (by omega) hp69
  replace hl135 : n130 ≤ 9223372036854775807 := by omega
  have hs141 : rows131.length ≤ 1048576 := bulk_slice bk71 (hb139.imp (fun h => ⟨h.1, by rw [h.2]; rfl⟩) (fun ⟨ys, zs, h1, h2, _⟩ => ⟨ys, zs, h1, h2⟩))
  rw [hn133] at hs141
  obtain ⟨l128, rfl, hq140⟩ := rows_dec S_api_Item.row _ (fun r hr => by obtain ⟨n, y, hy⟩ := hr137 r hr; exact open_S_api_Item hy)
  obtain rfl : l128.length = n130 := by simpa using hn133
  replace he136 : (Ent.rd o126 4 (List.map S_api_Item.row l128)).ok W := he136
  obtain rfl : a2_5 = .slice o126 l128.length c127 := by simpa using hc132
  obtain ⟨n142, y143, hp144, hb145⟩ := trod_field (i := 0) (off := 0) (ty := 3) Try.underlying28 hp44 (by rfl) (sz := 1) (by kernel_rfl)
  replace hp144 : DataW.trod enc Try.prog W 0 (fun _ => true) true n142 3 [a2_6] = some y143 := hp144
  have bk146 := bulk_agg bk46 hb145
  obtain ⟨n147, y148, hp149, hb150⟩ := trod_field (i := 1) (off := 1) (ty := 23) Try.underlying28 hp44 (by rfl) (sz := 2) (by kernel_rfl)
  replace hp149 : DataW.trod enc Try.prog W 0 (fun _ => true) true n147 23 [a2_7, a2_8] = some y148 := hp149
  have bk151 := bulk_agg bk46 hb150
  obtain ⟨n152, y153, hp154, hb155⟩ := trod_field (i := 2) (off := 3) (ty := 24) Try.underlying28 hp44 (by rfl) (sz := 1) (by kernel_rfl)
  replace hp154 : DataW.trod enc Try.prog W 0 (fun _ => true) true n152 24 [a2_9] = some y153 := hp154
  have bk156 := bulk_agg bk46 hb155
  obtain ⟨n157, y158, hp159, hb160⟩ := trod_field (i := 3) (off := 4) (ty := 25) Try.underlying28 hp44 (by rfl) (sz := 1) (by kernel_rfl)
  replace hp159 : DataW.trod enc Try.prog W 0 (fun _ => true) true n157 25 [a2_10] = some y158 := hp159
  have bk161 := bulk_agg bk46 hb160
  obtain ⟨n162, y163, hp164, hb165⟩ := trod_field (i := 4) (off := 5) (ty := 26) Try.underlying28 hp44 (by rfl) (sz := 1) (by kernel_rfl)
  replace hp164 : DataW.trod enc Try.prog W 0 (fun _ => true) true n162 26 [a2_11] = some y163 := hp164
  have bk166 := bulk_agg bk46 hb165
  obtain ⟨z167, hc168, hy169, wz170⟩ := DataW.trod_int Try.underlying3 hp144
  replace wz170 := wf_i64 wz170
  obtain rfl : a2_6 = .int .i64 z167 := by simpa using hc168
  obtain ⟨n171, y172, hp173, hb174⟩ := trod_field (i := 0) (off := 0) (ty := 3) Try.underlying23 hp149 (by rfl) (sz := 1) (by kernel_rfl)
  replace hp173 : DataW.trod enc Try.prog W 0 (fun _ => true) true n171 3 [a2_7] = some y172 := hp173
  have bk175 := bulk_agg bk151 hb174
  obtain ⟨n176, y177, hp178, hb179⟩ := trod_field (i := 1) (off := 1) (ty := 3) Try.underlying23 hp149 (by rfl) (sz := 1) (by kernel_rfl)
  replace hp178 : DataW.trod enc Try.prog W 0 (fun _ => true) true n176 3 [a2_8] = some y177 := hp178
  have bk180 := bulk_agg bk151 hb179
  obtain ⟨z181, hc182, hy183, wz184⟩ := DataW.trod_int Try.underlying3 hp173
  replace wz184 := wf_i64 wz184
  obtain rfl : a2_7 = .int .i64 z181 := by simpa using hc182
  obtain ⟨z185, hc186, hy187, wz188⟩ := DataW.trod_int Try.underlying3 hp178
  replace wz188 := wf_i64 wz188
  obtain rfl : a2_8 = .int .i64 z185 := by simpa using hc186
  obtain ⟨o189, n193, c190, rows194, hc195, hn196, hle197, hl198, he199, hr200, ho201, hb202⟩ := open_rows (sz := 7) Try.underlying24 (by kernel_rfl) (by omega) hp154
  replace hl198 : n193 ≤ 9223372036854775807 := by omega
  have hs204 : rows194.length ≤ 1048576 := bulk_slice bk156 (hb202.imp (fun h => ⟨h.1, by rw [h.2]; rfl⟩) (fun ⟨ys, zs, h1, h2, _⟩ => ⟨ys, zs, h1, h2⟩))
  rw [hn196] at hs204
  obtain ⟨l191, rfl, hq203⟩ := rows_dec S_api_Entry.row _ (fun r hr => by obtain ⟨n, y, hy⟩ := hr200 r hr; exact open_S_api_Entry hy)
  obtain rfl : l191.length = n193 := by simpa using hn196
  replace he199 : (Ent.rd o189 7 (List.map S_api_Entry.row l191)).ok W := he199
  obtain rfl : a2_9 = .slice o189 l191.length c190 := by simpa using hc195
  obtain ⟨o205, n209, c206, rows210, hc211, hn212, hle213, hl214, he215, hr216, ho217, hb218⟩ := open_rows (sz := 5) Try.underlying25 (by kernel_rfl) (by omega) hp159
  replace hl214 : n209 ≤ 9223372036854775807 := by omega
  have hs220 : rows210.length ≤ 1048576 := bulk_slice bk161 (hb218.imp (fun h => ⟨h.1, by rw [h.2]; rfl⟩) (fun ⟨ys, zs, h1, h2, _⟩ => ⟨ys, zs, h1, h2⟩))
  rw [hn212] at hs220
  obtain ⟨l207, rfl, hq219⟩ := rows_dec S_api_Last.row _ (fun r hr => by obtain ⟨n, y, hy⟩ := hr216 r hr; exact open_S_api_Last hy)
  obtain rfl : l207.length = n209 := by simpa using hn212
  replace he215 : (Ent.rd o205 5 (List.map S_api_Last.row l207)).ok W := he215
  obtain rfl : a2_10 = .slice o205 l207.length c206 := by simpa using hc211
  obtain ⟨o221, n225, c222, rows226, hc227, hn228, hle229, hl230, he231, hr232, ho233, hb234⟩ := open_rows (sz := 4) Try.underlying26 (by kernel_rfl) (by omega) hp164
  replace hl230 : n225 ≤ 9223372036854775807 := by omega
  have hs236 : rows226.length ≤ 1048576 := bulk_slice bk166 (hb234.imp (fun h => ⟨h.1, by rw [h.2]; rfl⟩) (fun ⟨ys, zs, h1, h2, _⟩ => ⟨ys, zs, h1, h2⟩))
  rw [hn228] at hs236
  obtain ⟨l223, rfl, hq235⟩ := rows_dec S_api_Item.row _ (fun r hr => by obtain ⟨n, y, hy⟩ := hr232 r hr; exact open_S_api_Item hy)
  obtain rfl : l223.length = n225 := by simpa using hn228
  replace he231 : (Ent.rd o221 4 (List.map S_api_Item.row l223)).ok W := he231
  obtain rfl : a2_11 = .slice o221 l223.length c222 := by simpa using hc227
  clear hA0
  simp only [List.append_nil] at hW'
  refine (CallG.law (w_tholelaw13_PglogCompares 64 (S_api_Version.mk z11 z15) (S_api_Version.mk z29 z33) z72 (S_api_Version.mk z86 z90) o94 c95 l96 o110 c111 l112 o126 c127 l128 z167 (S_api_Version.mk z181 z185) o189 c190 l191 o205 c206 l207 o221 c222 l223  (law_compares (S_api_Version.mk z11 z15) (S_api_Version.mk z29 z33) (Stt.mk z72 (S_api_Version.mk z86 z90) l96 l112 l128) (Stt.mk z167 (S_api_Version.mk z181 z185) l191 l207 l223) ⟨Nat.le_trans (by first | exact hs109 | (have h := hs109; rw [List.length_map] at h; exact h)) (show 1048576 ≤ 33554432 by decide), Nat.le_trans (by first | exact hs125 | (have h := hs125; rw [List.length_map] at h; exact h)) (show 1048576 ≤ 33554432 by decide), Nat.le_trans (by first | exact hs141 | (have h := hs141; rw [List.length_map] at h; exact h)) (show 1048576 ≤ 33554432 by decide)⟩)) W ⟨he104, he120, he136, he199, he215, he231, trivial⟩).mono fun e W' ⟨he, hkeep⟩ => ?_
  subst he
  have bel := hkeep.below
  exact ⟨_, rfl, _, _, _, [], _, [], hW', trodAll_mk1 (shut_bool Try.underlying4 _), (trodAll_cons_mk (Below.trod laidOut (by kernel_rfl) (of_decide_eq_true (by kernel_rfl)) k0 bel lt0) (trodAll_cons_mk (Below.trod laidOut (by kernel_rfl) (of_decide_eq_true (by kernel_rfl)) k1 bel lt1) (trodAll_cons_mk (Below.trod laidOut (by kernel_rfl) (of_decide_eq_true (by kernel_rfl)) k2 bel lt2) trodAll_mk0))), rfl, bel.frame _, fun h => by cases h⟩

theorem lifted (os : Os) (started : os.Started) (H : Type) (enc : TypeId × Value → H) (F : Stop.Interp) :
    ReturnsInHanded {} Try.checked os 3 .any ((Rows.OpenSpec.upto Rows.pglogComparesSpec).pre6 enc Try.prog Try.f3 Rows.pglogComparesUptoRow.domain false) (((Rows.OpenSpec.upto Rows.pglogComparesSpec).at F).post enc Try.prog Try.f3 false true false false) := by
  refine returnsInHanded_of_cond (C := Try.checked) (s := Rows.OpenSpec.upto Rows.pglogComparesSpec) (k := Rows.uptoSmall) rfl own started (by kernel_rfl) Try.func3
    (OpenSpec.witness (enc := enc) (C := Try.checked) (s := Rows.OpenSpec.upto Rows.pglogComparesSpec) (k := Rows.uptoSmall) rfl false ⟨#[], #[.agg #[.int .i64 0, .int .i64 0], .agg #[.int .i64 0, .int .i64 0], .agg #[.int .i64 0, .int .i64 0, .int .i64 0, .slice none 0 0, .slice none 0 0, .slice none 0 0, .int .i64 0, .int .i64 0, .int .i64 0, .slice none 0 0, .slice none 0 0, .slice none 0 0]], []⟩ 8 (by kernel_rfl) (by kernel_rfl) (by kernel_rfl)
      (x := ([.agg [.lit (.int .i64 0), .lit (.int .i64 0)], .agg [.lit (.int .i64 0), .lit (.int .i64 0)], .agg [.agg [.lit (.int .i64 0), .agg [.lit (.int .i64 0), .lit (.int .i64 0)], .nil, .nil, .nil], .agg [.lit (.int .i64 0), .agg [.lit (.int .i64 0), .lit (.int .i64 0)], .nil, .nil, .nil]]], [], [])) (by kernel_rfl) rfl (by kernel_rfl)) ?_
  intro W base args ds gs before hval hW _ hk _
  exact contract H enc W base args ds gs before hval hW hk

/-- THE STATEMENT -/
theorem proved : Rows.PglogComparesUptoSaid :=
  OpenClaim.holds_of_cond 3 Try.f3 rfl rfl rfl rfl rfl rfl rfl ⟨rfl, rfl, rfl, rfl, rfl⟩ rfl rfl rfl rfl rfl (by kernel_rfl) Try.func3 (by kernel_rfl)
    (of_decide_eq_true (by kernel_rfl)) (by unfold Func.isWrapper; first | (rw [if_pos (by decide +kernel)]; kernel_rfl) | (rw [if_neg (by decide +kernel)]; exact ⟨rfl, rfl⟩))
    (fun os started H enc _ F => lifted os started H enc F)
end Go.Proofs.Ytmoaiokgbjkaaaa.pglogComparesUpto
