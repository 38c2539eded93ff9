/-
  THE LAW MissingDiffs: for every input of the given program's function it returns true, and the input reads behind the call as it read before. Proved in the second form: where what came in is of bulk at most 1048576.
-/
import Derived.Test.YtdelhcdknglibaaRows
import Derived.JoinedCond
import Derived.Test.YtdelhcdknglibaaSxh
import Derived.Test.YtdelhcdknglibaaBulk
import Derived.Test.YtdelhcdknglibaaW14bj
import Derived.Test.YtdelhcdknglibaaP14i
import Derived.Test.YtdelhcdknglibaaO14b
set_option linter.unusedVariables false
set_option linter.unusedSimpArgs false
set_option maxRecDepth 100000
namespace Go.Proofs.Ytdelhcdknglibaa.missingDiffsUpto
open Go.ChangeShapes Go.WideShapes Go.ChangeAt Go.RowKit Sx

theorem own : ownKnob Try.prog.godebug = none := by kernel_rfl
theorem laidOut : laidOutB Try.prog = true := by kernel_rfl

theorem contract (H : Type) (enc : TypeId × Value → H) (W : World) (base : Nat) (args : Array Value) (ds gs : List (DataW H)) (before : List MemPlace)
    (hval : ∀ (j : Nat) t v, Try.f4.params[j]? = some t → args[j]? = some v → Value.okWide Try.prog W .any base t v)
    (hW : DataW.Whole enc Try.prog Try.f4.params.toList Rows.missingDiffsSpec.vars false W args.toList ds gs before) (hk : Rows.uptoSmall H (ds ++ gs) = true) :
    Calls Try.prog 4 args W fun e W' => ∃ v, e = .returned v ∧ Rows.missingDiffsSpec.post enc Try.prog Try.f4 false true false false W args v W' := by
  have hW' := hW
  obtain ⟨p, q, hA0, hV, rfl, hfz, hnd⟩ := hW
  have hA : DataW.TrodAll enc Try.prog W 0 (fun _ => true) true Try.f4.params.toList args.toList ds p := hA0
  rw [Try.params4] at hA hval
  obtain ⟨v0, vs0, d0, ds0, p0, q0, hargs, rfl, rfl, h0, r0⟩ := trodAll_cons hA
  obtain ⟨v1, vs1, d1, ds1, p1, q1, rfl, rfl, rfl, h1, r1⟩ := trodAll_cons r0
  obtain ⟨rfl, rfl, rfl⟩ := trodAll_nil r1
  obtain rfl : args = #[v0, v1] := by cases args; simp_all
  obtain ⟨rfl, rfl⟩ := trodVars_none hV
  have k0 := h0
  have lt0 : ∀ x ∈ p0, x.block < W.heap.size := by obtain ⟨m, hm⟩ := k0; exact DataW.trod_lt m _ _ _ hm
  have bk0 : Rows.uptoBulk d0 ≤ 1048576 := bulk_arg hk (by simp)
  obtain ⟨a0, rfl, a0s⟩ := okWide_struct Try.underlying28 (hval 0 28 v0 rfl rfl)
  obtain ⟨fu0, hf0⟩ := h0
  rw [show Try.prog.cellsOf 28 = 6 by kernel_rfl] at a0s
  obtain ⟨a0l, rfl, a0s⟩ := arr_list a0s
  obtain ⟨a0_0, a0l0, rfl⟩ : ∃ c l, a0l = c :: l := by cases a0l with | nil => simp at a0s | cons c l => exact ⟨c, l, rfl⟩
  obtain ⟨a0_1, a0l1, rfl⟩ : ∃ c l, a0l0 = c :: l := by cases a0l0 with | nil => simp at a0s | cons c l => exact ⟨c, l, rfl⟩
  obtain ⟨a0_2, a0l2, rfl⟩ : ∃ c l, a0l1 = c :: l := by cases a0l1 with | nil => simp at a0s | cons c l => exact ⟨c, l, rfl⟩
  obtain ⟨a0_3, a0l3, rfl⟩ : ∃ c l, a0l2 = c :: l := by cases a0l2 with | nil => simp at a0s | cons c l => exact ⟨c, l, rfl⟩
  obtain ⟨a0_4, a0l4, rfl⟩ : ∃ c l, a0l3 = c :: l := by cases a0l3 with | nil => simp at a0s | cons c l => exact ⟨c, l, rfl⟩
  obtain ⟨a0_5, a0l5, rfl⟩ : ∃ c l, a0l4 = c :: l := by cases a0l4 with | nil => simp at a0s | cons c l => exact ⟨c, l, rfl⟩
  obtain rfl : a0l5 = [] := by simpa using a0s
  replace hf0 : DataW.trod enc Try.prog W 0 (fun _ => true) true fu0 28 [a0_0, a0_1, a0_2, a0_3, a0_4, a0_5] = some (d0, p0) := hf0
  obtain ⟨n1, y2, hp3, hb4⟩ := trod_field (i := 0) (off := 0) (ty := 3) Try.underlying28 hf0 (by rfl) (sz := 1) (by kernel_rfl)
  replace hp3 : DataW.trod enc Try.prog W 0 (fun _ => true) true n1 3 [a0_0] = some y2 := hp3
  have bk5 := bulk_agg bk0 hb4
  obtain ⟨n6, y7, hp8, hb9⟩ := trod_field (i := 1) (off := 1) (ty := 23) Try.underlying28 hf0 (by rfl) (sz := 2) (by kernel_rfl)
  replace hp8 : DataW.trod enc Try.prog W 0 (fun _ => true) true n6 23 [a0_1, a0_2] = some y7 := hp8
  have bk10 := bulk_agg bk0 hb9
  obtain ⟨n11, y12, hp13, hb14⟩ := trod_field (i := 2) (off := 3) (ty := 24) Try.underlying28 hf0 (by rfl) (sz := 1) (by kernel_rfl)
  replace hp13 : DataW.trod enc Try.prog W 0 (fun _ => true) true n11 24 [a0_3] = some y12 := hp13
  have bk15 := bulk_agg bk0 hb14
  obtain ⟨n16, y17, hp18, hb19⟩ := trod_field (i := 3) (off := 4) (ty := 25) Try.underlying28 hf0 (by rfl) (sz := 1) (by kernel_rfl)
  replace hp18 : DataW.trod enc Try.prog W 0 (fun _ => true) true n16 25 [a0_4] = some y17 := hp18
  have bk20 := bulk_agg bk0 hb19
  obtain ⟨n21, y22, hp23, hb24⟩ := trod_field (i := 4) (off := 5) (ty := 26) Try.underlying28 hf0 (by rfl) (sz := 1) (by kernel_rfl)
  replace hp23 : DataW.trod enc Try.prog W 0 (fun _ => true) true n21 26 [a0_5] = some y22 := hp23
  have bk25 := bulk_agg bk0 hb24
  obtain ⟨z26, hc27, hy28, wz29⟩ := DataW.trod_int Try.underlying3 hp3
  replace wz29 := wf_i64 wz29
  obtain rfl : a0_0 = .int .i64 z26 := by simpa using hc27
  obtain ⟨n30, y31, hp32, hb33⟩ := trod_field (i := 0) (off := 0) (ty := 3) Try.underlying23 hp8 (by rfl) (sz := 1) (by kernel_rfl)
  replace hp32 : DataW.trod enc Try.prog W 0 (fun _ => true) true n30 3 [a0_1] = some y31 := hp32
  have bk34 := bulk_agg bk10 hb33
  obtain ⟨n35, y36, hp37, hb38⟩ := trod_field (i := 1) (off := 1) (ty := 3) Try.underlying23 hp8 (by rfl) (sz := 1) (by kernel_rfl)
  replace hp37 : DataW.trod enc Try.prog W 0 (fun _ => true) true n35 3 [a0_2] = some y36 := hp37
  have bk39 := bulk_agg bk10 hb38
  obtain ⟨z40, hc41, hy42, wz43⟩ := DataW.trod_int Try.underlying3 hp32
  replace wz43 := wf_i64 wz43
  obtain rfl : a0_1 = .int .i64 z40 := by simpa using hc41
  obtain ⟨z44, hc45, hy46, wz47⟩ := DataW.trod_int Try.underlying3 hp37
  replace wz47 := wf_i64 wz47
  obtain rfl : a0_2 = .int .i64 z44 := by simpa using hc45
  obtain ⟨o48, n52, c49, rows53, hc54, hn55, hle56, hl57, he58, hr59, ho60, hb61⟩ := open_rows (sz := 7) Try.underlying24 (by kernel_rfl) (by omega) hp13
  replace hl57 : n52 ≤ 9223372036854775807 := by omega
  have hs63 : rows53.length ≤ 1048576 := bulk_slice bk15 (hb61.imp (fun h => ⟨h.1, by rw [h.2]; rfl⟩) (fun ⟨ys, zs, h1, h2, _⟩ => ⟨ys, zs, h1, h2⟩))
  rw [hn55] at hs63
  obtain ⟨l50, rfl, hq62⟩ := rows_dec S_api_Entry.row _ (fun r hr => by obtain ⟨n, y, hy⟩ := hr59 r hr; exact open_S_api_Entry hy)
  obtain rfl : l50.length = n52 := by simpa using hn55
  replace he58 : (Ent.rd o48 7 (List.map S_api_Entry.row l50)).ok W := he58
  obtain rfl : a0_3 = .slice o48 l50.length c49 := by simpa using hc54
  have sb64 : ∀ x ∈ l50, StrB 1048576 (S_api_Entry.row x) := rows_strs bk15 hb61 (fun n r y hy hk => strs_S_api_Entry hy hk)
  obtain ⟨o65, n69, c66, rows70, hc71, hn72, hle73, hl74, he75, hr76, ho77, hb78⟩ := open_rows (sz := 5) Try.underlying25 (by kernel_rfl) (by omega) hp18
  replace hl74 : n69 ≤ 9223372036854775807 := by omega
  have hs80 : rows70.length ≤ 1048576 := bulk_slice bk20 (hb78.imp (fun h => ⟨h.1, by rw [h.2]; rfl⟩) (fun ⟨ys, zs, h1, h2, _⟩ => ⟨ys, zs, h1, h2⟩))
  rw [hn72] at hs80
  obtain ⟨l67, rfl, hq79⟩ := rows_dec S_api_Last.row _ (fun r hr => by obtain ⟨n, y, hy⟩ := hr76 r hr; exact open_S_api_Last hy)
  obtain rfl : l67.length = n69 := by simpa using hn72
  replace he75 : (Ent.rd o65 5 (List.map S_api_Last.row l67)).ok W := he75
  obtain rfl : a0_4 = .slice o65 l67.length c66 := by simpa using hc71
  have sb81 : ∀ x ∈ l67, StrB 1048576 (S_api_Last.row x) := rows_strs bk20 hb78 (fun n r y hy hk => strs_S_api_Last hy hk)
  obtain ⟨o82, n86, c83, rows87, hc88, hn89, hle90, hl91, he92, hr93, ho94, hb95⟩ := open_rows (sz := 4) Try.underlying26 (by kernel_rfl) (by omega) hp23
  replace hl91 : n86 ≤ 9223372036854775807 := by omega
  have hs97 : rows87.length ≤ 1048576 := bulk_slice bk25 (hb95.imp (fun h => ⟨h.1, by rw [h.2]; rfl⟩) (fun ⟨ys, zs, h1, h2, _⟩ => ⟨ys, zs, h1, h2⟩))
  rw [hn89] at hs97
  obtain ⟨l84, rfl, hq96⟩ := rows_dec S_api_Item.row _ (fun r hr => by obtain ⟨n, y, hy⟩ := hr93 r hr; exact open_S_api_Item hy)
  obtain rfl : l84.length = n86 := by simpa using hn89
  replace he92 : (Ent.rd o82 4 (List.map S_api_Item.row l84)).ok W := he92
  obtain rfl : a0_5 = .slice o82 l84.length c83 := by simpa using hc88
  have sb98 : ∀ x ∈ l84, StrB 1048576 (S_api_Item.row x) := rows_strs bk25 hb95 (fun n r y hy hk => strs_S_api_Item hy hk)
  have k1 := h1
  have lt1 : ∀ x ∈ p1, x.block < W.heap.size := by obtain ⟨m, hm⟩ := k1; exact DataW.trod_lt m _ _ _ hm
  have bk1 : Rows.uptoBulk d1 ≤ 1048576 := bulk_arg hk (by simp)
  obtain ⟨a1, rfl, a1s⟩ := okWide_struct Try.underlying28 (hval 1 28 v1 rfl rfl)
  obtain ⟨fu1, hf1⟩ := h1
  rw [show Try.prog.cellsOf 28 = 6 by kernel_rfl] at a1s
  obtain ⟨a1l, rfl, a1s⟩ := arr_list a1s
  obtain ⟨a1_0, a1l0, rfl⟩ : ∃ c l, a1l = c :: l := by cases a1l with | nil => simp at a1s | cons c l => exact ⟨c, l, rfl⟩
  obtain ⟨a1_1, a1l1, rfl⟩ : ∃ c l, a1l0 = c :: l := by cases a1l0 with | nil => simp at a1s | cons c l => exact ⟨c, l, rfl⟩
  obtain ⟨a1_2, a1l2, rfl⟩ : ∃ c l, a1l1 = c :: l := by cases a1l1 with | nil => simp at a1s | cons c l => exact ⟨c, l, rfl⟩
  obtain ⟨a1_3, a1l3, rfl⟩ : ∃ c l, a1l2 = c :: l := by cases a1l2 with | nil => simp at a1s | cons c l => exact ⟨c, l, rfl⟩
  obtain ⟨a1_4, a1l4, rfl⟩ : ∃ c l, a1l3 = c :: l := by cases a1l3 with | nil => simp at a1s | cons c l => exact ⟨c, l, rfl⟩
  obtain ⟨a1_5, a1l5, rfl⟩ : ∃ c l, a1l4 = c :: l := by cases a1l4 with | nil => simp at a1s | cons c l => exact ⟨c, l, rfl⟩
  obtain rfl : a1l5 = [] := by simpa using a1s
  replace hf1 : DataW.trod enc Try.prog W 0 (fun _ => true) true fu1 28 [a1_0, a1_1, a1_2, a1_3, a1_4, a1_5] = some (d1, p1) := hf1
  obtain ⟨n99, y100, hp101, hb102⟩ := trod_field (i := 0) (off := 0) (ty := 3) Try.underlying28 hf1 (by rfl) (sz := 1) (by kernel_rfl)
  replace hp101 : DataW.trod enc Try.prog W 0 (fun _ => true) true n99 3 [a1_0] = some y100 := hp101
  have bk103 := bulk_agg bk1 hb102
  obtain ⟨n104, y105, hp106, hb107⟩ := trod_field (i := 1) (off := 1) (ty := 23) Try.underlying28 hf1 (by rfl) (sz := 2) (by kernel_rfl)
  replace hp106 : DataW.trod enc Try.prog W 0 (fun _ => true) true n104 23 [a1_1, a1_2] = some y105 := hp106
  have bk108 := bulk_agg bk1 hb107
  obtain ⟨n109, y110, hp111, hb112⟩ := trod_field (i := 2) (off := 3) (ty := 24) Try.underlying28 hf1 (by rfl) (sz := 1) (by kernel_rfl)
  replace hp111 : DataW.trod enc Try.prog W 0 (fun _ => true) true n109 24 [a1_3] = some y110 := hp111
  have bk113 := bulk_agg bk1 hb112
  obtain ⟨n114, y115, hp116, hb117⟩ := trod_field (i := 3) (off := 4) (ty := 25) Try.underlying28 hf1 (by rfl) (sz := 1) (by kernel_rfl)
  replace hp116 : DataW.trod enc Try.prog W 0 (fun _ => true) true n114 25 [a1_4] = some y115 := hp116
  have bk118 := bulk_agg bk1 hb117
  obtain ⟨n119, y120, hp121, hb122⟩ := trod_field (i := 4) (off := 5) (ty := 26) Try.underlying28 hf1 (by rfl) (sz := 1) (by kernel_rfl)
  replace hp121 : DataW.trod enc Try.prog W 0 (fun _ => true) true n119 26 [a1_5] = some y120 := hp121
  have bk123 := bulk_agg bk1 hb122
  obtain ⟨z124, hc125, hy126, wz127⟩ := DataW.trod_int Try.underlying3 hp101
  replace wz127 := wf_i64 wz127
  obtain rfl : a1_0 = .int .i64 z124 := by simpa using hc125
  obtain ⟨n128, y129, hp130, hb131⟩ := trod_field (i := 0) (off := 0) (ty := 3) Try.underlying23 hp106 (by rfl) (sz := 1) (by kernel_rfl)
  replace hp130 : DataW.trod enc Try.prog W 0 (fun _ => true) true n128 3 [a1_1] = some y129 := hp130
  have bk132 := bulk_agg bk108 hb131
  obtain ⟨n133, y134, hp135, hb136⟩ := trod_field (i := 1) (off := 1) (ty := 3) Try.underlying23 hp106 (by rfl) (sz := 1) (by kernel_rfl)
  replace hp135 : DataW.trod enc Try.prog W 0 (fun _ => true) true n133 3 [a1_2] = some y134 := hp135
  have bk137 := bulk_agg bk108 hb136
  obtain ⟨z138, hc139, hy140, wz141⟩ := DataW.trod_int Try.underlying3 hp130
  replace wz141 := wf_i64 wz141
  obtain rfl : a1_1 = .int .i64 z138 := by simpa using hc139
  obtain ⟨z142, hc143, hy144, wz145⟩ := DataW.trod_int Try.underlying3 hp135
  replace wz145 := wf_i64 wz145
  obtain rfl : a1_2 = .int .i64 z142 := by simpa using hc143
  obtain ⟨o146, n150, c147, rows151, hc152, hn153, hle154, hl155, he156, hr157, ho158, hb159⟩ := open_rows (sz := 7) Try.underlying24 (by kernel_rfl) (by omega) hp111
  replace hl155 : n150 ≤ 9223372036854775807 := by omega
  have hs161 : rows151.length ≤ 1048576 := bulk_slice bk113 (hb159.imp (fun h => ⟨h.1, by rw [h.2]; rfl⟩) (fun ⟨ys, zs, h1, h2, _⟩ => ⟨ys, zs, h1, h2⟩))
  rw [hn153] at hs161
  obtain ⟨l148, rfl, hq160⟩ := rows_dec S_api_Entry.row _ (fun r hr => by obtain ⟨n, y, hy⟩ := hr157 r hr; exact open_S_api_Entry hy)
  obtain rfl : l148.length = n150 := by simpa using hn153
  replace he156 : (Ent.rd o146 7 (List.map S_api_Entry.row l148)).ok W := he156
  obtain rfl : a1_3 = .slice o146 l148.length c147 := by simpa using hc152
  have sb162 : ∀ x ∈ l148, StrB 1048576 (S_api_Entry.row x) := rows_strs bk113 hb159 (fun n r y hy hk => strs_S_api_Entry hy hk)
  obtain ⟨o163, n167, c164, rows168, hc169, hn170, hle171, hl172, he173, hr174, ho175, hb176⟩ := open_rows (sz := 5) Try.underlying25 (by kernel_rfl) (by omega) hp116
  replace hl172 : n167 ≤ 9223372036854775807 := by omega
  have hs178 : rows168.length ≤ 1048576 := bulk_slice bk118 (hb176.imp (fun h => ⟨h.1, by rw [h.2]; rfl⟩) (fun ⟨ys, zs, h1, h2, _⟩ => ⟨ys, zs, h1, h2⟩))
  rw [hn170] at hs178
  obtain ⟨l165, rfl, hq177⟩ := rows_dec S_api_Last.row _ (fun r hr => by obtain ⟨n, y, hy⟩ := hr174 r hr; exact open_S_api_Last hy)
  obtain rfl : l165.length = n167 := by simpa using hn170
  replace he173 : (Ent.rd o163 5 (List.map S_api_Last.row l165)).ok W := he173
  obtain rfl : a1_4 = .slice o163 l165.length c164 := by simpa using hc169
  have sb179 : ∀ x ∈ l165, StrB 1048576 (S_api_Last.row x) := rows_strs bk118 hb176 (fun n r y hy hk => strs_S_api_Last hy hk)
  obtain ⟨o180, n184, c181, rows185, hc186, hn187, hle188, hl189, he190, hr191, ho192, hb193⟩ := open_rows (sz := 4) Try.underlying26 (by kernel_rfl) (by omega) hp121
  replace hl189 : n184 ≤ 9223372036854775807 := by omega
  have hs195 : rows185.length ≤ 1048576 := bulk_slice bk123 (hb193.imp (fun h => ⟨h.1, by rw [h.2]; rfl⟩) (fun ⟨ys, zs, h1, h2, _⟩ => ⟨ys, zs, h1, h2⟩))
  rw [hn187] at hs195
  obtain ⟨l182, rfl, hq194⟩ := rows_dec S_api_Item.row _ (fun r hr => by obtain ⟨n, y, hy⟩ := hr191 r hr; exact open_S_api_Item hy)
  obtain rfl : l182.length = n184 := by simpa using hn187
  replace he190 : (Ent.rd o180 4 (List.map S_api_Item.row l182)).ok W := he190
  obtain rfl : a1_5 = .slice o180 l182.length c181 := by simpa using hc186
  have sb196 : ∀ x ∈ l182, StrB 1048576 (S_api_Item.row x) := rows_strs bk123 hb193 (fun n r y hy hk => strs_S_api_Item hy hk)
  clear hA0
  simp only [List.append_nil] at hW'
  refine (CallG.law (w_tholelaw14_MissingDiffs (0 + 1000) z26 (S_api_Version.mk z40 z44) o48 c49 l50 o65 c66 l67 o82 c83 l84 z124 (S_api_Version.mk z138 z142) o146 c147 l148 o163 c164 l165 o180 c181 l182  (law_diffs 0 (Stt.mk z26 (S_api_Version.mk z40 z44) l50 l67 l84) (Stt.mk z124 (S_api_Version.mk z138 z142) l148 l165 l182) (by first | exact hs63 | (have h := hs63; rw [List.length_map] at h; exact h)) (by first | exact hs80 | (have h := hs80; rw [List.length_map] at h; exact h)) (by first | exact hs97 | (have h := hs97; rw [List.length_map] at h; exact h)) (by first | exact hs161 | (have h := hs161; rw [List.length_map] at h; exact h)) (by first | exact hs178 | (have h := hs178; rw [List.length_map] at h; exact h)) (by first | exact hs195 | (have h := hs195; rw [List.length_map] at h; exact h)) (fun e he => sb64 e he _ (by simp [S_api_Entry.row])) (fun e he => sb98 e he _ (by simp [S_api_Item.row])) (fun e he => sb162 e he _ (by simp [S_api_Entry.row])) (fun e he => sb196 e he _ (by simp [S_api_Item.row])))) W ⟨he58, he75, he92, he156, he173, he190, trivial⟩).mono fun e W' ⟨he, hkeep⟩ => ?_
  subst he
  have bel := hkeep.below
  exact ⟨_, rfl, _, _, _, [], _, [], hW', trodAll_mk1 (shut_bool Try.underlying4 _), (trodAll_cons_mk (Below.trod laidOut (by kernel_rfl) (of_decide_eq_true (by kernel_rfl)) k0 bel lt0) (trodAll_cons_mk (Below.trod laidOut (by kernel_rfl) (of_decide_eq_true (by kernel_rfl)) k1 bel lt1) trodAll_mk0)), rfl, bel.frame _, fun h => by cases h⟩

theorem lifted (os : Os) (started : os.Started) (H : Type) (enc : TypeId × Value → H) (F : Stop.Interp) :
    ReturnsInHanded {} Try.checked os 4 .any ((Rows.OpenSpec.upto Rows.missingDiffsSpec).pre6 enc Try.prog Try.f4 Rows.missingDiffsUptoRow.domain false) (((Rows.OpenSpec.upto Rows.missingDiffsSpec).at F).post enc Try.prog Try.f4 false true false false) := by
  refine returnsInHanded_of_cond (C := Try.checked) (s := Rows.OpenSpec.upto Rows.missingDiffsSpec) (k := Rows.uptoSmall) rfl own started (by kernel_rfl) Try.func4
    (OpenSpec.witness (enc := enc) (C := Try.checked) (s := Rows.OpenSpec.upto Rows.missingDiffsSpec) (k := Rows.uptoSmall) rfl false ⟨#[], #[.agg #[.int .i64 0, .int .i64 0, .int .i64 0, .slice none 0 0, .slice none 0 0, .slice none 0 0], .agg #[.int .i64 0, .int .i64 0, .int .i64 0, .slice none 0 0, .slice none 0 0, .slice none 0 0]], []⟩ 8 (by kernel_rfl) (by kernel_rfl) (by kernel_rfl)
      (x := ([.agg [.lit (.int .i64 0), .agg [.lit (.int .i64 0), .lit (.int .i64 0)], .nil, .nil, .nil], .agg [.lit (.int .i64 0), .agg [.lit (.int .i64 0), .lit (.int .i64 0)], .nil, .nil, .nil]], [], [])) (by kernel_rfl) rfl (by kernel_rfl)) ?_
  intro W base args ds gs before hval hW _ hk _
  exact contract H enc W base args ds gs before hval hW hk

/-- THE STATEMENT -/
theorem proved : Rows.MissingDiffsUptoSaid :=
  OpenClaim.holds_of_cond 4 Try.f4 rfl rfl rfl rfl rfl rfl rfl ⟨rfl, rfl, rfl, rfl, rfl⟩ rfl rfl rfl rfl rfl (by kernel_rfl) Try.func4 (by kernel_rfl)
    (of_decide_eq_true (by kernel_rfl)) (by unfold Func.isWrapper; first | (rw [if_pos (by decide +kernel)]; kernel_rfl) | (rw [if_neg (by decide +kernel)]; exact ⟨rfl, rfl⟩))
    (fun os started H enc _ F => lifted os started H enc F)
end Go.Proofs.Ytdelhcdknglibaa.missingDiffsUpto
