/-
  THE LAW PrimaryReads: for every input of the given program's function it returns true, and the input reads behind the call as it read before. Proved in the second form: where what came in is of bulk at most 1048576.
-/
import Derived.Test.YtjnbkhnebmlilaaRows
import Derived.JoinedCond
import Derived.Test.YtjnbkhnebmlilaaSxh
import Derived.Test.YtjnbkhnebmlilaaBulk
import Derived.Test.YtjnbkhnebmlilaaW18rm
import Derived.Test.YtjnbkhnebmlilaaP18rd
import Derived.Test.YtjnbkhnebmlilaaO18r
set_option linter.unusedVariables false
set_option linter.unusedSimpArgs false
set_option maxRecDepth 100000
namespace Go.Proofs.Ytjnbkhnebmlilaa.primaryReadsUpto
open Go.ChangeShapes Go.WideShapes Go.ChangeAt Go.RowKit Sx

theorem own : ownKnob Try.prog.godebug = none := by kernel_rfl
theorem laidOut : laidOutB Try.prog = true := by kernel_rfl

theorem contract (H : Type) (enc : TypeId × Value → H) (W : World) (base : Nat) (args : Array Value) (ds gs : List (DataW H)) (before : List MemPlace)
    (hval : ∀ (j : Nat) t v, Try.f3.params[j]? = some t → args[j]? = some v → Value.okWide Try.prog W .any base t v)
    (hW : DataW.Whole enc Try.prog Try.f3.params.toList Rows.primaryReadsSpec.vars false W args.toList ds gs before) (hk : Rows.uptoSmall H (ds ++ gs) = true) :
    Calls Try.prog 3 args W fun e W' => ∃ v, e = .returned v ∧ Rows.primaryReadsSpec.post enc Try.prog Try.f3 false true false false W args v W' := by
  have hW' := hW
  obtain ⟨p, q, hA0, hV, rfl, hfz, hnd⟩ := hW
  have hA : DataW.TrodAll enc Try.prog W 0 (fun _ => true) true Try.f3.params.toList args.toList ds p := hA0
  rw [Try.params3] at hA hval
  obtain ⟨v0, vs0, d0, ds0, p0, q0, hargs, rfl, rfl, h0, r0⟩ := trodAll_cons hA
  obtain ⟨v1, vs1, d1, ds1, p1, q1, rfl, rfl, rfl, h1, r1⟩ := trodAll_cons r0
  obtain ⟨rfl, rfl, rfl⟩ := trodAll_nil r1
  obtain rfl : args = #[v0, v1] := by cases args; simp_all
  obtain ⟨rfl, rfl⟩ := trodVars_none hV
  have k0 := h0
  have lt0 : ∀ x ∈ p0, x.block < W.heap.size := by obtain ⟨m, hm⟩ := k0; exact DataW.trod_lt m _ _ _ hm
  have bk0 : Rows.uptoBulk d0 ≤ 1048576 := bulk_arg hk (by simp)
  obtain ⟨a0, rfl, a0s⟩ := okWide_struct Try.underlying33 (hval 0 33 v0 rfl rfl)
  obtain ⟨fu0, hf0⟩ := h0
  rw [show Try.prog.cellsOf 33 = 12 by kernel_rfl] at a0s
  obtain ⟨a0l, rfl, a0s⟩ := arr_list a0s
  obtain ⟨a0_0, a0l0, rfl⟩ : ∃ c l, a0l = c :: l := by cases a0l with | nil => simp at a0s | cons c l => exact ⟨c, l, rfl⟩
  obtain ⟨a0_1, a0l1, rfl⟩ : ∃ c l, a0l0 = c :: l := by cases a0l0 with | nil => simp at a0s | cons c l => exact ⟨c, l, rfl⟩
  obtain ⟨a0_2, a0l2, rfl⟩ : ∃ c l, a0l1 = c :: l := by cases a0l1 with | nil => simp at a0s | cons c l => exact ⟨c, l, rfl⟩
  obtain ⟨a0_3, a0l3, rfl⟩ : ∃ c l, a0l2 = c :: l := by cases a0l2 with | nil => simp at a0s | cons c l => exact ⟨c, l, rfl⟩
  obtain ⟨a0_4, a0l4, rfl⟩ : ∃ c l, a0l3 = c :: l := by cases a0l3 with | nil => simp at a0s | cons c l => exact ⟨c, l, rfl⟩
  obtain ⟨a0_5, a0l5, rfl⟩ : ∃ c l, a0l4 = c :: l := by cases a0l4 with | nil => simp at a0s | cons c l => exact ⟨c, l, rfl⟩
  obtain ⟨a0_6, a0l6, rfl⟩ : ∃ c l, a0l5 = c :: l := by cases a0l5 with | nil => simp at a0s | cons c l => exact ⟨c, l, rfl⟩
  obtain ⟨a0_7, a0l7, rfl⟩ : ∃ c l, a0l6 = c :: l := by cases a0l6 with | nil => simp at a0s | cons c l => exact ⟨c, l, rfl⟩
  obtain ⟨a0_8, a0l8, rfl⟩ : ∃ c l, a0l7 = c :: l := by cases a0l7 with | nil => simp at a0s | cons c l => exact ⟨c, l, rfl⟩
  obtain ⟨a0_9, a0l9, rfl⟩ : ∃ c l, a0l8 = c :: l := by cases a0l8 with | nil => simp at a0s | cons c l => exact ⟨c, l, rfl⟩
  obtain ⟨a0_10, a0l10, rfl⟩ : ∃ c l, a0l9 = c :: l := by cases a0l9 with | nil => simp at a0s | cons c l => exact ⟨c, l, rfl⟩
  obtain ⟨a0_11, a0l11, rfl⟩ : ∃ c l, a0l10 = c :: l := by cases a0l10 with | nil => simp at a0s | cons c l => exact ⟨c, l, rfl⟩
  obtain rfl : a0l11 = [] := by simpa using a0s
  replace hf0 : DataW.trod enc Try.prog W 0 (fun _ => true) true fu0 33 [a0_0, a0_1, a0_2, a0_3, a0_4, a0_5, a0_6, a0_7, a0_8, a0_9, a0_10, a0_11] = some (d0, p0) := hf0
  obtain ⟨n1, y2, hp3, hb4⟩ := trod_field (i := 0) (off := 0) (ty := 23) Try.underlying33 hf0 (by rfl) (sz := 2) (by kernel_rfl)
  replace hp3 : DataW.trod enc Try.prog W 0 (fun _ => true) true n1 23 [a0_0, a0_1] = some y2 := hp3
  have bk5 := bulk_agg bk0 hb4
  obtain ⟨n6, y7, hp8, hb9⟩ := trod_field (i := 1) (off := 2) (ty := 3) Try.underlying33 hf0 (by rfl) (sz := 1) (by kernel_rfl)
  replace hp8 : DataW.trod enc Try.prog W 0 (fun _ => true) true n6 3 [a0_2] = some y7 := hp8
  have bk10 := bulk_agg bk0 hb9
  obtain ⟨n11, y12, hp13, hb14⟩ := trod_field (i := 2) (off := 3) (ty := 3) Try.underlying33 hf0 (by rfl) (sz := 1) (by kernel_rfl)
  replace hp13 : DataW.trod enc Try.prog W 0 (fun _ => true) true n11 3 [a0_3] = some y12 := hp13
  have bk15 := bulk_agg bk0 hb14
  obtain ⟨n16, y17, hp18, hb19⟩ := trod_field (i := 3) (off := 4) (ty := 3) Try.underlying33 hf0 (by rfl) (sz := 1) (by kernel_rfl)
  replace hp18 : DataW.trod enc Try.prog W 0 (fun _ => true) true n16 3 [a0_4] = some y17 := hp18
  have bk20 := bulk_agg bk0 hb19
  obtain ⟨n21, y22, hp23, hb24⟩ := trod_field (i := 4) (off := 5) (ty := 24) Try.underlying33 hf0 (by rfl) (sz := 1) (by kernel_rfl)
  replace hp23 : DataW.trod enc Try.prog W 0 (fun _ => true) true n21 24 [a0_5] = some y22 := hp23
  have bk25 := bulk_agg bk0 hb24
  obtain ⟨n26, y27, hp28, hb29⟩ := trod_field (i := 5) (off := 6) (ty := 31) Try.underlying33 hf0 (by rfl) (sz := 6) (by kernel_rfl)
  replace hp28 : DataW.trod enc Try.prog W 0 (fun _ => true) true n26 31 [a0_6, a0_7, a0_8, a0_9, a0_10, a0_11] = some y27 := hp28
  have bk30 := bulk_agg bk0 hb29
  obtain ⟨n31, y32, hp33, hb34⟩ := trod_field (i := 0) (off := 0) (ty := 3) Try.underlying23 hp3 (by rfl) (sz := 1) (by kernel_rfl)
  replace hp33 : DataW.trod enc Try.prog W 0 (fun _ => true) true n31 3 [a0_0] = some y32 := hp33
  have bk35 := bulk_agg bk5 hb34
  obtain ⟨n36, y37, hp38, hb39⟩ := trod_field (i := 1) (off := 1) (ty := 3) Try.underlying23 hp3 (by rfl) (sz := 1) (by kernel_rfl)
  replace hp38 : DataW.trod enc Try.prog W 0 (fun _ => true) true n36 3 [a0_1] = some y37 := hp38
  have bk40 := bulk_agg bk5 hb39
  obtain ⟨z41, hc42, hy43, wz44⟩ := DataW.trod_int Try.underlying3 hp33
  replace wz44 := wf_i64 wz44
  obtain rfl : a0_0 = .int .i64 z41 := by simpa using hc42
  obtain ⟨z45, hc46, hy47, wz48⟩ := DataW.trod_int Try.underlying3 hp38
  replace wz48 := wf_i64 wz48
  obtain rfl : a0_1 = .int .i64 z45 := by simpa using hc46
  obtain ⟨z49, hc50, hy51, wz52⟩ := DataW.trod_int Try.underlying3 hp8
  replace wz52 := wf_i64 wz52
  obtain rfl : a0_2 = .int .i64 z49 := by simpa using hc50
  obtain ⟨z53, hc54, hy55, wz56⟩ := DataW.trod_int Try.underlying3 hp13
  replace wz56 := wf_i64 wz56
  obtain rfl : a0_3 = .int .i64 z53 := by simpa using hc54
  obtain ⟨z57, hc58, hy59, wz60⟩ := DataW.trod_int Try.underlying3 hp18
  replace wz60 := wf_i64 wz60
  obtain rfl : a0_4 = .int .i64 z57 := by simpa using hc58
  obtain ⟨o61, c62, l63, hc64, hl65, wl66, he67, hb68⟩ := open_ints_arg Try.underlying24 Try.underlying3 (by kernel_rfl) hp23
  replace hl65 : l63.length ≤ 1048576 := bulk_slice bk25 (hb68.imp (fun h => ⟨h.1, by rw [h.2]; rfl⟩) id)
  obtain rfl : a0_5 = .slice o61 l63.length c62 := by simpa using hc64
  obtain ⟨n69, y70, hp71, hb72⟩ := trod_field (i := 0) (off := 0) (ty := 3) Try.underlying31 hp28 (by rfl) (sz := 1) (by kernel_rfl)
  replace hp71 : DataW.trod enc Try.prog W 0 (fun _ => true) true n69 3 [a0_6] = some y70 := hp71
  have bk73 := bulk_agg bk30 hb72
  obtain ⟨n74, y75, hp76, hb77⟩ := trod_field (i := 1) (off := 1) (ty := 26) Try.underlying31 hp28 (by rfl) (sz := 2) (by kernel_rfl)
  replace hp76 : DataW.trod enc Try.prog W 0 (fun _ => true) true n74 26 [a0_7, a0_8] = some y75 := hp76
  have bk78 := bulk_agg bk30 hb77
  obtain ⟨n79, y80, hp81, hb82⟩ := trod_field (i := 2) (off := 3) (ty := 27) Try.underlying31 hp28 (by rfl) (sz := 1) (by kernel_rfl)
  replace hp81 : DataW.trod enc Try.prog W 0 (fun _ => true) true n79 27 [a0_9] = some y80 := hp81
  have bk83 := bulk_agg bk30 hb82
  obtain ⟨n84, y85, hp86, hb87⟩ := trod_field (i := 3) (off := 4) (ty := 28) Try.underlying31 hp28 (by rfl) (sz := 1) (by kernel_rfl)
  replace hp86 : DataW.trod enc Try.prog W 0 (fun _ => true) true n84 28 [a0_10] = some y85 := hp86
  have bk88 := bulk_agg bk30 hb87
  obtain ⟨n89, y90, hp91, hb92⟩ := trod_field (i := 4) (off := 5) (ty := 29) Try.underlying31 hp28 (by rfl) (sz := 1) (by kernel_rfl)
  replace hp91 : DataW.trod enc Try.prog W 0 (fun _ => true) true n89 29 [a0_11] = some y90 := hp91
  have bk93 := bulk_agg bk30 hb92
  obtain ⟨z94, hc95, hy96, wz97⟩ := DataW.trod_int Try.underlying3 hp71
  replace wz97 := wf_i64 wz97
  obtain rfl : a0_6 = .int .i64 z94 := by simpa using hc95
  obtain ⟨n98, y99, hp100, hb101⟩ := trod_field (i := 0) (off := 0) (ty := 3) Try.underlying26 hp76 (by rfl) (sz := 1) (by kernel_rfl)
  replace hp100 : DataW.trod enc Try.prog W 0 (fun _ => true) true n98 3 [a0_7] = some y99 := hp100
  have bk102 := bulk_agg bk78 hb101
  obtain ⟨n103, y104, hp105, hb106⟩ := trod_field (i := 1) (off := 1) (ty := 3) Try.underlying26 hp76 (by rfl) (sz := 1) (by kernel_rfl)
  replace hp105 : DataW.trod enc Try.prog W 0 (fun _ => true) true n103 3 [a0_8] = some y104 := hp105
  have bk107 := bulk_agg bk78 hb106
  obtain ⟨z108, hc109, hy110, wz111⟩ := DataW.trod_int Try.underlying3 hp100
  replace wz111 := wf_i64 wz111
  obtain rfl : a0_7 = .int .i64 z108 := by simpa using hc109
  obtain ⟨z112, hc113, hy114, wz115⟩ := DataW.trod_int Try.underlying3 hp105
  replace wz115 := wf_i64 wz115
  obtain rfl : a0_8 = .int .i64 z112 := by simpa using hc113
  obtain ⟨o116, n120, c117, rows121, hc122, hn123, hle124, hl125, he126, hr127, ho128, hb129⟩ := open_rows (sz := 7) Try.underlying27 (by kernel_rfl) (by omega) hp81
  replace hl125 : n120 ≤ 9223372036854775807 := by omega
  have hs131 : rows121.length ≤ 1048576 := bulk_slice bk83 (hb129.imp (fun h => ⟨h.1, by rw [h.2]; rfl⟩) (fun ⟨ys, zs, h1, h2, _⟩ => ⟨ys, zs, h1, h2⟩))
  rw [hn123] at hs131
  obtain ⟨l118, rfl, hq130⟩ := rows_dec S_api_Entry.row _ (fun r hr => by obtain ⟨n, y, hy⟩ := hr127 r hr; exact open_S_api_Entry hy)
  obtain rfl : l118.length = n120 := by simpa using hn123
  replace he126 : (Ent.rd o116 7 (List.map S_api_Entry.row l118)).ok W := he126
  obtain rfl : a0_9 = .slice o116 l118.length c117 := by simpa using hc122
  obtain ⟨o132, n136, c133, rows137, hc138, hn139, hle140, hl141, he142, hr143, ho144, hb145⟩ := open_rows (sz := 5) Try.underlying28 (by kernel_rfl) (by omega) hp86
  replace hl141 : n136 ≤ 9223372036854775807 := by omega
  have hs147 : rows137.length ≤ 1048576 := bulk_slice bk88 (hb145.imp (fun h => ⟨h.1, by rw [h.2]; rfl⟩) (fun ⟨ys, zs, h1, h2, _⟩ => ⟨ys, zs, h1, h2⟩))
  rw [hn139] at hs147
  obtain ⟨l134, rfl, hq146⟩ := rows_dec S_api_Last.row _ (fun r hr => by obtain ⟨n, y, hy⟩ := hr143 r hr; exact open_S_api_Last hy)
  obtain rfl : l134.length = n136 := by simpa using hn139
  replace he142 : (Ent.rd o132 5 (List.map S_api_Last.row l134)).ok W := he142
  obtain rfl : a0_10 = .slice o132 l134.length c133 := by simpa using hc138
  obtain ⟨o148, n152, c149, rows153, hc154, hn155, hle156, hl157, he158, hr159, ho160, hb161⟩ := open_rows (sz := 4) Try.underlying29 (by kernel_rfl) (by omega) hp91
  replace hl157 : n152 ≤ 9223372036854775807 := by omega
  have hs163 : rows153.length ≤ 1048576 := bulk_slice bk93 (hb161.imp (fun h => ⟨h.1, by rw [h.2]; rfl⟩) (fun ⟨ys, zs, h1, h2, _⟩ => ⟨ys, zs, h1, h2⟩))
  rw [hn155] at hs163
  obtain ⟨l150, rfl, hq162⟩ := rows_dec S_api_Item.row _ (fun r hr => by obtain ⟨n, y, hy⟩ := hr159 r hr; exact open_S_api_Item hy)
  obtain rfl : l150.length = n152 := by simpa using hn155
  replace he158 : (Ent.rd o148 4 (List.map S_api_Item.row l150)).ok W := he158
  obtain rfl : a0_11 = .slice o148 l150.length c149 := by simpa using hc154
  have k1 := h1
  have lt1 : ∀ x ∈ p1, x.block < W.heap.size := by obtain ⟨m, hm⟩ := k1; exact DataW.trod_lt m _ _ _ hm
  have bk1 : Rows.uptoBulk d1 ≤ 1048576 := bulk_arg hk (by simp)
  obtain ⟨a1, a1n, a1c, rfl⟩ := okWide_slice Try.underlying34 (hval 1 34 v1 rfl rfl)
  obtain ⟨fu1, hf1⟩ := h1
  replace hf1 : DataW.trod enc Try.prog W 0 (fun _ => true) true fu1 34 [.slice a1 a1n a1c] = some (d1, p1) := hf1
  obtain ⟨o164, n168, c165, rows169, hc170, hn171, hle172, hl173, he174, hr175, ho176, hb177⟩ := open_rows (sz := 1) Try.underlying34 (by kernel_rfl) (by omega) hf1
  replace hl173 : n168 ≤ 9223372036854775807 := by omega
  have hs179 : rows169.length ≤ 1048576 := bulk_slice bk1 (hb177.imp (fun h => ⟨h.1, by rw [h.2]; rfl⟩) (fun ⟨ys, zs, h1, h2, _⟩ => ⟨ys, zs, h1, h2⟩))
  rw [hn171] at hs179
  obtain ⟨l166, rfl, hq178⟩ := rows_dec rU64 _ (fun r hr => by obtain ⟨n, y, hy⟩ := hr175 r hr; exact open_u64 Try.underlying62 hy)
  obtain rfl : l166.length = n168 := by simpa using hn171
  replace he174 : (Ent.rd o164 1 (List.map rU64 l166)).ok W := he174
  simp only [List.cons.injEq, and_true, Value.slice.injEq] at hc170
  obtain ⟨rfl, rfl, rfl⟩ := hc170
  clear hA0
  simp only [List.append_nil] at hW'
  refine (CallG.law (w_tholelaw18_PrimaryReads (0 + 64) (S_api_Pg.mk z41 z45) z49 z53 z57 o61 c62 l63 z94 (S_api_Version.mk z108 z112) o116 c117 l118 o132 c133 l134 o148 c149 l150 a1 a1c l166  (law_reads 0 (S_api_Pg.mk z41 z45) z49 z53 z57 l63 (Stt.mk z94 (S_api_Version.mk z108 z112) l118 l134 l150) l166 (by first | exact hl65 | (have h := hl65; rw [List.length_map] at h; exact h)) ⟨Nat.le_trans (by first | exact hs131 | (have h := hs131; rw [List.length_map] at h; exact h)) (show 1048576 ≤ 2000000 by decide), Nat.le_trans (by first | exact hs147 | (have h := hs147; rw [List.length_map] at h; exact h)) (show 1048576 ≤ 2000000 by decide), Nat.le_trans (by first | exact hs163 | (have h := hs163; rw [List.length_map] at h; exact h)) (show 1048576 ≤ 2000000 by decide)⟩ (by first | exact hs163 | (have h := hs163; rw [List.length_map] at h; exact h)) (fun x hx => (hq162 x hx).1) (by first | exact hs179 | (have h := hs179; rw [List.length_map] at h; exact h)) (fun x hx => (hq178 x hx).1))) W ⟨he67, he126, he142, he158, he174, trivial⟩).mono fun e W' ⟨he, hkeep⟩ => ?_
  subst he
  have bel := hkeep.below
  exact ⟨_, rfl, _, _, _, [], _, [], hW', trodAll_mk1 (shut_bool Try.underlying4 _), (trodAll_cons_mk (Below.trod laidOut (by kernel_rfl) (of_decide_eq_true (by kernel_rfl)) k0 bel lt0) (trodAll_cons_mk (Below.trod laidOut (by kernel_rfl) (of_decide_eq_true (by kernel_rfl)) k1 bel lt1) trodAll_mk0)), rfl, bel.frame _, fun h => by cases h⟩

theorem lifted (os : Os) (started : os.Started) (H : Type) (enc : TypeId × Value → H) (F : Stop.Interp) :
    ReturnsInHanded {} Try.checked os 3 .any ((Rows.OpenSpec.upto Rows.primaryReadsSpec).pre6 enc Try.prog Try.f3 Rows.primaryReadsUptoRow.domain false) (((Rows.OpenSpec.upto Rows.primaryReadsSpec).at F).post enc Try.prog Try.f3 false true false false) := by
  refine returnsInHanded_of_cond (C := Try.checked) (s := Rows.OpenSpec.upto Rows.primaryReadsSpec) (k := Rows.uptoSmall) rfl own started (by kernel_rfl) Try.func3
    (OpenSpec.witness (enc := enc) (C := Try.checked) (s := Rows.OpenSpec.upto Rows.primaryReadsSpec) (k := Rows.uptoSmall) rfl false ⟨#[], #[.agg #[.int .i64 0, .int .i64 0, .int .i64 0, .int .i64 0, .int .i64 0, .slice none 0 0, .int .i64 0, .int .i64 0, .int .i64 0, .slice none 0 0, .slice none 0 0, .slice none 0 0], .slice none 0 0], []⟩ 8 (by kernel_rfl) (by kernel_rfl) (by kernel_rfl)
      (x := ([.agg [.agg [.lit (.int .i64 0), .lit (.int .i64 0)], .lit (.int .i64 0), .lit (.int .i64 0), .lit (.int .i64 0), .nil, .agg [.lit (.int .i64 0), .agg [.lit (.int .i64 0), .lit (.int .i64 0)], .nil, .nil, .nil]], .nil], [], [])) (by kernel_rfl) rfl (by kernel_rfl)) ?_
  intro W base args ds gs before hval hW _ hk _
  exact contract H enc W base args ds gs before hval hW hk

/-- THE STATEMENT -/
theorem proved : Rows.PrimaryReadsUptoSaid :=
  OpenClaim.holds_of_cond 3 Try.f3 rfl rfl rfl rfl rfl rfl rfl ⟨rfl, rfl, rfl, rfl, rfl⟩ rfl rfl rfl rfl rfl (by kernel_rfl) Try.func3 (by kernel_rfl)
    (of_decide_eq_true (by kernel_rfl)) (by unfold Func.isWrapper; first | (rw [if_pos (by decide +kernel)]; kernel_rfl) | (rw [if_neg (by decide +kernel)]; exact ⟨rfl, rfl⟩))
    (fun os started H enc _ F => lifted os started H enc F)
end Go.Proofs.Ytjnbkhnebmlilaa.primaryReadsUpto
