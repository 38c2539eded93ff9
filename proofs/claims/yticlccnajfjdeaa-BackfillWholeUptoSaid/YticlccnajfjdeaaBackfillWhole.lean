/-
  THE LAW BackfillWhole: for every input of the given program's function it returns true, and the input reads behind the call as it read before. Proved in the second form: where what came in is of bulk at most 1048576.
-/
import Derived.Test.YticlccnajfjdeaaRows
import Derived.JoinedCond
import Derived.Test.YticlccnajfjdeaaSxh
import Derived.Test.YticlccnajfjdeaaBulk
import Derived.Test.YticlccnajfjdeaaW20rj
import Derived.Test.YticlccnajfjdeaaP20rj
import Derived.Test.YticlccnajfjdeaaO20r
set_option linter.unusedVariables false
set_option linter.unusedSimpArgs false
set_option maxRecDepth 100000
namespace Go.Proofs.Yticlccnajfjdeaa.backfillWholeUpto
open Go.ChangeShapes Go.WideShapes Go.ChangeAt Go.RowKit Sx

theorem own : ownKnob Try.prog.godebug = none := by kernel_rfl
theorem laidOut : laidOutB Try.prog = true := by kernel_rfl

theorem contract (H : Type) (enc : TypeId × Value → H) (W : World) (base : Nat) (args : Array Value) (ds gs : List (DataW H)) (before : List MemPlace)
    (hval : ∀ (j : Nat) t v, Try.f6.params[j]? = some t → args[j]? = some v → Value.okWide Try.prog W .any base t v)
    (hW : DataW.Whole enc Try.prog Try.f6.params.toList Rows.backfillWholeSpec.vars false W args.toList ds gs before) (hk : Rows.uptoSmall H (ds ++ gs) = true) :
    Calls Try.prog 6 args W fun e W' => ∃ v, e = .returned v ∧ Rows.backfillWholeSpec.post enc Try.prog Try.f6 false true false false W args v W' := by
  have hW' := hW
  obtain ⟨p, q, hA0, hV, rfl, hfz, hnd⟩ := hW
  have hA : DataW.TrodAll enc Try.prog W 0 (fun _ => true) true Try.f6.params.toList args.toList ds p := hA0
  rw [Try.params6] at hA hval
  obtain ⟨v0, vs0, d0, ds0, p0, q0, hargs, rfl, rfl, h0, r0⟩ := trodAll_cons hA
  obtain ⟨v1, vs1, d1, ds1, p1, q1, rfl, rfl, rfl, h1, r1⟩ := trodAll_cons r0
  obtain ⟨v2, vs2, d2, ds2, p2, q2, rfl, rfl, rfl, h2, r2⟩ := trodAll_cons r1
  obtain ⟨rfl, rfl, rfl⟩ := trodAll_nil r2
  obtain rfl : args = #[v0, v1, v2] := by cases args; simp_all
  obtain ⟨rfl, rfl⟩ := trodVars_none hV
  have k0 := h0
  have lt0 : ∀ x ∈ p0, x.block < W.heap.size := by obtain ⟨m, hm⟩ := k0; exact DataW.trod_lt m _ _ _ hm
  have bk0 : Rows.uptoBulk d0 ≤ 1048576 := bulk_arg hk (by simp)
  obtain ⟨a0, rfl, a0s⟩ := okWide_struct Try.underlying31 (hval 0 31 v0 rfl rfl)
  obtain ⟨fu0, hf0⟩ := h0
  rw [show Try.prog.cellsOf 31 = 6 by kernel_rfl] at a0s
  obtain ⟨a0l, rfl, a0s⟩ := arr_list a0s
  obtain ⟨a0_0, a0l0, rfl⟩ : ∃ c l, a0l = c :: l := by cases a0l with | nil => simp at a0s | cons c l => exact ⟨c, l, rfl⟩
  obtain ⟨a0_1, a0l1, rfl⟩ : ∃ c l, a0l0 = c :: l := by cases a0l0 with | nil => simp at a0s | cons c l => exact ⟨c, l, rfl⟩
  obtain ⟨a0_2, a0l2, rfl⟩ : ∃ c l, a0l1 = c :: l := by cases a0l1 with | nil => simp at a0s | cons c l => exact ⟨c, l, rfl⟩
  obtain ⟨a0_3, a0l3, rfl⟩ : ∃ c l, a0l2 = c :: l := by cases a0l2 with | nil => simp at a0s | cons c l => exact ⟨c, l, rfl⟩
  obtain ⟨a0_4, a0l4, rfl⟩ : ∃ c l, a0l3 = c :: l := by cases a0l3 with | nil => simp at a0s | cons c l => exact ⟨c, l, rfl⟩
  obtain ⟨a0_5, a0l5, rfl⟩ : ∃ c l, a0l4 = c :: l := by cases a0l4 with | nil => simp at a0s | cons c l => exact ⟨c, l, rfl⟩
  obtain rfl : a0l5 = [] := by simpa using a0s
  replace hf0 : DataW.trod enc Try.prog W 0 (fun _ => true) true fu0 31 [a0_0, a0_1, a0_2, a0_3, a0_4, a0_5] = some (d0, p0) := hf0
  obtain ⟨n1, y2, hp3, hb4⟩ := trod_field (i := 0) (off := 0) (ty := 3) Try.underlying31 hf0 (by rfl) (sz := 1) (by kernel_rfl)
  replace hp3 : DataW.trod enc Try.prog W 0 (fun _ => true) true n1 3 [a0_0] = some y2 := hp3
  have bk5 := bulk_agg bk0 hb4
  obtain ⟨n6, y7, hp8, hb9⟩ := trod_field (i := 1) (off := 1) (ty := 26) Try.underlying31 hf0 (by rfl) (sz := 2) (by kernel_rfl)
  replace hp8 : DataW.trod enc Try.prog W 0 (fun _ => true) true n6 26 [a0_1, a0_2] = some y7 := hp8
  have bk10 := bulk_agg bk0 hb9
  obtain ⟨n11, y12, hp13, hb14⟩ := trod_field (i := 2) (off := 3) (ty := 27) Try.underlying31 hf0 (by rfl) (sz := 1) (by kernel_rfl)
  replace hp13 : DataW.trod enc Try.prog W 0 (fun _ => true) true n11 27 [a0_3] = some y12 := hp13
  have bk15 := bulk_agg bk0 hb14
  obtain ⟨n16, y17, hp18, hb19⟩ := trod_field (i := 3) (off := 4) (ty := 28) Try.underlying31 hf0 (by rfl) (sz := 1) (by kernel_rfl)
  replace hp18 : DataW.trod enc Try.prog W 0 (fun _ => true) true n16 28 [a0_4] = some y17 := hp18
  have bk20 := bulk_agg bk0 hb19
  obtain ⟨n21, y22, hp23, hb24⟩ := trod_field (i := 4) (off := 5) (ty := 29) Try.underlying31 hf0 (by rfl) (sz := 1) (by kernel_rfl)
  replace hp23 : DataW.trod enc Try.prog W 0 (fun _ => true) true n21 29 [a0_5] = some y22 := hp23
  have bk25 := bulk_agg bk0 hb24
  obtain ⟨z26, hc27, hy28, wz29⟩ := DataW.trod_int Try.underlying3 hp3
  replace wz29 := wf_i64 wz29
  obtain rfl : a0_0 = .int .i64 z26 := by simpa using hc27
  obtain ⟨n30, y31, hp32, hb33⟩ := trod_field (i := 0) (off := 0) (ty := 3) Try.underlying26 hp8 (by rfl) (sz := 1) (by kernel_rfl)
  replace hp32 : DataW.trod enc Try.prog W 0 (fun _ => true) true n30 3 [a0_1] = some y31 := hp32
  have bk34 := bulk_agg bk10 hb33
  obtain ⟨n35, y36, hp37, hb38⟩ := trod_field (i := 1) (off := 1) (ty := 3) Try.underlying26 hp8 (by rfl) (sz := 1) (by kernel_rfl)
  replace hp37 : DataW.trod enc Try.prog W 0 (fun _ => true) true n35 3 [a0_2] = some y36 := hp37
  have bk39 := bulk_agg bk10 hb38
  obtain ⟨z40, hc41, hy42, wz43⟩ := DataW.trod_int Try.underlying3 hp32
  replace wz43 := wf_i64 wz43
  obtain rfl : a0_1 = .int .i64 z40 := by simpa using hc41
  obtain ⟨z44, hc45, hy46, wz47⟩ := DataW.trod_int Try.underlying3 hp37
  replace wz47 := wf_i64 wz47
  obtain rfl : a0_2 = .int .i64 z44 := by simpa using hc45
  obtain ⟨o48, n52, c49, rows53, hc54, hn55, hle56, hl57, he58, hr59, ho60, hb61⟩ := open_rows (sz := 7) Try.underlying27 (by kernel_rfl) (by omega) hp13
  replace hl57 : n52 ≤ 9223372036854775807 := by omega
  have hs63 : rows53.length ≤ 1048576 := bulk_slice bk15 (hb61.imp (fun h => ⟨h.1, by rw [h.2]; rfl⟩) (fun ⟨ys, zs, h1, h2, _⟩ => ⟨ys, zs, h1, h2⟩))
  rw [hn55] at hs63
  obtain ⟨l50, rfl, hq62⟩ := rows_dec S_api_Entry.row _ (fun r hr => by obtain ⟨n, y, hy⟩ := hr59 r hr; exact open_S_api_Entry hy)
  obtain rfl : l50.length = n52 := by simpa using hn55
  replace he58 : (Ent.rd o48 7 (List.map S_api_Entry.row l50)).ok W := he58
  obtain rfl : a0_3 = .slice o48 l50.length c49 := by simpa using hc54
  obtain ⟨o64, n68, c65, rows69, hc70, hn71, hle72, hl73, he74, hr75, ho76, hb77⟩ := open_rows (sz := 5) Try.underlying28 (by kernel_rfl) (by omega) hp18
  replace hl73 : n68 ≤ 9223372036854775807 := by omega
  have hs79 : rows69.length ≤ 1048576 := bulk_slice bk20 (hb77.imp (fun h => ⟨h.1, by rw [h.2]; rfl⟩) (fun ⟨ys, zs, h1, h2, _⟩ => ⟨ys, zs, h1, h2⟩))
  rw [hn71] at hs79
  obtain ⟨l66, rfl, hq78⟩ := rows_dec S_api_Last.row _ (fun r hr => by obtain ⟨n, y, hy⟩ := hr75 r hr; exact open_S_api_Last hy)
  obtain rfl : l66.length = n68 := by simpa using hn71
  replace he74 : (Ent.rd o64 5 (List.map S_api_Last.row l66)).ok W := he74
  obtain rfl : a0_4 = .slice o64 l66.length c65 := by simpa using hc70
  obtain ⟨o80, n84, c81, rows85, hc86, hn87, hle88, hl89, he90, hr91, ho92, hb93⟩ := open_rows (sz := 4) Try.underlying29 (by kernel_rfl) (by omega) hp23
  replace hl89 : n84 ≤ 9223372036854775807 := by omega
  have hs95 : rows85.length ≤ 1048576 := bulk_slice bk25 (hb93.imp (fun h => ⟨h.1, by rw [h.2]; rfl⟩) (fun ⟨ys, zs, h1, h2, _⟩ => ⟨ys, zs, h1, h2⟩))
  rw [hn87] at hs95
  obtain ⟨l82, rfl, hq94⟩ := rows_dec S_api_Item.row _ (fun r hr => by obtain ⟨n, y, hy⟩ := hr91 r hr; exact open_S_api_Item hy)
  obtain rfl : l82.length = n84 := by simpa using hn87
  replace he90 : (Ent.rd o80 4 (List.map S_api_Item.row l82)).ok W := he90
  obtain rfl : a0_5 = .slice o80 l82.length c81 := by simpa using hc86
  have k1 := h1
  have lt1 : ∀ x ∈ p1, x.block < W.heap.size := by obtain ⟨m, hm⟩ := k1; exact DataW.trod_lt m _ _ _ hm
  have bk1 : Rows.uptoBulk d1 ≤ 1048576 := bulk_arg hk (by simp)
  obtain ⟨a1, rfl, a1s⟩ := okWide_struct Try.underlying31 (hval 1 31 v1 rfl rfl)
  obtain ⟨fu1, hf1⟩ := h1
  rw [show Try.prog.cellsOf 31 = 6 by kernel_rfl] at a1s
  obtain ⟨a1l, rfl, a1s⟩ := arr_list a1s
  obtain ⟨a1_0, a1l0, rfl⟩ : ∃ c l, a1l = c :: l := by cases a1l with | nil => simp at a1s | cons c l => exact ⟨c, l, rfl⟩
  obtain ⟨a1_1, a1l1, rfl⟩ : ∃ c l, a1l0 = c :: l := by cases a1l0 with | nil => simp at a1s | cons c l => exact ⟨c, l, rfl⟩
  obtain ⟨a1_2, a1l2, rfl⟩ : ∃ c l, a1l1 = c :: l := by cases a1l1 with | nil => simp at a1s | cons c l => exact ⟨c, l, rfl⟩
  obtain ⟨a1_3, a1l3, rfl⟩ : ∃ c l, a1l2 = c :: l := by cases a1l2 with | nil => simp at a1s | cons c l => exact ⟨c, l, rfl⟩
  obtain ⟨a1_4, a1l4, rfl⟩ : ∃ c l, a1l3 = c :: l := by cases a1l3 with | nil => simp at a1s | cons c l => exact ⟨c, l, rfl⟩
  obtain ⟨a1_5, a1l5, rfl⟩ : ∃ c l, a1l4 = c :: l := by cases a1l4 with | nil => simp at a1s | cons c l => exact ⟨c, l, rfl⟩
  obtain rfl : a1l5 = [] := by simpa using a1s
  replace hf1 : DataW.trod enc Try.prog W 0 (fun _ => true) true fu1 31 [a1_0, a1_1, a1_2, a1_3, a1_4, a1_5] = some (d1, p1) := hf1
  obtain ⟨n96, y97, hp98, hb99⟩ := trod_field (i := 0) (off := 0) (ty := 3) Try.underlying31 hf1 (by rfl) (sz := 1) (by kernel_rfl)
  replace hp98 : DataW.trod enc Try.prog W 0 (fun _ => true) true n96 3 [a1_0] = some y97 := hp98
  have bk100 := bulk_agg bk1 hb99
  obtain ⟨n101, y102, hp103, hb104⟩ := trod_field (i := 1) (off := 1) (ty := 26) Try.underlying31 hf1 (by rfl) (sz := 2) (by kernel_rfl)
  replace hp103 : DataW.trod enc Try.prog W 0 (fun _ => true) true n101 26 [a1_1, a1_2] = some y102 := hp103
  have bk105 := bulk_agg bk1 hb104
  obtain ⟨n106, y107, hp108, hb109⟩ := trod_field (i := 2) (off := 3) (ty := 27) Try.underlying31 hf1 (by rfl) (sz := 1) (by kernel_rfl)
  replace hp108 : DataW.trod enc Try.prog W 0 (fun _ => true) true n106 27 [a1_3] = some y107 := hp108
  have bk110 := bulk_agg bk1 hb109
  obtain ⟨n111, y112, hp113, hb114⟩ := trod_field (i := 3) (off := 4) (ty := 28) Try.underlying31 hf1 (by rfl) (sz := 1) (by kernel_rfl)
  replace hp113 : DataW.trod enc Try.prog W 0 (fun _ => true) true n111 28 [a1_4] = some y112 := hp113
  have bk115 := bulk_agg bk1 hb114
  obtain ⟨n116, y117, hp118, hb119⟩ := trod_field (i := 4) (off := 5) (ty := 29) Try.underlying31 hf1 (by rfl) (sz := 1) (by kernel_rfl)
  replace hp118 : DataW.trod enc Try.prog W 0 (fun _ => true) true n116 29 [a1_5] = some y117 := hp118
  have bk120 := bulk_agg bk1 hb119
  obtain ⟨z121, hc122, hy123, wz124⟩ := DataW.trod_int Try.underlying3 hp98
  replace wz124 := wf_i64 wz124
  obtain rfl : a1_0 = .int .i64 z121 := by simpa using hc122
  obtain ⟨n125, y126, hp127, hb128⟩ := trod_field (i := 0) (off := 0) (ty := 3) Try.underlying26 hp103 (by rfl) (sz := 1) (by kernel_rfl)
  replace hp127 : DataW.trod enc Try.prog W 0 (fun _ => true) true n125 3 [a1_1] = some y126 := hp127
  have bk129 := bulk_agg bk105 hb128
  obtain ⟨n130, y131, hp132, hb133⟩ := trod_field (i := 1) (off := 1) (ty := 3) Try.underlying26 hp103 (by rfl) (sz := 1) (by kernel_rfl)
  replace hp132 : DataW.trod enc Try.prog W 0 (fun _ => true) true n130 3 [a1_2] = some y131 := hp132
  have bk134 := bulk_agg bk105 hb133
  obtain ⟨z135, hc136, hy137, wz138⟩ := DataW.trod_int Try.underlying3 hp127
  replace wz138 := wf_i64 wz138
  obtain rfl : a1_1 = .int .i64 z135 := by simpa using hc136
  obtain ⟨z139, hc140, hy141, wz142⟩ := DataW.trod_int Try.underlying3 hp132
  replace wz142 := wf_i64 wz142
  obtain rfl : a1_2 = .int .i64 z139 := by simpa using hc140
  obtain ⟨o143, n147, c144, rows148, hc149, hn150, hle151, hl152, he153, hr154, ho155, hb156⟩ := open_rows (sz := 7) Try.underlying27 (by kernel_rfl) (by omega) hp108
  replace hl152 : n147 ≤ 9223372036854775807 := by omega
  have hs158 : rows148.length ≤ 1048576 := bulk_slice bk110 (hb156.imp (fun h => ⟨h.1, by rw [h.2]; rfl⟩) (fun ⟨ys, zs, h1, h2, _⟩ => ⟨ys, zs, h1, h2⟩))
  rw [hn150] at hs158
  obtain ⟨l145, rfl, hq157⟩ := rows_dec S_api_Entry.row _ (fun r hr => by obtain ⟨n, y, hy⟩ := hr154 r hr; exact open_S_api_Entry hy)
  obtain rfl : l145.length = n147 := by simpa using hn150
  replace he153 : (Ent.rd o143 7 (List.map S_api_Entry.row l145)).ok W := he153
  obtain rfl : a1_3 = .slice o143 l145.length c144 := by simpa using hc149
  obtain ⟨o159, n163, c160, rows164, hc165, hn166, hle167, hl168, he169, hr170, ho171, hb172⟩ := open_rows (sz := 5) Try.underlying28 (by kernel_rfl) (by omega) hp113
  replace hl168 : n163 ≤ 9223372036854775807 := by omega
  have hs174 : rows164.length ≤ 1048576 := bulk_slice bk115 (hb172.imp (fun h => ⟨h.1, by rw [h.2]; rfl⟩) (fun ⟨ys, zs, h1, h2, _⟩ => ⟨ys, zs, h1, h2⟩))
  rw [hn166] at hs174
  obtain ⟨l161, rfl, hq173⟩ := rows_dec S_api_Last.row _ (fun r hr => by obtain ⟨n, y, hy⟩ := hr170 r hr; exact open_S_api_Last hy)
  obtain rfl : l161.length = n163 := by simpa using hn166
  replace he169 : (Ent.rd o159 5 (List.map S_api_Last.row l161)).ok W := he169
  obtain rfl : a1_4 = .slice o159 l161.length c160 := by simpa using hc165
  obtain ⟨o175, n179, c176, rows180, hc181, hn182, hle183, hl184, he185, hr186, ho187, hb188⟩ := open_rows (sz := 4) Try.underlying29 (by kernel_rfl) (by omega) hp118
  replace hl184 : n179 ≤ 9223372036854775807 := by omega
  have hs190 : rows180.length ≤ 1048576 := bulk_slice bk120 (hb188.imp (fun h => ⟨h.1, by rw [h.2]; rfl⟩) (fun ⟨ys, zs, h1, h2, _⟩ => ⟨ys, zs, h1, h2⟩))
  rw [hn182] at hs190
  obtain ⟨l177, rfl, hq189⟩ := rows_dec S_api_Item.row _ (fun r hr => by obtain ⟨n, y, hy⟩ := hr186 r hr; exact open_S_api_Item hy)
  obtain rfl : l177.length = n179 := by simpa using hn182
  replace he185 : (Ent.rd o175 4 (List.map S_api_Item.row l177)).ok W := he185
  obtain rfl : a1_5 = .slice o175 l177.length c176 := by simpa using hc181
  have k2 := h2
  have lt2 : ∀ x ∈ p2, x.block < W.heap.size := by obtain ⟨m, hm⟩ := k2; exact DataW.trod_lt m _ _ _ hm
  have bk2 : Rows.uptoBulk d2 ≤ 1048576 := bulk_arg hk (by simp)
  obtain ⟨a2, rfl⟩ := okWide_int Try.underlying3 (hval 2 3 v2 rfl rfl)
  obtain ⟨fu2, hf2⟩ := h2
  replace hf2 : DataW.trod enc Try.prog W 0 (fun _ => true) true fu2 3 [.int .i64 a2] = some (d2, p2) := hf2
  obtain ⟨a2z, hc191, _, a2w⟩ := DataW.trod_int Try.underlying3 hf2
  obtain rfl : a2 = a2z := by simpa using hc191
  replace a2w := wf_i64 a2w
  clear hA0
  simp only [List.append_nil] at hW'
  refine (CallG.law (w_tholelaw20_BackfillWhole 3000 z26 (S_api_Version.mk z40 z44) o48 c49 l50 o64 c65 l66 o80 c81 l82 z121 (S_api_Version.mk z135 z139) o143 c144 l145 o159 c160 l161 o175 c176 l177 a2  (law_whole (Stt.mk z26 (S_api_Version.mk z40 z44) l50 l66 l82) (Stt.mk z121 (S_api_Version.mk z135 z139) l145 l161 l177) a2 ⟨Nat.le_trans (by first | exact hs63 | (have h := hs63; rw [List.length_map] at h; exact h)) (show 1048576 ≤ 33554432 by decide), Nat.le_trans (by first | exact hs79 | (have h := hs79; rw [List.length_map] at h; exact h)) (show 1048576 ≤ 33554432 by decide), Nat.le_trans (by first | exact hs95 | (have h := hs95; rw [List.length_map] at h; exact h)) (show 1048576 ≤ 33554432 by decide)⟩ ⟨Nat.le_trans (by first | exact hs158 | (have h := hs158; rw [List.length_map] at h; exact h)) (show 1048576 ≤ 33554432 by decide), Nat.le_trans (by first | exact hs174 | (have h := hs174; rw [List.length_map] at h; exact h)) (show 1048576 ≤ 33554432 by decide), Nat.le_trans (by first | exact hs190 | (have h := hs190; rw [List.length_map] at h; exact h)) (show 1048576 ≤ 33554432 by decide)⟩ (fun x hx => (hq94 x hx).1) (fun x hx => (hq189 x hx).1))) W ⟨he58, he74, he90, he153, he169, he185, trivial⟩).mono fun e W' ⟨he, hkeep⟩ => ?_
  subst he
  have bel := hkeep.below
  exact ⟨_, rfl, _, _, _, [], _, [], hW', trodAll_mk1 (shut_bool Try.underlying4 _), (trodAll_cons_mk (Below.trod laidOut (by kernel_rfl) (of_decide_eq_true (by kernel_rfl)) k0 bel lt0) (trodAll_cons_mk (Below.trod laidOut (by kernel_rfl) (of_decide_eq_true (by kernel_rfl)) k1 bel lt1) (trodAll_cons_mk (Below.trod laidOut (by kernel_rfl) (of_decide_eq_true (by kernel_rfl)) k2 bel lt2) trodAll_mk0))), rfl, bel.frame _, fun h => by cases h⟩

theorem lifted (os : Os) (started : os.Started) (H : Type) (enc : TypeId × Value → H) (F : Stop.Interp) :
    ReturnsInHanded {} Try.checked os 6 .any ((Rows.OpenSpec.upto Rows.backfillWholeSpec).pre6 enc Try.prog Try.f6 Rows.backfillWholeUptoRow.domain false) (((Rows.OpenSpec.upto Rows.backfillWholeSpec).at F).post enc Try.prog Try.f6 false true false false) := by
  refine returnsInHanded_of_cond (C := Try.checked) (s := Rows.OpenSpec.upto Rows.backfillWholeSpec) (k := Rows.uptoSmall) rfl own started (by kernel_rfl) Try.func6
    (OpenSpec.witness (enc := enc) (C := Try.checked) (s := Rows.OpenSpec.upto Rows.backfillWholeSpec) (k := Rows.uptoSmall) rfl false ⟨#[], #[.agg #[.int .i64 0, .int .i64 0, .int .i64 0, .slice none 0 0, .slice none 0 0, .slice none 0 0], .agg #[.int .i64 0, .int .i64 0, .int .i64 0, .slice none 0 0, .slice none 0 0, .slice none 0 0], .int .i64 0], []⟩ 8 (by kernel_rfl) (by kernel_rfl) (by kernel_rfl)
      (x := ([.agg [.lit (.int .i64 0), .agg [.lit (.int .i64 0), .lit (.int .i64 0)], .nil, .nil, .nil], .agg [.lit (.int .i64 0), .agg [.lit (.int .i64 0), .lit (.int .i64 0)], .nil, .nil, .nil], .lit (.int .i64 0)], [], [])) (by kernel_rfl) rfl (by kernel_rfl)) ?_
  intro W base args ds gs before hval hW _ hk _
  exact contract H enc W base args ds gs before hval hW hk

/-- THE STATEMENT -/
theorem proved : Rows.BackfillWholeUptoSaid :=
  OpenClaim.holds_of_cond 6 Try.f6 rfl rfl rfl rfl rfl rfl rfl ⟨rfl, rfl, rfl, rfl, rfl⟩ rfl rfl rfl rfl rfl (by kernel_rfl) Try.func6 (by kernel_rfl)
    (of_decide_eq_true (by kernel_rfl)) (by unfold Func.isWrapper; first | (rw [if_pos (by decide +kernel)]; kernel_rfl) | (rw [if_neg (by decide +kernel)]; exact ⟨rfl, rfl⟩))
    (fun os started H enc _ F => lifted os started H enc F)
end Go.Proofs.Yticlccnajfjdeaa.backfillWholeUpto
