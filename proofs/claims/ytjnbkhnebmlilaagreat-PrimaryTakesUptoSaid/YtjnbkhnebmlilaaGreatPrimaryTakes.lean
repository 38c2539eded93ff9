/-
  THE LAW PrimaryTakes: for every input of the given program's function it returns true, and the input reads behind the call as it read before. Proved in the second form: where what came in is of bulk at most 1048576.
-/
import Derived.Test.YtjnbkhnebmlilaaGreatRows
import Derived.JoinedCond
import Derived.Test.YtjnbkhnebmlilaaGreatSxh
import Derived.Test.YtjnbkhnebmlilaaGreatBulk
import Derived.Test.YtjnbkhnebmlilaaGreatW18tk
import Derived.Test.YtjnbkhnebmlilaaGreatP18te
import Derived.Test.YtjnbkhnebmlilaaGreatO18t
set_option linter.unusedVariables false
set_option linter.unusedSimpArgs false
set_option maxRecDepth 100000
namespace Go.Proofs.YtjnbkhnebmlilaaGreat.primaryTakesUpto
open Go.ChangeShapes Go.WideShapes Go.ChangeAt Go.RowKit Sx

theorem own : ownKnob Tryz.prog.godebug = none := by kernel_rfl
theorem laidOut : laidOutB Tryz.prog = true := by kernel_rfl

theorem contract (H : Type) (enc : TypeId × Value → H) (W : World) (base : Nat) (args : Array Value) (ds gs : List (DataW H)) (before : List MemPlace)
    (hval : ∀ (j : Nat) t v, Tryz.f3.params[j]? = some t → args[j]? = some v → Value.okWide Tryz.prog W .any base t v)
    (hW : DataW.Whole enc Tryz.prog Tryz.f3.params.toList Rows.primaryTakesSpec.vars false W args.toList ds gs before) (hk : Rows.uptoSmall H (ds ++ gs) = true) :
    Calls Tryz.prog 3 args W fun e W' => ∃ v, e = .returned v ∧ Rows.primaryTakesSpec.post enc Tryz.prog Tryz.f3 false true false false W args v W' := by
  have hW' := hW
  obtain ⟨p, q, hA0, hV, rfl, hfz, hnd⟩ := hW
  have hA : DataW.TrodAll enc Tryz.prog W 0 (fun _ => true) true Tryz.f3.params.toList args.toList ds p := hA0
  rw [Tryz.params3] at hA hval
  obtain ⟨v0, vs0, d0, ds0, p0, q0, hargs, rfl, rfl, h0, r0⟩ := trodAll_cons hA
  obtain ⟨v1, vs1, d1, ds1, p1, q1, rfl, rfl, rfl, h1, r1⟩ := trodAll_cons r0
  obtain ⟨v2, vs2, d2, ds2, p2, q2, rfl, rfl, rfl, h2, r2⟩ := trodAll_cons r1
  obtain ⟨rfl, rfl, rfl⟩ := trodAll_nil r2
  obtain rfl : args = #[v0, v1, v2] := by cases args; simp_all
  obtain ⟨rfl, rfl⟩ := trodVars_none hV
  have k0 := h0
  have lt0 : ∀ x ∈ p0, x.block < W.heap.size := by obtain ⟨m, hm⟩ := k0; exact DataW.trod_lt m _ _ _ hm
  have bk0 : Rows.uptoBulk d0 ≤ 1048576 := bulk_arg hk (by simp)
  obtain ⟨a0, rfl, a0s⟩ := okWide_struct Tryz.underlying28 (hval 0 28 v0 rfl rfl)
  obtain ⟨fu0, hf0⟩ := h0
  rw [show Tryz.prog.cellsOf 28 = 6 by kernel_rfl] at a0s
  obtain ⟨a0l, rfl, a0s⟩ := arr_list a0s
  obtain ⟨a0_0, a0l0, rfl⟩ : ∃ c l, a0l = c :: l := by cases a0l with | nil => simp at a0s | cons c l => exact ⟨c, l, rfl⟩
  obtain ⟨a0_1, a0l1, rfl⟩ : ∃ c l, a0l0 = c :: l := by cases a0l0 with | nil => simp at a0s | cons c l => exact ⟨c, l, rfl⟩
  obtain ⟨a0_2, a0l2, rfl⟩ : ∃ c l, a0l1 = c :: l := by cases a0l1 with | nil => simp at a0s | cons c l => exact ⟨c, l, rfl⟩
  obtain ⟨a0_3, a0l3, rfl⟩ : ∃ c l, a0l2 = c :: l := by cases a0l2 with | nil => simp at a0s | cons c l => exact ⟨c, l, rfl⟩
  obtain ⟨a0_4, a0l4, rfl⟩ : ∃ c l, a0l3 = c :: l := by cases a0l3 with | nil => simp at a0s | cons c l => exact ⟨c, l, rfl⟩
  obtain ⟨a0_5, a0l5, rfl⟩ : ∃ c l, a0l4 = c :: l := by cases a0l4 with | nil => simp at a0s | cons c l => exact ⟨c, l, rfl⟩
  obtain rfl : a0l5 = [] := by simpa using a0s
  replace hf0 : DataW.trod enc Tryz.prog W 0 (fun _ => true) true fu0 28 [a0_0, a0_1, a0_2, a0_3, a0_4, a0_5] = some (d0, p0) := hf0
  obtain ⟨n1, y2, hp3, hb4⟩ := trod_field (i := 0) (off := 0) (ty := 3) Tryz.underlying28 hf0 (by rfl) (sz := 1) (by kernel_rfl)
  replace hp3 : DataW.trod enc Tryz.prog W 0 (fun _ => true) true n1 3 [a0_0] = some y2 := hp3
  have bk5 := bulk_agg bk0 hb4
  obtain ⟨n6, y7, hp8, hb9⟩ := trod_field (i := 1) (off := 1) (ty := 23) Tryz.underlying28 hf0 (by rfl) (sz := 2) (by kernel_rfl)
  replace hp8 : DataW.trod enc Tryz.prog W 0 (fun _ => true) true n6 23 [a0_1, a0_2] = some y7 := hp8
  have bk10 := bulk_agg bk0 hb9
  obtain ⟨n11, y12, hp13, hb14⟩ := trod_field (i := 2) (off := 3) (ty := 24) Tryz.underlying28 hf0 (by rfl) (sz := 1) (by kernel_rfl)
  replace hp13 : DataW.trod enc Tryz.prog W 0 (fun _ => true) true n11 24 [a0_3] = some y12 := hp13
  have bk15 := bulk_agg bk0 hb14
  obtain ⟨n16, y17, hp18, hb19⟩ := trod_field (i := 3) (off := 4) (ty := 25) Tryz.underlying28 hf0 (by rfl) (sz := 1) (by kernel_rfl)
  replace hp18 : DataW.trod enc Tryz.prog W 0 (fun _ => true) true n16 25 [a0_4] = some y17 := hp18
  have bk20 := bulk_agg bk0 hb19
  obtain ⟨n21, y22, hp23, hb24⟩ := trod_field (i := 4) (off := 5) (ty := 26) Tryz.underlying28 hf0 (by rfl) (sz := 1) (by kernel_rfl)
  replace hp23 : DataW.trod enc Tryz.prog W 0 (fun _ => true) true n21 26 [a0_5] = some y22 := hp23
  have bk25 := bulk_agg bk0 hb24
  obtain ⟨z26, hc27, hy28, wz29⟩ := DataW.trod_int Tryz.underlying3 hp3
  replace wz29 := wf_i64 wz29
  obtain rfl : a0_0 = .int .i64 z26 := by simpa using hc27
  obtain ⟨n30, y31, hp32, hb33⟩ := trod_field (i := 0) (off := 0) (ty := 3) Tryz.underlying23 hp8 (by rfl) (sz := 1) (by kernel_rfl)
  replace hp32 : DataW.trod enc Tryz.prog W 0 (fun _ => true) true n30 3 [a0_1] = some y31 := hp32
  have bk34 := bulk_agg bk10 hb33
  obtain ⟨n35, y36, hp37, hb38⟩ := trod_field (i := 1) (off := 1) (ty := 3) Tryz.underlying23 hp8 (by rfl) (sz := 1) (by kernel_rfl)
  replace hp37 : DataW.trod enc Tryz.prog W 0 (fun _ => true) true n35 3 [a0_2] = some y36 := hp37
  have bk39 := bulk_agg bk10 hb38
  obtain ⟨z40, hc41, hy42, wz43⟩ := DataW.trod_int Tryz.underlying3 hp32
  replace wz43 := wf_i64 wz43
  obtain rfl : a0_1 = .int .i64 z40 := by simpa using hc41
  obtain ⟨z44, hc45, hy46, wz47⟩ := DataW.trod_int Tryz.underlying3 hp37
  replace wz47 := wf_i64 wz47
  obtain rfl : a0_2 = .int .i64 z44 := by simpa using hc45
  obtain ⟨o48, n52, c49, rows53, hc54, hn55, hle56, hl57, he58, hr59, ho60, hb61⟩ := open_rows (sz := 7) Tryz.underlying24 (by kernel_rfl) (by omega) hp13
  replace hl57 : n52 ≤ 9223372036854775807 := by omega
  have hs63 : rows53.length ≤ 1048576 := bulk_slice bk15 (hb61.imp (fun h => ⟨h.1, by rw [h.2]; rfl⟩) (fun ⟨ys, zs, h1, h2, _⟩ => ⟨ys, zs, h1, h2⟩))
  rw [hn55] at hs63
  obtain ⟨l50, rfl, hq62⟩ := rows_dec S_api_Entry.row _ (fun r hr => by obtain ⟨n, y, hy⟩ := hr59 r hr; exact open_S_api_Entry hy)
  obtain rfl : l50.length = n52 := by simpa using hn55
  replace he58 : (Ent.rd o48 7 (List.map S_api_Entry.row l50)).ok W := he58
  obtain rfl : a0_3 = .slice o48 l50.length c49 := by simpa using hc54
  obtain ⟨o64, n68, c65, rows69, hc70, hn71, hle72, hl73, he74, hr75, ho76, hb77⟩ := open_rows (sz := 5) Tryz.underlying25 (by kernel_rfl) (by omega) hp18
  replace hl73 : n68 ≤ 9223372036854775807 := by omega
  have hs79 : rows69.length ≤ 1048576 := bulk_slice bk20 (hb77.imp (fun h => ⟨h.1, by rw [h.2]; rfl⟩) (fun ⟨ys, zs, h1, h2, _⟩ => ⟨ys, zs, h1, h2⟩))
  rw [hn71] at hs79
  obtain ⟨l66, rfl, hq78⟩ := rows_dec S_api_Last.row _ (fun r hr => by obtain ⟨n, y, hy⟩ := hr75 r hr; exact open_S_api_Last hy)
  obtain rfl : l66.length = n68 := by simpa using hn71
  replace he74 : (Ent.rd o64 5 (List.map S_api_Last.row l66)).ok W := he74
  obtain rfl : a0_4 = .slice o64 l66.length c65 := by simpa using hc70
  obtain ⟨o80, n84, c81, rows85, hc86, hn87, hle88, hl89, he90, hr91, ho92, hb93⟩ := open_rows (sz := 4) Tryz.underlying26 (by kernel_rfl) (by omega) hp23
  replace hl89 : n84 ≤ 9223372036854775807 := by omega
  have hs95 : rows85.length ≤ 1048576 := bulk_slice bk25 (hb93.imp (fun h => ⟨h.1, by rw [h.2]; rfl⟩) (fun ⟨ys, zs, h1, h2, _⟩ => ⟨ys, zs, h1, h2⟩))
  rw [hn87] at hs95
  obtain ⟨l82, rfl, hq94⟩ := rows_dec S_api_Item.row _ (fun r hr => by obtain ⟨n, y, hy⟩ := hr91 r hr; exact open_S_api_Item hy)
  obtain rfl : l82.length = n84 := by simpa using hn87
  replace he90 : (Ent.rd o80 4 (List.map S_api_Item.row l82)).ok W := he90
  obtain rfl : a0_5 = .slice o80 l82.length c81 := by simpa using hc86
  have k1 := h1
  have lt1 : ∀ x ∈ p1, x.block < W.heap.size := by obtain ⟨m, hm⟩ := k1; exact DataW.trod_lt m _ _ _ hm
  have bk1 : Rows.uptoBulk d1 ≤ 1048576 := bulk_arg hk (by simp)
  obtain ⟨a1, rfl, a1s⟩ := okWide_struct Tryz.underlying31 (hval 1 31 v1 rfl rfl)
  obtain ⟨fu1, hf1⟩ := h1
  rw [show Tryz.prog.cellsOf 31 = 7 by kernel_rfl] at a1s
  obtain ⟨a1l, rfl, a1s⟩ := arr_list a1s
  obtain ⟨a1_0, a1l0, rfl⟩ : ∃ c l, a1l = c :: l := by cases a1l with | nil => simp at a1s | cons c l => exact ⟨c, l, rfl⟩
  obtain ⟨a1_1, a1l1, rfl⟩ : ∃ c l, a1l0 = c :: l := by cases a1l0 with | nil => simp at a1s | cons c l => exact ⟨c, l, rfl⟩
  obtain ⟨a1_2, a1l2, rfl⟩ : ∃ c l, a1l1 = c :: l := by cases a1l1 with | nil => simp at a1s | cons c l => exact ⟨c, l, rfl⟩
  obtain ⟨a1_3, a1l3, rfl⟩ : ∃ c l, a1l2 = c :: l := by cases a1l2 with | nil => simp at a1s | cons c l => exact ⟨c, l, rfl⟩
  obtain ⟨a1_4, a1l4, rfl⟩ : ∃ c l, a1l3 = c :: l := by cases a1l3 with | nil => simp at a1s | cons c l => exact ⟨c, l, rfl⟩
  obtain ⟨a1_5, a1l5, rfl⟩ : ∃ c l, a1l4 = c :: l := by cases a1l4 with | nil => simp at a1s | cons c l => exact ⟨c, l, rfl⟩
  obtain ⟨a1_6, a1l6, rfl⟩ : ∃ c l, a1l5 = c :: l := by cases a1l5 with | nil => simp at a1s | cons c l => exact ⟨c, l, rfl⟩
  obtain rfl : a1l6 = [] := by simpa using a1s
  replace hf1 : DataW.trod enc Tryz.prog W 0 (fun _ => true) true fu1 31 [a1_0, a1_1, a1_2, a1_3, a1_4, a1_5, a1_6] = some (d1, p1) := hf1
  obtain ⟨n96, y97, hp98, hb99⟩ := trod_field (i := 0) (off := 0) (ty := 23) Tryz.underlying31 hf1 (by rfl) (sz := 2) (by kernel_rfl)
  replace hp98 : DataW.trod enc Tryz.prog W 0 (fun _ => true) true n96 23 [a1_0, a1_1] = some y97 := hp98
  have bk100 := bulk_agg bk1 hb99
  obtain ⟨n101, y102, hp103, hb104⟩ := trod_field (i := 1) (off := 2) (ty := 4) Tryz.underlying31 hf1 (by rfl) (sz := 1) (by kernel_rfl)
  replace hp103 : DataW.trod enc Tryz.prog W 0 (fun _ => true) true n101 4 [a1_2] = some y102 := hp103
  have bk105 := bulk_agg bk1 hb104
  obtain ⟨n106, y107, hp108, hb109⟩ := trod_field (i := 2) (off := 3) (ty := 29) Tryz.underlying31 hf1 (by rfl) (sz := 1) (by kernel_rfl)
  replace hp108 : DataW.trod enc Tryz.prog W 0 (fun _ => true) true n106 29 [a1_3] = some y107 := hp108
  have bk110 := bulk_agg bk1 hb109
  obtain ⟨n111, y112, hp113, hb114⟩ := trod_field (i := 3) (off := 4) (ty := 9) Tryz.underlying31 hf1 (by rfl) (sz := 1) (by kernel_rfl)
  replace hp113 : DataW.trod enc Tryz.prog W 0 (fun _ => true) true n111 9 [a1_4] = some y112 := hp113
  have bk115 := bulk_agg bk1 hb114
  obtain ⟨n116, y117, hp118, hb119⟩ := trod_field (i := 4) (off := 5) (ty := 3) Tryz.underlying31 hf1 (by rfl) (sz := 1) (by kernel_rfl)
  replace hp118 : DataW.trod enc Tryz.prog W 0 (fun _ => true) true n116 3 [a1_5] = some y117 := hp118
  have bk120 := bulk_agg bk1 hb119
  obtain ⟨n121, y122, hp123, hb124⟩ := trod_field (i := 5) (off := 6) (ty := 3) Tryz.underlying31 hf1 (by rfl) (sz := 1) (by kernel_rfl)
  replace hp123 : DataW.trod enc Tryz.prog W 0 (fun _ => true) true n121 3 [a1_6] = some y122 := hp123
  have bk125 := bulk_agg bk1 hb124
  obtain ⟨n126, y127, hp128, hb129⟩ := trod_field (i := 0) (off := 0) (ty := 3) Tryz.underlying23 hp98 (by rfl) (sz := 1) (by kernel_rfl)
  replace hp128 : DataW.trod enc Tryz.prog W 0 (fun _ => true) true n126 3 [a1_0] = some y127 := hp128
  have bk130 := bulk_agg bk100 hb129
  obtain ⟨n131, y132, hp133, hb134⟩ := trod_field (i := 1) (off := 1) (ty := 3) Tryz.underlying23 hp98 (by rfl) (sz := 1) (by kernel_rfl)
  replace hp133 : DataW.trod enc Tryz.prog W 0 (fun _ => true) true n131 3 [a1_1] = some y132 := hp133
  have bk135 := bulk_agg bk100 hb134
  obtain ⟨z136, hc137, hy138, wz139⟩ := DataW.trod_int Tryz.underlying3 hp128
  replace wz139 := wf_i64 wz139
  obtain rfl : a1_0 = .int .i64 z136 := by simpa using hc137
  obtain ⟨z140, hc141, hy142, wz143⟩ := DataW.trod_int Tryz.underlying3 hp133
  replace wz143 := wf_i64 wz143
  obtain rfl : a1_1 = .int .i64 z140 := by simpa using hc141
  obtain ⟨z144, hc145, hy146⟩ := DataW.trod_bool Tryz.underlying4 hp103
  obtain rfl : a1_2 = .bool z144 := by simpa using hc145
  obtain ⟨z147, hc148, hy149, wz150⟩ := DataW.trod_int Tryz.underlying29 hp108
  replace wz150 := wf_i64 wz150
  obtain rfl : a1_3 = .int .i64 z147 := by simpa using hc148
  obtain ⟨z151, hc152, hy153, wz154⟩ := DataW.trod_string Tryz.underlying9 hp113
  obtain rfl : a1_4 = .string z151 := by simpa using hc152
  obtain ⟨z155, hc156, hy157, wz158⟩ := DataW.trod_int Tryz.underlying3 hp118
  replace wz158 := wf_i64 wz158
  obtain rfl : a1_5 = .int .i64 z155 := by simpa using hc156
  obtain ⟨z159, hc160, hy161, wz162⟩ := DataW.trod_int Tryz.underlying3 hp123
  replace wz162 := wf_i64 wz162
  obtain rfl : a1_6 = .int .i64 z159 := by simpa using hc160
  have k2 := h2
  have lt2 : ∀ x ∈ p2, x.block < W.heap.size := by obtain ⟨m, hm⟩ := k2; exact DataW.trod_lt m _ _ _ hm
  have bk2 : Rows.uptoBulk d2 ≤ 1048576 := bulk_arg hk (by simp)
  obtain ⟨a2, rfl, a2s⟩ := okWide_struct Tryz.underlying34 (hval 2 34 v2 rfl rfl)
  obtain ⟨fu2, hf2⟩ := h2
  rw [show Tryz.prog.cellsOf 34 = 5 by kernel_rfl] at a2s
  obtain ⟨a2l, rfl, a2s⟩ := arr_list a2s
  obtain ⟨a2_0, a2l0, rfl⟩ : ∃ c l, a2l = c :: l := by cases a2l with | nil => simp at a2s | cons c l => exact ⟨c, l, rfl⟩
  obtain ⟨a2_1, a2l1, rfl⟩ : ∃ c l, a2l0 = c :: l := by cases a2l0 with | nil => simp at a2s | cons c l => exact ⟨c, l, rfl⟩
  obtain ⟨a2_2, a2l2, rfl⟩ : ∃ c l, a2l1 = c :: l := by cases a2l1 with | nil => simp at a2s | cons c l => exact ⟨c, l, rfl⟩
  obtain ⟨a2_3, a2l3, rfl⟩ : ∃ c l, a2l2 = c :: l := by cases a2l2 with | nil => simp at a2s | cons c l => exact ⟨c, l, rfl⟩
  obtain ⟨a2_4, a2l4, rfl⟩ : ∃ c l, a2l3 = c :: l := by cases a2l3 with | nil => simp at a2s | cons c l => exact ⟨c, l, rfl⟩
  obtain rfl : a2l4 = [] := by simpa using a2s
  replace hf2 : DataW.trod enc Tryz.prog W 0 (fun _ => true) true fu2 34 [a2_0, a2_1, a2_2, a2_3, a2_4] = some (d2, p2) := hf2
  obtain ⟨n163, y164, hp165, hb166⟩ := trod_field (i := 0) (off := 0) (ty := 3) Tryz.underlying34 hf2 (by rfl) (sz := 1) (by kernel_rfl)
  replace hp165 : DataW.trod enc Tryz.prog W 0 (fun _ => true) true n163 3 [a2_0] = some y164 := hp165
  have bk167 := bulk_agg bk2 hb166
  obtain ⟨n168, y169, hp170, hb171⟩ := trod_field (i := 1) (off := 1) (ty := 9) Tryz.underlying34 hf2 (by rfl) (sz := 1) (by kernel_rfl)
  replace hp170 : DataW.trod enc Tryz.prog W 0 (fun _ => true) true n168 9 [a2_1] = some y169 := hp170
  have bk172 := bulk_agg bk2 hb171
  obtain ⟨n173, y174, hp175, hb176⟩ := trod_field (i := 2) (off := 2) (ty := 32) Tryz.underlying34 hf2 (by rfl) (sz := 1) (by kernel_rfl)
  replace hp175 : DataW.trod enc Tryz.prog W 0 (fun _ => true) true n173 32 [a2_2] = some y174 := hp175
  have bk177 := bulk_agg bk2 hb176
  obtain ⟨n178, y179, hp180, hb181⟩ := trod_field (i := 3) (off := 3) (ty := 23) Tryz.underlying34 hf2 (by rfl) (sz := 2) (by kernel_rfl)
  replace hp180 : DataW.trod enc Tryz.prog W 0 (fun _ => true) true n178 23 [a2_3, a2_4] = some y179 := hp180
  have bk182 := bulk_agg bk2 hb181
  obtain ⟨z183, hc184, hy185, wz186⟩ := DataW.trod_int Tryz.underlying3 hp165
  replace wz186 := wf_i64 wz186
  obtain rfl : a2_0 = .int .i64 z183 := by simpa using hc184
  obtain ⟨z187, hc188, hy189, wz190⟩ := DataW.trod_string Tryz.underlying9 hp170
  obtain rfl : a2_1 = .string z187 := by simpa using hc188
  obtain ⟨o191, n195, c192, rows196, hc197, hn198, hle199, hl200, he201, hr202, ho203, hb204⟩ := open_rows (sz := 1) Tryz.underlying32 (by kernel_rfl) (by omega) hp175
  replace hl200 : n195 ≤ 9223372036854775807 := by omega
  have hs206 : rows196.length ≤ 1048576 := bulk_slice bk177 (hb204.imp (fun h => ⟨h.1, by rw [h.2]; rfl⟩) (fun ⟨ys, zs, h1, h2, _⟩ => ⟨ys, zs, h1, h2⟩))
  rw [hn198] at hs206
  obtain ⟨l193, rfl, hq205⟩ := rows_dec rB _ (fun r hr => by obtain ⟨n, y, hy⟩ := hr202 r hr; exact open_u8 Tryz.underlying5 hy)
  obtain rfl : l193.length = n195 := by simpa using hn198
  replace he201 : (Ent.rd o191 1 (List.map rB l193)).ok W := he201
  obtain rfl : a2_2 = .slice o191 l193.length c192 := by simpa using hc197
  obtain ⟨n207, y208, hp209, hb210⟩ := trod_field (i := 0) (off := 0) (ty := 3) Tryz.underlying23 hp180 (by rfl) (sz := 1) (by kernel_rfl)
  replace hp209 : DataW.trod enc Tryz.prog W 0 (fun _ => true) true n207 3 [a2_3] = some y208 := hp209
  have bk211 := bulk_agg bk182 hb210
  obtain ⟨n212, y213, hp214, hb215⟩ := trod_field (i := 1) (off := 1) (ty := 3) Tryz.underlying23 hp180 (by rfl) (sz := 1) (by kernel_rfl)
  replace hp214 : DataW.trod enc Tryz.prog W 0 (fun _ => true) true n212 3 [a2_4] = some y213 := hp214
  have bk216 := bulk_agg bk182 hb215
  obtain ⟨z217, hc218, hy219, wz220⟩ := DataW.trod_int Tryz.underlying3 hp209
  replace wz220 := wf_i64 wz220
  obtain rfl : a2_3 = .int .i64 z217 := by simpa using hc218
  obtain ⟨z221, hc222, hy223, wz224⟩ := DataW.trod_int Tryz.underlying3 hp214
  replace wz224 := wf_i64 wz224
  obtain rfl : a2_4 = .int .i64 z221 := by simpa using hc222
  clear hA0
  simp only [List.append_nil] at hW'
  refine (CallG.law (w_tholelaw18_PrimaryTakes (2000000 + 64) z26 (S_api_Version.mk z40 z44) o48 c49 l50 o64 c65 l66 o80 c81 l82 (S_api_Entry.mk (S_api_Version.mk z136 z140) z144 z147 z151 z155 z159) z183 z187 o191 c192 l193 (S_api_Version.mk z217 z221)  (law_takes 2000000 (Stt.mk z26 (S_api_Version.mk z40 z44) l50 l66 l82) (S_api_Entry.mk (S_api_Version.mk z136 z140) z144 z147 z151 z155 z159) z183 z187 l193 (S_api_Version.mk z217 z221) ⟨Nat.le_trans (by first | exact hs63 | (have h := hs63; rw [List.length_map] at h; exact h)) (show 1048576 ≤ 2000000 by decide), Nat.le_trans (by first | exact hs79 | (have h := hs79; rw [List.length_map] at h; exact h)) (show 1048576 ≤ 2000000 by decide), Nat.le_trans (by first | exact hs95 | (have h := hs95; rw [List.length_map] at h; exact h)) (show 1048576 ≤ 2000000 by decide)⟩ (fun x hx => (hq94 x hx).1) (Nat.lt_of_le_of_lt (Nat.succ_le_succ (Nat.le_trans (by first | exact hs63 | (have h := hs63; rw [List.length_map] at h; exact h)) (show 1048576 ≤ 2000000 by decide))) (by decide)) wz154 wz190 wz143 (headF_I64 _ _ wz47 (fun x hx => (hq62 x hx).2.1)))) W ⟨he58, he74, he90, he201, trivial⟩).mono fun e W' ⟨he, hkeep⟩ => ?_
  subst he
  have bel := hkeep.below
  exact ⟨_, rfl, _, _, _, [], _, [], hW', trodAll_mk1 (shut_bool Tryz.underlying4 _), (trodAll_cons_mk (Below.trod laidOut (by kernel_rfl) (of_decide_eq_true (by kernel_rfl)) k0 bel lt0) (trodAll_cons_mk (Below.trod laidOut (by kernel_rfl) (of_decide_eq_true (by kernel_rfl)) k1 bel lt1) (trodAll_cons_mk (Below.trod laidOut (by kernel_rfl) (of_decide_eq_true (by kernel_rfl)) k2 bel lt2) trodAll_mk0))), rfl, bel.frame _, fun h => by cases h⟩

theorem lifted (os : Os) (started : os.Started) (H : Type) (enc : TypeId × Value → H) (F : Stop.Interp) :
    ReturnsInHanded {} Tryz.checked os 3 .any ((Rows.OpenSpec.upto Rows.primaryTakesSpec).pre6 enc Tryz.prog Tryz.f3 Rows.primaryTakesUptoRow.domain false) (((Rows.OpenSpec.upto Rows.primaryTakesSpec).at F).post enc Tryz.prog Tryz.f3 false true false false) := by
  refine returnsInHanded_of_cond (C := Tryz.checked) (s := Rows.OpenSpec.upto Rows.primaryTakesSpec) (k := Rows.uptoSmall) rfl own started (by kernel_rfl) Tryz.func3
    (OpenSpec.witness (enc := enc) (C := Tryz.checked) (s := Rows.OpenSpec.upto Rows.primaryTakesSpec) (k := Rows.uptoSmall) rfl false ⟨#[], #[.agg #[.int .i64 0, .int .i64 0, .int .i64 0, .slice none 0 0, .slice none 0 0, .slice none 0 0], .agg #[.int .i64 0, .int .i64 0, .bool false, .int .i64 0, .string (ByteArray.mk #[]), .int .i64 0, .int .i64 0], .agg #[.int .i64 0, .string (ByteArray.mk #[]), .slice none 0 0, .int .i64 0, .int .i64 0]], []⟩ 8 (by kernel_rfl) (by kernel_rfl) (by kernel_rfl)
      (x := ([.agg [.lit (.int .i64 0), .agg [.lit (.int .i64 0), .lit (.int .i64 0)], .nil, .nil, .nil], .agg [.agg [.lit (.int .i64 0), .lit (.int .i64 0)], .lit (.bool false), .lit (.int .i64 0), .lit (.string []), .lit (.int .i64 0), .lit (.int .i64 0)], .agg [.lit (.int .i64 0), .lit (.string []), .nil, .agg [.lit (.int .i64 0), .lit (.int .i64 0)]]], [], [])) (by kernel_rfl) rfl (by kernel_rfl)) ?_
  intro W base args ds gs before hval hW _ hk _
  exact contract H enc W base args ds gs before hval hW hk

/-- THE STATEMENT -/
theorem proved : Rows.PrimaryTakesUptoSaid :=
  OpenClaim.holds_of_cond 3 Tryz.f3 rfl rfl rfl rfl rfl rfl rfl ⟨rfl, rfl, rfl, rfl, rfl⟩ rfl rfl rfl rfl rfl (by kernel_rfl) Tryz.func3 (by kernel_rfl)
    (of_decide_eq_true (by kernel_rfl)) (by unfold Func.isWrapper; first | (rw [if_pos (by decide +kernel)]; kernel_rfl) | (rw [if_neg (by decide +kernel)]; exact ⟨rfl, rfl⟩))
    (fun os started H enc _ F => lifted os started H enc F)
end Go.Proofs.YtjnbkhnebmlilaaGreat.primaryTakesUpto
