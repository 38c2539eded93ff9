/-
  THE LAW StrawMoves: for every input of the given program's function it returns true, and the input reads behind the call as it read before. Proved in the second form: where what came in is of bulk at most 1048576.
-/
import Derived.Test.YtmdmfjgpjpfoaaaRows
import Derived.JoinedCond
import Derived.Test.YtmdmfjgpjpfoaaaSxh
import Derived.Test.YtmdmfjgpjpfoaaaBulk
import Derived.Test.YtmdmfjgpjpfoaaaW07e
set_option linter.unusedVariables false
set_option linter.unusedSimpArgs false
set_option maxRecDepth 100000
namespace Go.Proofs.Ytmdmfjgpjpfoaaa.strawMovesUpto
open Go.ChangeShapes Go.WideShapes Go.ChangeAt Go.RowKit Sx

theorem own : ownKnob Try.prog.godebug = none := by kernel_rfl
theorem laidOut : laidOutB Try.prog = true := by kernel_rfl

theorem contract (H : Type) (enc : TypeId × Value → H) (W : World) (base : Nat) (args : Array Value) (ds gs : List (DataW H)) (before : List MemPlace)
    (hval : ∀ (j : Nat) t v, Try.f6.params[j]? = some t → args[j]? = some v → Value.okWide Try.prog W .any base t v)
    (hW : DataW.Whole enc Try.prog Try.f6.params.toList Rows.strawMovesSpec.vars false W args.toList ds gs before) (hk : Rows.uptoSmall H (ds ++ gs) = true) :
    Calls Try.prog 6 args W fun e W' => ∃ v, e = .returned v ∧ Rows.strawMovesSpec.post enc Try.prog Try.f6 false true false false W args v W' := by
  have hW' := hW
  obtain ⟨p, q, hA0, hV, rfl, hfz, hnd⟩ := hW
  have hA : DataW.TrodAll enc Try.prog W 0 (fun _ => true) true Try.f6.params.toList args.toList ds p := hA0
  rw [Try.params6] at hA hval
  obtain ⟨v0, vs0, d0, ds0, p0, q0, hargs, rfl, rfl, h0, r0⟩ := trodAll_cons hA
  obtain ⟨v1, vs1, d1, ds1, p1, q1, rfl, rfl, rfl, h1, r1⟩ := trodAll_cons r0
  obtain ⟨v2, vs2, d2, ds2, p2, q2, rfl, rfl, rfl, h2, r2⟩ := trodAll_cons r1
  obtain ⟨rfl, rfl, rfl⟩ := trodAll_nil r2
  obtain rfl : args = #[v0, v1, v2] := by cases args; simp_all
  obtain ⟨rfl, rfl⟩ := trodVars_none hV
  have k0 := h0
  have lt0 : ∀ x ∈ p0, x.block < W.heap.size := by obtain ⟨m, hm⟩ := k0; exact DataW.trod_lt m _ _ _ hm
  have bk0 : Rows.uptoBulk d0 ≤ 1048576 := bulk_arg hk (by simp)
  obtain ⟨a0, rfl, a0s⟩ := okWide_struct Try.underlying32 (hval 0 32 v0 rfl rfl)
  obtain ⟨fu0, hf0⟩ := h0
  rw [show Try.prog.cellsOf 32 = 2 by kernel_rfl] at a0s
  obtain ⟨a0l, rfl, a0s⟩ := arr_list a0s
  obtain ⟨a0_0, a0l0, rfl⟩ : ∃ c l, a0l = c :: l := by cases a0l with | nil => simp at a0s | cons c l => exact ⟨c, l, rfl⟩
  obtain ⟨a0_1, a0l1, rfl⟩ : ∃ c l, a0l0 = c :: l := by cases a0l0 with | nil => simp at a0s | cons c l => exact ⟨c, l, rfl⟩
  obtain rfl : a0l1 = [] := by simpa using a0s
  replace hf0 : DataW.trod enc Try.prog W 0 (fun _ => true) true fu0 32 [a0_0, a0_1] = some (d0, p0) := hf0
  obtain ⟨n1, y2, hp3, hb4⟩ := trod_field (i := 0) (off := 0) (ty := 30) Try.underlying32 hf0 (by rfl) (sz := 1) (by kernel_rfl)
  replace hp3 : DataW.trod enc Try.prog W 0 (fun _ => true) true n1 30 [a0_0] = some y2 := hp3
  have bk5 := bulk_agg bk0 hb4
  obtain ⟨n6, y7, hp8, hb9⟩ := trod_field (i := 1) (off := 1) (ty := 30) Try.underlying32 hf0 (by rfl) (sz := 1) (by kernel_rfl)
  replace hp8 : DataW.trod enc Try.prog W 0 (fun _ => true) true n6 30 [a0_1] = some y7 := hp8
  have bk10 := bulk_agg bk0 hb9
  obtain ⟨o11, c12, l13, hc14, hl15, wl16, he17, hb18⟩ := open_ints_arg Try.underlying30 Try.underlying3 (by kernel_rfl) hp3
  replace hl15 : l13.length ≤ 1048576 := bulk_slice bk5 (hb18.imp (fun h => ⟨h.1, by rw [h.2]; rfl⟩) id)
  obtain rfl : a0_0 = .slice o11 l13.length c12 := by simpa using hc14
  obtain ⟨o19, c20, l21, hc22, hl23, wl24, he25, hb26⟩ := open_ints_arg Try.underlying30 Try.underlying3 (by kernel_rfl) hp8
  replace hl23 : l21.length ≤ 1048576 := bulk_slice bk10 (hb26.imp (fun h => ⟨h.1, by rw [h.2]; rfl⟩) id)
  obtain rfl : a0_1 = .slice o19 l21.length c20 := by simpa using hc22
  have k1 := h1
  have lt1 : ∀ x ∈ p1, x.block < W.heap.size := by obtain ⟨m, hm⟩ := k1; exact DataW.trod_lt m _ _ _ hm
  have bk1 : Rows.uptoBulk d1 ≤ 1048576 := bulk_arg hk (by simp)
  obtain ⟨a1, rfl⟩ := okWide_int Try.underlying25 (hval 1 25 v1 rfl rfl)
  obtain ⟨fu1, hf1⟩ := h1
  replace hf1 : DataW.trod enc Try.prog W 0 (fun _ => true) true fu1 25 [.int .u32 a1] = some (d1, p1) := hf1
  obtain ⟨a1z, hc27, _, a1w⟩ := DataW.trod_int Try.underlying25 hf1
  obtain rfl : a1 = a1z := by simpa using hc27
  replace a1w := wf_u32 a1w
  have k2 := h2
  have lt2 : ∀ x ∈ p2, x.block < W.heap.size := by obtain ⟨m, hm⟩ := k2; exact DataW.trod_lt m _ _ _ hm
  have bk2 : Rows.uptoBulk d2 ≤ 1048576 := bulk_arg hk (by simp)
  obtain ⟨a2, rfl, a2s⟩ := okWide_array Try.underlying33 (hval 2 33 v2 rfl rfl)
  obtain ⟨fu2, hf2⟩ := h2
  rw [show Try.prog.cellsOf 33 = 3 by kernel_rfl] at a2s
  obtain ⟨a2l, rfl, a2s⟩ := arr_list a2s
  obtain ⟨a2_0, a2l0, rfl⟩ : ∃ c l, a2l = c :: l := by cases a2l with | nil => simp at a2s | cons c l => exact ⟨c, l, rfl⟩
  obtain ⟨a2_1, a2l1, rfl⟩ : ∃ c l, a2l0 = c :: l := by cases a2l0 with | nil => simp at a2s | cons c l => exact ⟨c, l, rfl⟩
  obtain ⟨a2_2, a2l2, rfl⟩ : ∃ c l, a2l1 = c :: l := by cases a2l1 with | nil => simp at a2s | cons c l => exact ⟨c, l, rfl⟩
  obtain rfl : a2l2 = [] := by simpa using a2s
  replace hf2 : DataW.trod enc Try.prog W 0 (fun _ => true) true fu2 33 [a2_0, a2_1, a2_2] = some (d2, p2) := hf2
  obtain ⟨n28, y29, hp30, hb31⟩ := trod_elem (i := 0) Try.underlying33 hf2 (by omega) (sz := 1) (by kernel_rfl)
  replace hp30 : DataW.trod enc Try.prog W 0 (fun _ => true) true n28 3 [a2_0] = some y29 := hp30
  have bk32 := bulk_agg bk2 hb31
  obtain ⟨n33, y34, hp35, hb36⟩ := trod_elem (i := 1) Try.underlying33 hf2 (by omega) (sz := 1) (by kernel_rfl)
  replace hp35 : DataW.trod enc Try.prog W 0 (fun _ => true) true n33 3 [a2_1] = some y34 := hp35
  have bk37 := bulk_agg bk2 hb36
  obtain ⟨n38, y39, hp40, hb41⟩ := trod_elem (i := 2) Try.underlying33 hf2 (by omega) (sz := 1) (by kernel_rfl)
  replace hp40 : DataW.trod enc Try.prog W 0 (fun _ => true) true n38 3 [a2_2] = some y39 := hp40
  have bk42 := bulk_agg bk2 hb41
  obtain ⟨z43, hc44, hy45, wz46⟩ := DataW.trod_int Try.underlying3 hp30
  replace wz46 := wf_i64 wz46
  obtain rfl : a2_0 = .int .i64 z43 := by simpa using hc44
  obtain ⟨z47, hc48, hy49, wz50⟩ := DataW.trod_int Try.underlying3 hp35
  replace wz50 := wf_i64 wz50
  obtain rfl : a2_1 = .int .i64 z47 := by simpa using hc48
  obtain ⟨z51, hc52, hy53, wz54⟩ := DataW.trod_int Try.underlying3 hp40
  replace wz54 := wf_i64 wz54
  obtain rfl : a2_2 = .int .i64 z51 := by simpa using hc52
  clear hA0
  simp only [List.append_nil] at hW'
  refine (law_moves o11 o19 c12 c20 l13 l21 a1 z43 z47 z51 hl15 hl23 W (by intro E hE; simp only [List.mem_cons, Option.some.injEq, List.not_mem_nil, or_false] at hE; exact hE.elim (fun e => by rw [e]; exact he17) (fun e => by rw [e]; exact he25))).mono fun e W' ⟨he, hkeep⟩ => ?_
  subst he
  have bel := hkeep.below
  exact ⟨_, rfl, _, _, _, [], _, [], hW', trodAll_mk1 (shut_bool Try.underlying4 _), (trodAll_cons_mk (Below.trod laidOut (by kernel_rfl) (of_decide_eq_true (by kernel_rfl)) k0 bel lt0) (trodAll_cons_mk (Below.trod laidOut (by kernel_rfl) (of_decide_eq_true (by kernel_rfl)) k1 bel lt1) (trodAll_cons_mk (Below.trod laidOut (by kernel_rfl) (of_decide_eq_true (by kernel_rfl)) k2 bel lt2) trodAll_mk0))), rfl, bel.frame _, fun h => by cases h⟩

theorem lifted (os : Os) (started : os.Started) (H : Type) (enc : TypeId × Value → H) (F : Stop.Interp) :
    ReturnsInHanded {} Try.checked os 6 .any ((Rows.OpenSpec.upto Rows.strawMovesSpec).pre6 enc Try.prog Try.f6 Rows.strawMovesUptoRow.domain false) (((Rows.OpenSpec.upto Rows.strawMovesSpec).at F).post enc Try.prog Try.f6 false true false false) := by
  refine returnsInHanded_of_cond (C := Try.checked) (s := Rows.OpenSpec.upto Rows.strawMovesSpec) (k := Rows.uptoSmall) rfl own started (by kernel_rfl) Try.func6
    (OpenSpec.witness (enc := enc) (C := Try.checked) (s := Rows.OpenSpec.upto Rows.strawMovesSpec) (k := Rows.uptoSmall) rfl false ⟨#[], #[.agg #[.slice none 0 0, .slice none 0 0], .int .u32 0, .agg #[.int .i64 0, .int .i64 0, .int .i64 0]], []⟩ 8 (by kernel_rfl) (by kernel_rfl) (by kernel_rfl)
      (x := ([.agg [.nil, .nil], .lit (.int .u32 0), .agg [.lit (.int .i64 0), .lit (.int .i64 0), .lit (.int .i64 0)]], [], [])) (by kernel_rfl) rfl (by kernel_rfl)) ?_
  intro W base args ds gs before hval hW _ hk _
  exact contract H enc W base args ds gs before hval hW hk

/-- THE STATEMENT -/
theorem proved : Rows.StrawMovesUptoSaid :=
  OpenClaim.holds_of_cond 6 Try.f6 rfl rfl rfl rfl rfl rfl rfl ⟨rfl, rfl, rfl, rfl, rfl⟩ rfl rfl rfl rfl rfl (by kernel_rfl) Try.func6 (by kernel_rfl)
    (of_decide_eq_true (by kernel_rfl)) (by unfold Func.isWrapper; first | (rw [if_pos (by decide +kernel)]; kernel_rfl) | (rw [if_neg (by decide +kernel)]; exact ⟨rfl, rfl⟩))
    (fun os started H enc _ F => lifted os started H enc F)
end Go.Proofs.Ytmdmfjgpjpfoaaa.strawMovesUpto
