/-
  THE LAW StripeBack: for every input of the given program's function it returns true, and the input reads behind the call as it read before. Proved in the second form: where what came in is of bulk at most 1048576.
-/
import Derived.Test.YtfdojammchbboaaDoorRows
import Derived.JoinedCond
import Derived.Test.YtfdojammchbboaaDoorCards
import Derived.Test.YtfdojammchbboaaDoorTie
import Derived.Test.YtfdojammchbboaaDoorD24
import Derived.Deep.DeepHandedRow
import Derived.Deep.DeepWitnessRowRef
import Derived.Test.YtfdojammchbboaaDoorSxh
import Derived.Test.YtfdojammchbboaaDoorBulk
import Derived.Test.YtfdojammchbboaaDoorW24sh
import Derived.Test.YtfdojammchbboaaDoorP24zt
import Derived.Test.YtfdojammchbboaaDoorO24s
set_option linter.unusedVariables false
set_option linter.unusedSimpArgs false
set_option maxRecDepth 100000
namespace Go.Proofs.YtfdojammchbboaaDoor.stripeBackUpto
open Go.ChangeShapes Go.WideShapes Go.ChangeAt Go.RowKit Sx

theorem own : ownKnob Tryd.prog.godebug = none := by kernel_rfl
theorem laidOut : laidOutB Tryd.prog = true := by kernel_rfl

theorem contract (H : Type) (enc : TypeId × Value → H) (W : World) (base : Nat) (args : Array Value) (ds gs : List (DataW H)) (before : List MemPlace)
    (hval : ∀ (j : Nat) t v, Tryd.f8.params[j]? = some t → args[j]? = some v → Value.okWide Tryd.prog W .any base t v)
    (hW : DataW.Whole enc Tryd.prog Tryd.f8.params.toList Rows.stripeBackSpec.vars false W args.toList ds gs before) (hk : Rows.uptoSmall H (ds ++ gs) = true) :
    Calls Tryd.prog 8 args W fun e W' => ∃ v, e = .returned v ∧ Rows.stripeBackSpec.post enc Tryd.prog Tryd.f8 false true false false W args v W' := by
  have hW' := hW
  obtain ⟨p, q, hA0, hV, rfl, hfz, hnd⟩ := hW
  have hA : DataW.TrodAll enc Tryd.prog W 0 (fun _ => true) true Tryd.f8.params.toList args.toList ds p := hA0
  rw [Tryd.params8] at hA hval
  obtain ⟨v0, vs0, d0, ds0, p0, q0, hargs, rfl, rfl, h0, r0⟩ := trodAll_cons hA
  obtain ⟨v1, vs1, d1, ds1, p1, q1, rfl, rfl, rfl, h1, r1⟩ := trodAll_cons r0
  obtain ⟨v2, vs2, d2, ds2, p2, q2, rfl, rfl, rfl, h2, r2⟩ := trodAll_cons r1
  obtain ⟨rfl, rfl, rfl⟩ := trodAll_nil r2
  obtain rfl : args = #[v0, v1, v2] := by cases args; simp_all
  obtain ⟨rfl, rfl⟩ := trodVars_none hV
  have k0 := h0
  have lt0 : ∀ x ∈ p0, x.block < W.heap.size := by obtain ⟨m, hm⟩ := k0; exact DataW.trod_lt m _ _ _ hm
  have bk0 : Rows.uptoBulk d0 ≤ 1048576 := bulk_arg hk (by simp)
  obtain ⟨a0, rfl, a0s⟩ := okWide_struct Tryd.underlying23 (hval 0 23 v0 rfl rfl)
  obtain ⟨fu0, hf0⟩ := h0
  rw [show Tryd.prog.cellsOf 23 = 3 by kernel_rfl] at a0s
  obtain ⟨a0l, rfl, a0s⟩ := arr_list a0s
  obtain ⟨a0_0, a0l0, rfl⟩ : ∃ c l, a0l = c :: l := by cases a0l with | nil => simp at a0s | cons c l => exact ⟨c, l, rfl⟩
  obtain ⟨a0_1, a0l1, rfl⟩ : ∃ c l, a0l0 = c :: l := by cases a0l0 with | nil => simp at a0s | cons c l => exact ⟨c, l, rfl⟩
  obtain ⟨a0_2, a0l2, rfl⟩ : ∃ c l, a0l1 = c :: l := by cases a0l1 with | nil => simp at a0s | cons c l => exact ⟨c, l, rfl⟩
  obtain rfl : a0l2 = [] := by simpa using a0s
  replace hf0 : DataW.trod enc Tryd.prog W 0 (fun _ => true) true fu0 23 [a0_0, a0_1, a0_2] = some (d0, p0) := hf0
  obtain ⟨n1, y2, hp3, hb4⟩ := trod_field (i := 0) (off := 0) (ty := 3) Tryd.underlying23 hf0 (by rfl) (sz := 1) (by kernel_rfl)
  replace hp3 : DataW.trod enc Tryd.prog W 0 (fun _ => true) true n1 3 [a0_0] = some y2 := hp3
  have bk5 := bulk_agg bk0 hb4
  obtain ⟨n6, y7, hp8, hb9⟩ := trod_field (i := 1) (off := 1) (ty := 3) Tryd.underlying23 hf0 (by rfl) (sz := 1) (by kernel_rfl)
  replace hp8 : DataW.trod enc Tryd.prog W 0 (fun _ => true) true n6 3 [a0_1] = some y7 := hp8
  have bk10 := bulk_agg bk0 hb9
  obtain ⟨n11, y12, hp13, hb14⟩ := trod_field (i := 2) (off := 2) (ty := 3) Tryd.underlying23 hf0 (by rfl) (sz := 1) (by kernel_rfl)
  replace hp13 : DataW.trod enc Tryd.prog W 0 (fun _ => true) true n11 3 [a0_2] = some y12 := hp13
  have bk15 := bulk_agg bk0 hb14
  obtain ⟨z16, hc17, hy18, wz19⟩ := DataW.trod_int Tryd.underlying3 hp3
  replace wz19 := wf_i64 wz19
  obtain rfl : a0_0 = .int .i64 z16 := by simpa using hc17
  obtain ⟨z20, hc21, hy22, wz23⟩ := DataW.trod_int Tryd.underlying3 hp8
  replace wz23 := wf_i64 wz23
  obtain rfl : a0_1 = .int .i64 z20 := by simpa using hc21
  obtain ⟨z24, hc25, hy26, wz27⟩ := DataW.trod_int Tryd.underlying3 hp13
  replace wz27 := wf_i64 wz27
  obtain rfl : a0_2 = .int .i64 z24 := by simpa using hc25
  have k1 := h1
  have lt1 : ∀ x ∈ p1, x.block < W.heap.size := by obtain ⟨m, hm⟩ := k1; exact DataW.trod_lt m _ _ _ hm
  have bk1 : Rows.uptoBulk d1 ≤ 1048576 := bulk_arg hk (by simp)
  obtain ⟨a1, rfl⟩ := okWide_int Tryd.underlying52 (hval 1 52 v1 rfl rfl)
  obtain ⟨fu1, hf1⟩ := h1
  replace hf1 : DataW.trod enc Tryd.prog W 0 (fun _ => true) true fu1 52 [.int .u64 a1] = some (d1, p1) := hf1
  obtain ⟨a1z, hc28, _, a1w⟩ := DataW.trod_int Tryd.underlying52 hf1
  obtain rfl : a1 = a1z := by simpa using hc28
  replace a1w := wf_u64 a1w
  have k2 := h2
  have lt2 : ∀ x ∈ p2, x.block < W.heap.size := by obtain ⟨m, hm⟩ := k2; exact DataW.trod_lt m _ _ _ hm
  have bk2 : Rows.uptoBulk d2 ≤ 1048576 := bulk_arg hk (by simp)
  obtain ⟨a2, a2n, a2c, rfl⟩ := okWide_slice Tryd.underlying54 (hval 2 54 v2 rfl rfl)
  obtain ⟨fu2, hf2⟩ := h2
  replace hf2 : DataW.trod enc Tryd.prog W 0 (fun _ => true) true fu2 54 [.slice a2 a2n a2c] = some (d2, p2) := hf2
  obtain ⟨o29, n33, c30, rows34, hc35, hn36, hle37, hl38, he39, hr40, ho41, hb42⟩ := open_rows (sz := 1) Tryd.underlying54 (by kernel_rfl) (by omega) hf2
  replace hl38 : n33 ≤ 9223372036854775807 := by omega
  have hs44 : rows34.length ≤ 1048576 := bulk_slice bk2 (hb42.imp (fun h => ⟨h.1, by rw [h.2]; rfl⟩) (fun ⟨ys, zs, h1, h2, _⟩ => ⟨ys, zs, h1, h2⟩))
  rw [hn36] at hs44
  obtain ⟨l31, rfl, hq43⟩ := rows_dec rB _ (fun r hr => by obtain ⟨n, y, hy⟩ := hr40 r hr; exact open_u8 Tryd.underlying5 hy)
  obtain rfl : l31.length = n33 := by simpa using hn36
  replace he39 : (Ent.rd o29 1 (List.map rB l31)).ok W := he39
  simp only [List.cons.injEq, and_true, Value.slice.injEq] at hc35
  obtain ⟨rfl, rfl, rfl⟩ := hc35
  clear hA0
  simp only [List.append_nil] at hW'
  refine (CallG.law (w_tholelaw24_StripeBack 2000000 (S_stripe_Layout.mk z16 z20 z24) a1 a2 a2c l31 hle37 (law_back (S_stripe_Layout.mk z16 z20 z24) a1 a1w.1 l31 (by first | exact hs44 | (have h := hs44; rw [List.length_map] at h; exact h)))) W ⟨he39, trivial⟩).mono fun e W' ⟨he, hkeep⟩ => ?_
  subst he
  have bel := hkeep.below
  exact ⟨_, rfl, _, _, _, [], _, [], hW', trodAll_mk1 (shut_bool Tryd.underlying4 _), (trodAll_cons_mk (Below.trod laidOut (by kernel_rfl) (of_decide_eq_true (by kernel_rfl)) k0 bel lt0) (trodAll_cons_mk (Below.trod laidOut (by kernel_rfl) (of_decide_eq_true (by kernel_rfl)) k1 bel lt1) (trodAll_cons_mk (Below.trod laidOut (by kernel_rfl) (of_decide_eq_true (by kernel_rfl)) k2 bel lt2) trodAll_mk0))), rfl, bel.frame _, fun h => by cases h⟩

theorem reads (os : Os) {H : Type} (enc : TypeId × Value → H) : ∃ places, DataW.whole enc Tryd.prog ((laidWorld os).forCall (fun _ _ => 0) ⟨#[], #[.agg #[.int .i64 0, .int .i64 0, .int .i64 0], .int .u64 0, .slice none 0 0], []⟩).memory Tryd.f8.params.toList Rows.stripeBackSpec.vars false (#[.agg #[.int .i64 0, .int .i64 0, .int .i64 0], .int .u64 0, .slice none 0 0] : Array Value).toList 8 = some ([.agg [.lit (.int .i64 0), .lit (.int .i64 0), .lit (.int .i64 0)], .lit (.int .u64 0), .nil], [], places) :=
  ⟨[], by kernel_rfl⟩
theorem lifted (os : Os) (started : os.Started) (H : Type) (enc : TypeId × Value → H) (F : Stop.Interp) :
    ReturnsInHanded {} Tryd.checked os 8 .any ((Rows.OpenSpec.upto Rows.stripeBackSpec).preRow enc Tryd.prog Tryd.f8 Rows.stripeBackUptoRow.domain false Rows.stripeBackUptoRow.laid) (((Rows.OpenSpec.upto Rows.stripeBackSpec).at F).post enc Tryd.prog Tryd.f8 false true false false) := by
  obtain ⟨places, hx⟩ := reads os enc
  refine returnsInHanded_of_row (C := Tryd.checked) (s := Rows.OpenSpec.upto Rows.stripeBackSpec) own started (by kernel_rfl) Tryd.func8
    (witness_row_atRef (enc := enc) (C := Tryd.checked) false (laidWorld os) #[.agg #[.int .i64 0, .int .i64 0, .int .i64 0], .int .u64 0, .slice none 0 0] rfl (by kernel_rfl) (by kernel_rfl) (by kernel_rfl)
      (OpenSpec.preRow_of_cond 8 hx (by kernel_rfl) (fun k hk => by cases hk; kernel_rfl) (by kernel_rfl) (laid_met os _))) ?_
  intro W base args ds gs before hval hW _ hcond _ hL _ _
  exact contract H enc W base args ds gs before hval hW (hcond _ rfl)
theorem said : Rows.StripeBackUptoSaid :=
  OpenClaim.holds_of_cond 8 Tryd.f8 rfl rfl rfl rfl rfl rfl rfl ⟨rfl, rfl, rfl, rfl, rfl⟩ rfl rfl rfl rfl rfl (by kernel_rfl) Tryd.func8 (by kernel_rfl)
    (of_decide_eq_true (by kernel_rfl)) (by unfold Func.isWrapper; first | (rw [if_pos (by decide +kernel)]; kernel_rfl) | (rw [if_neg (by decide +kernel)]; exact ⟨rfl, rfl⟩))
    (fun os started H enc _ F => by rw [OpenClaim.pre_eq_preRow]; exact lifted os started H enc F)
theorem plain (f : FuncId) (fn : Func) (hf : Tryd.pinned.checked.prog.funcNamed "thole/tholelaw24.StripeBack" = some f) (hfn : Tryd.pinned.checked.prog.funcs[f]? = some fn) :
    true = Tryd.pinned.checked.prog.looks [] ∧ ∀ (j : Nat) t, fn.params[j]? = some t → Tryd.pinned.checked.prog.wantsStandIn t = false := by
  obtain rfl : f = 8 := Option.some.inj ((show Tryd.prog.funcNamed "thole/tholelaw24.StripeBack" = some 8 by kernel_rfl).symm.trans hf) |>.symm
  obtain rfl : fn = Tryd.f8 := (Option.some.inj (Tryd.func8.symm.trans hfn)).symm
  refine ⟨by kernel_rfl, fun j t ht => ?_⟩
  rw [Tryd.params8] at ht
  have hm := Array.mem_of_getElem? ht
  simp only [List.mem_toArray, List.mem_cons, List.not_mem_nil, or_false] at hm
  rcases hm with rfl | rfl | rfl
  · exact (show Tryd.prog.wantsStandIn 23 = false by kernel_rfl)
  · exact (show Tryd.prog.wantsStandIn 52 = false by kernel_rfl)
  · exact (show Tryd.prog.wantsStandIn 54 = false by kernel_rfl)
/-- THE STATEMENT: the law's card -/
theorem card : Rows.StripeBackUptoCardSaid :=
  Claim7.holds_tied_plain_at .later [] _ _ _ _ said (fun _ h => by cases h) (by kernel_rfl) (fun _ h => by cases h) stripeBackUpto_row_tie rfl ⟨rfl, rfl⟩ (by kernel_rfl) rfl plain (by kernel_rfl)
end Go.Proofs.YtfdojammchbboaaDoor.stripeBackUpto
