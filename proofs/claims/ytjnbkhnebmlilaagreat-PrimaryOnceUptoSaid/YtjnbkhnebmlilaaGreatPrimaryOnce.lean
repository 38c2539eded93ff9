/-
  THE LAW PrimaryOnce: for every input of the given program's function it returns true, and the input reads behind the call as it read before. Proved in the second form: where what came in is of bulk at most 1048576.
-/
import Derived.Test.YtjnbkhnebmlilaaGreatRows
import Derived.JoinedCond
import Derived.Test.YtjnbkhnebmlilaaGreatSxh
import Derived.Test.YtjnbkhnebmlilaaGreatBulk
import Derived.Test.YtjnbkhnebmlilaaGreatW18ot
import Derived.Test.YtjnbkhnebmlilaaGreatP18oj
import Derived.Test.YtjnbkhnebmlilaaGreatO18o
set_option linter.unusedVariables false
set_option linter.unusedSimpArgs false
set_option maxRecDepth 100000
namespace Go.Proofs.YtjnbkhnebmlilaaGreat.primaryOnceUpto
open Go.ChangeShapes Go.WideShapes Go.ChangeAt Go.RowKit Sx

theorem own : ownKnob Tryz.prog.godebug = none := by kernel_rfl
theorem laidOut : laidOutB Tryz.prog = true := by kernel_rfl

theorem contract (H : Type) (enc : TypeId × Value → H) (W : World) (base : Nat) (args : Array Value) (ds gs : List (DataW H)) (before : List MemPlace)
    (hval : ∀ (j : Nat) t v, Tryz.f4.params[j]? = some t → args[j]? = some v → Value.okWide Tryz.prog W .any base t v)
    (hW : DataW.Whole enc Tryz.prog Tryz.f4.params.toList Rows.primaryOnceSpec.vars false W args.toList ds gs before) (hk : Rows.uptoSmall H (ds ++ gs) = true) :
    Calls Tryz.prog 4 args W fun e W' => ∃ v, e = .returned v ∧ Rows.primaryOnceSpec.post enc Tryz.prog Tryz.f4 false true false false W args v W' := by
  have hW' := hW
  obtain ⟨p, q, hA0, hV, rfl, hfz, hnd⟩ := hW
  have hA : DataW.TrodAll enc Tryz.prog W 0 (fun _ => true) true Tryz.f4.params.toList args.toList ds p := hA0
  rw [Tryz.params4] at hA hval
  obtain ⟨v0, vs0, d0, ds0, p0, q0, hargs, rfl, rfl, h0, r0⟩ := trodAll_cons hA
  obtain ⟨v1, vs1, d1, ds1, p1, q1, rfl, rfl, rfl, h1, r1⟩ := trodAll_cons r0
  obtain ⟨rfl, rfl, rfl⟩ := trodAll_nil r1
  obtain rfl : args = #[v0, v1] := by cases args; simp_all
  obtain ⟨rfl, rfl⟩ := trodVars_none hV
  have k0 := h0
  have lt0 : ∀ x ∈ p0, x.block < W.heap.size := by obtain ⟨m, hm⟩ := k0; exact DataW.trod_lt m _ _ _ hm
  have bk0 : Rows.uptoBulk d0 ≤ 1048576 := bulk_arg hk (by simp)
  obtain ⟨a0, a0n, a0c, rfl⟩ := okWide_slice Tryz.underlying45 (hval 0 45 v0 rfl rfl)
  obtain ⟨fu0, hf0⟩ := h0
  replace hf0 : DataW.trod enc Tryz.prog W 0 (fun _ => true) true fu0 45 [.slice a0 a0n a0c] = some (d0, p0) := hf0
  obtain ⟨o1, n4, c2, rows5, hc6, hn7, hle8, hl9, he10, hr11, ho12, hb13⟩ := open_rows (sz := 5) Tryz.underlying45 (by kernel_rfl) (by omega) hf0
  replace hl9 : n4 ≤ 9223372036854775807 := by omega
  have hs15 : rows5.length ≤ 1048576 := bulk_slice bk0 (hb13.imp (fun h => ⟨h.1, by rw [h.2]; rfl⟩) (fun ⟨ys, zs, h1, h2, _⟩ => ⟨ys, zs, h1, h2⟩))
  rw [hn7] at hs15
  obtain ⟨hh16, l3, rfl, hq14, hB18⟩ := rows_nestB nR34 nJ34 (fun x => x.Data.length ≤ 1048576 ∧ x.Name.size ≤ 1048576) (w := W) (fun r hr => by obtain ⟨n, y, hy, hk⟩ := rows_bulk bk0 hb13 r hr; exact openNB_34 hy hk)
  obtain rfl : l3.length = n4 := by rw [← hn7, nrows_len]
  simp only [List.cons.injEq, and_true, Value.slice.injEq] at hc6
  obtain ⟨rfl, rfl, rfl⟩ := hc6
  have k1 := h1
  have lt1 : ∀ x ∈ p1, x.block < W.heap.size := by obtain ⟨m, hm⟩ := k1; exact DataW.trod_lt m _ _ _ hm
  have bk1 : Rows.uptoBulk d1 ≤ 1048576 := bulk_arg hk (by simp)
  obtain ⟨a1, a1n, a1c, rfl⟩ := okWide_slice Tryz.underlying46 (hval 1 46 v1 rfl rfl)
  obtain ⟨fu1, hf1⟩ := h1
  replace hf1 : DataW.trod enc Tryz.prog W 0 (fun _ => true) true fu1 46 [.slice a1 a1n a1c] = some (d1, p1) := hf1
  obtain ⟨o19, n23, c20, rows24, hc25, hn26, hle27, hl28, he29, hr30, ho31, hb32⟩ := open_rows (sz := 1) Tryz.underlying46 (by kernel_rfl) (by omega) hf1
  replace hl28 : n23 ≤ 9223372036854775807 := by omega
  have hs34 : rows24.length ≤ 1048576 := bulk_slice bk1 (hb32.imp (fun h => ⟨h.1, by rw [h.2]; rfl⟩) (fun ⟨ys, zs, h1, h2, _⟩ => ⟨ys, zs, h1, h2⟩))
  rw [hn26] at hs34
  obtain ⟨l21, rfl, hq33⟩ := rows_dec rU64 _ (fun r hr => by obtain ⟨n, y, hy⟩ := hr30 r hr; exact open_u64 Tryz.underlying66 hy)
  obtain rfl : l21.length = n23 := by simpa using hn26
  replace he29 : (Ent.rd o19 1 (List.map rU64 l21)).ok W := he29
  simp only [List.cons.injEq, and_true, Value.slice.injEq] at hc25
  obtain ⟨rfl, rfl, rfl⟩ := hc25
  clear hA0
  simp only [List.append_nil] at hW'
  refine (CallG.law (w_tholelaw18_PrimaryOnce (0 + 64) a0 a0c hh16 l3 a1 a1c l21  (law_once 0 l3 l21 (by first | exact hs15 | (have h := hs15; rw [List.length_map] at h; exact h)) (fun p hp => hB18 p hp) (fun x hx => (hq33 x hx).1))) W ⟨he10, hq14, he29, trivial⟩).mono fun e W' ⟨he, hkeep⟩ => ?_
  subst he
  have bel := hkeep.below
  exact ⟨_, rfl, _, _, _, [], _, [], hW', trodAll_mk1 (shut_bool Tryz.underlying4 _), (trodAll_cons_mk (Below.trod laidOut (by kernel_rfl) (of_decide_eq_true (by kernel_rfl)) k0 bel lt0) (trodAll_cons_mk (Below.trod laidOut (by kernel_rfl) (of_decide_eq_true (by kernel_rfl)) k1 bel lt1) trodAll_mk0)), rfl, bel.frame _, fun h => by cases h⟩

theorem lifted (os : Os) (started : os.Started) (H : Type) (enc : TypeId × Value → H) (F : Stop.Interp) :
    ReturnsInHanded {} Tryz.checked os 4 .any ((Rows.OpenSpec.upto Rows.primaryOnceSpec).pre6 enc Tryz.prog Tryz.f4 Rows.primaryOnceUptoRow.domain false) (((Rows.OpenSpec.upto Rows.primaryOnceSpec).at F).post enc Tryz.prog Tryz.f4 false true false false) := by
  refine returnsInHanded_of_cond (C := Tryz.checked) (s := Rows.OpenSpec.upto Rows.primaryOnceSpec) (k := Rows.uptoSmall) rfl own started (by kernel_rfl) Tryz.func4
    (OpenSpec.witness (enc := enc) (C := Tryz.checked) (s := Rows.OpenSpec.upto Rows.primaryOnceSpec) (k := Rows.uptoSmall) rfl false ⟨#[], #[.slice none 0 0, .slice none 0 0], []⟩ 8 (by kernel_rfl) (by kernel_rfl) (by kernel_rfl)
      (x := ([.nil, .nil], [], [])) (by kernel_rfl) rfl (by kernel_rfl)) ?_
  intro W base args ds gs before hval hW _ hk _
  exact contract H enc W base args ds gs before hval hW hk

/-- THE STATEMENT -/
theorem proved : Rows.PrimaryOnceUptoSaid :=
  OpenClaim.holds_of_cond 4 Tryz.f4 rfl rfl rfl rfl rfl rfl rfl ⟨rfl, rfl, rfl, rfl, rfl⟩ rfl rfl rfl rfl rfl (by kernel_rfl) Tryz.func4 (by kernel_rfl)
    (of_decide_eq_true (by kernel_rfl)) (by unfold Func.isWrapper; first | (rw [if_pos (by decide +kernel)]; kernel_rfl) | (rw [if_neg (by decide +kernel)]; exact ⟨rfl, rfl⟩))
    (fun os started H enc _ F => lifted os started H enc F)
end Go.Proofs.YtjnbkhnebmlilaaGreat.primaryOnceUpto
