/-
  THE LAW DigestMany: for every input of the given program's function it returns true, and the input reads behind the call as it read before. Proved in the first form, without any condition.
-/
import Derived.Test.YtmjlfdllpnkgoaaRows
import Derived.JoinedCond
import Derived.Test.YtmjlfdllpnkgoaaSxh
import Derived.Test.YtmjlfdllpnkgoaaW01j
import Derived.Test.YtmjlfdllpnkgoaaP01h
import Derived.Test.YtmjlfdllpnkgoaaO01
set_option linter.unusedVariables false
set_option linter.unusedSimpArgs false
set_option maxRecDepth 100000
namespace Go.Proofs.Ytmjlfdllpnkgoaa.digestMany
open Go.ChangeShapes Go.WideShapes Go.ChangeAt Go.RowKit Sx

theorem own : ownKnob Try.prog.godebug = none := by kernel_rfl
theorem laidOut : laidOutB Try.prog = true := by kernel_rfl

theorem contract (H : Type) (enc : TypeId × Value → H) (W : World) (base : Nat) (args : Array Value) (ds gs : List (DataW H)) (before : List MemPlace)
    (hval : ∀ (j : Nat) t v, Try.f5.params[j]? = some t → args[j]? = some v → Value.okWide Try.prog W .any base t v)
    (hW : DataW.Whole enc Try.prog Try.f5.params.toList Rows.digestManySpec.vars false W args.toList ds gs before) :
    Calls Try.prog 5 args W fun e W' => ∃ v, e = .returned v ∧ Rows.digestManySpec.post enc Try.prog Try.f5 false true false false W args v W' := by
  have hW' := hW
  obtain ⟨p, q, hA0, hV, rfl, hfz, hnd⟩ := hW
  have hA : DataW.TrodAll enc Try.prog W 0 (fun _ => true) true Try.f5.params.toList args.toList ds p := hA0
  rw [Try.params5] at hA hval
  obtain ⟨v0, vs0, d0, ds0, p0, q0, hargs, rfl, rfl, h0, r0⟩ := trodAll_cons hA
  obtain ⟨v1, vs1, d1, ds1, p1, q1, rfl, rfl, rfl, h1, r1⟩ := trodAll_cons r0
  obtain ⟨rfl, rfl, rfl⟩ := trodAll_nil r1
  obtain rfl : args = #[v0, v1] := by cases args; simp_all
  obtain ⟨rfl, rfl⟩ := trodVars_none hV
  have k0 := h0
  have lt0 : ∀ x ∈ p0, x.block < W.heap.size := by obtain ⟨m, hm⟩ := k0; exact DataW.trod_lt m _ _ _ hm
  obtain ⟨a0, a0n, a0c, rfl⟩ := okWide_slice Try.underlying22 (hval 0 22 v0 rfl rfl)
  obtain ⟨fu0, hf0⟩ := h0
  replace hf0 : DataW.trod enc Try.prog W 0 (fun _ => true) true fu0 22 [.slice a0 a0n a0c] = some (d0, p0) := hf0
  obtain ⟨o1, n5, c2, rows6, hc7, hn8, hle9, hl10, he11, hr12, ho13, hb14⟩ := open_rows (sz := 1) Try.underlying22 (by kernel_rfl) (by omega) hf0
  replace hl10 : n5 ≤ 9223372036854775807 := by omega
  obtain ⟨l3, rfl, hq15⟩ := rows_dec rB _ (fun r hr => by obtain ⟨n, y, hy⟩ := hr12 r hr; exact open_u8 Try.underlying5 hy)
  obtain rfl : l3.length = n5 := by simpa using hn8
  replace he11 : (Ent.rd o1 1 (List.map rB l3)).ok W := he11
  simp only [List.cons.injEq, and_true, Value.slice.injEq] at hc7
  obtain ⟨rfl, rfl, rfl⟩ := hc7
  have k1 := h1
  have lt1 : ∀ x ∈ p1, x.block < W.heap.size := by obtain ⟨m, hm⟩ := k1; exact DataW.trod_lt m _ _ _ hm
  obtain ⟨a1, rfl⟩ := okWide_int Try.underlying35 (hval 1 35 v1 rfl rfl)
  obtain ⟨fu1, hf1⟩ := h1
  replace hf1 : DataW.trod enc Try.prog W 0 (fun _ => true) true fu1 35 [.int .u64 a1] = some (d1, p1) := hf1
  obtain ⟨a1z, hc17, _, a1w⟩ := DataW.trod_int Try.underlying35 hf1
  obtain rfl : a1 = a1z := by simpa using hc17
  replace a1w := wf_u64 a1w
  clear hA0
  simp only [List.append_nil] at hW'
  refine (CallG.law (w_tholelaw01_DigestMany 1000 a0 a0c l3 a1 hle9 (law_many l3 a1 a1w.1)) W ⟨he11, trivial⟩).mono fun e W' ⟨he, hkeep⟩ => ?_
  subst he
  have bel := hkeep.below
  exact ⟨_, rfl, _, _, _, [], _, [], hW', trodAll_mk1 (shut_bool Try.underlying4 _), (trodAll_cons_mk (Below.trod laidOut (by kernel_rfl) (of_decide_eq_true (by kernel_rfl)) k0 bel lt0) (trodAll_cons_mk (Below.trod laidOut (by kernel_rfl) (of_decide_eq_true (by kernel_rfl)) k1 bel lt1) trodAll_mk0)), rfl, bel.frame _, fun h => by cases h⟩

theorem lifted (os : Os) (started : os.Started) (H : Type) (enc : TypeId × Value → H) :
    ReturnsInHanded {} Try.checked os 5 .any (Rows.digestManySpec.pre6 enc Try.prog Try.f5 Rows.digestManyRow.domain false) (Rows.digestManySpec.post enc Try.prog Try.f5 false true false false) := by
  refine returnsInHanded_of_change (C := Try.checked) own started (by kernel_rfl) Try.func5
    (ChangeSpec.witness6 (enc := enc) (C := Try.checked) false ⟨#[], #[.slice none 0 0, .int .u64 0], []⟩ 8 (by kernel_rfl) (by kernel_rfl) (by kernel_rfl) (by kernel_rfl)) ?_
  intro W base args ds gs before hval hW hcnd _
  exact contract H enc W base args ds gs before hval hW

/-- THE STATEMENT -/
theorem proved : Rows.DigestManySaid :=
  OpenClaim.holds_of_wide 5 Try.f5 rfl rfl rfl rfl rfl rfl rfl ⟨rfl, rfl, rfl, rfl, rfl⟩ rfl rfl rfl rfl rfl (by kernel_rfl) Try.func5 (by kernel_rfl)
    (of_decide_eq_true (by kernel_rfl)) (by unfold Func.isWrapper; first | (rw [if_pos (by decide +kernel)]; kernel_rfl) | (rw [if_neg (by decide +kernel)]; exact ⟨rfl, rfl⟩))
    (fun os started H enc _ => lifted os started H enc)
end Go.Proofs.Ytmjlfdllpnkgoaa.digestMany
