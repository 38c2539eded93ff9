/-
  THE LAW MissingTurns: for every input of the given program's function it returns true, and the input reads behind the call as it read before. Proved in the second form: where what came in is of bulk at most 1048576.
-/
import Derived.Test.YtdelhcdknglibaaRows
import Derived.JoinedCond
import Derived.Test.YtdelhcdknglibaaSxh
import Derived.Test.YtdelhcdknglibaaBulk
import Derived.Test.YtdelhcdknglibaaW14bo
import Derived.Test.YtdelhcdknglibaaP14j
import Derived.Test.YtdelhcdknglibaaO14b
set_option linter.unusedVariables false
set_option linter.unusedSimpArgs false
set_option maxRecDepth 100000
namespace Go.Proofs.Ytdelhcdknglibaa.missingTurnsUpto
open Go.ChangeShapes Go.WideShapes Go.ChangeAt Go.RowKit Sx

theorem own : ownKnob Try.prog.godebug = none := by kernel_rfl
theorem laidOut : laidOutB Try.prog = true := by kernel_rfl

theorem contract (H : Type) (enc : TypeId × Value → H) (W : World) (base : Nat) (args : Array Value) (ds gs : List (DataW H)) (before : List MemPlace)
    (hval : ∀ (j : Nat) t v, Try.f6.params[j]? = some t → args[j]? = some v → Value.okWide Try.prog W .any base t v)
    (hW : DataW.Whole enc Try.prog Try.f6.params.toList Rows.missingTurnsSpec.vars false W args.toList ds gs before) (hk : Rows.uptoSmall H (ds ++ gs) = true) :
    Calls Try.prog 6 args W fun e W' => ∃ v, e = .returned v ∧ Rows.missingTurnsSpec.post enc Try.prog Try.f6 false true false false W args v W' := by
  have hW' := hW
  obtain ⟨p, q, hA0, hV, rfl, hfz, hnd⟩ := hW
  have hA : DataW.TrodAll enc Try.prog W 0 (fun _ => true) true Try.f6.params.toList args.toList ds p := hA0
  rw [Try.params6] at hA hval
  obtain ⟨v0, vs0, d0, ds0, p0, q0, hargs, rfl, rfl, h0, r0⟩ := trodAll_cons hA
  obtain ⟨v1, vs1, d1, ds1, p1, q1, rfl, rfl, rfl, h1, r1⟩ := trodAll_cons r0
  obtain ⟨v2, vs2, d2, ds2, p2, q2, rfl, rfl, rfl, h2, r2⟩ := trodAll_cons r1
  obtain ⟨rfl, rfl, rfl⟩ := trodAll_nil r2
  obtain rfl : args = #[v0, v1, v2] := by cases args; simp_all
  obtain ⟨rfl, rfl⟩ := trodVars_none hV
  have k0 := h0
  have lt0 : ∀ x ∈ p0, x.block < W.heap.size := by obtain ⟨m, hm⟩ := k0; exact DataW.trod_lt m _ _ _ hm
  have bk0 : Rows.uptoBulk d0 ≤ 1048576 := bulk_arg hk (by simp)
  obtain ⟨a0, a0n, a0c, rfl⟩ := okWide_slice Try.underlying47 (hval 0 47 v0 rfl rfl)
  obtain ⟨fu0, hf0⟩ := h0
  replace hf0 : DataW.trod enc Try.prog W 0 (fun _ => true) true fu0 47 [.slice a0 a0n a0c] = some (d0, p0) := hf0
  obtain ⟨o1, n5, c2, rows6, hc7, hn8, hle9, hl10, he11, hr12, ho13, hb14⟩ := open_rows (sz := 3) Try.underlying47 (by kernel_rfl) (by omega) hf0
  replace hl10 : n5 ≤ 9223372036854775807 := by omega
  have hs16 : rows6.length ≤ 1048576 := bulk_slice bk0 (hb14.imp (fun h => ⟨h.1, by rw [h.2]; rfl⟩) (fun ⟨ys, zs, h1, h2, _⟩ => ⟨ys, zs, h1, h2⟩))
  rw [hn8] at hs16
  obtain ⟨l3, rfl, hq15⟩ := rows_dec S_tholelaw14_Act.row _ (fun r hr => by obtain ⟨n, y, hy⟩ := hr12 r hr; exact open_S_tholelaw14_Act hy)
  obtain rfl : l3.length = n5 := by simpa using hn8
  replace he11 : (Ent.rd o1 3 (List.map S_tholelaw14_Act.row l3)).ok W := he11
  simp only [List.cons.injEq, and_true, Value.slice.injEq] at hc7
  obtain ⟨rfl, rfl, rfl⟩ := hc7
  have k1 := h1
  have lt1 : ∀ x ∈ p1, x.block < W.heap.size := by obtain ⟨m, hm⟩ := k1; exact DataW.trod_lt m _ _ _ hm
  have bk1 : Rows.uptoBulk d1 ≤ 1048576 := bulk_arg hk (by simp)
  obtain ⟨a1, a1n, a1c, rfl⟩ := okWide_slice Try.underlying47 (hval 1 47 v1 rfl rfl)
  obtain ⟨fu1, hf1⟩ := h1
  replace hf1 : DataW.trod enc Try.prog W 0 (fun _ => true) true fu1 47 [.slice a1 a1n a1c] = some (d1, p1) := hf1
  obtain ⟨o17, n21, c18, rows22, hc23, hn24, hle25, hl26, he27, hr28, ho29, hb30⟩ := open_rows (sz := 3) Try.underlying47 (by kernel_rfl) (by omega) hf1
  replace hl26 : n21 ≤ 9223372036854775807 := by omega
  have hs32 : rows22.length ≤ 1048576 := bulk_slice bk1 (hb30.imp (fun h => ⟨h.1, by rw [h.2]; rfl⟩) (fun ⟨ys, zs, h1, h2, _⟩ => ⟨ys, zs, h1, h2⟩))
  rw [hn24] at hs32
  obtain ⟨l19, rfl, hq31⟩ := rows_dec S_tholelaw14_Act.row _ (fun r hr => by obtain ⟨n, y, hy⟩ := hr28 r hr; exact open_S_tholelaw14_Act hy)
  obtain rfl : l19.length = n21 := by simpa using hn24
  replace he27 : (Ent.rd o17 3 (List.map S_tholelaw14_Act.row l19)).ok W := he27
  simp only [List.cons.injEq, and_true, Value.slice.injEq] at hc23
  obtain ⟨rfl, rfl, rfl⟩ := hc23
  have k2 := h2
  have lt2 : ∀ x ∈ p2, x.block < W.heap.size := by obtain ⟨m, hm⟩ := k2; exact DataW.trod_lt m _ _ _ hm
  have bk2 : Rows.uptoBulk d2 ≤ 1048576 := bulk_arg hk (by simp)
  obtain ⟨a2, a2n, a2c, rfl⟩ := okWide_slice Try.underlying47 (hval 2 47 v2 rfl rfl)
  obtain ⟨fu2, hf2⟩ := h2
  replace hf2 : DataW.trod enc Try.prog W 0 (fun _ => true) true fu2 47 [.slice a2 a2n a2c] = some (d2, p2) := hf2
  obtain ⟨o33, n37, c34, rows38, hc39, hn40, hle41, hl42, he43, hr44, ho45, hb46⟩ := open_rows (sz := 3) Try.underlying47 (by kernel_rfl) (by omega) hf2
  replace hl42 : n37 ≤ 9223372036854775807 := by omega
  have hs48 : rows38.length ≤ 1048576 := bulk_slice bk2 (hb46.imp (fun h => ⟨h.1, by rw [h.2]; rfl⟩) (fun ⟨ys, zs, h1, h2, _⟩ => ⟨ys, zs, h1, h2⟩))
  rw [hn40] at hs48
  obtain ⟨l35, rfl, hq47⟩ := rows_dec S_tholelaw14_Act.row _ (fun r hr => by obtain ⟨n, y, hy⟩ := hr44 r hr; exact open_S_tholelaw14_Act hy)
  obtain rfl : l35.length = n37 := by simpa using hn40
  replace he43 : (Ent.rd o33 3 (List.map S_tholelaw14_Act.row l35)).ok W := he43
  simp only [List.cons.injEq, and_true, Value.slice.injEq] at hc39
  obtain ⟨rfl, rfl, rfl⟩ := hc39
  clear hA0
  simp only [List.append_nil] at hW'
  refine (CallG.law (w_tholelaw14_MissingTurns (0 + 1000) a0 a0c l3 a1 a1c l19 a2 a2c l35  (law_turns 0 l3 l19 l35 (by first | exact hs16 | (have h := hs16; rw [List.length_map] at h; exact h)) (by first | exact hs32 | (have h := hs32; rw [List.length_map] at h; exact h)) (by first | exact hs48 | (have h := hs48; rw [List.length_map] at h; exact h)))) W ⟨he11, he27, he43, trivial⟩).mono fun e W' ⟨he, hkeep⟩ => ?_
  subst he
  have bel := hkeep.below
  exact ⟨_, rfl, _, _, _, [], _, [], hW', trodAll_mk1 (shut_bool Try.underlying4 _), (trodAll_cons_mk (Below.trod laidOut (by kernel_rfl) (of_decide_eq_true (by kernel_rfl)) k0 bel lt0) (trodAll_cons_mk (Below.trod laidOut (by kernel_rfl) (of_decide_eq_true (by kernel_rfl)) k1 bel lt1) (trodAll_cons_mk (Below.trod laidOut (by kernel_rfl) (of_decide_eq_true (by kernel_rfl)) k2 bel lt2) trodAll_mk0))), rfl, bel.frame _, fun h => by cases h⟩

theorem lifted (os : Os) (started : os.Started) (H : Type) (enc : TypeId × Value → H) (F : Stop.Interp) :
    ReturnsInHanded {} Try.checked os 6 .any ((Rows.OpenSpec.upto Rows.missingTurnsSpec).pre6 enc Try.prog Try.f6 Rows.missingTurnsUptoRow.domain false) (((Rows.OpenSpec.upto Rows.missingTurnsSpec).at F).post enc Try.prog Try.f6 false true false false) := by
  refine returnsInHanded_of_cond (C := Try.checked) (s := Rows.OpenSpec.upto Rows.missingTurnsSpec) (k := Rows.uptoSmall) rfl own started (by kernel_rfl) Try.func6
    (OpenSpec.witness (enc := enc) (C := Try.checked) (s := Rows.OpenSpec.upto Rows.missingTurnsSpec) (k := Rows.uptoSmall) rfl false ⟨#[], #[.slice none 0 0, .slice none 0 0, .slice none 0 0], []⟩ 8 (by kernel_rfl) (by kernel_rfl) (by kernel_rfl)
      (x := ([.nil, .nil, .nil], [], [])) (by kernel_rfl) rfl (by kernel_rfl)) ?_
  intro W base args ds gs before hval hW _ hk _
  exact contract H enc W base args ds gs before hval hW hk

/-- THE STATEMENT -/
theorem proved : Rows.MissingTurnsUptoSaid :=
  OpenClaim.holds_of_cond 6 Try.f6 rfl rfl rfl rfl rfl rfl rfl ⟨rfl, rfl, rfl, rfl, rfl⟩ rfl rfl rfl rfl rfl (by kernel_rfl) Try.func6 (by kernel_rfl)
    (of_decide_eq_true (by kernel_rfl)) (by unfold Func.isWrapper; first | (rw [if_pos (by decide +kernel)]; kernel_rfl) | (rw [if_neg (by decide +kernel)]; exact ⟨rfl, rfl⟩))
    (fun os started H enc _ F => lifted os started H enc F)
end Go.Proofs.Ytdelhcdknglibaa.missingTurnsUpto
