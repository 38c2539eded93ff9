/-
  CHAPTER 24: plain facts on the models: the two Sizes.
-/
import Derived.Test.YtfdojammchbboaaDoorP24zi
set_option linter.unusedVariables false
set_option linter.unusedSimpArgs false
set_option maxRecDepth 100000
namespace Go.Proofs.YtfdojammchbboaaDoor
open Go Go.RowKit Sx

def OkO (acc : List Ext) : Prop := ∀ e ∈ acc, (0 ≤ e.Object ∧ e.Object ≤ 1048591) ∧ (0 ≤ e.N ∧ e.N ≤ 65536) ∧ (0 ≤ e.At ∧ e.At ≤ 68719476736)

theorem plc_ob {l : Lay} (h : Gd l) {p : Int} (h0 : 0 ≤ p) (h1 : p < 65536) : 0 ≤ (plc l p).1 ∧ (plc l p).1 ≤ 1048591 := by
  have b := set_bd h
  have g := h
  obtain ⟨u1, u2, c1, c2, s1, s2, s3⟩ := g
  have u := div_bd h0 (show p ≤ 65535 by omega) u1
  have v := div_bd u.1 u.2 b.2.1
  have y := mod_bd (a := p / l.Unit) c1
  have q := mul_bd v.1 v.2 (show 0 ≤ l.Count by omega) c2
  unfold plc
  simp only
  omega

theorem ob_bytes {l : Lay} (g : Gd l) : ∀ (n : Nat) (acc : List Ext) (p : Int), 0 ≤ p → p + n ≤ 65536 → (∀ e ∈ acc, 0 ≤ e.Object ∧ e.Object ≤ 1048591) → ∀ e ∈ bytesE l n acc p, 0 ≤ e.Object ∧ e.Object ≤ 1048591
  | 0, acc, p, h0, h1, h => by simpa [bytesE] using h
  | n + 1, acc, p, h0, h1, h => by
    rw [bytesE]
    have hb := plc_ob g h0 (show p < 65536 by push_cast at h1; omega)
    refine ob_bytes g n _ (p + 1) (by omega) (by push_cast at h1; omega) ?_
    rcases List.eq_nil_or_concat acc with rfl | ⟨l', e, rfl⟩
    · intro x hx
      obtain rfl : x = _ := by simpa [addE] using hx
      exact hb
    · simp only [addE, List.concat_eq_append, List.getLast?_append, List.getLast?_singleton, Option.some_or, List.dropLast_concat] at h ⊢
      cases hq : (e.Object == (plc l p).1 && e.At + e.N == (plc l p).2) with
      | false =>
        intro x hx
        rcases List.mem_append.1 hx with hx | hx
        · exact h x hx
        · obtain rfl := List.mem_singleton.1 hx; exact hb
      | true =>
        intro x hx
        rcases List.mem_append.1 hx with hx | hx
        · exact h x (List.mem_append_left _ hx)
        · obtain rfl := List.mem_singleton.1 hx; exact h e (by simp)

theorem ok_exts (l : Lay) (n : Int) : OkO (exts l 0 n) ∧ (exts l 0 n).length ≤ 65536 := by
  unfold exts
  cases ho : EOut l 0 n with
  | true => exact ⟨fun e he => by simp at he, by simp⟩
  | false =>
    simp only [EOut, Bool.or_eq_false_iff, Bool.not_eq_false', decide_eq_true_eq, decide_eq_false_iff_not] at ho
    obtain ⟨g, _, h1, _, h2⟩ := ho
    have a := ok_bytes g n.toNat [] 0 (by omega) (by omega) ⟨by simp, fun e he => by simp at he⟩
    have b := ob_bytes g n.toNat [] 0 (by omega) (by omega) (fun e he => by simp at he)
    refine ⟨fun e he => ⟨b e he, ?_, (a.2 e he).1⟩, ?_⟩
    · have := (a.2 e he).2; omega
    · have := a.1; simp only [cond_false]; omega

theorem loop_grow {ρ : Type} (o : Nat) (ho : o ≤ 1048591) (K : List Int → Option ρ) (st : (List Int → Option ρ) → List Int → Option ρ)
    (hs : ∀ nx z, st nx z = bif decide (((z.length : Nat) : Int) ≤ (o : Int)) then grd (App (z.length + [(0 : Int)].length) 8) (nx (z ++ [0])) else K z) :
    ∀ (F : Nat) (z : List Int), o + 1 - z.length < F → loopW st F z = K (grow z o)
  | 0, z, h => by omega
  | F + 1, z, h => by
    rw [loopW, hs]
    by_cases hc : z.length ≤ o
    · rw [decide_eq_true (by omega), cond_true, grd_pos _ (by unfold App; simp; omega), loop_grow o ho K st hs F _ (by simp; omega)]
      congr 1
      unfold grow
      rw [List.length_append, List.length_singleton, show o + 1 - z.length = (o + 1 - (z.length + 1)) + 1 by omega, List.replicate_succ, List.append_assoc]
      rfl
    · rw [decide_eq_false (by omega), cond_false, grow_of z o (by omega)]

end Go.Proofs.YtfdojammchbboaaDoor
