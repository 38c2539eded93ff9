/-
  CHAPTER 24, StripeBack: plain facts: the code's Join of its Split is the bytes.
-/
import Derived.Test.YtfdojammchbboaaDoorP24zq
set_option linter.unusedVariables false
set_option linter.unusedSimpArgs false
set_option maxRecDepth 100000
namespace Go.Proofs.YtfdojammchbboaaDoor
open Go Go.RowKit Sx

theorem exts_all {l : Lay} (g : Gd l) {n : Nat} (hn : n ≤ 65536) : exts l 0 (n : Int) = bytesE l n [] 0 := by
  unfold exts EOut
  rw [decide_eq_true g, decide_eq_false (show ¬ (0 : Int) < 0 by omega), decide_eq_false (show ¬ (n : Int) < 0 by omega), decide_eq_false (show ¬ (0 : Int) > 65536 by omega), decide_eq_false (show ¬ (n : Int) > 65536 - 0 by omega)]
  rw [Int.toNat_natCast]; rfl

theorem loop_join {L : List (List UInt8)} {ρ : Type} (R : List UInt8 → Option ρ) (st : (List UInt8 → Option ρ) → Nat → Ext → List UInt8 → Option ρ) (fin : Nat → List UInt8 → Option ρ)
    (hs : ∀ nx c e out, QE e → e.Object.toNat < L.length → e.At.toNat + e.N.toNat ≤ (L.getD e.Object.toNat []).length → (jpl L out e).length ≤ 65536 → st nx c e out = nx (jpl L out e)) (hf : ∀ c out, fin c out = R out) :
    ∀ (E : List Ext) (c : Nat) (out : List UInt8), (∀ e ∈ E, QE e ∧ e.Object.toNat < L.length ∧ e.At.toNat + e.N.toNat ≤ (L.getD e.Object.toNat []).length) → (E.foldl (jpl L) out).length ≤ 65536 → loopL st fin E c out = R (E.foldl (jpl L) out)
  | [], c, out, h1, h2 => by rw [loopL, hf]; rfl
  | e :: E, c, out, h1, h2 => by
    obtain ⟨q1, q2, q3⟩ := h1 e (by simp)
    rw [List.foldl_cons] at h2
    have := jpl_mono L E (jpl L out e)
    rw [loopL, hs _ _ _ _ q1 q2 q3 (by omega), List.foldl_cons]
    exact loop_join R st fin hs hf E (c + 1) _ (fun x hx => h1 x (by simp [hx])) h2

theorem m_join (F : Nat) (hF : 1048592 < F) {l : Lay} (g : Gd l) (b : List UInt8) (hb : b.length ≤ 65536) :
    m_stripe_Join F l (b.length : Int) (Ls l b (sizeSum (bytesE l b.length [] 0)).length b.length) = some (b, 0) := by
  have hx := exts_all g hb
  have hex := ok_exts l (b.length : Int)
  rw [hx] at hex
  have hob := nobj g b.length
  obtain ⟨p1, p2⟩ := spl_bytes b g (Nat.le_refl _) hob b.length (Nat.le_refl _)
  obtain ⟨j1, j2⟩ := jpl_bytes b g (Nat.le_refl _) hob b.length (Nat.le_refl _)
  have hre := re_bytes b g b.length j1
  have hsz := (sizes_eq g b.length hb).2
  simp only [m_stripe_Join]
  rw [m_sizes F hF, hx, Option.bind_some]
  generalize hz : sizeSum (bytesE l b.length [] 0) = z at *
  have hKb : z.length ≤ 1048592 := by
    have key : ∀ (E : List Ext) (z : List Int), OkO E → z.length ≤ 1048592 → (E.foldl (fun z e => sstep z e.Object.toNat e.N) z).length ≤ 1048592 := by
      intro E
      induction E with
      | nil => intro z _ h; exact h
      | cons e E ih =>
        intro z hE h
        have := (hE e (by simp)).1
        exact ih _ (fun x hx => hE x (by simp [hx])) (by rw [sstep_len']; omega)
    rw [← hz]; exact key _ [] hex.1 (by simp)
  have hL := Ls_len l b z.length b.length
  refine (show ∀ {σ ρ : Type} {k : σ → Option ρ} {bb : (σ → Option ρ) → Option ρ} (s : σ) (h : ∀ J, bb J = J s), jn k bb = k s from fun s h => h _) false (fun J => ?_) |>.trans ?_
  · rw [m_good, Option.bind_some, decide_eq_true g, Bool.not_true, cond_false, decide_eq_false (by omega), cond_false, decide_eq_false (by omega), cond_false, hL]
    simp
  · rw [cond_false, grd_pos _ (by unfold Len; omega)]
    refine loop_all z 0 _ _ _ (fun nx c x hc hxx => ?_) (fun c => ?_) z 0 List.drop_zero
    · rw [grd_pos _ (by rw [hL]; exact hc), Ls_at l b hc, pcs_len l b g, ← hxx, hsz c]
      simp
    · rw [m_exts F (by omega), hx, Option.bind_some, grd_pos _ (by unfold Len; omega)]
      refine (loop_join (L := Ls l b z.length b.length) (fun out => some (out, (0 : Int))) _ _ (fun nx c e out q1 q2 q3 q4 => ?_) (fun c out => rfl) (bytesE l b.length [] 0) 0 [] (fun e he => ⟨j1 e he, by rw [hL]; exact (p1 e he).2.1, by rw [Ls_at l b (p1 e he).2.1]; exact hre e he⟩) (by rw [j2, List.length_take]; omega)).trans ?_
      · obtain ⟨a1, a2, a3⟩ := q1
        have hs : (e.At + e.N).toNat = e.At.toNat + e.N.toNat := by omega
        have hAN : e.At.toNat + e.N.toNat ≤ 65536 := by
          have h1 := pcs_len l b g
          have : ((Ls l b z.length b.length).getD e.Object.toNat []).length ≤ 65536 := by
            rw [Ls_at l b (by rw [← hL]; exact q2)]
            have key : ∀ m o, (pcs l b m o).length ≤ m := by
              intro m
              induction m with
              | zero => intro o; exact Nat.le_refl _
              | succ m ih => intro o; have := ih o; rw [pcs, List.length_append]; split <;> simp <;> omega
            have := key b.length e.Object.toNat; omega
          omega
        unfold jpl at q4
        rw [List.length_append] at q4
        rw [grd_pos _ q2, grd_pos _ (by unfold Bd; omega), grd_pos _ (by unfold Bd; omega), grd_pos _ (by unfold Ix; omega), grd_pos _ (by unfold I64; omega), hs, show e.At.toNat + e.N.toNat - e.At.toNat = e.N.toNat by omega]
        rw [grd_pos _ (by unfold App; omega)]
        rfl
      · rw [j2, List.take_length]
end Go.Proofs.YtfdojammchbboaaDoor
