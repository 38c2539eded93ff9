/-
  CHAPTER 24, StripeBack: the law on its model.
-/
import Derived.Test.YtfdojammchbboaaDoorP24zs
set_option linter.unusedVariables false
set_option linter.unusedSimpArgs false
set_option maxRecDepth 100000
namespace Go.Proofs.YtfdojammchbboaaDoor
open Go Go.RowKit Sx

theorem plc_notout {l : Lay} (g : Gd l) {k : Int} (h0 : 0 ≤ k) (h1 : k < 65536) : BOut l (plc l k).1 (plc l k).2 = false := by
  have hb := bck_plc g k
  have hp := plc_bd g h0 h1
  have ho := plc_ob g h0 h1
  have s := set_bd g
  obtain ⟨u1, u2, c1, c2, s1, s2, s3⟩ := g
  have m1 := Int.emod_lt_of_pos (k / l.Unit) (show 0 < l.Count * (l.Size / l.Unit) by omega)
  have m4 := Int.emod_lt_of_pos k (show 0 < l.Unit by omega)
  have j1 : k / l.Unit % (l.Count * (l.Size / l.Unit)) / l.Count < l.Size / l.Unit := Int.ediv_lt_of_lt_mul (by omega) (by rw [Int.mul_comm (l.Size / l.Unit)]; exact m1)
  have j2 := Int.mul_le_mul_of_nonneg_right (show k / l.Unit % (l.Count * (l.Size / l.Unit)) / l.Count ≤ l.Size / l.Unit - 1 by omega) (show 0 ≤ l.Unit by omega)
  have j3 := Int.ediv_mul_le l.Size (show l.Unit ≠ 0 by omega)
  rw [Int.sub_mul, Int.one_mul] at j2
  have ha : (plc l k).2 < l.Size := by
    show k / l.Unit % (l.Count * (l.Size / l.Unit)) / l.Count * l.Unit + k % l.Unit < l.Size
    omega
  unfold BOut
  rw [hb, decide_eq_false (by omega), decide_eq_false (by omega), decide_eq_false (by omega), decide_eq_false (by omega)]
  rfl

theorem loop_sumN {ρ : Type} (st : (Int → Option ρ) → Nat → Ext → Int → Option ρ) (fin : Nat → Int → Option ρ)
    (hs : ∀ nx c e n, 0 ≤ e.N → n + e.N ≤ 65536 → 0 ≤ n → st nx c e n = nx (n + e.N)) :
    ∀ (E : List Ext) (c : Nat) (n : Int), 0 ≤ n → (∀ e ∈ E, 0 ≤ e.N) → E.foldl (fun n e => n + e.N) n ≤ 65536 → loopL st fin E c n = fin (c + E.length) (E.foldl (fun n e => n + e.N) n)
  | [], c, n, h0, h1, h2 => by rw [loopL]; rfl
  | e :: E, c, n, h0, h1, h2 => by
    have mono : ∀ (E : List Ext) (n : Int), (∀ e ∈ E, 0 ≤ e.N) → n ≤ E.foldl (fun n e => n + e.N) n := by
      intro E
      induction E with
      | nil => intro n _; exact Int.le_refl _
      | cons e E ih => intro n h; have := ih (n + e.N) (fun x hx => h x (by simp [hx])); have := h e (by simp); rw [List.foldl_cons]; omega
    have he := h1 e (by simp)
    rw [List.foldl_cons] at h2
    have := mono E (n + e.N) (fun x hx => h1 x (by simp [hx]))
    rw [loopL, hs _ _ _ _ he (by omega) h0, List.foldl_cons, loop_sumN st fin hs E (c + 1) _ (by omega) (fun x hx => h1 x (by simp [hx])) h2, show c + 1 + E.length = c + (e :: E).length by rw [List.length_cons]; omega]

theorem law_back (l : Lay) (x : Int) (hx : 0 ≤ x) (b : List UInt8) (hb : b.length ≤ 1048576) : m_tholelaw24_StripeBack 2000000 l x b = some true := by
  have jat : ∀ {σ ρ : Type} {k : σ → Option ρ} {bb : (σ → Option ρ) → Option ρ} (s : σ) (h : ∀ J, bb J = J s), jn k bb = k s := fun s h => h _
  simp only [m_tholelaw24_StripeBack, m_tholelaw24_plain, Option.bind_some]
  by_cases h : Gd l ∧ b.length ≤ 9000
  · obtain ⟨g, h9⟩ := h
    refine (jat false fun J => ?_).trans ?_
    · rw [m_good, Option.bind_some, decide_eq_true g, Bool.not_true, cond_false, decide_eq_false (by omega)]
    · have hk0 : 0 ≤ Int.tmod x 65536 ∧ Int.tmod x 65536 < 65536 := by
        rw [Int.tmod_eq_emod_of_nonneg hx]; omega
      rw [cond_false, wrap_i64 (by omega) (by omega)]
      generalize Int.tmod x 65536 = k at hk0
      have hO : Out l k = false := by unfold Out; rw [decide_eq_true g, decide_eq_false (by omega), decide_eq_false (by omega)]; rfl
      rw [m_place, Option.bind_some, hO, cond_false, m_back, Option.bind_some, decide_eq_true g, Bool.not_true, cond_false, plc_notout g hk0.1 hk0.2, cond_false, bck_plc g k]
      rw [show (k != k) = false by simp, cond_false, m_split _ (by omega) g b (by omega), Option.bind_some, m_join _ (by omega) g b (by omega), Option.bind_some, m_exts _ (by omega), exts_all g (by omega), Option.bind_some]
      have hex := ok_exts l (b.length : Int)
      rw [exts_all g (by omega)] at hex
      rw [grd_pos _ (by unfold Len; omega)]
      have hsum := sumN_bytes l b.length
      refine (loop_sumN _ _ (fun nx c e n h1 h2 h3 => ?_) (bytesE l b.length [] 0) 0 0 (by omega) (fun e he => (hex.1 e he).2.1.1) (by unfold sumN at hsum; omega)).trans ?_
      · rw [grd_pos _ (by unfold I64; omega)]
      unfold sumN at hsum
      rw [hsum]
      simp only [m_tholeref01_Same, Option.bind_some]
      rw [show ((0 : Int) == 0) = true from rfl, cond_true, beq_self_eq_true, cond_true, beq_self_eq_true, cond_true, lives24F, Option.bind_some]
  · refine (jat true fun J => ?_).trans ?_
    · rw [m_good, Option.bind_some]
      by_cases g : Gd l
      · rw [decide_eq_true g, Bool.not_true, cond_false, decide_eq_true (by have : ¬ b.length ≤ 9000 := fun q => h ⟨g, q⟩; omega)]
      · rw [decide_eq_false g, Bool.not_false, cond_true]
    · rw [cond_true, m_good, Option.bind_some, show m_tholeref24_Good 2000000 (S_tholeref24_Layout.mk l.Unit l.Count l.Size) = _ from m_rgood 2000000 l, Option.bind_some, beq_self_eq_true, cond_true, lives24F, Option.bind_some]
end Go.Proofs.YtfdojammchbboaaDoor
