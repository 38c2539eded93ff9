/-
  CHAPTER 24: plain facts on the models: the runs that the code finds, and those of the reference.
-/
import Derived.Test.YtfdojammchbboaaDoorP24zc
set_option linter.unusedVariables false
set_option linter.unusedSimpArgs false
set_option maxRecDepth 100000
namespace Go.Proofs.YtfdojammchbboaaDoor
open Go Go.RowKit Sx

/-- The runs up to byte p: no more of them than bytes, none greater. -/
def OkE (acc : List Ext) (p : Int) : Prop := (acc.length : Int) ≤ p ∧ ∀ e ∈ acc, (0 ≤ e.At ∧ e.At ≤ 68719476736) ∧ (0 ≤ e.N ∧ e.N ≤ p)

theorem OkE.add {acc : List Ext} {p : Int} (h : OkE acc p) {o a c : Int} (ha : 0 ≤ a ∧ a ≤ 68719476736) (hc : 1 ≤ c) (hp : 0 ≤ p) : OkE (addE acc o a c) (p + c) := by
  obtain ⟨h1, h2⟩ := h
  have grow : OkE (acc ++ [S_stripe_Extent.mk o a c]) (p + c) := by
    refine ⟨by simp; omega, fun e he => ?_⟩
    rcases List.mem_append.1 he with he | he
    · have := h2 e he; exact ⟨this.1, this.2.1, by omega⟩
    · obtain rfl := List.mem_singleton.1 he
      exact ⟨ha, by show (0:Int) ≤ c; omega, by show c ≤ p + c; omega⟩
  rcases List.eq_nil_or_concat acc with rfl | ⟨l, e, rfl⟩
  · exact grow
  · simp only [addE, List.concat_eq_append, List.getLast?_append, List.getLast?_singleton, Option.some_or, List.dropLast_concat] at grow ⊢
    cases hq : (e.Object == o && e.At + e.N == a) with
    | false => exact grow
    | true =>
      have he := h2 e (by simp)
      refine ⟨by simp at h1 ⊢; omega, fun x hx => ?_⟩
      rcases List.mem_append.1 hx with hx | hx
      · have := h2 x (by simp [hx]); exact ⟨this.1, this.2.1, by omega⟩
      · obtain rfl := List.mem_singleton.1 hx
        exact ⟨he.1, by show 0 ≤ e.N + c; omega, by show e.N + c ≤ p + c; omega⟩

theorem plc_bd {l : Lay} (h : Gd l) {p : Int} (h0 : 0 ≤ p) (h1 : p < 65536) : 0 ≤ (plc l p).2 ∧ (plc l p).2 ≤ 68719476736 := by
  have b := set_bd h
  have g := h
  obtain ⟨u1, u2, c1, c2, s1, s2, s3⟩ := g
  have u := div_bd h0 (show p ≤ 65535 by omega) u1
  have w := mod_bd (a := p / l.Unit) b.2.1
  have x := div_bd w.1 w.2 c1
  have z := mod_bd (a := p) u1
  have q := mul_bd x.1 (show _ ≤ (65535 : Int) by omega) (show 0 ≤ l.Unit by omega) u2
  unfold plc
  simp only
  omega

theorem set_last {α : Type} (l : List α) (e x : α) : (l ++ [e]).set (Int.toNat ((((l ++ [e]).length : Nat) : Int) - 1)) x = l ++ [x] := by
  rw [show Int.toNat ((((l ++ [e]).length : Nat) : Int) - 1) = l.length by simp]
  simp
theorem get_last {α : Type} (l : List α) (e d : α) : (l ++ [e]).getD (Int.toNat ((((l ++ [e]).length : Nat) : Int) - 1)) d = e := by
  rw [show Int.toNat ((((l ++ [e]).length : Nat) : Int) - 1) = l.length by simp]
  simp [List.getD]

/-- One step of the code's loop. -/
theorem step_ext {l : Lay} {ρ : Type} (acc : List Ext) (p o a c : Int) (h : OkE acc p) (hp : p ≤ 65536) (hc : 0 ≤ c ∧ c ≤ 65536) (ha : 0 ≤ a ∧ a ≤ 68719476736) (J : List Ext → Option ρ) :
    grd (I64 (((acc.length : Nat) : Int) - 1)) (jn (fun (v85_3 : Bool) => (bif v85_3 then grd (Ix (((acc.length : Nat) : Int) - 1) acc.length) (grd (I64 (((acc.getD (Int.toNat (((acc.length : Nat) : Int) - 1)) dS_stripe_Extent).N) + c)) (J (acc.set (Int.toNat (((acc.length : Nat) : Int) - 1)) (S_stripe_Extent.mk ((acc.getD (Int.toNat (((acc.length : Nat) : Int) - 1)) dS_stripe_Extent).Object) ((acc.getD (Int.toNat (((acc.length : Nat) : Int) - 1)) dS_stripe_Extent).At) (((acc.getD (Int.toNat (((acc.length : Nat) : Int) - 1)) dS_stripe_Extent).N) + c))))) else grd (App (acc.length + [(S_stripe_Extent.mk o a c)].length) 24) (J (acc ++ [(S_stripe_Extent.mk o a c)]))))
      (fun (J74 : Bool → Option ρ) => (bif decide ((((acc.length : Nat) : Int) - 1) ≥ 0) then grd (Ix (((acc.length : Nat) : Int) - 1) acc.length) ((bif ((acc.getD (Int.toNat (((acc.length : Nat) : Int) - 1)) dS_stripe_Extent).Object) == o then grd (I64 (((acc.getD (Int.toNat (((acc.length : Nat) : Int) - 1)) dS_stripe_Extent).At) + ((acc.getD (Int.toNat (((acc.length : Nat) : Int) - 1)) dS_stripe_Extent).N))) (J74 ((((acc.getD (Int.toNat (((acc.length : Nat) : Int) - 1)) dS_stripe_Extent).At) + ((acc.getD (Int.toNat (((acc.length : Nat) : Int) - 1)) dS_stripe_Extent).N)) == a)) else J74 false)) else J74 false)))
    = J (addE acc o a c) := by
  obtain ⟨h1, h2⟩ := h
  have hA : App (acc.length + [(S_stripe_Extent.mk o a c)].length) 24 := by unfold App; simp; omega
  rw [grd_pos _ (by unfold I64; omega)]
  unfold jn
  rcases List.eq_nil_or_concat acc with rfl | ⟨l', e, rfl⟩
  · simp only [List.length_nil, addE, List.getLast?_nil]
    rw [show decide ((((0 : Nat) : Int) - 1) ≥ 0) = false by decide, cond_false, cond_false, grd_pos _ (by simpa using hA)]
  · simp only [List.concat_eq_append] at *
    have he := h2 e (by simp)
    have hi : Ix ((((l' ++ [e]).length : Nat) : Int) - 1) (l' ++ [e]).length := by unfold Ix; simp
    rw [decide_eq_true (show (((((l' ++ [e]).length : Nat) : Int) - 1) ≥ 0) by simp), cond_true, grd_pos _ hi]
    simp only [get_last, set_last]
    simp only [addE, List.getLast?_append, List.getLast?_singleton, Option.some_or, List.dropLast_concat]
    cases hq : e.Object == o with
    | false => simp only [cond_false, Bool.false_and]; rw [grd_pos _ hA]
    | true =>
      simp only [cond_true, Bool.true_and]
      rw [grd_pos _ (by unfold I64; omega)]
      cases hr : e.At + e.N == a with
      | false => simp only [cond_false]; rw [grd_pos _ hA]
      | true => simp only [cond_true]; rw [grd_pos _ hi, grd_pos _ (by unfold I64; omega)]

end Go.Proofs.YtfdojammchbboaaDoor
