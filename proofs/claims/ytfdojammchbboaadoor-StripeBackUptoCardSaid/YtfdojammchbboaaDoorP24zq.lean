/-
  CHAPTER 24, StripeBack and StripeSplits: plain facts: the code's Join of its Split.
-/
import Derived.Test.YtfdojammchbboaaDoorP24zp
set_option linter.unusedVariables false
set_option linter.unusedSimpArgs false
set_option maxRecDepth 100000
namespace Go.Proofs.YtfdojammchbboaaDoor
open Go Go.RowKit Sx

section
variable {l : Lay} (b : List UInt8)
/-- A run lies in what its object has. -/
def RE (l : Lay) (b : List UInt8) (m : Nat) (e : Ext) : Prop := e.At.toNat + e.N.toNat ≤ (pcs l b m e.Object.toNat).length
theorem RE.grow {m : Nat} {e : Ext} (h : RE l b m e) : RE l b (m + 1) e := by
  unfold RE at *
  rw [pcs, List.length_append]; omega
theorem re_bytes (g : Gd l) : ∀ m, (∀ e ∈ bytesE l m [] 0, QE e) → ∀ e ∈ bytesE l m [] 0, RE l b m e
  | 0, _ => fun e he => (by cases he)
  | m + 1, hq => by
    have e1 : bytesE l (m + 1) [] 0 = addE (bytesE l m [] 0) (plc l m).1 (plc l m).2 1 := by
      rw [bytesE_add l m 1]; simp [bytesE]
    have hq0 : ∀ e ∈ bytesE l m [] 0, QE e := (jpl_bytes (List.replicate m 0) g (K := (List.range m).foldl (fun a i => max a (obN (Lay.u l) (Lay.c l) (Lay.q l) i + 1)) 0) (n := m) (by simp) (fun i hi => by
      have key : ∀ (L : List Nat) (a : Nat), a ≤ L.foldl (fun a i => max a (obN (Lay.u l) (Lay.c l) (Lay.q l) i + 1)) a ∧ ∀ i ∈ L, obN (Lay.u l) (Lay.c l) (Lay.q l) i < L.foldl (fun a i => max a (obN (Lay.u l) (Lay.c l) (Lay.q l) i + 1)) a := by
        intro L
        induction L with
        | nil => intro a; exact ⟨Nat.le_refl _, fun i hi => by cases hi⟩
        | cons x L ih =>
          intro a
          have h := ih (max a (obN (Lay.u l) (Lay.c l) (Lay.q l) x + 1))
          refine ⟨by rw [List.foldl_cons]; have := h.1; omega, fun i hi => ?_⟩
          rw [List.foldl_cons]
          rcases List.mem_cons.1 hi with rfl | hi
          · have := h.1; omega
          · exact h.2 i hi
      exact (key (List.range m) 0).2 i (List.mem_range.2 hi)) m (Nat.le_refl _)).1
    have ih := re_bytes g m hq0
    have hlen : (pcs l b (m + 1) (obN (Lay.u l) (Lay.c l) (Lay.q l) m)).length = atN (Lay.u l) (Lay.c l) (Lay.q l) m + 1 := by
      rw [pcs, if_pos rfl, List.length_append, pcs_at l b g m]; rfl
    rw [e1, plc_nat g m]
    have new : RE l b (m + 1) ⟨((obN (Lay.u l) (Lay.c l) (Lay.q l) m : Nat) : Int), ((atN (Lay.u l) (Lay.c l) (Lay.q l) m : Nat) : Int), 1⟩ := by
      unfold RE
      dsimp only
      rw [Int.toNat_natCast, Int.toNat_natCast, hlen]; omega
    generalize bytesE l m [] 0 = E at *
    rcases List.eq_nil_or_concat E with rfl | ⟨M, e0, rfl⟩
    · intro e he
      simp only [addE, List.getLast?_nil, List.nil_append, List.mem_singleton] at he
      subst he; exact new
    · simp only [addE, List.concat_eq_append, List.getLast?_append, List.getLast?_singleton, Option.some_or, List.dropLast_concat] at hq0 ih ⊢
      intro e he
      cases hc : (e0.Object == ((obN (Lay.u l) (Lay.c l) (Lay.q l) m : Nat) : Int) && e0.At + e0.N == ((atN (Lay.u l) (Lay.c l) (Lay.q l) m : Nat) : Int)) with
      | true =>
        rw [hc, cond_true] at he
        rcases List.mem_append.1 he with he | he
        · exact (ih e (by simp [he])).grow b
        · simp only [Bool.and_eq_true, beq_iff_eq] at hc
          rw [List.mem_singleton.1 he]
          have q := hq0 e0 (by simp)
          unfold RE
          dsimp only
          rw [hc.1, Int.toNat_natCast, hlen]
          have := q.2.1; have := q.2.2; omega
      | false =>
        rw [hc, cond_false] at he
        rcases List.mem_append.1 he with he | he
        · exact (ih e he).grow b
        · rw [List.mem_singleton.1 he]; exact new
end

theorem jpl_mono (L : List (List UInt8)) (E : List Ext) : ∀ out : List UInt8, out.length ≤ (E.foldl (jpl L) out).length := by
  induction E with
  | nil => intro s; exact Nat.le_refl _
  | cons e E ih => intro s; rw [List.foldl_cons]; exact Nat.le_trans (by simp [jpl]) (ih _)

theorem loop_all {α ρ : Type} (l0 : List α) (d : α) (st : (Unit → Option ρ) → Nat → α → Unit → Option ρ) (fin : Nat → Unit → Option ρ) (r : Option ρ)
    (hs : ∀ nx c x, c < l0.length → l0.getD c d = x → st nx c x () = nx ()) (hf : ∀ c, fin c () = r) : ∀ (l : List α) (c : Nat), l0.drop c = l → loopL st fin l c () = r
  | [], c, h => by rw [loopL, hf]
  | x :: l, c, h => by
    have hc : c < l0.length := drop_lt h
    have hx : l0.getD c d = x := by
      have : l0[c]? = some x := by rw [← List.head?_drop, h]; rfl
      rw [List.getD, this]; rfl
    rw [loopL, hs _ _ _ hc hx]
    exact loop_all l0 d st fin r hs hf l (c + 1) (drop_next h)
end Go.Proofs.YtfdojammchbboaaDoor
