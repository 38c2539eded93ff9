/-
  CHAPTER 24, StripeBack and StripeSplits: plain facts: Join of what Split laid.
-/
import Derived.Test.YtfdojammchbboaaDoorP24zo
set_option linter.unusedVariables false
set_option linter.unusedSimpArgs false
set_option maxRecDepth 100000
namespace Go.Proofs.YtfdojammchbboaaDoor
open Go Go.RowKit Sx

/-- One run, read. -/
def jpl (L : List (List UInt8)) (out : List UInt8) (e : Ext) : List UInt8 := out ++ ((L.getD e.Object.toNat []).drop e.At.toNat).take e.N.toNat
def QE (e : Ext) : Prop := 0 ≤ e.Object ∧ 0 ≤ e.At ∧ 0 ≤ e.N

theorem addE_QE {E : List Ext} {o a : Int} (h : ∀ e ∈ E, QE e) (h0 : 0 ≤ o) (ha : 0 ≤ a) : ∀ e ∈ addE E o a 1, QE e := by
  rcases List.eq_nil_or_concat E with rfl | ⟨L, e0, rfl⟩
  · intro e he
    simp only [addE, List.getLast?_nil, List.nil_append, List.mem_singleton] at he
    subst he; exact ⟨h0, ha, by show (0 : Int) ≤ 1; omega⟩
  · simp only [addE, List.concat_eq_append, List.getLast?_append, List.getLast?_singleton, Option.some_or, List.dropLast_concat] at h ⊢
    intro e he
    cases hc : (e0.Object == o && e0.At + e0.N == a) with
    | true =>
      rw [hc, cond_true] at he
      rcases List.mem_append.1 he with he | he
      · exact h e (by simp [he])
      · have := h e0 (by simp)
        rw [List.mem_singleton.1 he]
        exact ⟨this.1, this.2.1, by have := this.2.2; show 0 ≤ e0.N + 1; omega⟩
    | false =>
      rw [hc, cond_false] at he
      rcases List.mem_append.1 he with he | he
      · exact h e he
      · rw [List.mem_singleton.1 he]; exact ⟨h0, ha, by show (0 : Int) ≤ 1; omega⟩

theorem jpl_add {L : List (List UInt8)} {E : List Ext} {o a : Int} (h : ∀ e ∈ E, QE e) (out : List UInt8) : (addE E o a 1).foldl (jpl L) out = jpl L (E.foldl (jpl L) out) ⟨o, a, 1⟩ := by
  rcases List.eq_nil_or_concat E with rfl | ⟨M, e0, rfl⟩
  · simp [addE]
  · simp only [addE, List.concat_eq_append, List.getLast?_append, List.getLast?_singleton, Option.some_or, List.dropLast_concat] at h ⊢
    have he0 := h e0 (by simp)
    cases hc : (e0.Object == o && e0.At + e0.N == a) with
    | true =>
      simp only [Bool.and_eq_true, beq_iff_eq] at hc
      rw [cond_true, List.foldl_append, List.foldl_append]
      show jpl L (M.foldl (jpl L) out) ⟨e0.Object, e0.At, e0.N + 1⟩ = jpl L (jpl L (M.foldl (jpl L) out) e0) ⟨o, a, 1⟩
      have h1 := he0.2.1
      have h2 := he0.2.2
      unfold jpl
      dsimp only
      rw [← hc.1, show (e0.N + 1).toNat = e0.N.toNat + 1 by omega, List.take_add, List.drop_drop, show e0.At.toNat + e0.N.toNat = a.toNat by omega, List.append_assoc]
      rfl
    | false => rw [cond_false, List.foldl_append]; rfl

section
variable {l : Lay} (b : List UInt8)
theorem pcs_grow (o m : Nat) : ∀ k, ∃ r, pcs l b (m + k) o = pcs l b m o ++ r
  | 0 => ⟨[], by simp⟩
  | k + 1 => by
    obtain ⟨r, h⟩ := pcs_grow o m k
    exact ⟨r ++ (if o = obN (Lay.u l) (Lay.c l) (Lay.q l) (m + k) then [b.getD (m + k) 0] else []), by rw [← Nat.add_assoc, pcs, h, List.append_assoc]⟩
theorem pcs_byte (g : Gd l) {m n : Nat} (h : m < n) : ((pcs l b n (obN (Lay.u l) (Lay.c l) (Lay.q l) m)).drop (atN (Lay.u l) (Lay.c l) (Lay.q l) m)).take 1 = [b.getD m 0] := by
  obtain ⟨r, e⟩ := pcs_grow (l := l) b (obN (Lay.u l) (Lay.c l) (Lay.q l) m) (m + 1) (n - (m + 1))
  rw [show m + 1 + (n - (m + 1)) = n by omega] at e
  rw [e, pcs, if_pos rfl, List.append_assoc, ← pcs_at l b g m, List.drop_left]
  rfl

theorem jpl_bytes (g : Gd l) {K n : Nat} (hn : n ≤ b.length) (hK : ∀ i, i < n → obN (Lay.u l) (Lay.c l) (Lay.q l) i < K) : ∀ m, m ≤ n →
    (∀ e ∈ bytesE l m [] 0, QE e) ∧ (bytesE l m [] 0).foldl (jpl (Ls l b K n)) [] = b.take m
  | 0, _ => ⟨fun e he => (by cases he), rfl⟩
  | m + 1, hm => by
    obtain ⟨h1, h2⟩ := jpl_bytes g hn hK m (by omega)
    have e : bytesE l (m + 1) [] 0 = addE (bytesE l m [] 0) (plc l m).1 (plc l m).2 1 := by
      rw [bytesE_add l m 1]; simp [bytesE]
    rw [e, plc_nat g m]
    refine ⟨addE_QE h1 (by omega) (by omega), ?_⟩
    rw [jpl_add h1, h2]
    unfold jpl
    dsimp only
    rw [Int.toNat_natCast, Int.toNat_natCast, show (1 : Int).toNat = 1 from rfl, Ls_at l b (hK m (by omega)), pcs_byte b g (by omega)]
    have e2 : (b.drop m).take 1 = [b.getD m 0] := by
      rw [List.drop_eq_getElem_cons (show m < b.length by omega), List.take_succ_cons, List.take_zero, List.getD, List.getElem?_eq_getElem (show m < b.length by omega)]; rfl
    rw [List.take_add, e2]
end
end Go.Proofs.YtfdojammchbboaaDoor
