/-
  CHAPTER 24, StripeBack and StripeSplits: plain facts: the objects' bytes, byte by byte.
-/
import Derived.Test.YtfdojammchbboaaDoorP24zl
set_option linter.unusedVariables false
set_option linter.unusedSimpArgs false
set_option maxRecDepth 100000
namespace Go.Proofs.YtfdojammchbboaaDoor
open Go Go.RowKit Sx

section
variable (l : Lay) (b : List UInt8)
/-- An object's bytes, of the first m bytes. -/
def pcs : Nat → Nat → List UInt8
  | 0, _ => []
  | m + 1, o => pcs m o ++ (if o = obN (Lay.u l) (Lay.c l) (Lay.q l) m then [b.getD m 0] else [])

theorem gd_nat {l : Lay} (g : Gd l) : 1 ≤ Lay.u l ∧ 1 ≤ Lay.c l ∧ 1 ≤ Lay.q l := by
  obtain ⟨u1, u2, c1, c2, s1, s2, s3⟩ := g
  refine ⟨by simp only [Lay.u]; omega, by simp only [Lay.c]; omega, (Nat.one_le_div_iff (by omega)).2 (by omega)⟩

theorem pcs_len (g : Gd l) (o : Nat) : ∀ m, (pcs l b m o).length = szo (Lay.u l) (Lay.c l) (Lay.q l) o m
  | 0 => by rw [szo_zero]; rfl
  | m + 1 => by
    obtain ⟨h1, h2, h3⟩ := gd_nat g
    rw [pcs, List.length_append, pcs_len g o m, szo_succ h1 h2 h3]
    split <;> rfl
theorem pcs_at (g : Gd l) (m : Nat) : (pcs l b m (obN (Lay.u l) (Lay.c l) (Lay.q l) m)).length = atN (Lay.u l) (Lay.c l) (Lay.q l) m := by
  rw [pcs_len l b g, szo_at (gd_nat g).2.1]

/-- All objects. -/
def Ls (K m : Nat) : List (List UInt8) := (List.range K).map (pcs l b m)
theorem Ls_len (K m : Nat) : (Ls l b K m).length = K := by simp [Ls]
theorem Ls_at {K m o : Nat} (h : o < K) : (Ls l b K m).getD o [] = pcs l b m o := by simp [Ls, List.getD, h]
theorem Ls_zero (K : Nat) : Ls l b K 0 = List.replicate K [] := by
  refine List.ext_getElem (by simp [Ls]) fun i h1 h2 => ?_
  simp [Ls, pcs]
theorem Ls_succ {K m : Nat} (h : obN (Lay.u l) (Lay.c l) (Lay.q l) m < K) : (Ls l b K m).set (obN (Lay.u l) (Lay.c l) (Lay.q l) m) ((Ls l b K m).getD (obN (Lay.u l) (Lay.c l) (Lay.q l) m) [] ++ [b.getD m 0]) = Ls l b K (m + 1) := by
  rw [Ls_at l b h]
  refine List.ext_getElem (by simp [Ls]) fun i h1 h2 => ?_
  rw [List.getElem_set]
  split
  · next e => subst e; simp [Ls, pcs]
  · next e => simp only [Ls, List.getElem_map, List.getElem_range, pcs]; rw [if_neg (fun q => e q.symm), List.append_nil]

/-- One run, laid. -/
def spl (s : Nat × List (List UInt8)) (e : Ext) : Nat × List (List UInt8) :=
  (s.1 + e.N.toNat, s.2.set e.Object.toNat (s.2.getD e.Object.toNat [] ++ (b.drop s.1).take e.N.toNat))
theorem spl_len (s : Nat × List (List UInt8)) (e : Ext) : (spl b s e).2.length = s.2.length := by simp [spl]
theorem spl_two (s : Nat × List (List UInt8)) (o a : Int) (c : Int) (hc : 0 ≤ c) (h : o.toNat < s.2.length) (a2 a3 : Int) : spl b (spl b s ⟨o, a, c⟩) ⟨o, a2, 1⟩ = spl b s ⟨o, a3, c + 1⟩ := by
  unfold spl
  have e1 : (c + 1).toNat = c.toNat + 1 := by omega
  dsimp only
  rw [e1, show (1 : Int).toNat = 1 from rfl, List.set_set]
  refine Prod.ext (by simp [Nat.add_assoc]) ?_
  have e2 : (s.2.set o.toNat (s.2.getD o.toNat [] ++ (b.drop s.1).take c.toNat)).getD o.toNat [] = s.2.getD o.toNat [] ++ (b.drop s.1).take c.toNat := by
    rw [List.getD, List.getElem?_set_self h]; rfl
  show s.2.set o.toNat _ = s.2.set o.toNat _
  rw [e2, List.append_assoc, ← List.drop_drop, List.take_add]
end

section
variable {l : Lay} (b : List UInt8)
def PE (K : Nat) (e : Ext) : Prop := 0 ≤ e.Object ∧ e.Object.toNat < K ∧ 0 ≤ e.N
theorem addE_PE {K : Nat} {E : List Ext} {o a : Int} (h : ∀ e ∈ E, PE K e) (h0 : 0 ≤ o) (ho : o.toNat < K) : ∀ e ∈ addE E o a 1, PE K e := by
  rcases List.eq_nil_or_concat E with rfl | ⟨L, e0, rfl⟩
  · intro e he
    simp only [addE, List.getLast?_nil, List.nil_append, List.mem_singleton] at he
    subst he; exact ⟨h0, ho, by show (0 : Int) ≤ 1; omega⟩
  · simp only [addE, List.concat_eq_append, List.getLast?_append, List.getLast?_singleton, Option.some_or, List.dropLast_concat] at h ⊢
    intro e he
    cases hc : (e0.Object == o && e0.At + e0.N == a) with
    | true =>
      rw [hc, cond_true] at he
      rcases List.mem_append.1 he with he | he
      · exact h e (by simp [he])
      · have := h e0 (by simp)
        rw [List.mem_singleton.1 he]
        exact ⟨this.1, this.2.1, by have := this.2.2; show 0 ≤ e0.N + 1; omega⟩
    | false =>
      rw [hc, cond_false] at he
      rcases List.mem_append.1 he with he | he
      · exact h e he
      · rw [List.mem_singleton.1 he]; exact ⟨h0, ho, by show (0 : Int) ≤ 1; omega⟩

theorem foldl_len (E : List Ext) : ∀ s : Nat × List (List UInt8), (E.foldl (spl b) s).2.length = s.2.length := by
  induction E with
  | nil => intro s; rfl
  | cons e E ih => intro s; rw [List.foldl_cons, ih, spl_len]

theorem spl_add {K : Nat} {E : List Ext} {o a : Int} (h : ∀ e ∈ E, PE K e) (s : Nat × List (List UInt8)) (hs : s.2.length = K) : (addE E o a 1).foldl (spl b) s = spl b (E.foldl (spl b) s) ⟨o, a, 1⟩ := by
  rcases List.eq_nil_or_concat E with rfl | ⟨L, e0, rfl⟩
  · simp [addE]
  · simp only [addE, List.concat_eq_append, List.getLast?_append, List.getLast?_singleton, Option.some_or, List.dropLast_concat] at h ⊢
    have he0 := h e0 (by simp)
    cases hc : (e0.Object == o && e0.At + e0.N == a) with
    | true =>
      simp only [Bool.and_eq_true, beq_iff_eq] at hc
      rw [cond_true, List.foldl_append, List.foldl_append]
      show spl b (L.foldl (spl b) s) ⟨e0.Object, e0.At, e0.N + 1⟩ = spl b (spl b (L.foldl (spl b) s) e0) ⟨o, a, 1⟩
      rw [← hc.1]
      exact (spl_two b _ e0.Object e0.At e0.N he0.2.2 (by rw [foldl_len, hs]; exact he0.2.1) a e0.At).symm
    | false => rw [cond_false, List.foldl_append]; rfl

theorem spl_bytes (g : Gd l) {K n : Nat} (hn : n ≤ b.length) (hK : ∀ i, i < n → obN (Lay.u l) (Lay.c l) (Lay.q l) i < K) : ∀ m, m ≤ n →
    (∀ e ∈ bytesE l m [] 0, PE K e) ∧ (bytesE l m [] 0).foldl (spl b) (0, Ls l b K 0) = (m, Ls l b K m)
  | 0, _ => ⟨fun e he => (by cases he), rfl⟩
  | m + 1, hm => by
    obtain ⟨h1, h2⟩ := spl_bytes g hn hK m (by omega)
    have e : bytesE l (m + 1) [] 0 = addE (bytesE l m [] 0) (plc l m).1 (plc l m).2 1 := by
      rw [bytesE_add l m 1]; simp [bytesE]
    have ho := hK m (by omega)
    rw [e, plc_nat g m]
    refine ⟨addE_PE h1 (by omega) (by rw [Int.toNat_natCast]; exact ho), ?_⟩
    rw [spl_add b h1 _ (Ls_len l b K 0), h2]
    unfold spl
    dsimp only
    rw [Int.toNat_natCast, show (1 : Int).toNat = 1 from rfl]
    have e2 : (b.drop m).take 1 = [b.getD m 0] := by
      rw [List.drop_eq_getElem_cons (show m < b.length by omega), List.take_succ_cons, List.take_zero, List.getD, List.getElem?_eq_getElem (show m < b.length by omega)]; rfl
    rw [e2, Ls_succ l b ho]
end
end Go.Proofs.YtfdojammchbboaaDoor
