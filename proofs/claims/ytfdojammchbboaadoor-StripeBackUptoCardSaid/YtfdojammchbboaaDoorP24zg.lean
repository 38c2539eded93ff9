/-
  CHAPTER 24: plain facts: how many bytes each object has, by sums and by ends.
-/
import Derived.Test.YtfdojammchbboaaDoorP24zf
set_option linter.unusedVariables false
set_option linter.unusedSimpArgs false
set_option maxRecDepth 100000
namespace Go.Proofs.YtfdojammchbboaaDoor
open Go Go.RowKit Sx

/-- The list made long enough for object o. -/
def grow (z : List Int) (o : Nat) : List Int := z ++ List.replicate (o + 1 - z.length) 0
def sstep (z : List Int) (o : Nat) (c : Int) : List Int := (grow z o).set o ((grow z o).getD o 0 + c)
def mstep (z : List Int) (o : Nat) (e : Int) : List Int := if e > (grow z o).getD o 0 then (grow z o).set o e else grow z o

theorem grow_len (z : List Int) (o : Nat) : o < (grow z o).length := by unfold grow; simp; omega
theorem grow_len' (z : List Int) (o : Nat) : (grow z o).length = max z.length (o + 1) := by unfold grow; simp; omega
theorem grow_of (z : List Int) (o : Nat) (h : o < z.length) : grow z o = z := by unfold grow; rw [show o + 1 - z.length = 0 by omega]; simp
theorem grow_get (z : List Int) (o i : Nat) : (grow z o).getD i 0 = z.getD i 0 := by
  unfold grow
  by_cases h : i < z.length
  · simp [List.getD, List.getElem?_append_left h]
  · rw [List.getD, List.getD, List.getElem?_append_right (by omega), List.getElem?_replicate, List.getElem?_eq_none (l := z) (by omega)]
    split <;> rfl
theorem sstep_len (z : List Int) (o : Nat) (c : Int) : o < (sstep z o c).length := by unfold sstep; rw [List.length_set]; exact grow_len z o
theorem set_get (z : List Int) (o i : Nat) (x : Int) (h : o < z.length) : (z.set o x).getD i 0 = if i = o then x else z.getD i 0 := by
  simp only [List.getD, List.getElem?_set]
  by_cases hi : o = i
  · subst hi; simp [h]
  · rw [if_neg hi, if_neg (fun h => hi h.symm)]
theorem sstep_get (z : List Int) (o i : Nat) (c : Int) : (sstep z o c).getD i 0 = z.getD i 0 + if i = o then c else 0 := by
  unfold sstep
  rw [set_get _ _ _ _ (grow_len z o), grow_get, grow_get]
  split
  · next h => subst h; rfl
  · omega
theorem sstep_add (z : List Int) (o : Nat) (c d : Int) : sstep (sstep z o c) o d = sstep z o (c + d) := by
  have h := sstep_len z o c
  show (grow (sstep z o c) o).set o ((grow (sstep z o c) o).getD o 0 + d) = _
  rw [grow_of _ _ h, sstep_get, if_pos rfl]
  unfold sstep
  rw [List.set_set, grow_get, Int.add_assoc]

def sizeSum (l : List Ext) : List Int := l.foldl (fun z e => sstep z e.Object.toNat e.N) []
def sizeMax (l : List Ext) : List Int := l.foldl (fun z e => mstep z e.Object.toNat (e.At + e.N)) []

theorem sum_add (E : List Ext) (o a c : Int) : sizeSum (addE E o a c) = sstep (sizeSum E) o.toNat c := by
  unfold sizeSum
  rcases List.eq_nil_or_concat E with rfl | ⟨l, e, rfl⟩
  · rfl
  · simp only [addE, List.concat_eq_append, List.getLast?_append, List.getLast?_singleton, Option.some_or, List.dropLast_concat]
    cases hq : (e.Object == o && e.At + e.N == a) with
    | false => simp only [cond_false, List.foldl_append]; rfl
    | true =>
      simp only [Bool.and_eq_true, beq_iff_eq] at hq
      simp only [cond_true, List.foldl_append, List.foldl_cons, List.foldl_nil]
      rw [hq.1, sstep_add]

theorem max_add (E : List Ext) (o a : Int) (h : (sizeMax E).getD o.toNat 0 = a) (hN : ∀ e ∈ E, 0 ≤ e.N) : sizeMax (addE E o a 1) = sstep (sizeMax E) o.toNat 1 := by
  have push : ∀ z : List Int, z.getD o.toNat 0 = a → mstep z o.toNat (a + 1) = sstep z o.toNat 1 := by
    intro z hz
    unfold mstep sstep
    rw [grow_get, hz, if_pos (by omega)]
  unfold sizeMax at h ⊢
  rcases List.eq_nil_or_concat E with rfl | ⟨l, e, rfl⟩
  · exact push [] h
  · simp only [addE, List.concat_eq_append, List.getLast?_append, List.getLast?_singleton, Option.some_or, List.dropLast_concat] at h ⊢
    cases hq : (e.Object == o && e.At + e.N == a) with
    | false => simp only [cond_false, List.foldl_append] at h ⊢; exact push _ h
    | true =>
      simp only [Bool.and_eq_true, beq_iff_eq] at hq
      simp only [cond_true, List.foldl_append, List.foldl_cons, List.foldl_nil] at h ⊢
      rw [hq.1] at h ⊢
      rw [show e.At + (e.N + 1) = a + 1 by omega]
      rw [hq.2] at h ⊢
      generalize List.foldl (fun z e => mstep z e.Object.toNat (e.At + e.N)) [] l = z at h ⊢
      have hg := grow_len z o.toNat
      unfold mstep at h
      by_cases hc : a > (grow z o.toNat).getD o.toNat 0
      · rw [if_pos hc] at h
        show mstep z o.toNat (a + 1) = sstep (mstep z o.toNat a) o.toNat 1
        unfold mstep
        rw [if_pos (by omega), if_pos hc]
        unfold sstep
        rw [grow_of ((grow z o.toNat).set o.toNat a) o.toNat (by rw [List.length_set]; exact hg), List.set_set, set_get _ _ _ _ hg, if_pos rfl]
      · rw [if_neg hc] at h
        show mstep z o.toNat (a + 1) = sstep (mstep z o.toNat a) o.toNat 1
        unfold mstep
        rw [if_pos (by omega), if_neg hc]
        unfold sstep
        rw [grow_of _ _ hg, h]

end Go.Proofs.YtfdojammchbboaaDoor
