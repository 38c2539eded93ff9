/-
  CHAPTER 24: plain facts on the models: both Sizes are the sums over the runs.
-/
import Derived.Test.YtfdojammchbboaaDoorP24zj
set_option linter.unusedVariables false
set_option linter.unusedSimpArgs false
set_option maxRecDepth 100000
namespace Go.Proofs.YtfdojammchbboaaDoor
open Go Go.RowKit Sx

/-- No entry above so much. -/
def Bz (z : List Int) (b : Int) : Prop := ∀ i, 0 ≤ z.getD i 0 ∧ z.getD i 0 ≤ b
theorem Bz.sstep {z : List Int} {b : Int} (h : Bz z b) {o : Nat} {c : Int} (hc : 0 ≤ c ∧ c ≤ 65536) : Bz (sstep z o c) (b + 65536) := fun i => by
  have := h i
  rw [sstep_get]
  split <;> omega

theorem loop_sum (F : Nat) (hF : 1048592 < F) (st : (List Int → Option (List Int)) → Nat → Ext → List Int → Option (List Int)) (fin : Nat → List Int → Option (List Int))
    (hs : ∀ nx c e z, (0 ≤ e.Object ∧ e.Object ≤ 1048591) → (0 ≤ e.N ∧ e.N ≤ 65536) → Bz z 4611686018427387904 → st nx c e z = nx (sstep z e.Object.toNat e.N)) (hf : ∀ c z, fin c z = some z) :
    ∀ (E : List Ext) (c : Nat) (z : List Int) (b : Int), OkO E → Bz z b → b + 65536 * E.length ≤ 4611686018427387904 → loopL st fin E c z = some (E.foldl (fun z e => sstep z e.Object.toNat e.N) z)
  | [], c, z, b, hE, hz, hb => by rw [loopL, hf]; rfl
  | e :: E, c, z, b, hE, hz, hb => by
    have he := hE e (by simp)
    rw [List.length_cons] at hb
    push_cast at hb
    rw [loopL, hs _ _ _ _ he.1 he.2.1 (fun i => ⟨(hz i).1, by have := (hz i).2; omega⟩)]
    exact loop_sum F hF st fin hs hf E (c + 1) _ (b + 65536) (fun x hx => hE x (by simp [hx])) (hz.sstep he.2.1) (by omega)

def SOut (l : Lay) (n : Int) : Bool := EOut l 0 n
theorem m_sizes (F : Nat) (hF : 1048592 < F) (l : Lay) (n : Int) : m_stripe_Sizes F l n = some (sizeSum (exts l 0 n)) := by
  have hex := ok_exts l n
  simp only [m_stripe_Sizes]
  rw [jn, m_good, Option.bind_some]
  by_cases g : Gd l
  · rw [decide_eq_true g]
    simp only [Bool.not_true, cond_false]
    by_cases h0 : n < 0
    · rw [decide_eq_true h0, cond_true, cond_true]
      have : exts l 0 n = [] := by unfold exts EOut; rw [decide_eq_true h0]; simp
      rw [this]; rfl
    · rw [decide_eq_false h0, cond_false]
      by_cases h1 : n > 65536
      · rw [decide_eq_true h1, cond_true]
        have : exts l 0 n = [] := by unfold exts EOut; rw [decide_eq_true (show n > 65536 - 0 by omega)]; simp
        rw [this]; rfl
      · rw [decide_eq_false h1, cond_false, m_exts F (by omega), Option.bind_some, grd_pos _ (by unfold Len; omega)]
        refine loop_sum F hF _ _ (fun nx c e z ho hN hz => ?_) (fun c z => rfl) (exts l 0 n) 0 [] 0 hex.1 (fun i => by simp) (by have := hex.2; omega)
        refine (loop_grow e.Object.toNat (by omega) (fun z => grd (Ix e.Object z.length) (grd (I64 ((z.getD (Int.toNat e.Object) 0) + e.N)) (nx (z.set (Int.toNat e.Object) ((z.getD (Int.toNat e.Object) 0) + e.N))))) _ (fun nx' z' => ?_) F z (by omega)).trans ?_
        · rw [show ((e.Object.toNat : Nat) : Int) = e.Object by omega]
          rfl
        · have hl := grow_len z e.Object.toNat
          have hzz := hz e.Object.toNat
          rw [grd_pos _ (by unfold Ix; omega), grd_pos _ (by rw [grow_get]; unfold I64; omega)]
          rfl
  · rw [decide_eq_false g]
    have : exts l 0 n = [] := by unfold exts EOut; rw [decide_eq_false g]; rfl
    rw [this]; rfl

theorem loop_max (F : Nat) (hF : 1048592 < F) (st : (List Int → Option (List Int)) → Nat → RExt → List Int → Option (List Int)) (fin : Nat → List Int → Option (List Int))
    (hs : ∀ nx c (e : Ext) z, (0 ≤ e.Object ∧ e.Object ≤ 1048591) → (0 ≤ e.N ∧ e.N ≤ 65536) → (0 ≤ e.At ∧ e.At ≤ 68719476736) → st nx c (rx e) z = nx (mstep z e.Object.toNat (e.At + e.N))) (hf : ∀ c z, fin c z = some z) :
    ∀ (E : List Ext) (c : Nat) (z : List Int), OkO E → loopL st fin (E.map rx) c z = some (E.foldl (fun z e => mstep z e.Object.toNat (e.At + e.N)) z)
  | [], c, z, hE => by rw [List.map_nil, loopL, hf]; rfl
  | e :: E, c, z, hE => by
    have he := hE e (by simp)
    rw [List.map_cons, loopL, hs _ _ _ _ he.1 he.2.1 he.2.2]
    exact loop_max F hF st fin hs hf E (c + 1) _ (fun x hx => hE x (by simp [hx]))

theorem m_rsizes (F : Nat) (hF : 1048592 < F) (l : Lay) (n : Int) : m_tholeref24_Sizes F (rl l) n = some (sizeMax (exts l 0 n)) := by
  have hex := ok_exts l n
  simp only [m_tholeref24_Sizes]
  rw [m_rexts F (by omega), Option.bind_some, grd_pos _ (by unfold Len; rw [List.length_map]; omega)]
  refine loop_max F hF _ _ (fun nx c e z ho hN hA => ?_) (fun c z => rfl) (exts l 0 n) 0 [] hex.1
  refine (loop_grow e.Object.toNat (by omega) (fun z => grd (I64 (e.At + e.N)) (grd (Ix e.Object z.length) ((bif decide ((e.At + e.N) > (z.getD (Int.toNat e.Object) 0)) then nx (z.set (Int.toNat e.Object) (e.At + e.N)) else nx z)))) _ (fun nx' z' => ?_) F z (by omega)).trans ?_
  · rw [show ((e.Object.toNat : Nat) : Int) = e.Object by omega]
    rfl
  · have hl := grow_len z e.Object.toNat
    rw [grd_pos _ (by unfold I64; omega), grd_pos _ (by unfold Ix; omega)]
    unfold mstep
    by_cases h : e.At + e.N > (grow z e.Object.toNat).getD e.Object.toNat 0
    · rw [decide_eq_true h, if_pos h]; rfl
    · rw [decide_eq_false h, if_neg h]; rfl

theorem sizes_same (l : Lay) (n : Int) : sizeMax (exts l 0 n) = sizeSum (exts l 0 n) := by
  unfold exts
  cases ho : EOut l 0 n with
  | true => rfl
  | false =>
    simp only [EOut, Bool.or_eq_false_iff, Bool.not_eq_false', decide_eq_true_eq, decide_eq_false_iff_not] at ho
    exact (sizes_eq ho.1 n.toNat (by omega)).1

end Go.Proofs.YtfdojammchbboaaDoor
