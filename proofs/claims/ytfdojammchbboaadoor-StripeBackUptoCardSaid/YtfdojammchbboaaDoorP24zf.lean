/-
  CHAPTER 24: plain facts on the models: the reference's runs are the bytes' runs.
-/
import Derived.Test.YtfdojammchbboaaDoorP24ze
set_option linter.unusedVariables false
set_option linter.unusedSimpArgs false
set_option maxRecDepth 100000
namespace Go.Proofs.YtfdojammchbboaaDoor
open Go Go.RowKit Sx

theorem step_rext {ρ : Type} (acc : List Ext) (p o a : Int) (h : OkE acc p) (hp : p ≤ 65536) (J : List RExt → Option ρ) (l : List RExt) (hl : l = acc.map rx) :
    grd (I64 (((l.length : Nat) : Int) - 1)) (jn (fun (v75_3 : Bool) => (bif v75_3 then grd (Ix (((l.length : Nat) : Int) - 1) l.length) (grd (I64 (((l.getD (Int.toNat (((l.length : Nat) : Int) - 1)) dS_tholeref24_Extent).N) + 1)) (J (l.set (Int.toNat (((l.length : Nat) : Int) - 1)) (S_tholeref24_Extent.mk ((l.getD (Int.toNat (((l.length : Nat) : Int) - 1)) dS_tholeref24_Extent).Object) ((l.getD (Int.toNat (((l.length : Nat) : Int) - 1)) dS_tholeref24_Extent).At) (((l.getD (Int.toNat (((l.length : Nat) : Int) - 1)) dS_tholeref24_Extent).N) + 1))))) else grd (App (l.length + [(S_tholeref24_Extent.mk o a 1)].length) 24) (J (l ++ [(S_tholeref24_Extent.mk o a 1)]))))
      (fun (J64 : Bool → Option ρ) => (bif decide ((((l.length : Nat) : Int) - 1) ≥ 0) then grd (Ix (((l.length : Nat) : Int) - 1) l.length) ((bif ((l.getD (Int.toNat (((l.length : Nat) : Int) - 1)) dS_tholeref24_Extent).Object) == o then grd (I64 (((l.getD (Int.toNat (((l.length : Nat) : Int) - 1)) dS_tholeref24_Extent).At) + ((l.getD (Int.toNat (((l.length : Nat) : Int) - 1)) dS_tholeref24_Extent).N))) (J64 ((((l.getD (Int.toNat (((l.length : Nat) : Int) - 1)) dS_tholeref24_Extent).At) + ((l.getD (Int.toNat (((l.length : Nat) : Int) - 1)) dS_tholeref24_Extent).N)) == a)) else J64 false)) else J64 false)))
    = J ((addE acc o a 1).map rx) := by
  obtain ⟨h1, h2⟩ := h
  have hlen : l.length = acc.length := by rw [hl, List.length_map]
  have hA : App (l.length + [(S_tholeref24_Extent.mk o a 1)].length) 24 := by unfold App; rw [hlen]; simp; omega
  rw [grd_pos _ (by unfold I64; omega)]
  unfold jn
  rcases List.eq_nil_or_concat acc with rfl | ⟨l', e, rfl⟩
  · obtain rfl : l = [] := by simpa using hl
    simp only [List.length_nil, addE, List.getLast?_nil]
    rw [show decide ((((0 : Nat) : Int) - 1) ≥ 0) = false by decide, cond_false, cond_false, grd_pos _ (by simpa using hA)]
    rfl
  · simp only [List.concat_eq_append] at *
    obtain rfl : l = l'.map rx ++ [rx e] := by rw [hl, List.map_append]; rfl
    have he := h2 e (by simp)
    have hi : Ix ((((l'.map rx ++ [rx e]).length : Nat) : Int) - 1) (l'.map rx ++ [rx e]).length := by unfold Ix; simp
    rw [decide_eq_true (show (((((l'.map rx ++ [rx e]).length : Nat) : Int) - 1) ≥ 0) by simp), cond_true, grd_pos _ hi]
    simp only [get_last, set_last]
    simp only [addE, List.getLast?_append, List.getLast?_singleton, Option.some_or, List.dropLast_concat]
    show (bif e.Object == o then grd (I64 (e.At + e.N)) _ else _) = _
    cases hq : e.Object == o with
    | false => simp only [cond_false, Bool.false_and]; rw [grd_pos _ hA]; simp only [List.map_append]; rfl
    | true =>
      simp only [cond_true, Bool.true_and]
      rw [grd_pos _ (by unfold I64; omega)]
      show (bif e.At + e.N == a then grd _ (grd (I64 (e.N + 1)) _) else _) = _
      cases hr : e.At + e.N == a with
      | false => simp only [cond_false]; rw [grd_pos _ hA]; simp only [List.map_append]; rfl
      | true => simp only [cond_true]; rw [grd_pos _ hi, grd_pos _ (by unfold I64; omega)]; simp only [List.map_append]; rfl

theorem loop_rext {l : Lay} (g : Gd l) (e : Int) (he : e ≤ 65536) (st : (Int × List RExt → Option (List RExt)) → Int × List RExt → Option (List RExt))
    (hs : ∀ nx p acc, 0 ≤ p → p < e → OkE acc p → st nx (p, acc.map rx) = nx (p + 1, (addE acc (plc l p).1 (plc l p).2 1).map rx))
    (hf : ∀ nx p acc, ¬ p < e → st nx (p, acc) = some acc) :
    ∀ (F : Nat) (p : Int) (acc : List Ext), 0 ≤ p → p ≤ e → (e - p).toNat < F → OkE acc p → loopW st F (p, acc.map rx) = some ((bytesE l (e - p).toNat acc p).map rx)
  | 0, p, acc, h0, h1, h2, h3 => by omega
  | F + 1, p, acc, h0, h1, h2, h3 => by
    rw [loopW]
    by_cases h : p < e
    · rw [hs _ p acc h0 h h3]
      have pb := plc_bd g h0 (by omega)
      rw [loop_rext g e he st hs hf F (p + 1) _ (by omega) (by omega) (by omega) (h3.add pb (by omega) h0)]
      rw [show (e - p).toNat = (e - (p + 1)).toNat + 1 by omega, bytesE]
    · rw [hf _ p _ h, show (e - p).toNat = 0 by omega]
      rfl

theorem m_rexts (F : Nat) (hF : 65536 < F) (l : Lay) (o n : Int) : m_tholeref24_Extents F (rl l) o n = some ((exts l o n).map rx) := by
  unfold m_tholeref24_Extents exts EOut
  rw [jn]
  rw [m_rgood, Option.bind_some]
  by_cases g : Gd l
  · rw [decide_eq_true g]
    simp only [Bool.not_true, cond_false, Bool.false_or]
    by_cases h0 : o < 0
    · simp [h0]
    · by_cases h1 : n < 0
      · simp [h0, h1]
      · by_cases h2 : o > 65536
        · simp [h0, h1, h2]
        · simp only [h0, h1, h2, decide_false, cond_false, Bool.false_or]
          rw [grd_pos _ (by unfold I64; omega)]
          by_cases h3 : n > 65536 - o
          · rw [decide_eq_true h3]; rfl
          · rw [decide_eq_false h3, cond_false, cond_false]
            refine (loop_rext g (o + n) (by omega) _ (fun nx p acc p0 p1 hok => ?_) (fun nx p acc hp => ?_) F o [] (by omega) (by omega) (by omega) ⟨by simp; omega, fun e he => by simp at he⟩).trans (by rw [show o + n - o = n by omega])
            · show grd _ (bif decide (p < o + n) then _ else _) = _
              rw [grd_pos _ (by unfold I64; omega), decide_eq_true p1, cond_true]
              rw [jn]
              rw [m_rplace, Option.bind_some]
              rw [show Out l p = false by unfold Out; rw [decide_eq_true g, decide_eq_false (show ¬ p < 0 by omega), decide_eq_false (show ¬ p ≥ 65536 by omega)]; rfl, cond_false]
              refine (step_rext acc p (plc l p).1 (plc l p).2 hok (by omega) (fun acc' => grd (I64 (p + 1)) (nx (p + 1, acc'))) _ rfl).trans ?_
              rw [grd_pos _ (by unfold I64; omega)]
            · show grd _ (bif decide (p < o + n) then _ else _) = _
              rw [grd_pos _ (by unfold I64; omega), decide_eq_false hp, cond_false]
  · rw [decide_eq_false g]; rfl

end Go.Proofs.YtfdojammchbboaaDoor
