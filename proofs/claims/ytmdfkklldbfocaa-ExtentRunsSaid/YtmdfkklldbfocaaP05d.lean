/-
  CHAPTER 05: plain facts: the bytes by what the runs cover; ExtentWrites and ExtentRuns on their models.
-/
import Derived.Test.YtmdfkklldbfocaaP05c
set_option linter.unusedVariables false
set_option linter.unusedSimpArgs false
set_option maxRecDepth 100000
namespace Go.Proofs.Ytmdfkklldbfocaa
open Go Go.RowKit Sx

theorem lay1_at {d : List UInt8} {r : Rn} (h : 0 ≤ r.at_) (h2 : ren r ≤ d.length) (i : Nat) (hi : i < d.length) : (lay1 d r)[i]? = some ((at1 r i).getD (d.getD i 0)) := by
  unfold ren at h2
  have hd : d[i]? = some (d.getD i 0) := by rw [List.getD_eq_getElem?_getD, List.getElem?_eq_getElem hi]; rfl
  unfold lay1 at1
  by_cases h3 : i < r.at_.toNat
  · rw [List.getElem?_append_left (by rw [List.length_take]; omega), List.getElem?_take_of_lt h3, if_neg (by omega), hd]; rfl
  · rw [List.getElem?_append_right (by rw [List.length_take]; omega), List.length_take, if_pos (by omega)]
    have e : ((i : Int) - r.at_).toNat = i - min r.at_.toNat d.length := by omega
    rw [e]
    by_cases h4 : i - min r.at_.toNat d.length < r.b.length
    · rw [List.getElem?_append_left h4, List.getElem?_eq_getElem h4]; rfl
    · rw [List.getElem?_append_right (by omega), List.getElem?_drop, List.getElem?_eq_none (l := r.b) (by omega)]
      rw [show r.at_.toNat + r.b.length + (i - min r.at_.toNat d.length - r.b.length) = i from by omega, hd]; rfl
theorem lay_at {n : Nat} (i : Nat) (hi : i < n) : ∀ (L : List Rn) (p : Int) (d : List UInt8), sep p L → 0 ≤ p → okD n L → d.length = n → (lay d L)[i]? = some ((cov L i).getD (d.getD i 0))
  | [], p, d, _, _, _, hd => by
    rw [lay, List.foldl_nil, cov, List.getD_eq_getElem?_getD, List.getElem?_eq_getElem (by omega)]; rfl
  | r :: t, p, d, ⟨h1, h2, h3⟩, hp, hk, hd => by
    obtain ⟨q1, q2, q3⟩ := hk r (by simp)
    have hl := lay1_len q2 (d := d) (by omega)
    have g := ren_gt h2
    rw [lay, List.foldl_cons, ← lay, lay_at i hi t _ _ h3 (by omega) (fun x hx => hk x (by simp [hx])) (by omega), cov]
    have e : (lay1 d r).getD i 0 = (at1 r i).getD (d.getD i 0) := by rw [List.getD_eq_getElem?_getD, lay1_at q2 (by omega) i (by omega)]; rfl
    rw [e]
    cases e1 : at1 r i with
    | none => rw [Option.none_or]; rfl
    | some y => rw [cov_none h3 (by have := at1_in e1; omega)]; rfl
theorem bytes5_at {L : List Rn} {sz : Int} (g : Gd5 L sz) {i : Nat} (hi : i < sz.toNat) : (bytes5 L sz)[i]? = some ((cov L i).getD 0) := by
  rw [bytes5, lay_at i hi L 0 _ g.s (Int.le_refl _) g.okD List.length_replicate, List.getD_eq_getElem?_getD, List.getElem?_replicate_of_lt hi]; rfl

theorem cov_wr {L : List Rn} {a : Int} {bs : List UInt8} (h : mayE a bs.length = 0) (h2 : bs ≠ []) (i : Int) : cov (wrL L a bs) i = if a ≤ i ∧ i < a + bs.length then bs[(i - a).toNat]? else cov L i := by
  have hl := len_pos h2
  unfold wrL
  rw [if_pos ⟨h, h2⟩, cov_ins i (clear0_clr h2), cov_clr (by omega)]
  unfold at1; dsimp only
  by_cases h3 : a ≤ i ∧ i < a + bs.length
  · rw [if_pos h3.1, if_pos h3, if_pos h3, Option.or_none]
  · rw [if_neg h3, if_neg h3]
    by_cases h4 : a ≤ i
    · rw [if_pos h4, List.getElem?_eq_none (by omega), Option.none_or]
    · rw [if_neg h4, Option.none_or]
theorem cov_zr {L : List Rn} {a n : Int} (h : mayE a n = 0) (i : Int) : cov (zrL L a n) i = if a ≤ i ∧ i < a + n then none else cov L i := by
  have := mayE_0 h
  unfold zrL
  by_cases h2 : n = 0
  · rw [if_neg (fun h => h.2 h2), if_neg (by omega)]
  · rw [if_pos ⟨h, h2⟩, cov_clr (by omega)]
theorem Gd5.nil : Gd5 [] 0 := ⟨trivial, (fun _ h => by cases h), Int.le_refl _, by omega⟩

theorem m_lives (F : Nat) : m_tholelaw05_lives F = some () := by kernel_rfl

theorem loopL_all {α ρ : Type} (r : Option ρ) (st : (Unit → Option ρ) → Nat → α → Unit → Option ρ) (fin : Nat → Unit → Option ρ) (l : List α)
    (hs : ∀ nx c x, c < l.length → l[c]? = some x → st nx c x () = nx ()) (hf : ∀ c, fin c () = r) : loopL st fin l 0 () = r := by
  have key : ∀ (t : List α) (c : Nat), (∀ i x, t[i]? = some x → l[c + i]? = some x) → c + t.length ≤ l.length → loopL st fin t c () = r := by
    intro t
    induction t with
    | nil => intro c _ _; exact hf c
    | cons x t ih =>
      intro c h hc
      simp only [List.length_cons] at hc
      rw [loopL, hs _ c x (by omega) (h 0 x rfl)]
      exact ih (c + 1) (fun i y hy => by have := h (i + 1) y (by simpa using hy); rwa [show c + (i + 1) = c + 1 + i by omega] at this) (by omega)
  exact key l 0 (fun i x h => by rwa [Nat.zero_add]) (by omega)

theorem law_writes (F : Nat) (hF : 4100 < F) (a0 a1 : List UInt8) {p q : Int} (hp : 0 ≤ p) (hq : 0 ≤ q) (ha : Len a0.length) (hb : Len a1.length) : m_tholelaw05_ExtentWrites F a0 a1 p q = some true := by
  rw [m_tholelaw05_ExtentWrites, m_extent_New, Option.bind_some]
  have hk : IntKind.i64.wrap (Int.tmod p 4000) = p % 4000 := by rw [Int.tmod_eq_emod_of_nonneg hp]; exact wrap_i64 (by omega) (by omega)
  have hh : IntKind.i64.wrap (Int.tmod q 90) = q % 90 := by rw [Int.tmod_eq_emod_of_nonneg hq]; exact wrap_i64 (by omega) (by omega)
  rw [hk, hh]
  have k0 : 0 ≤ p % 4000 ∧ p % 4000 < 4000 := by omega
  have n0 : 0 ≤ q % 90 ∧ q % 90 < 90 := by omega
  generalize p % 4000 = k at k0
  generalize q % 90 = n at n0
  simp only [jn, m_lives]
  by_cases h1 : a0.length > 4000
  · rw [decide_eq_true (by omega)]; rfl
  · rw [decide_eq_false (by omega), cond_false]
    by_cases h2 : a1.length > 90
    · rw [decide_eq_true (by omega)]; rfl
    · rw [decide_eq_false (by omega), cond_false, m_write F hF Gd5.nil, Option.bind_some]
      have e0 : mayE 0 (a0.length : Int) = 0 := by unfold mayE; rw [if_neg (by omega), if_neg (by omega)]
      have e1 : mayE k (a1.length : Int) = 0 := by unfold mayE; rw [if_neg (by omega), if_neg (by omega)]
      have e2 : mayE k n = 0 := by unfold mayE; rw [if_neg (by omega), if_neg (by omega)]
      have g1 : Gd5 (wrL [] 0 a0) (wrZ 0 0 a0.length) := Gd5.nil.wr 0 a0
      have c1 : ∀ i : Int, cov (wrL [] 0 a0) i = if 0 ≤ i ∧ i < a0.length then a0[i.toNat]? else none := fun i => by
        by_cases h : a0 = []
        · subst h; rw [wrL, if_neg (by simp), if_neg (by simp <;> omega)]; rfl
        · rw [cov_wr e0 h, Int.sub_zero, Int.zero_add]; rfl
      have z1 : wrZ 0 0 a0.length = a0.length := by
        unfold wrZ; rw [Int.zero_add]
        by_cases h : (a0.length : Int) = 0
        · rw [if_neg (fun x => x.2 h), h]
        · rw [if_pos ⟨e0, h⟩, if_pos (by omega)]
      dsimp only
      rw [neq_f e0, cond_false]
      generalize wrL [] 0 a0 = L1 at g1 c1
      rw [z1] at g1 ⊢
      rw [m_write F hF g1, Option.bind_some]
      have g2 := g1.wr k a1
      dsimp only
      rw [neq_f e1, cond_false, m_read F hF g2, Option.bind_some, m_read F hF g2, Option.bind_some]
      dsimp only
      rw [if_neg (by omega), if_neg (by omega), neq_f rfl, cond_false, cond_false, m_same, Option.bind_some]
      have z2 : wrZ a0.length k a1.length = if a1.length = 0 then (a0.length : Int) else max (k + a1.length) a0.length := by
        unfold wrZ
        by_cases h : a1.length = 0
        · rw [if_neg (fun x => x.2 (by omega)), if_pos h]
        · rw [if_pos ⟨e1, by omega⟩, if_neg h]; split <;> omega
      have c2 : ∀ i : Int, cov (wrL L1 k a1) i = if k ≤ i ∧ i < k + a1.length then a1[(i - k).toNat]? else cov L1 i := fun i => by
        by_cases h : a1 = []
        · subst h; rw [wrL, if_neg (by simp), if_neg (by simp <;> omega)]
        · exact cov_wr e1 h i
      have s1 : rdB (wrL L1 k a1) (wrZ a0.length k a1.length) k a1.length = a1 := by
        unfold rdB
        rw [if_neg (by omega)]
        apply List.ext_getElem?
        intro i
        by_cases hi : i < a1.length
        · have : k.toNat + i < (wrZ a0.length k a1.length).toNat := by rw [z2, if_neg (by omega)]; omega
          rw [List.getElem?_take_of_lt (by omega), List.getElem?_drop, bytes5_at g2 this, c2, if_pos (by omega)]
          have e : (((k.toNat + i : Nat) : Int) - k).toNat = i := by omega
          rw [e, List.getElem?_eq_getElem hi]; rfl
        · rw [List.getElem?_eq_none (by rw [List.length_take]; omega), List.getElem?_eq_none (by omega)]
      rw [s1, decide_eq_true rfl, Bool.not_true, cond_false]
      generalize hah : rdB (wrL L1 k a1) (wrZ a0.length k a1.length) 0 k = ah
      have hahl : ah.length ≤ 4096 := by
        have := bytes5_len g2; have := g2.n1; have := g2.n0
        rw [← hah]; unfold rdB; rw [if_neg (by omega), List.length_take, List.length_drop]; omega
      rw [grd_pos _ (by unfold Len; omega)]
      refine loopL_all (some true) _ _ ah (fun nx c x hc hx => ?_) (fun c => ?_)
      · have hck : (c : Int) < k := by
          rw [← hah] at hc; unfold rdB at hc; rw [if_neg (by omega), List.length_take] at hc; omega
        have hcz : c < (wrZ a0.length k a1.length).toNat := by
          rw [← hah] at hc; unfold rdB at hc; rw [if_neg (by omega), List.length_take, List.length_drop, bytes5_len g2] at hc; omega
        have hx2 : x = (if (c : Int) < a0.length then a0.getD c 0 else 0) := by
          rw [← hah] at hx; unfold rdB at hx
          rw [if_neg (by omega), List.getElem?_take_of_lt (by omega), List.getElem?_drop, Int.toNat_zero, Nat.zero_add, bytes5_at g2 hcz, c2, if_neg (by omega), c1] at hx
          by_cases h5 : (c : Int) < a0.length
          · rw [if_pos ⟨by omega, h5⟩, Int.toNat_natCast] at hx
            rw [if_pos h5, List.getD_eq_getElem?_getD]; cases hx; rw [List.getElem?_eq_getElem (by omega)]
          · rw [if_neg (by omega)] at hx; rw [if_neg h5]; cases hx; rfl
        by_cases h5 : (c : Int) < a0.length
        · rw [if_pos h5] at hx2
          rw [decide_eq_true h5, cond_true, grd_pos _ (by omega), hx2, neq_f rfl, cond_false, decide_eq_false (by omega), cond_false, cond_false]
        · rw [if_neg h5] at hx2
          rw [decide_eq_false h5, cond_false, decide_eq_true (by omega), cond_true, hx2]; rfl
      · have g3 := g2.zr k n
        rw [m_zero F hF g2, Option.bind_some]
        dsimp only
        rw [neq_f e2, cond_false, m_read F hF g3, Option.bind_some]
        dsimp only
        rw [if_neg (by omega)]
        generalize hz : rdB (zrL (wrL L1 k a1) k n) (wrZ (wrZ a0.length k a1.length) k n) k n = z
        have hzl : z.length = n.toNat := by
          have := bytes5_len g3
          rw [← hz]; unfold rdB; rw [if_neg (by omega), List.length_take, List.length_drop, this]
          have key : ∀ Z : Int, n.toNat ≤ (wrZ Z k n).toNat - k.toNat := fun Z => by
            unfold wrZ
            by_cases h : n = 0
            · omega
            · rw [if_pos ⟨e2, h⟩]; split <;> omega
          exact Nat.min_eq_left (key _)
        rw [grd_pos _ (by unfold Len; omega)]
        refine loopL_all (some true) _ _ z (fun nx c x hc hx => ?_) (fun c => ?_)
        · have hx2 : x = 0 := by
            rw [← hz] at hx; unfold rdB at hx
            have hcz : k.toNat + c < (wrZ (wrZ a0.length k a1.length) k n).toNat := by
              unfold wrZ; rw [if_pos ⟨e2, by omega⟩]; split <;> omega
            rw [if_neg (by omega), List.getElem?_take_of_lt (by omega), List.getElem?_drop, bytes5_at g3 hcz, cov_zr e2, if_pos (by omega)] at hx
            cases hx; rfl
          rw [hx2]; rfl
        · rw [eq_t rfl, cond_true, eq_t (by omega), cond_true]; rfl
end Go.Proofs.Ytmdfkklldbfocaa
