/-
  CHAPTER 05: plain facts: the document's array of bytes and marks, beside the runs.
-/
import Derived.Test.YtmdfkklldbfocaaP05yc
set_option linter.unusedVariables false
set_option linter.unusedSimpArgs false
set_option maxRecDepth 100000
namespace Go.Proofs.Ytmdfkklldbfocaa
open Go Go.RowKit Sx

theorem lay1_at {d : List UInt8} {r : Rn} (h : 0 ≤ r.at_) (h2 : ren r ≤ d.length) (i : Nat) (hi : i < d.length) : (lay1 d r)[i]? = some ((at1 r i).getD (d.getD i 0)) := by
  unfold ren at h2
  have hd : d[i]? = some (d.getD i 0) := by rw [List.getD_eq_getElem?_getD, List.getElem?_eq_getElem hi]; rfl
  unfold lay1 at1
  by_cases h3 : i < r.at_.toNat
  · rw [List.getElem?_append_left (by rw [List.length_take]; omega), List.getElem?_take_of_lt h3, if_neg (by omega), hd]; rfl
  · rw [List.getElem?_append_right (by rw [List.length_take]; omega), List.length_take, if_pos (by omega)]
    have e : ((i : Int) - r.at_).toNat = i - min r.at_.toNat d.length := by omega
    rw [e]
    by_cases h4 : i - min r.at_.toNat d.length < r.b.length
    · rw [List.getElem?_append_left h4, List.getElem?_eq_getElem h4]; rfl
    · rw [List.getElem?_append_right (by omega), List.getElem?_drop, List.getElem?_eq_none (l := r.b) (by omega)]
      rw [show r.at_.toNat + r.b.length + (i - min r.at_.toNat d.length - r.b.length) = i from by omega, hd]; rfl
theorem lay_at {n : Nat} (i : Nat) (hi : i < n) : ∀ (L : List Rn) (p : Int) (d : List UInt8), sep p L → 0 ≤ p → okD n L → d.length = n → (lay d L)[i]? = some ((cov L i).getD (d.getD i 0))
  | [], p, d, _, _, _, hd => by
    rw [lay, List.foldl_nil, cov, List.getD_eq_getElem?_getD, List.getElem?_eq_getElem (by omega)]; rfl
  | r :: t, p, d, ⟨h1, h2, h3⟩, hp, hk, hd => by
    obtain ⟨q1, q2, q3⟩ := hk r (by simp)
    have hl := lay1_len q2 (d := d) (by omega)
    have g := ren_gt h2
    rw [lay, List.foldl_cons, ← lay, lay_at i hi t _ _ h3 (by omega) (fun x hx => hk x (by simp [hx])) (by omega), cov]
    have e : (lay1 d r).getD i 0 = (at1 r i).getD (d.getD i 0) := by rw [List.getD_eq_getElem?_getD, lay1_at q2 (by omega) i (by omega)]; rfl
    rw [e]
    cases e1 : at1 r i with
    | none => rw [Option.none_or]; rfl
    | some y => rw [cov_none h3 (by have := at1_in e1; omega)]; rfl
theorem bytes5_at {L : List Rn} {sz : Int} (g : Gd5 L sz) {i : Nat} (hi : i < sz.toNat) : (bytes5 L sz)[i]? = some ((cov L i).getD 0) := by
  rw [bytes5, lay_at i hi L 0 _ g.s (Int.le_refl _) g.okD List.length_replicate, List.getD_eq_getElem?_getD, List.getElem?_replicate_of_lt hi]; rfl

theorem cov_wr {L : List Rn} {a : Int} {bs : List UInt8} (h : mayE a bs.length = 0) (h2 : bs ≠ []) (i : Int) : cov (wrL L a bs) i = if a ≤ i ∧ i < a + bs.length then bs[(i - a).toNat]? else cov L i := by
  have hl := len_pos h2
  unfold wrL
  rw [if_pos ⟨h, h2⟩, cov_ins i (clear0_clr h2), cov_clr (by omega)]
  unfold at1; dsimp only
  by_cases h3 : a ≤ i ∧ i < a + bs.length
  · rw [if_pos h3.1, if_pos h3, if_pos h3, Option.or_none]
  · rw [if_neg h3, if_neg h3]
    by_cases h4 : a ≤ i
    · rw [if_pos h4, List.getElem?_eq_none (by omega), Option.none_or]
    · rw [if_neg h4, Option.none_or]
theorem cov_zr {L : List Rn} {a n : Int} (h : mayE a n = 0) (i : Int) : cov (zrL L a n) i = if a ≤ i ∧ i < a + n then none else cov L i := by
  have := mayE_0 h
  unfold zrL
  by_cases h2 : n = 0
  · rw [if_neg (fun h => h.2 h2), if_neg (by omega)]
  · rw [if_pos ⟨h, h2⟩, cov_clr (by omega)]
theorem Gd5.nil : Gd5 [] 0 := ⟨trivial, (fun _ h => by cases h), Int.le_refl _, by omega⟩


theorem cov_hi {L : List Rn} {sz : Int} (g : Gd5 L sz) {i : Int} (h : sz ≤ i) : cov L i = none := cov_none' fun r hr => .inr (Int.le_trans (g.b r hr) h)
theorem cov_tr {L : List Rn} {n : Int} (h : mayE 0 n = 0) {i : Int} (hi : i < n) : cov (trL L n) i = cov L i := by
  have := mayE_0 h
  unfold trL
  rw [if_pos h, cov_clr (by omega), if_neg (by omega)]

/-! ### The document's answer -/

theorem spl_getD {α : Type} (d b : List α) (p i : Nat) (x : α) (h : p + b.length ≤ d.length) : (d.take p ++ (b ++ d.drop (p + b.length))).getD i x = if p ≤ i ∧ i < p + b.length then b.getD (i - p) x else d.getD i x := by
  simp only [List.getD_eq_getElem?_getD]
  congr 1
  by_cases h1 : i < p
  · rw [List.getElem?_append_left (by rw [List.length_take]; omega), List.getElem?_take_of_lt h1, if_neg (by omega)]
  · rw [List.getElem?_append_right (by rw [List.length_take]; omega), List.length_take, Nat.min_eq_left (by omega)]
    by_cases h2 : i - p < b.length
    · rw [List.getElem?_append_left h2, if_pos (by omega)]
    · rw [List.getElem?_append_right (by omega), List.getElem?_drop, if_neg (by omega), show p + b.length + (i - p - b.length) = i from by omega]
theorem spl_len {α : Type} (d b : List α) (p : Nat) (h : p + b.length ≤ d.length) : (d.take p ++ (b ++ d.drop (p + b.length))).length = d.length := by
  simp only [List.length_append, List.length_take, List.length_drop]; omega
theorem rep_getD {α : Type} (x : α) (n i : Nat) : (List.replicate n x).getD i x = x := by
  rw [List.getD_eq_getElem?_getD, List.getElem?_replicate]; split <;> rfl
theorem rep_getD' {α : Type} (x y : α) {n i : Nat} (h : i < n) : (List.replicate n x).getD i y = x := by
  rw [List.getD_eq_getElem?_getD, List.getElem?_replicate, if_pos h]; rfl
/-- A list of n things at least. -/
def grw {α : Type} (x : α) (d : List α) (n : Nat) : List α := d ++ List.replicate (n - d.length) x
theorem grw_len {α : Type} (x : α) (d : List α) (n : Nat) : (grw x d n).length = max d.length n := by
  unfold grw; rw [List.length_append, List.length_replicate]; omega
theorem grw_getD {α : Type} (x : α) (d : List α) (n i : Nat) : (grw x d n).getD i x = d.getD i x := by
  unfold grw
  by_cases h : i < d.length
  · simp only [List.getD_eq_getElem?_getD, List.getElem?_append_left h]
  · rw [List.getD_eq_getElem?_getD, List.getElem?_append_right (by omega), ← List.getD_eq_getElem?_getD, rep_getD, List.getD_eq_getElem?_getD, List.getElem?_eq_none (by omega)]; rfl

theorem m_fits (F : Nat) (a n : Int) : m_tholeref05_fits F a n = some (mayE a n) := by
  rw [m_tholeref05_fits]
  simp only [jn]
  unfold mayE
  by_cases h1 : a < 0
  · rw [decide_eq_true h1, if_pos (.inl h1)]; rfl
  · rw [decide_eq_false h1, cond_false]
    by_cases h2 : n < 0
    · rw [decide_eq_true h2, if_pos (.inr h2)]; rfl
    · rw [decide_eq_false h2, cond_false, if_neg (by omega)]
      by_cases h3 : a > 4096
      · rw [decide_eq_true h3, if_pos (.inl h3)]; rfl
      · rw [decide_eq_false h3, cond_false, grd_pos _ ⟨by omega, by omega⟩]
        by_cases h4 : n > 4096 - a
        · rw [decide_eq_true h4, if_pos (.inr h4)]; rfl
        · rw [decide_eq_false h4, if_neg (by omega)]; rfl
theorem m_grow (F : Nat) {D : List UInt8} {H : List Bool} {n : Int} (hF : 4100 < F) (h0 : 0 ≤ n) (hn : n ≤ 4096) (he : D.length = H.length) : m___tholeref05_Map__grow F D H n = some (grw 0 D n.toNat, grw false H n.toNat) := by
  rw [m___tholeref05_Map__grow]
  have key : ∀ (k m : Nat) (D : List UInt8) (H : List Bool), D.length = H.length → n.toNat - D.length = k → k < m → loopW (fun (nx20 : List UInt8 × List Bool → Option (List UInt8 × List Bool)) (s27 : List UInt8 × List Bool) => match s27 with | (l1_1, l2_1) => (bif decide (((l1_1.length : Nat) : Int) < n) then grd (App (l1_1.length + [(0 : UInt8)].length) 1) (grd (App (l2_1.length + [false].length) 1) (nx20 ((l1_1 ++ [(0 : UInt8)]), (l2_1 ++ [false])))) else some (l1_1, l2_1))) m (D, H) = some (grw 0 D n.toNat, grw false H n.toNat) := by
    intro k
    induction k with
    | zero =>
      intro m D H he hk hm
      obtain ⟨m, rfl⟩ : ∃ q, m = q + 1 := ⟨m - 1, by omega⟩
      rw [loopW]
      dsimp only
      rw [decide_eq_false (by omega), cond_false]
      unfold grw
      rw [hk, show n.toNat - H.length = 0 by omega]; simp
    | succ k ih =>
      intro m D H he hk hm
      obtain ⟨m, rfl⟩ : ∃ q, m = q + 1 := ⟨m - 1, by omega⟩
      rw [loopW]
      dsimp only
      rw [decide_eq_true (by omega), cond_true, grd_pos _ (by unfold App; rw [List.length_singleton]; omega), grd_pos _ (by unfold App; rw [List.length_singleton]; omega), ih m _ _ (by simp [he]) (by rw [List.length_append, List.length_singleton]; omega) (by omega)]
      unfold grw
      have e1 : n.toNat - D.length = (n.toNat - (D ++ [(0 : UInt8)]).length) + 1 := by rw [List.length_append, List.length_singleton]; omega
      have e2 : n.toNat - H.length = (n.toNat - (H ++ [false]).length) + 1 := by rw [List.length_append, List.length_singleton]; omega
      rw [e1, e2, List.replicate_succ, List.replicate_succ, List.append_assoc, List.append_assoc]; rfl
  exact key _ F D H he rfl (by omega)

/-- The runs and the array say the same. -/
structure Rel (L : List Rn) (sz : Int) (D : List UInt8) (H : List Bool) : Prop where
  g : Gd5 L sz
  hd : D.length = sz.toNat
  hh : H.length = sz.toNat
  hc : ∀ i : Nat, i < sz.toNat → cov L i = if H.getD i false then some (D.getD i 0) else none
  hz : ∀ i : Nat, i < sz.toNat → H.getD i false = false → D.getD i 0 = 0
theorem Rel.bytes {L : List Rn} {sz : Int} {D : List UInt8} {H : List Bool} (r : Rel L sz D H) : bytes5 L sz = D := by
  apply List.ext_getElem?
  intro i
  by_cases hi : i < sz.toNat
  · rw [bytes5_at r.g hi, r.hc i hi, List.getElem?_eq_getElem (by rw [r.hd]; exact hi)]
    have e : D.getD i 0 = D[i]'(by rw [r.hd]; exact hi) := by rw [List.getD_eq_getElem?_getD, List.getElem?_eq_getElem (by rw [r.hd]; exact hi)]; rfl
    cases h : H.getD i false with
    | true => rw [if_pos rfl, ← e]; rfl
    | false => rw [if_neg (by simp), ← e, r.hz i hi h]; rfl
  · rw [List.getElem?_eq_none (by rw [bytes5_len r.g]; omega), List.getElem?_eq_none (by rw [r.hd]; omega)]
theorem Rel.nil : Rel [] 0 [] [] := ⟨Gd5.nil, rfl, rfl, (fun i h => by simp at h), (fun i h => by simp at h)⟩
theorem Rel.eqlen {L : List Rn} {sz : Int} {D : List UInt8} {H : List Bool} (r : Rel L sz D H) : D.length = H.length := r.hd.trans r.hh.symm

theorem set_loop2 {ρ : Type} {a : Int} (ha : 0 ≤ a) (K : List UInt8 → List Bool → Option ρ) (st : (List UInt8 × List Bool → Option ρ) → Nat → UInt8 → List UInt8 × List Bool → Option ρ) (fin : Nat → List UInt8 × List Bool → Option ρ)
    (hs : ∀ nx c x d h, a.toNat + c < d.length → d.length = h.length → d.length ≤ 4096 → st nx c x (d, h) = nx (d.set (a.toNat + c) x, h.set (a.toNat + c) true)) (hf : ∀ c d h, fin c (d, h) = K d h) :
    ∀ (b : List UInt8) (c : Nat) (d : List UInt8) (h : List Bool), a.toNat + c + b.length ≤ d.length → d.length = h.length → d.length ≤ 4096 →
      loopL st fin b c (d, h) = K (d.take (a.toNat + c) ++ (b ++ d.drop (a.toNat + c + b.length))) (h.take (a.toNat + c) ++ (List.replicate b.length true ++ h.drop (a.toNat + c + b.length)))
  | [], c, d, h, h1, h2, h3 => by rw [loopL, hf, List.nil_append, List.length_nil, Nat.add_zero, List.take_append_drop, List.replicate_zero, List.nil_append, List.take_append_drop]
  | x :: t, c, d, h, h1, h2, h3 => by
    simp only [List.length_cons] at h1
    rw [loopL, hs _ _ _ _ _ (by omega) h2 h3, set_loop2 ha K st fin hs hf t (c + 1) _ _ (by rw [List.length_set]; omega) (by rw [List.length_set, List.length_set]; exact h2) (by rw [List.length_set]; exact h3)]
    generalize hp : a.toNat + c = p at h1
    have e0 : a.toNat + (c + 1) = p + 1 := by omega
    have e1 : (d.set p x).take (p + 1) = d.take p ++ [x] := by
      rw [List.take_add_one, List.getElem?_set_self (by omega), List.take_set_of_le (Nat.le_refl _)]; rfl
    have e2 : (d.set p x).drop (p + 1 + t.length) = d.drop (p + (x :: t).length) := by
      rw [List.drop_set_of_lt (by omega), List.length_cons]; congr 1; omega
    have e3 : (h.set p true).take (p + 1) = h.take p ++ [true] := by
      rw [List.take_add_one, List.getElem?_set_self (by omega), List.take_set_of_le (Nat.le_refl _)]; rfl
    have e4 : (h.set p true).drop (p + 1 + t.length) = h.drop (p + (x :: t).length) := by
      rw [List.drop_set_of_lt (by omega), List.length_cons]; congr 1; omega
    rw [e0, e1, e2, e3, e4, List.append_assoc, List.append_assoc, List.length_cons, List.replicate_succ]; rfl

def rwD (D : List UInt8) (a : Int) (bs : List UInt8) : List UInt8 := if mayE a bs.length = 0 ∧ bs ≠ [] then (let d := grw 0 D (a + bs.length).toNat; d.take a.toNat ++ (bs ++ d.drop (a.toNat + bs.length))) else D
def rwH (H : List Bool) (a : Int) (bs : List UInt8) : List Bool := if mayE a bs.length = 0 ∧ bs ≠ [] then (let d := grw false H (a + bs.length).toNat; d.take a.toNat ++ (List.replicate bs.length true ++ d.drop (a.toNat + bs.length))) else H
theorem m_rwrite (F : Nat) (hF : 4100 < F) {L : List Rn} {sz : Int} {D : List UInt8} {H : List Bool} (r : Rel L sz D H) (a : Int) (bs : List UInt8) :
    m___tholeref05_Map__Write F D H a bs = some (mayE a bs.length, rwD D a bs, rwH H a bs) := by
  have hn1 := r.g.n1; have hn0 := r.g.n0
  rw [m___tholeref05_Map__Write, m_fits, Option.bind_some]
  unfold rwD rwH
  by_cases h1 : mayE a bs.length = 0
  · rw [neq_f h1, cond_false]
    by_cases h2 : bs = []
    · subst h2; rw [if_neg (by simp), if_neg (by simp), h1]; rfl
    · have hl := len_pos h2
      obtain ⟨p1, p2, p3⟩ := mayE_0 h1
      rw [eq_f (by omega), cond_false, if_pos ⟨h1, h2⟩, if_pos ⟨h1, h2⟩, grd_pos _ ⟨by omega, by omega⟩, m_grow F hF (by omega) p3 r.eqlen, Option.bind_some, grd_pos _ (by unfold Len; omega), h1]
      dsimp only
      have hlen : (grw (0 : UInt8) D (a + bs.length).toNat).length = max D.length (a + bs.length).toNat := grw_len ..
      have hlen2 : (grw false H (a + bs.length).toNat).length = max H.length (a + bs.length).toNat := grw_len ..
      have hd := r.hd; have hh := r.hh
      rw [set_loop2 p1 (fun d h => some ((0 : Int), d, h)) _ _ (fun nx c x d h q1 q2 q3 => ?_) (fun c d h => rfl) bs 0 _ _ (by omega) (by omega) (by omega)]
      · rfl
      · dsimp only
        have e : (a + (c : Int)).toNat = a.toNat + c := by omega
        rw [grd_pos _ ⟨by omega, by omega⟩, grd_pos _ ⟨by omega, by omega⟩, grd_pos _ ⟨by omega, by omega⟩, e]
  · rw [neq_t h1, cond_true, if_neg (fun h => h1 h.1), if_neg (fun h => h1 h.1)]
theorem wrZ_eq {sz a : Int} {bs : List UInt8} (h : mayE a bs.length = 0) (h2 : bs ≠ []) : wrZ sz a bs.length = max sz (a + bs.length) := by
  have hl := len_pos h2
  unfold wrZ
  rw [if_pos ⟨h, by omega⟩]; split <;> omega
theorem Rel.wr {L : List Rn} {sz : Int} {D : List UInt8} {H : List Bool} (r : Rel L sz D H) (a : Int) (bs : List UInt8) : Rel (wrL L a bs) (wrZ sz a bs.length) (rwD D a bs) (rwH H a bs) := by
  by_cases h : mayE a bs.length = 0 ∧ bs ≠ []
  · obtain ⟨p1, p2, p3⟩ := mayE_0 h.1
    have hl := len_pos h.2
    have n0 := r.g.n0; have hd := r.hd; have hh := r.hh
    have hz := wrZ_eq (sz := sz) h.1 h.2
    have l1 : (grw (0 : UInt8) D (a + bs.length).toNat).length = (wrZ sz a bs.length).toNat := by rw [grw_len, hz]; omega
    have l2 : (grw false H (a + bs.length).toNat).length = (wrZ sz a bs.length).toNat := by rw [grw_len, hz]; omega
    have gd : ∀ i : Nat, (rwD D a bs).getD i 0 = if a.toNat ≤ i ∧ i < a.toNat + bs.length then bs.getD (i - a.toNat) 0 else D.getD i 0 := fun i => by
      unfold rwD; rw [if_pos h]; dsimp only; rw [spl_getD _ _ _ _ _ (by rw [l1, hz]; omega), grw_getD]
    have gh : ∀ i : Nat, (rwH H a bs).getD i false = if a.toNat ≤ i ∧ i < a.toNat + bs.length then true else H.getD i false := fun i => by
      unfold rwH; rw [if_pos h]; dsimp only
      have := spl_getD (grw false H (a + bs.length).toNat) (List.replicate bs.length true) a.toNat i false (by rw [List.length_replicate, l2, hz]; omega)
      rw [List.length_replicate] at this
      rw [this, grw_getD]
      by_cases hi : a.toNat ≤ i ∧ i < a.toNat + bs.length
      · rw [if_pos hi, if_pos hi, rep_getD' _ _ (by omega)]
      · rw [if_neg hi, if_neg hi]
    refine ⟨r.g.wr a bs, ?_, ?_, fun i hi => ?_, fun i hi hf => ?_⟩
    · unfold rwD; rw [if_pos h]; dsimp only; rw [spl_len _ _ _ (by rw [l1, hz]; omega), l1]
    · unfold rwH; rw [if_pos h]; dsimp only
      have := spl_len (grw false H (a + bs.length).toNat) (List.replicate bs.length true) a.toNat (by rw [List.length_replicate, l2, hz]; omega)
      rw [List.length_replicate] at this
      rw [this, l2]
    · rw [cov_wr h.1 h.2, gh, gd]
      by_cases hr : a.toNat ≤ i ∧ i < a.toNat + bs.length
      · rw [if_pos hr, if_pos hr, if_pos (by omega), if_pos rfl, List.getD_eq_getElem?_getD]
        rw [show ((i : Int) - a).toNat = i - a.toNat by omega, List.getElem?_eq_getElem (by omega)]; rfl
      · rw [if_neg hr, if_neg hr, if_neg (by omega)]
        by_cases hs : i < sz.toNat
        · exact r.hc i hs
        · rw [cov_hi r.g (by omega), List.getD_eq_getElem?_getD, List.getElem?_eq_none (by omega)]; rfl
    · rw [gh] at hf; rw [gd]
      by_cases hr : a.toNat ≤ i ∧ i < a.toNat + bs.length
      · rw [if_pos hr] at hf; cases hf
      · rw [if_neg hr] at hf ⊢
        by_cases hs : i < sz.toNat
        · exact r.hz i hs hf
        · rw [List.getD_eq_getElem?_getD, List.getElem?_eq_none (by omega)]; rfl
  · have e1 : wrL L a bs = L := if_neg h
    have e2 : rwD D a bs = D := if_neg h
    have e3 : rwH H a bs = H := if_neg h
    have e4 : wrZ sz a bs.length = sz := if_neg (fun x => h ⟨x.1, fun e => x.2 (by rw [e]; rfl)⟩)
    rw [e1, e2, e3, e4]; exact r

def rzD (D : List UInt8) (a n : Int) : List UInt8 := if mayE a n = 0 ∧ n ≠ 0 then (let d := grw 0 D (a + n).toNat; d.take a.toNat ++ (List.replicate n.toNat 0 ++ d.drop (a.toNat + n.toNat))) else D
def rzH (H : List Bool) (a n : Int) : List Bool := if mayE a n = 0 ∧ n ≠ 0 then (let d := grw false H (a + n).toNat; d.take a.toNat ++ (List.replicate n.toNat false ++ d.drop (a.toNat + n.toNat))) else H
theorem zero_loop {ρ : Type} {e : Int} (st : (Int × List UInt8 × List Bool → Option ρ) → Int × List UInt8 × List Bool → Option ρ) (K : List UInt8 → List Bool → Option ρ)
    (hs : ∀ nx v d h, 0 ≤ v → v < e → e ≤ d.length → d.length = h.length → st nx (v, d, h) = nx (v + 1, d.set v.toNat 0, h.set v.toNat false)) (hf : ∀ nx d h, st nx (e, d, h) = K d h) :
    ∀ (k m : Nat) (v : Int) (d : List UInt8) (h : List Bool), 0 ≤ v → v + k = e → e ≤ d.length → d.length = h.length → k < m →
      loopW st m (v, d, h) = K (d.take v.toNat ++ (List.replicate k 0 ++ d.drop (v.toNat + k))) (h.take v.toNat ++ (List.replicate k false ++ h.drop (v.toNat + k)))
  | 0, m + 1, v, d, h, h0, h1, h2, h3, h4 => by
    obtain rfl : v = e := by omega
    rw [loopW, hf]; simp
  | k + 1, m + 1, v, d, h, h0, h1, h2, h3, h4 => by
    rw [loopW, hs _ _ _ _ h0 (by omega) h2 h3, zero_loop st K hs hf k m (v + 1) _ _ (by omega) (by omega) (by rw [List.length_set]; exact h2) (by rw [List.length_set, List.length_set]; exact h3) (by omega)]
    have e0 : (v + 1).toNat = v.toNat + 1 := by omega
    have e1 : (d.set v.toNat 0).take (v.toNat + 1) = d.take v.toNat ++ [0] := by
      rw [List.take_add_one, List.getElem?_set_self (by omega), List.take_set_of_le (Nat.le_refl _)]; rfl
    have e2 : (d.set v.toNat 0).drop (v.toNat + 1 + k) = d.drop (v.toNat + (k + 1)) := by
      rw [List.drop_set_of_lt (by omega)]; congr 1; omega
    have e3 : (h.set v.toNat false).take (v.toNat + 1) = h.take v.toNat ++ [false] := by
      rw [List.take_add_one, List.getElem?_set_self (by omega), List.take_set_of_le (Nat.le_refl _)]; rfl
    have e4 : (h.set v.toNat false).drop (v.toNat + 1 + k) = h.drop (v.toNat + (k + 1)) := by
      rw [List.drop_set_of_lt (by omega)]; congr 1; omega
    rw [e0, e1, e2, e3, e4, List.append_assoc, List.append_assoc, List.replicate_succ, List.replicate_succ]; rfl
  | _, 0, _, _, _, _, _, _, _, h4 => by omega
theorem m_rzero (F : Nat) (hF : 4100 < F) {L : List Rn} {sz : Int} {D : List UInt8} {H : List Bool} (r : Rel L sz D H) (a n : Int) :
    m___tholeref05_Map__Zero F D H a n = some (mayE a n, rzD D a n, rzH H a n) := by
  have hn1 := r.g.n1; have hn0 := r.g.n0
  rw [m___tholeref05_Map__Zero, m_fits, Option.bind_some]
  unfold rzD rzH
  by_cases h1 : mayE a n = 0
  · rw [neq_f h1, cond_false]
    by_cases h2 : n = 0
    · rw [eq_t h2, cond_true, if_neg (fun h => h.2 h2), if_neg (fun h => h.2 h2), h1]
    · obtain ⟨p1, p2, p3⟩ := mayE_0 h1
      rw [eq_f h2, cond_false, if_pos ⟨h1, h2⟩, if_pos ⟨h1, h2⟩, grd_pos _ ⟨by omega, by omega⟩, m_grow F hF (by omega) p3 r.eqlen, Option.bind_some, h1]
      dsimp only
      have hlen : (grw (0 : UInt8) D (a + n).toNat).length = max D.length (a + n).toNat := grw_len ..
      have hlen2 : (grw false H (a + n).toNat).length = max H.length (a + n).toNat := grw_len ..
      have hd := r.hd; have hh := r.hh
      rw [zero_loop (e := a + n) _ (fun d h => some ((0 : Int), d, h)) (fun nx v d h q0 q1 q2 q3 => ?_) (fun nx d h => ?_) n.toNat F a _ _ p1 (by omega) (by omega) (by omega) (by omega)]
      · dsimp only
        rw [decide_eq_true q1, cond_true, grd_pos _ ⟨by omega, by omega⟩, grd_pos _ ⟨by omega, by omega⟩, grd_pos _ ⟨by omega, by omega⟩]
      · dsimp only
        rw [decide_eq_false (by omega), cond_false]
  · rw [neq_t h1, cond_true, if_neg (fun h => h1 h.1), if_neg (fun h => h1 h.1)]
theorem Rel.zr {L : List Rn} {sz : Int} {D : List UInt8} {H : List Bool} (r : Rel L sz D H) (a n : Int) : Rel (zrL L a n) (wrZ sz a n) (rzD D a n) (rzH H a n) := by
  by_cases h : mayE a n = 0 ∧ n ≠ 0
  · obtain ⟨p1, p2, p3⟩ := mayE_0 h.1
    have n0 := r.g.n0; have hd := r.hd; have hh := r.hh
    have hz : wrZ sz a n = max sz (a + n) := by unfold wrZ; rw [if_pos h]; split <;> omega
    have l1 : (grw (0 : UInt8) D (a + n).toNat).length = (wrZ sz a n).toNat := by rw [grw_len, hz]; omega
    have l2 : (grw false H (a + n).toNat).length = (wrZ sz a n).toNat := by rw [grw_len, hz]; omega
    have s1 := spl_getD (grw (0 : UInt8) D (a + n).toNat) (List.replicate n.toNat 0) a.toNat
    have s2 := spl_getD (grw false H (a + n).toNat) (List.replicate n.toNat false) a.toNat
    simp only [List.length_replicate] at s1 s2
    have gd : ∀ i : Nat, (rzD D a n).getD i 0 = if a.toNat ≤ i ∧ i < a.toNat + n.toNat then 0 else D.getD i 0 := fun i => by
      unfold rzD; rw [if_pos h]; dsimp only; rw [s1 _ _ (by rw [l1, hz]; omega), grw_getD, rep_getD]
    have gh : ∀ i : Nat, (rzH H a n).getD i false = if a.toNat ≤ i ∧ i < a.toNat + n.toNat then false else H.getD i false := fun i => by
      unfold rzH; rw [if_pos h]; dsimp only; rw [s2 _ _ (by rw [l2, hz]; omega), grw_getD, rep_getD]
    have t1 := spl_len (grw (0 : UInt8) D (a + n).toNat) (List.replicate n.toNat 0) a.toNat
    have t2 := spl_len (grw false H (a + n).toNat) (List.replicate n.toNat false) a.toNat
    simp only [List.length_replicate] at t1 t2
    refine ⟨r.g.zr a n, ?_, ?_, fun i hi => ?_, fun i hi hf => ?_⟩
    · unfold rzD; rw [if_pos h]; dsimp only; rw [t1 (by rw [l1, hz]; omega), l1]
    · unfold rzH; rw [if_pos h]; dsimp only; rw [t2 (by rw [l2, hz]; omega), l2]
    · rw [cov_zr h.1, gh, gd]
      by_cases hr : a.toNat ≤ i ∧ i < a.toNat + n.toNat
      · rw [if_pos hr, if_pos hr, if_pos (by omega)]; rfl
      · rw [if_neg hr, if_neg hr, if_neg (by omega)]
        by_cases hs : i < sz.toNat
        · exact r.hc i hs
        · rw [cov_hi r.g (by omega), List.getD_eq_getElem?_getD, List.getElem?_eq_none (by omega)]; rfl
    · rw [gh] at hf; rw [gd]
      by_cases hr : a.toNat ≤ i ∧ i < a.toNat + n.toNat
      · rw [if_pos hr]
      · rw [if_neg hr] at hf ⊢
        by_cases hs : i < sz.toNat
        · exact r.hz i hs hf
        · rw [List.getD_eq_getElem?_getD, List.getElem?_eq_none (by omega)]; rfl
  · have e1 : zrL L a n = L := if_neg h
    have e2 : rzD D a n = D := if_neg h
    have e3 : rzH H a n = H := if_neg h
    have e4 : wrZ sz a n = sz := if_neg h
    rw [e1, e2, e3, e4]; exact r

def rtD (D : List UInt8) (n : Int) : List UInt8 := if mayE 0 n = 0 then (grw 0 D n.toNat).take n.toNat else D
def rtH (H : List Bool) (n : Int) : List Bool := if mayE 0 n = 0 then (grw false H n.toNat).take n.toNat else H
theorem m_rtrunc (F : Nat) (hF : 4100 < F) {L : List Rn} {sz : Int} {D : List UInt8} {H : List Bool} (r : Rel L sz D H) (n : Int) :
    m___tholeref05_Map__Truncate F D H n = some (mayE 0 n, rtD D n, rtH H n) := by
  rw [m___tholeref05_Map__Truncate, m_fits, Option.bind_some]
  unfold rtD rtH
  by_cases h1 : mayE 0 n = 0
  · obtain ⟨p1, p2, p3⟩ := mayE_0 h1
    rw [neq_f h1, cond_false, if_pos h1, if_pos h1, m_grow F hF p2 (by omega) r.eqlen, Option.bind_some, grd_pos _ ⟨p2, by dsimp only; rw [grw_len]; omega⟩, grd_pos _ ⟨p2, by dsimp only; rw [grw_len]; omega⟩, h1]
  · rw [neq_t h1, cond_true, if_neg h1, if_neg h1]
theorem take_getD {α : Type} (d : List α) (n i : Nat) (x : α) (h : i < n) : (d.take n).getD i x = d.getD i x := by
  rw [List.getD_eq_getElem?_getD, List.getElem?_take_of_lt h, List.getD_eq_getElem?_getD]
theorem Rel.tr {L : List Rn} {sz : Int} {D : List UInt8} {H : List Bool} (r : Rel L sz D H) (n : Int) : Rel (trL L n) (trZ sz n) (rtD D n) (rtH H n) := by
  by_cases h : mayE 0 n = 0
  · obtain ⟨p1, p2, p3⟩ := mayE_0 h
    have hz : trZ sz n = n := if_pos h
    have n0 := r.g.n0; have hd := r.hd; have hh := r.hh
    have e2 : rtD D n = (grw 0 D n.toNat).take n.toNat := if_pos h
    have e3 : rtH H n = (grw false H n.toNat).take n.toNat := if_pos h
    refine ⟨r.g.tr n, ?_, ?_, fun i hi => ?_, fun i hi hf => ?_⟩
    · rw [e2, hz, List.length_take, grw_len]; omega
    · rw [e3, hz, List.length_take, grw_len]; omega
    · rw [hz] at hi
      rw [cov_tr h (by omega), e2, e3, take_getD _ _ _ _ hi, take_getD _ _ _ _ hi, grw_getD, grw_getD]
      by_cases hs : i < sz.toNat
      · exact r.hc i hs
      · rw [cov_hi r.g (by omega), List.getD_eq_getElem?_getD, List.getElem?_eq_none (by omega)]; rfl
    · rw [hz] at hi
      rw [e3, take_getD _ _ _ _ hi, grw_getD] at hf
      rw [e2, take_getD _ _ _ _ hi, grw_getD]
      by_cases hs : i < sz.toNat
      · exact r.hz i hs hf
      · rw [List.getD_eq_getElem?_getD, List.getElem?_eq_none (by omega)]; rfl
  · have e1 : trL L n = L := if_neg h
    have e2 : rtD D n = D := if_neg h
    have e3 : rtH H n = H := if_neg h
    have e4 : trZ sz n = sz := if_neg h
    rw [e1, e2, e3, e4]; exact r
theorem m_rread (F : Nat) {L : List Rn} {sz : Int} {D : List UInt8} {H : List Bool} (r : Rel L sz D H) (a n : Int) :
    m___tholeref05_Map__Read F D H a n = some (rdB L sz a n, if a < 0 ∨ n < 0 then 22 else 0) := by
  have hd := r.hd; have n1 := r.g.n1; have n0 := r.g.n0
  rw [m___tholeref05_Map__Read]
  simp only [jn]
  unfold rdB
  rw [r.bytes]
  by_cases h1 : a < 0 ∨ n < 0
  · rw [if_pos h1, if_pos h1]
    by_cases h2 : a < 0
    · rw [decide_eq_true h2]; rfl
    · rw [decide_eq_false h2, cond_false, decide_eq_true (by omega)]; rfl
  · rw [if_neg h1, if_neg h1, decide_eq_false (by omega), cond_false, decide_eq_false (by omega), cond_false]
    by_cases h3 : a ≥ (D.length : Int)
    · rw [decide_eq_true h3, cond_true, List.drop_eq_nil_of_le (by omega)]; simp
    · rw [decide_eq_false h3, cond_false, grd_pos _ ⟨by omega, by omega⟩]
      by_cases h4 : n > (D.length : Int) - a
      · rw [decide_eq_true h4, cond_true, grd_pos _ ⟨by omega, by omega⟩, grd_pos _ ⟨by omega, by omega⟩, grd_pos _ ⟨by omega, by omega⟩, grd_pos _ (by unfold App; simp only [List.length_nil, List.length_take, List.length_drop]; omega), List.nil_append, List.take_of_length_le (by rw [List.length_drop]; omega), List.take_of_length_le (by rw [List.length_drop]; omega)]
      · rw [decide_eq_false h4, cond_false, grd_pos _ ⟨by omega, by omega⟩, grd_pos _ ⟨by omega, by omega⟩, grd_pos _ ⟨by omega, by omega⟩, grd_pos _ (by unfold App; simp only [List.length_nil, List.length_take, List.length_drop]; omega), List.nil_append, show (a + n).toNat - a.toNat = n.toNat by omega]
end Go.Proofs.Ytmdfkklldbfocaa
