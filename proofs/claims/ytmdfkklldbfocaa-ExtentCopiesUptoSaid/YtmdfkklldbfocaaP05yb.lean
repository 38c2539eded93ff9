/-
  CHAPTER 05: plain facts: runs that rise and do not touch; what they cover; Write.
-/
import Derived.Test.YtmdfkklldbfocaaP05ya
set_option linter.unusedVariables false
set_option linter.unusedSimpArgs false
set_option maxRecDepth 100000
namespace Go.Proofs.Ytmdfkklldbfocaa
open Go Go.RowKit Sx

abbrev Rn := S_extent_run
/-- Runs from p on that rise and do not touch. -/
def sep : Int → List Rn → Prop
  | _, [] => True
  | p, r :: t => p ≤ r.at_ ∧ r.b ≠ [] ∧ sep (ren r + 1) t
def below (N : Int) (L : List Rn) : Prop := ∀ r ∈ L, ren r ≤ N
def at1 (r : Rn) (i : Int) : Option UInt8 := if r.at_ ≤ i then r.b[(i - r.at_).toNat]? else none
def cov : List Rn → Int → Option UInt8
  | [], _ => none
  | r :: t, i => (at1 r i).or (cov t i)

theorem sep_mono {p q : Int} (h : q ≤ p) : ∀ {L : List Rn}, sep p L → sep q L
  | [], _ => trivial
  | r :: t, ⟨h1, h2, h3⟩ => ⟨by omega, h2, h3⟩
theorem ren_gt {r : Rn} (h : r.b ≠ []) : r.at_ < ren r := by
  have := len_pos h; unfold ren; omega
theorem sep_ge {p : Int} : ∀ {L : List Rn}, sep p L → ∀ r ∈ L, p ≤ r.at_ ∧ r.b ≠ []
  | r :: t, ⟨h1, h2, h3⟩, x, hx => by
    rcases List.mem_cons.1 hx with rfl | hx
    · exact ⟨h1, h2⟩
    · have := sep_ge h3 x hx; have := ren_gt h2; exact ⟨by omega, (sep_ge h3 x hx).2⟩
theorem sep_okR {p N : Int} {L : List Rn} (h : sep p L) (hp : 0 ≤ p) (hb : below N L) (hN : N ≤ 4096) : ∀ r ∈ L, okR r := fun r hr => by
  have h1 := sep_ge h r hr; have h2 := hb r hr
  exact ⟨h1.2, by omega, by omega⟩
theorem at1_none {r : Rn} {i : Int} (h : i < r.at_ ∨ ren r ≤ i) : at1 r i = none := by
  unfold at1
  split
  · rename_i h1
    rw [List.getElem?_eq_none]; unfold ren at h; omega
  · rfl
theorem at1_in {r : Rn} {i : Int} {x : UInt8} (h : at1 r i = some x) : r.at_ ≤ i ∧ i < ren r := by
  refine ⟨?_, ?_⟩
  · refine Int.not_lt.1 fun hn => ?_
    rw [at1_none (.inl hn)] at h; cases h
  · refine Int.not_le.1 fun hn => ?_
    rw [at1_none (.inr hn)] at h; cases h
theorem at1_app (a : Int) (b c : List UInt8) (i : Int) : at1 ⟨a, b ++ c⟩ i = (at1 ⟨a, b⟩ i).or (at1 ⟨a + b.length, c⟩ i) := by
  unfold at1
  dsimp only
  by_cases h : a ≤ i
  · rw [if_pos h, if_pos h]
    by_cases h2 : (i - a).toNat < b.length
    · rw [List.getElem?_append_left h2, List.getElem?_eq_getElem h2]; rfl
    · rw [List.getElem?_append_right (by omega), List.getElem?_eq_none (l := b) (by omega), if_pos (by omega), Option.none_or]
      congr 1; omega
  · rw [if_neg h, if_neg h, if_neg (by omega)]; rfl
theorem cov_none {p i : Int} : ∀ {L : List Rn}, sep p L → i < p → cov L i = none
  | [], _, _ => rfl
  | r :: t, ⟨h1, h2, h3⟩, h => by
    have := ren_gt h2
    rw [cov, at1_none (.inl (by omega)), cov_none h3 (by omega)]; rfl
theorem cov_none' {i : Int} : ∀ {L : List Rn}, (∀ r ∈ L, i < r.at_ ∨ ren r ≤ i) → cov L i = none
  | [], _ => rfl
  | r :: t, h => by rw [cov, at1_none (h r (by simp)), cov_none' fun x hx => h x (by simp [hx])]; rfl
theorem cov_app (i : Int) : ∀ (A B : List Rn), cov (A ++ B) i = (cov A i).or (cov B i)
  | [], B => rfl
  | r :: A, B => by rw [List.cons_append, cov, cov, cov_app i A B, Option.or_assoc]

/-! ### clear -/

theorem clr1_at1 {lo hi : Int} (h : lo < hi) (r : Rn) (i : Int) : cov (clr1 lo hi r) i = if lo ≤ i ∧ i < hi then none else at1 r i := by
  unfold clr1
  by_cases h1 : ren r ≤ lo ∨ hi ≤ r.at_
  · rw [if_pos h1, cov, cov, Option.or_none]
    split
    · exact at1_none (by omega)
    · rfl
  · rw [if_neg h1, cov_app]
    have e1 : cov (if r.at_ < lo then [⟨r.at_, r.b.take (lo - r.at_).toNat⟩] else []) i = if i < lo then at1 r i else none := by
      by_cases h2 : r.at_ < lo
      · rw [if_pos h2, cov, cov, Option.or_none]
        unfold at1; dsimp only
        by_cases h3 : i < lo
        · rw [if_pos h3]
          by_cases h4 : r.at_ ≤ i
          · rw [if_pos h4, if_pos h4, List.getElem?_take_of_lt (by omega)]
          · rw [if_neg h4, if_neg h4]
        · rw [if_neg h3]; split
          · rw [List.getElem?_eq_none]; rw [List.length_take]; omega
          · rfl
      · rw [if_neg h2]
        by_cases h3 : i < lo
        · rw [if_pos h3, at1_none (.inl (by omega))]; rfl
        · rw [if_neg h3]; rfl
    have e2 : cov (if hi < ren r then [⟨hi, r.b.drop (hi - r.at_).toNat⟩] else []) i = if hi ≤ i then at1 r i else none := by
      by_cases h2 : hi < ren r
      · rw [if_pos h2, cov, cov, Option.or_none]
        unfold at1; dsimp only
        by_cases h3 : hi ≤ i
        · rw [if_pos h3, if_pos h3, if_pos (by omega), List.getElem?_drop]
          congr 1; omega
        · rw [if_neg h3, if_neg h3]
      · rw [if_neg h2]
        by_cases h3 : hi ≤ i
        · rw [if_pos h3, at1_none (.inr (by omega))]; rfl
        · rw [if_neg h3]; rfl
    rw [e1, e2]
    by_cases h3 : i < lo
    · rw [if_pos h3, if_neg (by omega), if_neg (by omega), Option.or_none]
    · rw [if_neg h3, Option.none_or]
      by_cases h4 : hi ≤ i
      · rw [if_pos h4, if_neg (by omega)]
      · rw [if_neg h4, if_pos (by omega)]
theorem cov_clr {lo hi : Int} (h : lo < hi) (i : Int) : ∀ (L : List Rn), cov (clr lo hi L) i = if lo ≤ i ∧ i < hi then none else cov L i
  | [] => by simp [clr, cov]
  | r :: t => by
    rw [show clr lo hi (r :: t) = clr1 lo hi r ++ clr lo hi t from by simp [clr], cov_app, clr1_at1 h, cov_clr h i t, cov]
    split <;> simp
theorem clr1_sep {lo hi p : Int} (h : lo < hi) {r : Rn} {M : List Rn} (hp : p ≤ r.at_) (hb : r.b ≠ []) (hM : sep (ren r + 1) M) : sep p (clr1 lo hi r ++ M) := by
  unfold clr1
  have hl := ren_gt hb
  have hlen : ren r = r.at_ + (r.b.length : Int) := rfl
  by_cases h1 : ren r ≤ lo ∨ hi ≤ r.at_
  · rw [if_pos h1]; exact ⟨hp, hb, hM⟩
  · rw [if_neg h1]
    have s2 : ∀ q : Int, q ≤ hi → sep q ((if hi < ren r then [(⟨hi, r.b.drop (hi - r.at_).toNat⟩ : Rn)] else []) ++ M) ∨ ¬ hi < ren r := fun q hq => by
      by_cases h2 : hi < ren r
      · refine .inl ?_
        rw [if_pos h2]
        refine ⟨hq, fun e => ?_, ?_⟩
        · have := congrArg List.length e; rw [List.length_drop, List.length_nil] at this; omega
        · have e : ren ⟨hi, r.b.drop (hi - r.at_).toNat⟩ = ren r := by unfold ren; dsimp only; rw [List.length_drop]; omega
          rw [e]; exact hM
      · exact .inr h2
    by_cases h2 : r.at_ < lo
    · rw [if_pos h2]
      refine ⟨hp, fun e => ?_, ?_⟩
      · have := congrArg List.length e; rw [List.length_take, List.length_nil] at this; omega
      · have e : ren ⟨r.at_, r.b.take (lo - r.at_).toNat⟩ ≤ lo := by unfold ren; dsimp only; rw [List.length_take]; omega
        rcases s2 hi (Int.le_refl _) with h3 | h3
        · exact sep_mono (by omega) h3
        · rw [if_neg h3]; exact sep_mono (by omega) hM
    · rw [if_neg h2, List.nil_append]
      by_cases h3 : hi < ren r
      · rcases s2 p (by omega) with h4 | h4
        · exact h4
        · exact absurd h3 h4
      · rw [if_neg h3]; exact sep_mono (by omega) hM
theorem sep_clr {lo hi : Int} (h : lo < hi) : ∀ {L : List Rn} {p : Int}, sep p L → sep p (clr lo hi L)
  | [], _, _ => trivial
  | r :: t, p, ⟨h1, h2, h3⟩ => by
    rw [show clr lo hi (r :: t) = clr1 lo hi r ++ clr lo hi t from by simp [clr]]
    exact clr1_sep h h1 h2 (sep_clr h h3)
theorem mem_clr {lo hi : Int} (h : lo < hi) {L : List Rn} {x : Rn} (hx : x ∈ clr lo hi L) : (ren x ≤ lo ∨ hi ≤ x.at_) ∧ ∃ r ∈ L, r.at_ ≤ x.at_ ∧ ren x ≤ ren r := by
  obtain ⟨r, hr, hx⟩ := List.mem_flatMap.1 hx
  have hlen : ren r = r.at_ + (r.b.length : Int) := rfl
  unfold clr1 at hx
  by_cases h1 : ren r ≤ lo ∨ hi ≤ r.at_
  · rw [if_pos h1] at hx
    rw [List.mem_singleton.1 hx]; exact ⟨h1, r, hr, Int.le_refl _, Int.le_refl _⟩
  · rw [if_neg h1] at hx
    rcases List.mem_append.1 hx with hx | hx
    · by_cases h2 : r.at_ < lo
      · rw [if_pos h2] at hx
        rw [List.mem_singleton.1 hx]
        have e : ren ⟨r.at_, r.b.take (lo - r.at_).toNat⟩ ≤ lo := by unfold ren; dsimp only; rw [List.length_take]; omega
        exact ⟨.inl e, r, hr, Int.le_refl _, by omega⟩
      · rw [if_neg h2] at hx; cases hx
    · by_cases h2 : hi < ren r
      · rw [if_pos h2] at hx
        rw [List.mem_singleton.1 hx]
        have e : ren ⟨hi, r.b.drop (hi - r.at_).toNat⟩ = ren r := by unfold ren; dsimp only; rw [List.length_drop]; omega
        exact ⟨.inr (Int.le_refl _), r, hr, by dsimp only; omega, by omega⟩
      · rw [if_neg h2] at hx; cases hx
theorem below_clr {lo hi N : Int} (h : lo < hi) {L : List Rn} (hb : below N L) : below N (clr lo hi L) := fun x hx => by
  obtain ⟨_, r, hr, h1, h2⟩ := mem_clr h hx
  have := hb r hr; omega

/-! ### a run is put in -/

def glue1 (r : Rn) : List Rn → List Rn
  | [] => [r]
  | x :: t => if x.at_ = ren r then ⟨r.at_, r.b ++ x.b⟩ :: t else r :: x :: t
theorem cov_glue (r : Rn) (i : Int) : ∀ L : List Rn, cov (glue1 r L) i = cov (r :: L) i
  | [] => rfl
  | x :: t => by
    rw [glue1]
    by_cases h : x.at_ = ren r
    · rw [if_pos h, cov, cov, cov, at1_app, ← Option.or_assoc]
      have : (⟨r.at_ + (r.b.length : Int), x.b⟩ : Rn) = x := by
        obtain ⟨a, b⟩ := x
        dsimp only at h; rw [h]; rfl
      rw [this]
    · rw [if_neg h]
theorem sep_glue {p : Int} {r : Rn} (hp : p ≤ r.at_) (hb : r.b ≠ []) : ∀ {L : List Rn}, sep (ren r) L → sep p (glue1 r L)
  | [], _ => ⟨hp, hb, trivial⟩
  | x :: t, ⟨h1, h2, h3⟩ => by
    rw [glue1]
    by_cases h : x.at_ = ren r
    · rw [if_pos h]
      refine ⟨hp, by simp [hb], ?_⟩
      have e : ren ⟨r.at_, r.b ++ x.b⟩ = ren x := by unfold ren at *; dsimp only; rw [List.length_append, h]; omega
      rw [e]; exact h3
    · rw [if_neg h]; exact ⟨hp, hb, by omega, h2, h3⟩
theorem below_glue {N : Int} {r : Rn} (hr : ren r ≤ N) : ∀ {L : List Rn}, below N L → below N (glue1 r L)
  | [], _ => fun x hx => by rw [List.mem_singleton.1 hx]; exact hr
  | x :: t, h => by
    rw [glue1]
    by_cases hx : x.at_ = ren r
    · rw [if_pos hx]
      intro y hy
      rcases List.mem_cons.1 hy with rfl | hy
      · have e : ren ⟨r.at_, r.b ++ x.b⟩ = ren x := by unfold ren at *; dsimp only; rw [List.length_append, hx]; omega
        rw [e]; exact h x (by simp)
      · exact h y (by simp [hy])
    · rw [if_neg hx]
      intro y hy
      rcases List.mem_cons.1 hy with rfl | hy
      · exact hr
      · exact h y hy
def ins0 (x0 : Rn) (cur : Rn) : List Rn → List Rn
  | [] => glue1 cur [x0]
  | x :: t => if x.at_ < x0.at_ then cur :: ins0 x0 x t else glue1 cur (glue1 x0 (x :: t))
def ins (x0 : Rn) : List Rn → List Rn
  | [] => [x0]
  | x :: t => if x.at_ < x0.at_ then ins0 x0 x t else glue1 x0 (x :: t)
def clear0 (x0 : Rn) (L : List Rn) : Prop := ∀ r ∈ L, ren r ≤ x0.at_ ∨ ren x0 ≤ r.at_
theorem sep_ins0 {x0 : Rn} (hx0 : x0.b ≠ []) : ∀ {L : List Rn} {cur : Rn} {p : Int}, sep p (cur :: L) → clear0 x0 (cur :: L) → cur.at_ < x0.at_ → sep p (ins0 x0 cur L)
  | [], cur, p, ⟨h1, h2, _⟩, hc, ha => by
    have := hc cur (by simp); have := ren_gt hx0
    exact sep_glue h1 h2 ⟨by omega, hx0, trivial⟩
  | x :: t, cur, p, ⟨h1, h2, h3⟩, hc, ha => by
    have c1 := hc cur (by simp); have c2 := hc x (by simp); have g0 := ren_gt hx0; have gx := ren_gt h3.2.1
    rw [ins0]
    by_cases h : x.at_ < x0.at_
    · rw [if_pos h]; exact ⟨h1, h2, sep_ins0 hx0 h3 (fun r hr => hc r (List.mem_cons_of_mem _ hr)) h⟩
    · rw [if_neg h]
      exact sep_glue h1 h2 (sep_glue (by omega) hx0 ⟨by omega, h3.2.1, h3.2.2⟩)
theorem cov_ins0 {x0 : Rn} (i : Int) : ∀ {L : List Rn} {cur : Rn}, clear0 x0 (cur :: L) → cov (ins0 x0 cur L) i = (at1 x0 i).or (cov (cur :: L) i)
  | [], cur, hc => by
    rw [ins0, cov_glue, cov, cov, cov, cov, cov, Option.or_none, Option.or_none]
    cases e : at1 x0 i with
    | none => rw [Option.none_or, Option.or_none]
    | some y =>
      have := at1_in e; have := hc cur (by simp)
      rw [at1_none (r := cur) (by omega)]; rfl
  | x :: t, cur, hc => by
    have hz : ∀ y, at1 x0 i = some y → at1 cur i = none := fun y e => by
      have := at1_in e; have := hc cur (by simp)
      exact at1_none (by omega)
    rw [ins0]
    by_cases h : x.at_ < x0.at_
    · rw [if_pos h, cov, cov_ins0 i (fun r hr => hc r (List.mem_cons_of_mem _ hr)), cov]
      cases e : at1 x0 i with
      | none => rw [Option.none_or, Option.none_or]; rfl
      | some y => rw [hz y e]; rfl
    · rw [if_neg h, cov_glue, cov, cov_glue, cov, cov]
      cases e : at1 x0 i with
      | none => rw [Option.none_or, Option.none_or]; rfl
      | some y => rw [hz y e]; rfl
theorem below_ins0 {x0 : Rn} {N : Int} (h0 : ren x0 ≤ N) : ∀ {L : List Rn} {cur : Rn}, below N (cur :: L) → below N (ins0 x0 cur L)
  | [], cur, h => below_glue (h cur (by simp)) (fun x hx => by rw [List.mem_singleton.1 hx]; exact h0)
  | x :: t, cur, h => by
    rw [ins0]
    by_cases hx : x.at_ < x0.at_
    · rw [if_pos hx]
      intro y hy
      rcases List.mem_cons.1 hy with rfl | hy
      · exact h _ (by simp)
      · exact below_ins0 h0 (fun r hr => h r (List.mem_cons_of_mem _ hr)) y hy
    · rw [if_neg hx]; exact below_glue (h cur (by simp)) (below_glue h0 fun r hr => h r (List.mem_cons_of_mem _ hr))
theorem sep_ins {x0 : Rn} (hx0 : x0.b ≠ []) {p : Int} (hp : p ≤ x0.at_) : ∀ {L : List Rn}, sep p L → clear0 x0 L → sep p (ins x0 L)
  | [], _, _ => ⟨hp, hx0, trivial⟩
  | x :: t, h, hc => by
    have c := hc x (by simp); have gx := ren_gt h.2.1; have g0 := ren_gt hx0
    rw [ins]
    by_cases hx : x.at_ < x0.at_
    · rw [if_pos hx]; exact sep_ins0 hx0 h hc hx
    · rw [if_neg hx]; exact sep_glue hp hx0 ⟨by omega, h.2.1, h.2.2⟩
theorem cov_ins {x0 : Rn} (i : Int) : ∀ {L : List Rn}, clear0 x0 L → cov (ins x0 L) i = (at1 x0 i).or (cov L i)
  | [], _ => rfl
  | x :: t, hc => by
    rw [ins]
    by_cases hx : x.at_ < x0.at_
    · rw [if_pos hx, cov_ins0 i hc]
    · rw [if_neg hx, cov_glue]; rfl
theorem below_ins {x0 : Rn} {N : Int} (h0 : ren x0 ≤ N) : ∀ {L : List Rn}, below N L → below N (ins x0 L)
  | [], _ => fun x hx => by rw [List.mem_singleton.1 hx]; exact h0
  | x :: t, h => by
    rw [ins]
    by_cases hx : x.at_ < x0.at_
    · rw [if_pos hx]; exact below_ins0 h0 h
    · rw [if_neg hx]; exact below_glue h0 h
end Go.Proofs.Ytmdfkklldbfocaa
