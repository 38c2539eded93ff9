/-
  CHAPTER 05: plain facts: ExtentRuns on its model.
-/
import Derived.Test.YtmdfkklldbfocaaP05d
set_option linter.unusedVariables false
set_option linter.unusedSimpArgs false
set_option maxRecDepth 100000
namespace Go.Proofs.Ytmdfkklldbfocaa
open Go Go.RowKit Sx

theorem loopL_inv {α σ ρ : Type} (I : σ → Prop) (r : Option ρ) (st : (σ → Option ρ) → Nat → α → σ → Option ρ) (fin : Nat → σ → Option ρ)
    (hs : ∀ nx c x s, I s → ∃ s', I s' ∧ st nx c x s = nx s') (hf : ∀ c s, I s → fin c s = r) : ∀ (l : List α) (c : Nat) (s : σ), I s → loopL st fin l c s = r
  | [], c, s, h => hf c s h
  | x :: l, c, s, h => by
    obtain ⟨s', h1, h2⟩ := hs (fun s' => loopL st fin l (c + 1) s') c x s h
    rw [loopL, h2]
    exact loopL_inv I r st fin hs hf l (c + 1) s' h1

theorem set_loop {ρ : Type} {a : Int} (ha : 0 ≤ a) (K : List UInt8 → Option ρ) (st : (List UInt8 → Option ρ) → Nat → UInt8 → List UInt8 → Option ρ) (fin : Nat → List UInt8 → Option ρ)
    (hs : ∀ nx c x d, a.toNat + c < d.length → d.length ≤ 4096 → st nx c x d = nx (d.set (a + (c : Int)).toNat x)) (hf : ∀ c d, fin c d = K d) :
    ∀ (b : List UInt8) (c : Nat) (d : List UInt8), a.toNat + c + b.length ≤ d.length → d.length ≤ 4096 → loopL st fin b c d = K (d.take (a.toNat + c) ++ (b ++ d.drop (a.toNat + c + b.length)))
  | [], c, d, h, h2 => by rw [loopL, hf, List.nil_append, List.length_nil, Nat.add_zero, List.take_append_drop]
  | x :: t, c, d, h, h2 => by
    simp only [List.length_cons] at h
    have e : (a + (c : Int)).toNat = a.toNat + c := by omega
    rw [loopL, hs _ _ _ _ (by omega) h2, set_loop ha K st fin hs hf t (c + 1) _ (by rw [List.length_set]; omega) (by rw [List.length_set]; exact h2), e]
    congr 1
    generalize hp : a.toNat + c = p at h
    have e1 : (d.set p x).take (a.toNat + (c + 1)) = d.take p ++ [x] := by
      rw [show a.toNat + (c + 1) = p + 1 by omega, List.take_add_one, List.getElem?_set_self (by omega), List.take_set_of_le (Nat.le_refl _)]; rfl
    have e2 : (d.set p x).drop (a.toNat + (c + 1) + t.length) = d.drop (p + (x :: t).length) := by
      rw [List.drop_set_of_lt (by omega), List.length_cons]; congr 1; omega
    rw [e1, e2, List.append_assoc]; rfl

theorem law_runs (F : Nat) (hF : 4100 < F) (a0 : List S_tholelaw05_Act) (ha : Len a0.length) : m_tholelaw05_ExtentRuns F a0 = some true := by
  rw [m_tholelaw05_ExtentRuns, m_extent_New, Option.bind_some, grd_pos _ ha]
  refine loopL_inv (fun s : Int × List Rn => Gd5 s.2 s.1) (some true) _ _ (fun nx c x s g => ?_) (fun c s g => ?_) a0 0 (0, []) Gd5.nil
  · obtain ⟨sz, L⟩ := s
    dsimp only at g ⊢
    by_cases h0 : x.Kind = 0
    · refine ⟨(wrZ sz x.A x.Data.length, wrL L x.A x.Data), g.wr _ _, ?_⟩
      rw [eq_t h0, cond_true, m_write F hF g, Option.bind_some]
    · rw [eq_f h0, cond_false]
      by_cases h1 : x.Kind = 1
      · refine ⟨(wrZ sz x.A x.B, zrL L x.A x.B), g.zr _ _, ?_⟩
        rw [eq_t h1, cond_true, m_zero F hF g, Option.bind_some]
      · rw [eq_f h1, cond_false]
        by_cases h2 : x.Kind = 2
        · refine ⟨(trZ sz x.A, trL L x.A), g.tr _, ?_⟩
          rw [eq_t h2, cond_true, m_trunc F hF g, Option.bind_some]
        · exact ⟨(sz, L), g, by rw [eq_f h2, cond_false]⟩
  · obtain ⟨sz, L⟩ := s
    dsimp only at g ⊢
    have h0 := g.n0; have h1 := g.n1
    rw [m___extent_Map__Size, m___extent_Map__is, Option.bind_some, Option.bind_some, grd_pos _ h0, grd_pos _ (by omega), grd_pos _ (by unfold Len; omega), m_extents F hF g, Option.bind_some,
      m_iter F _ _ g.len g.blen (fun t r => (0, (lay1 t.2.1 r, ren r))) (fun t l => t.1 = 0 ∧ t.2.1.length = sz.toNat ∧ sep (t.2.2 + 1) l ∧ okD sz.toNat l) (fun t r l hi => ?_) (show (0 : Nat) = 0 ∧ (List.replicate sz.toNat (0 : UInt8)).length = sz.toNat ∧ sep (-1 + 1) L ∧ okD sz.toNat L from ⟨rfl, List.length_replicate, g.s, g.okD⟩), Option.bind_some]
    · have key : ∀ (l : List Rn) (t : Nat × List UInt8 × Int), t.1 = 0 → (l.foldl (fun t r => ((0 : Nat), (lay1 t.2.1 r, ren r))) t).1 = 0 ∧ (l.foldl (fun t r => ((0 : Nat), (lay1 t.2.1 r, ren r))) t).2.1 = lay t.2.1 l := by
        intro l
        induction l with
        | nil => intro t h; exact ⟨h, rfl⟩
        | cons r l ih => intro t h; exact ih _ rfl
      obtain ⟨k1, k2⟩ := key L (0, (List.replicate sz.toNat 0, -1)) rfl
      rw [k1, k2, m_bytes F hF g]
      dsimp only [Option.bind_some]
      rw [show ((0 : Nat) == 0) = true from rfl, cond_true, m_same, Option.bind_some, decide_eq_true (show lay (List.replicate sz.toNat 0) L = bytes5 L sz from rfl), cond_true, m_lives, Option.bind_some]
    · obtain ⟨t1, d, la⟩ := t
      obtain ⟨e1, e2, e3, e4⟩ := hi
      dsimp only at e1 e2 e3 ⊢
      subst e1
      obtain ⟨q1, q2, q3⟩ := e4 r (by simp)
      have q4 := len_pos q1
      have q5 : ren r = r.at_ + (r.b.length : Int) := rfl
      refine ⟨?_, rfl, by rw [lay1_len q2 (by omega)]; exact e2, e3.2.2, fun x hx => e4 x (by simp [hx])⟩
      have e5 := e3.1
      simp only [jn]
      rw [grd_pos _ trivial, eq_f (by omega), cond_false, decide_eq_false (by omega), cond_false, grd_pos _ ⟨by omega, by omega⟩, decide_eq_false (by omega), cond_false, grd_pos _ (by unfold Len; omega)]
      rw [set_loop q2 (fun d' => some (true, ((0 : Nat), (d', r.at_ + (r.b.length : Int))))) _ _ (fun nx c x d hc hd => ?_) (fun c d' => ?_) r.b 0 d (by omega) (by omega)]
      · rw [Nat.add_zero]; rfl
      · rw [grd_pos _ ⟨by omega, by omega⟩, grd_pos _ ⟨by omega, by omega⟩]
      · rw [grd_pos _ ⟨by omega, by omega⟩]
end Go.Proofs.Ytmdfkklldbfocaa
