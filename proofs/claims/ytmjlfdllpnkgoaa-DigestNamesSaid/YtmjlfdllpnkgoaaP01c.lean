/-
  CHAPTER 01: plain facts on the models: the hash of a name.
-/
import Derived.Test.YtmjlfdllpnkgoaaP01b
set_option linter.unusedVariables false
set_option linter.unusedSimpArgs false
set_option maxRecDepth 1000000
namespace Go.Proofs.Ytmjlfdllpnkgoaa
open Go Go.RowKit Sx

theorem bts_ext (s : ByteArray) (a b : Nat) : bts (s.extract a b) = ((bts s).drop a).take (b - a) := by
  simp [bts, ByteArray.data_extract, List.extract_eq_take_drop]
theorem ext_size (s : ByteArray) (a b : Nat) : (s.extract a b).size = min b s.size - a := by simp

theorem loop_two {σ ρ : Type} (P : σ → Prop) (m : σ → Nat) (st1 st2 : (σ → Option ρ) → σ → Option ρ)
    (hs : ∀ nx1 nx2 s, P s → (∃ s', P s' ∧ m s' < m s ∧ st1 nx1 s = nx1 s' ∧ st2 nx2 s = nx2 s') ∨ (∃ r, st1 nx1 s = some r ∧ st2 nx2 s = some r)) :
    ∀ (n : Nat) (s : σ), m s < n → P s → ∃ r, loopW st1 n s = some r ∧ loopW st2 n s = some r
  | 0, s, h, _ => by omega
  | n + 1, s, h, hp => by
    rw [loopW, loopW]
    rcases hs (fun s' => loopW st1 n s') (fun s' => loopW st2 n s') s hp with ⟨s', h1, h2, e1, e2⟩ | h
    · rw [e1, e2]; exact loop_two P m st1 st2 hs n s' (by omega) h1
    · exact h

theorem jn_at {σ ρ : Type} {k : σ → Option ρ} {b : (σ → Option ρ) → Option ρ} {s : σ} (h : ∀ J, b J = J s) : jn k b = k s := h k

def R32 (x : Int) : Prop := 0 ≤ x ∧ x < 4294967296
theorem wrap_r (x : Int) : R32 (IntKind.u32.wrap x) := wrap_u32_range x
theorem ixor_r (x y : Int) : R32 (ixor .u32 x y) := wrap_u32_range _
theorem mix_r {F : Nat} {t r : S_tholeref01_Three} (h : m_tholeref01_Mix F t = some r) : R32 r.A ∧ R32 r.B ∧ R32 r.C := by
  rw [m_tholeref01_Mix] at h
  refine bnd_elim h (fun y1 h1 h => ?_)
  refine bnd_elim h (fun y2 h2 h => ?_)
  refine bnd_elim h (fun y3 h3 h => ?_)
  refine bnd_elim h (fun y4 h4 h => ?_)
  refine bnd_elim h (fun y5 h5 h => ?_)
  refine bnd_elim h (fun y6 h6 h => ?_)
  obtain rfl := Option.some.inj h
  exact ⟨by rw [← Option.some.inj h5]; exact ixor_r _ _, by rw [← Option.some.inj h6]; exact ixor_r _ _, ixor_r _ _⟩

theorem m_four0 (F : Nat) (s : ByteArray) (h : s.size ≤ 4) : m_tholeref01_four F s 0 = some ((W (bts s) : Nat) : Int) := by
  have := m_four F s 0 (by omega)
  rw [Nat.pow_zero, Nat.mul_one] at this
  exact this
theorem m_four8 (F : Nat) (s : ByteArray) (h : s.size ≤ 3) : m_tholeref01_four F s 8 = some ((W (bts s) * 256 : Nat) : Int) := m_four F s 8 (by omega)
theorem m_cut4 (F : Nat) (s : ByteArray) : m_tholeref01_cut F s 4 = some (s.extract 0 (min 4 s.size), s.extract (min 4 s.size) s.size) := by
  simp only [m_tholeref01_cut, jn]
  by_cases h : (4 : Int) > ((s.size : Nat) : Int)
  · rw [decide_eq_true h, cond_true, grd_pos _ (by unfold Bd; omega), show Int.toNat ((s.size : Nat) : Int) = min 4 s.size by omega]
  · rw [decide_eq_false h, cond_false, grd_pos _ (by unfold Bd; omega), show Int.toNat (4 : Int) = min 4 s.size by omega]

theorem W_small (l : List UInt8) (h : l.length ≤ 4) : W l < 4294967296 := Nat.lt_of_lt_of_le (W_lt l) (Nat.le_trans (Nat.pow_le_pow_right (by decide) h) (by decide))

theorem m_name (F : Nat) (e : S_digest_Engine) (s0 : ByteArray) (hF : s0.size < F) : ∃ r, m___digest_Engine__Name F e s0 = some r ∧ m_tholeref01_Name F s0 = some r := by
  simp only [m___digest_Engine__Name, m_tholeref01_Name]
  refine loop_two (fun s : ByteArray × Int × Int × Int => R32 s.2.1 ∧ R32 s.2.2.1 ∧ R32 s.2.2.2) (fun s => s.1.size) _ _ (fun nx1 nx2 s hP => ?_) F (s0, 2654435769, 2654435769, 0) hF ⟨⟨by simp, by simp⟩, ⟨by simp, by simp⟩, ⟨by simp, by simp⟩⟩
  obtain ⟨s, a, b, c⟩ := s
  obtain ⟨ha, hb, hc⟩ := hP
  dsimp only at ha hb hc ⊢
  have hl := bts_len s
  by_cases h12 : s.size ≥ 12
  · left
    have q1 : bts (s.extract 0 4) = (bts s).take 4 := by rw [bts_ext, List.drop_zero]
    have q2 : bts (s.extract 4 8) = ((bts s).drop 4).take 4 := by rw [bts_ext]
    have q3 : bts (s.extract 8 12) = ((bts s).drop 8).take 4 := by rw [bts_ext]
    have tk : ∀ l : List UInt8, (l.take 4).take 4 = l.take 4 := fun l => by rw [List.take_take]; congr 1
    obtain ⟨t, ht⟩ := mix_ex F (S_tholeref01_Three.mk (IntKind.u32.wrap (a + ((W ((bts s).take 4) : Nat) : Int))) (IntKind.u32.wrap (b + ((W (((bts s).drop 4).take 4) : Nat) : Int))) (IntKind.u32.wrap (c + ((W (((bts s).drop 8).take 4) : Nat) : Int))))
    refine ⟨(s.extract 12 s.size, t.A, t.B, t.C), mix_r ht, by dsimp only; rw [ext_size]; omega, ?_, ?_⟩
    · rw [decide_eq_true (by omega), cond_true, grd_pos _ (by omega), m_word, Option.bind_some, grd_pos _ (by omega), grd_pos _ (by omega), m_word, Option.bind_some, grd_pos _ (by omega), grd_pos _ (by omega), m_word, Option.bind_some, q1, q2, q3, tk, tk, tk, m_trio' ht, Option.bind_some]
    · rw [decide_eq_true (by omega), cond_true, grd_pos _ (by omega), m_four0 _ _ (by rw [ext_size]; omega), Option.bind_some, grd_pos _ (by omega), grd_pos _ (by omega), m_four0 _ _ (by rw [ext_size]; omega), Option.bind_some, grd_pos _ (by omega), grd_pos _ (by omega), m_four0 _ _ (by rw [ext_size]; omega), Option.bind_some, q1, q2, q3, ht, Option.bind_some]
  · right
    have z : ∀ x : Int, R32 x → IntKind.u32.wrap (x + ((W [] : Nat) : Int)) = x := fun x hx => by rw [show x + ((W [] : Nat) : Int) = x by simp [W], wrap_u32 hx.1 hx.2]
    obtain ⟨t, ht⟩ := mix_ex F (S_tholeref01_Three.mk (IntKind.u32.wrap (a + ((W ((bts s).take 4) : Nat) : Int))) (IntKind.u32.wrap (b + ((W (((bts s).drop 4).take 4) : Nat) : Int))) (IntKind.u32.wrap ((IntKind.u32.wrap (c + (IntKind.u32.wrap ((s0.size : Nat) : Int)))) + ((W ((bts s).drop 8) * 256 : Nat) : Int))))
    refine ⟨t.C, ?_, ?_⟩
    · rw [decide_eq_false (by omega), cond_false]
      have e1 : ∀ J : Int → Option Int, (bif decide (((s.size : Nat) : Int) > 0) then (m_digest_word F (s.extract 0 s.size)).bind (fun y116 => J (IntKind.u32.wrap (a + y116))) else J a) = J (IntKind.u32.wrap (a + ((W ((bts s).take 4) : Nat) : Int))) := fun J => by
        by_cases h : s.size > 0
        · rw [decide_eq_true (by omega), cond_true, m_word, Option.bind_some, bts_ext, List.drop_zero, Nat.sub_zero, ← hl, List.take_length]
        · rw [decide_eq_false (by omega), cond_false, show (bts s).take 4 = [] from List.eq_nil_of_length_eq_zero (by rw [List.length_take]; omega), z a ha]
      have e2 : ∀ J : Int → Option Int, (bif decide (((s.size : Nat) : Int) > 4) then grd (4 ≤ s.size) ((m_digest_word F (s.extract 4 s.size)).bind (fun y133 => J (IntKind.u32.wrap (b + y133)))) else J b) = J (IntKind.u32.wrap (b + ((W (((bts s).drop 4).take 4) : Nat) : Int))) := fun J => by
        by_cases h : s.size > 4
        · rw [decide_eq_true (by omega), cond_true, grd_pos _ (by omega), m_word, Option.bind_some, bts_ext, List.take_of_length_le (i := s.size - 4) (by rw [List.length_drop]; omega)]
        · rw [decide_eq_false (by omega), cond_false, show ((bts s).drop 4).take 4 = [] from List.eq_nil_of_length_eq_zero (by rw [List.length_take, List.length_drop]; omega), z b hb]
      have e3 : ∀ (x y : Int) (J : Int × Int × Int → Option Int), (bif decide (((s.size : Nat) : Int) > 8) then grd (8 ≤ s.size) ((m_digest_word F (s.extract 8 s.size)).bind (fun y150 => J (x, y, (IntKind.u32.wrap ((IntKind.u32.wrap (c + (IntKind.u32.wrap ((s0.size : Nat) : Int)))) + (IntKind.u32.wrap (y150 * 2 ^ 8))))))) else J (x, y, (IntKind.u32.wrap (c + (IntKind.u32.wrap ((s0.size : Nat) : Int)))))) = J (x, y, IntKind.u32.wrap ((IntKind.u32.wrap (c + (IntKind.u32.wrap ((s0.size : Nat) : Int)))) + ((W ((bts s).drop 8) * 256 : Nat) : Int))) := fun x y J => by
        by_cases h : s.size > 8
        · have hw := W_lt ((bts s).drop 8)
          have hp : 256 ^ ((bts s).drop 8).length ≤ 16777216 := Nat.le_trans (Nat.pow_le_pow_right (by decide) (show ((bts s).drop 8).length ≤ 3 by rw [List.length_drop]; omega)) (by decide)
          rw [decide_eq_true (by omega), cond_true, grd_pos _ (by omega), m_word, Option.bind_some, bts_ext, List.take_of_length_le (i := s.size - 8) (by rw [List.length_drop]; omega), List.take_of_length_le (i := 4) (by rw [List.length_drop]; omega)]
          rw [show ((W ((bts s).drop 8) : Nat) : Int) * 2 ^ 8 = ((W ((bts s).drop 8) * 256 : Nat) : Int) by push_cast; rfl, wrap_u32 (x := ((W ((bts s).drop 8) * 256 : Nat) : Int)) (by omega) (by omega)]
        · rw [decide_eq_false (by omega), cond_false, show (bts s).drop 8 = [] from List.eq_nil_of_length_eq_zero (by rw [List.length_drop]; omega)]
          have := z _ (wrap_r (c + (IntKind.u32.wrap ((s0.size : Nat) : Int))))
          rw [show ((W [] * 256 : Nat) : Int) = ((W [] : Nat) : Int) from rfl, this]
      refine (jn_at (s := (IntKind.u32.wrap (a + ((W ((bts s).take 4) : Nat) : Int)), IntKind.u32.wrap (b + ((W (((bts s).drop 4).take 4) : Nat) : Int)), IntKind.u32.wrap ((IntKind.u32.wrap (c + (IntKind.u32.wrap ((s0.size : Nat) : Int)))) + ((W ((bts s).drop 8) * 256 : Nat) : Int)))) (fun J => ?_)).trans ?_
      · rw [jn_at e1, jn_at e2]
        exact e3 _ _ J
      · dsimp only
        rw [m_trio' ht, Option.bind_some]
    · rw [decide_eq_false (by omega), cond_false, m_cut4, Option.bind_some]
      dsimp only
      rw [m_cut4, Option.bind_some]
      dsimp only
      rw [m_four0 _ _ (by rw [ext_size]; omega), Option.bind_some, m_four0 _ _ (by rw [ext_size]; omega), Option.bind_some, m_four8 _ _ (by rw [ext_size, ext_size]; omega), Option.bind_some]
      have p1 : bts (s.extract 0 (min 4 s.size)) = (bts s).take 4 := by
        rw [bts_ext, List.drop_zero, Nat.sub_zero]
        by_cases h : s.size ≤ 4
        · rw [List.take_of_length_le (by omega), List.take_of_length_le (by omega)]
        · rw [show min 4 s.size = 4 by omega]
      have p2 : bts (s.extract (min 4 s.size) s.size) = (bts s).drop 4 := by
        rw [bts_ext, List.take_of_length_le (by rw [List.length_drop]; omega)]
        by_cases h : s.size ≤ 4
        · rw [List.drop_of_length_le (by omega), List.drop_of_length_le (by omega)]
        · rw [show min 4 s.size = 4 by omega]
      have l2 : ((bts s).drop 4).length = (s.extract (min 4 s.size) s.size).size := by rw [← p2, bts_len]
      have p3 : bts ((s.extract (min 4 s.size) s.size).extract 0 (min 4 (s.extract (min 4 s.size) s.size).size)) = ((bts s).drop 4).take 4 := by
        rw [bts_ext, List.drop_zero, Nat.sub_zero, p2, ← l2]
        by_cases h : ((bts s).drop 4).length ≤ 4
        · rw [List.take_of_length_le (by omega), List.take_of_length_le (by omega)]
        · rw [show min 4 ((bts s).drop 4).length = 4 by omega]
      have p4 : bts ((s.extract (min 4 s.size) s.size).extract (min 4 (s.extract (min 4 s.size) s.size).size) (s.extract (min 4 s.size) s.size).size) = (bts s).drop 8 := by
        rw [bts_ext, p2, ← l2, List.take_of_length_le (by rw [List.length_drop]; omega)]
        by_cases h : ((bts s).drop 4).length ≤ 4
        · rw [List.drop_of_length_le (by omega), List.drop_of_length_le (l := bts s) (by rw [List.length_drop] at h; omega)]
        · rw [show min 4 ((bts s).drop 4).length = 4 by omega, List.drop_drop]
      rw [p1, p3, p4, ht, Option.bind_some]

theorem law_names (s : ByteArray) : m_tholelaw01_DigestNames (s.size + 1000) s = some true := by
  simp only [m_tholelaw01_DigestNames]
  rw [show m_digest_New (s.size + 1000) = some _ from rfl, Option.bind_some]
  obtain ⟨r, h1, h2⟩ := m_name (s.size + 1000) _ s (by omega)
  rw [h1, h2, Option.bind_some, Option.bind_some, beq_self_eq_true, cond_true, livesN, Option.bind_some]

end Go.Proofs.Ytmjlfdllpnkgoaa
