/-
  CHAPTER 05: plain facts: ExtentActs and ExtentCopies on their models.
-/
import Derived.Test.YtmdfkklldbfocaaP05ye
set_option linter.unusedVariables false
set_option linter.unusedSimpArgs false
set_option maxRecDepth 100000
namespace Go.Proofs.Ytmdfkklldbfocaa
open Go Go.RowKit Sx

theorem iter_stop {Ty : Type} (F : Nat) (ky : Ty → Int × List UInt8 → Option (Bool × Ty)) (s y : Ty) {r : Rn} {t : List Rn} (hl : (r :: t).length ≤ 4096) (hb : r.b.length ≤ 4096) (h : ky s (r.at_, r.b) = some (false, y)) :
    m___extent_Map__Extents_1 F ky s (r :: t) = some y := by
  rw [m___extent_Map__Extents_1, grd_pos _ (by unfold Len; omega), loopL, grd_pos _ (by unfold App; omega), h]; rfl
/-- A loop that only writes over a list. -/
theorem burn {ρ : Type} {z : UInt8} (r : Option ρ) (st : (List UInt8 → Option ρ) → Nat → List UInt8 → Option ρ) (fin : Nat → List UInt8 → Option ρ) (hs : ∀ nx c l, c < l.length → st nx c l = nx (l.set c z)) (hf : ∀ c l, fin c l = r) :
    ∀ (n c : Nat) (l : List UInt8), c + n ≤ l.length → loopC st fin n c l = r
  | 0, c, l, _ => hf c l
  | n + 1, c, l, h => by rw [loopC, hs _ _ _ (by omega)]; exact burn r st fin hs hf n (c + 1) _ (by rw [List.length_set]; omega)

theorem at_mid {L A t : List Rn} {r : Rn} (h : L = A ++ r :: t) : A.length < (L.map cv).length ∧ (L.map cv).getD A.length dS_tholeref05_Run = cv r := by
  subst h
  refine ⟨by simp, ?_⟩
  rw [List.getD_eq_getElem?_getD, List.getElem?_map, List.getElem?_append_right (Nat.le_refl _), Nat.sub_self]; rfl
theorem m_lruns (F : Nat) (hF : 4100 < F) {L : List Rn} {sz : Int} {D : List UInt8} {H : List Bool} (r : Rel L sz D H) : m_tholelaw05_runs F L sz D H = some true := by
  have hlen := r.g.len; have hbl := r.g.blen
  have hfold : ∀ (l : List Rn) (t : Nat × Nat), t.1 = 0 → l.foldl (fun (t : Nat × Nat) (_ : Rn) => ((0 : Nat), t.2 + 1)) t = (0, t.2 + l.length) := by
    intro l
    induction l with
    | nil => intro t h; obtain ⟨a, b⟩ := t; dsimp only at h; subst h; rfl
    | cons x l ih => intro t h; rw [List.foldl_cons, ih _ rfl, List.length_cons]; congr 1; omega
  rw [m_tholelaw05_runs, m_extents F hF r.g, Option.bind_some, m_runs F r, Option.bind_some]
  cases L with
  | nil => rfl
  | cons x l =>
    rw [iter_stop F _ _ (2, 1) hlen (hbl x (by simp)) ?_, Option.bind_some]
    · dsimp only
      rw [show ((2 : Nat) == 0) = false from rfl, cond_false, show ((2 : Nat) == 1) = false from rfl, cond_false]
      rw [m_iter F _ _ hlen hbl (fun (t : Nat × Nat) (_ : Rn) => ((0 : Nat), t.2 + 1)) (fun t q => t.1 = 0 ∧ ∃ A, x :: l = A ++ q ∧ t.2 = A.length) (fun t y q hi => ?_) ⟨rfl, [], rfl, rfl⟩, Option.bind_some, hfold _ _ rfl]
      · dsimp only
        rw [show ((0 : Nat) == 0) = true from rfl, cond_true, neq_f (by rw [List.length_map]; simp), cond_false]
      · obtain ⟨h1, A, h2, h3⟩ := hi
        obtain ⟨t1, c⟩ := t
        dsimp only at h1 h3; subst h1; subst h3
        obtain ⟨q1, q2⟩ := at_mid h2
        have hb := hbl y (by rw [h2]; simp)
        refine ⟨?_, rfl, A ++ [y], by rw [h2]; simp, by simp⟩
        simp only [jn]
        rw [grd_pos _ trivial, grd_pos _ q1, decide_eq_false (by omega), cond_false, q2, neq_f (show y.at_ = (cv y).At from rfl), cond_false, m_same, Option.bind_some, decide_eq_true (show y.b = (cv y).B from rfl), Bool.not_true, cond_false, grd_pos _ (by omega),
          burn (z := 5) (some (true, ((0 : Nat), A.length + 1))) _ _ (fun nx c l h => grd_pos _ h) (fun c l => ?_) _ _ _ (by omega)]
        rw [grd_pos _ (by unfold Len; simp only [List.length_map] at q1; omega)]
    · obtain ⟨q1, q2⟩ := at_mid (L := x :: l) (A := []) rfl
      have hb := hbl x (by simp)
      simp only [List.length_nil] at q1 q2
      simp only [jn]
      rw [grd_pos _ trivial, grd_pos _ q1, decide_eq_false (by omega), cond_false, q2, neq_f (show x.at_ = (cv x).At from rfl), cond_false, m_same, Option.bind_some, decide_eq_true (show x.b = (cv x).B from rfl), Bool.not_true, cond_false, grd_pos _ (by omega),
        burn (z := 5) (some (false, ((2 : Nat), 1))) _ _ (fun nx c l h => grd_pos _ h) (fun c l => ?_) _ _ _ (by omega)]
      rw [grd_pos _ (by unfold Len; omega)]; rfl

/-! ### Lent bytes -/

theorem set_gen {ρ : Type} (p0 : Nat) (st : (List UInt8 → Option ρ) → Nat → UInt8 → List UInt8 → Option ρ) (fin : Nat → List UInt8 → Option ρ) (hs : ∀ nx c x d, p0 + c < d.length → st nx c x d = nx (d.set (p0 + c) x)) :
    ∀ (b : List UInt8) (c : Nat) (d : List UInt8), p0 + c + b.length ≤ d.length → loopL st fin b c d = fin (c + b.length) (d.take (p0 + c) ++ (b ++ d.drop (p0 + c + b.length)))
  | [], c, d, h => by rw [loopL, List.nil_append, List.length_nil, Nat.add_zero, Nat.add_zero, List.take_append_drop]
  | x :: t, c, d, h => by
    simp only [List.length_cons] at h
    rw [loopL, hs _ _ _ _ (by omega), set_gen p0 st fin hs t (c + 1) _ (by rw [List.length_set]; omega)]
    generalize hp : p0 + c = p at h
    have e1 : (d.set p x).take (p0 + (c + 1)) = d.take p ++ [x] := by
      rw [show p0 + (c + 1) = p + 1 by omega, List.take_add_one, List.getElem?_set_self (by omega), List.take_set_of_le (Nat.le_refl _)]; rfl
    have e2 : (d.set p x).drop (p0 + (c + 1) + t.length) = d.drop (p + (x :: t).length) := by
      rw [List.drop_set_of_lt (by omega), List.length_cons]; congr 1; omega
    rw [e1, e2, List.append_assoc, List.length_cons, show c + 1 + t.length = c + (t.length + 1) by omega]; rfl
theorem lend0 (n : Nat) : ((List.replicate (n + 2) (0 : UInt8)).set 0 165).set (n + 1) 90 = 165 :: (List.replicate n 0 ++ [90]) := by
  rw [List.replicate_succ, List.set_cons_zero, List.set_cons_succ, List.replicate_succ', List.set_append_right _ _ (by rw [List.length_replicate]; exact Nat.le_refl _), List.length_replicate, Nat.sub_self]; rfl
theorem m_lend (F : Nat) {a : List UInt8} (h : a.length ≤ 1048576) : m_tholeref01_Lend F a = some (165 :: (a ++ [90])) := by
  rw [m_tholeref01_Lend, grd_pos _ (by unfold Len; omega), grd_pos _ (by omega), grd_pos _ (by unfold Len; omega), grd_pos _ (by rw [List.length_replicate]; omega), grd_pos _ (by rw [List.length_set, List.length_replicate]; omega), grd_pos _ (by unfold Len; omega), lend0,
    set_gen 1 _ _ (fun nx c x d hd => ?_) a 0 _ (by simp; omega)]
  · have e : (165 :: (List.replicate a.length (0 : UInt8) ++ [90])).take (1 + 0) ++ (a ++ (165 :: (List.replicate a.length (0 : UInt8) ++ [90])).drop (1 + 0 + a.length)) = 165 :: (a ++ [90]) := by
      have e1 : (165 :: (List.replicate a.length (0 : UInt8) ++ [90])).drop (1 + 0 + a.length) = [90] := by
        rw [show 1 + 0 + a.length = a.length + 1 by omega, List.drop_succ_cons, List.drop_append_of_le_length (by rw [List.length_replicate]; exact Nat.le_refl _), List.drop_eq_nil_of_le (by rw [List.length_replicate]; exact Nat.le_refl _)]; rfl
      rw [e1]; rfl
    rw [e, grd_pos _ (by simp), grd_pos _ (by omega)]
  · rw [grd_pos _ (by omega), show c + 1 = 1 + c by omega]
theorem m_kept (F : Nat) {a : List UInt8} (h : a.length ≤ 1048576) : m_tholeref01_Kept F (165 :: (a ++ [90])) a = some true := by
  have hl : (165 :: (a ++ [(90 : UInt8)])).length = a.length + 2 := by simp
  have h1 : (165 :: (a ++ [(90 : UInt8)])).getD (a.length + 1) 0 = 90 := by
    rw [List.getD_eq_getElem?_getD, List.getElem?_cons_succ, List.getElem?_append_right (Nat.le_refl _), Nat.sub_self]; rfl
  have h0 : (165 :: (a ++ [(90 : UInt8)])).getD 0 0 = 165 := rfl
  have h2 : ((165 :: (a ++ [(90 : UInt8)])).drop 1).take ((a.length + 1) - 1) = a := by simp
  rw [m_tholeref01_Kept, grd_pos _ (by unfold Len; omega), hl, eq_t rfl, cond_true, grd_pos _ (by omega), h0, eq_t (show (((165 : UInt8).toNat : Nat) : Int) = 165 from rfl), cond_true, grd_pos _ (by unfold Len; omega), grd_pos _ (by omega), h1, eq_t (show (((90 : UInt8).toNat : Nat) : Int) = 90 from rfl), cond_true, grd_pos _ (by omega), grd_pos _ (by omega), h2, beq_self_eq_true]

theorem m_act (F : Nat) (hF : 4100 < F) {L : List Rn} {sz : Int} {D : List UInt8} {H : List Bool} (r : Rel L sz D H) {K A B : Int} {x : List UInt8} (hx : x.length ≤ 1048576) :
    ∃ (L' : List Rn) (sz' : Int) (D' : List UInt8) (H' : List Bool), m_tholelaw05_act F L sz D H K A B x = some (true, L', sz', D', H') ∧ Rel L' sz' D' H' := by
  rw [m_tholelaw05_act]
  by_cases h0 : K = 0
  · refine ⟨_, _, _, _, ?_, r.wr A x⟩
    have h2 : ((165 :: (x ++ [(90 : UInt8)])).drop 1).take ((x.length + 1) - 1) = x := by simp
    rw [eq_t h0, cond_true, m_lend F hx, Option.bind_some, grd_pos _ (by simp), grd_pos _ (by omega), h2, m_write F hF r.g, Option.bind_some, m_kept F hx, Option.bind_some, grd_pos _ (by omega)]
    refine burn (z := 7) _ _ _ (fun nx c l h => grd_pos _ h) (fun c l => ?_) _ _ _ (by omega)
    rw [cond_true, m_rwrite F hF r, Option.bind_some]
    dsimp only
    rw [eq_t rfl]
  · rw [eq_f h0, cond_false]
    by_cases h1 : K = 1
    · refine ⟨_, _, _, _, ?_, r.zr A B⟩
      rw [eq_t h1, cond_true, m_zero F hF r.g, Option.bind_some, m_rzero F hF r, Option.bind_some]
      dsimp only
      rw [eq_t rfl]
    · rw [eq_f h1, cond_false]
      by_cases h2 : K = 2
      · refine ⟨_, _, _, _, ?_, r.tr A⟩
        rw [eq_t h2, cond_true, m_trunc F hF r.g, Option.bind_some, m_rtrunc F hF r, Option.bind_some]
        dsimp only
        rw [eq_t rfl]
      · rw [eq_f h2, cond_false]
        by_cases h3 : K = 3
        · refine ⟨L, sz, D, H, ?_, r⟩
          rw [eq_t h3, cond_true, m_read F hF r.g, Option.bind_some, m_rread F r, Option.bind_some]
          have hl : (rdB L sz A B).length ≤ 4096 := by
            have := bytes5_len r.g; have := r.g.n1; have := r.g.n0
            unfold rdB; split
            · simp
            · rw [List.length_take, List.length_drop]; omega
          simp only [jn]
          rw [m_same, Option.bind_some, decide_eq_true rfl, cond_true, eq_t rfl, grd_pos _ (by omega)]
          exact burn (z := 9) _ _ _ (fun nx c l h => grd_pos _ h) (fun c l => rfl) _ _ _ (by omega)
        · exact ⟨L, sz, D, H, by rw [eq_f h3, cond_false], r⟩
theorem Rel.size {L : List Rn} {sz : Int} {D : List UInt8} {H : List Bool} (r : Rel L sz D H) : sz = ((D.length : Nat) : Int) := by
  have := r.hd; have := r.g.n0; omega
theorem m_size (F : Nat) (z : Int) : m___extent_Map__Size F z = some z := by
  rw [m___extent_Map__Size, m___extent_Map__is, Option.bind_some]
theorem loopL_mem {α σ ρ : Type} (I : σ → Prop) (Q : α → Prop) (r : Option ρ) (st : (σ → Option ρ) → Nat → α → σ → Option ρ) (fin : Nat → σ → Option ρ)
    (hs : ∀ nx c x s, Q x → I s → ∃ s', I s' ∧ st nx c x s = nx s') (hf : ∀ c s, I s → fin c s = r) : ∀ (l : List α) (c : Nat) (s : σ), (∀ x ∈ l, Q x) → I s → loopL st fin l c s = r
  | [], c, s, _, h => hf c s h
  | x :: l, c, s, hq, h => by
    obtain ⟨s', h1, h2⟩ := hs (fun s' => loopL st fin l (c + 1) s') c x s (hq x (by simp)) h
    rw [loopL, h2]
    exact loopL_mem I Q r st fin hs hf l (c + 1) s' (fun y hy => hq y (by simp [hy])) h1

theorem law_acts (F : Nat) (hF : 4100 < F) (a0 : List S_tholelaw05_Act) (ha : Len a0.length) (hb : ∀ x ∈ a0, x.Data.length ≤ 1048576) : m_tholelaw05_ExtentActs F a0 = some true := by
  rw [m_tholelaw05_ExtentActs, m_extent_New, Option.bind_some, grd_pos _ ha]
  refine loopL_mem (fun s : Int × List Rn × List UInt8 × List Bool => Rel s.2.1 s.1 s.2.2.1 s.2.2.2) (fun x => x.Data.length ≤ 1048576) (some true) _ _ (fun nx c x s hx r => ?_) (fun c s r => ?_) a0 0 (0, [], [], []) hb Rel.nil
  · obtain ⟨sz, L, D, H⟩ := s
    dsimp only at r ⊢
    obtain ⟨L', sz', D', H', e, r'⟩ := m_act F hF r (K := x.Kind) (A := x.A) (B := x.B) hx
    refine ⟨(sz', L', D', H'), r', ?_⟩
    have hd := r.hd; have hh := r.hh; have n1 := r.g.n1; have n0 := r.g.n0
    have tail : ∀ {k : Bool × Int × List Rn × List UInt8 × List Bool → Option Bool}, (∀ s, k s = match s with | (v, z, l, d, h) => bif v then some false else nx (z, l, d, h)) →
        (m_tholelaw05_act F L sz D H x.Kind x.A x.B x.Data).bind (fun y165 => (bif !y165.1 then k (true, y165.2.2.1, y165.2.1, y165.2.2.2.1, y165.2.2.2.2) else (m___extent_Map__Size F y165.2.2.1).bind (fun y175 => (bif y175 != ((y165.2.2.2.1.length : Nat) : Int) then k (true, y165.2.2.1, y165.2.1, y165.2.2.2.1, y165.2.2.2.2) else (m___extent_Map__Bytes F y165.2.1 y165.2.2.1).bind (fun y178 => (m_tholeref01_Same F y178 y165.2.2.2.1).bind (fun y182 => k ((!y182), y165.2.2.1, y165.2.1, y165.2.2.2.1, y165.2.2.2.2))))))) = nx (sz', L', D', H') := fun {k} hk => by
      rw [e, Option.bind_some]
      dsimp only
      rw [Bool.not_true, cond_false, m_size, Option.bind_some, neq_f r'.size, cond_false, m_bytes F hF r'.g, Option.bind_some, m_same, Option.bind_some, decide_eq_true r'.bytes, hk]; rfl
    simp only [jn]
    by_cases h4 : x.Kind = 4
    · rw [eq_t h4, cond_true, m_copy F hF r.g, Option.bind_some, m_write F hF r.g, Option.bind_some]
      dsimp only
      rw [neq_f (show mayE 0 (([(122 : UInt8), 122].length : Nat) : Int) = 0 from rfl), cond_false, m_rcopy F (by omega) (by omega), Option.bind_some]
      exact tail (k := fun s => match s with | (v, z, l, d, h) => bif v then some false else nx (z, l, d, h)) (fun _ => rfl)
    · rw [eq_f h4, cond_false]
      exact tail (k := fun s => match s with | (v, z, l, d, h) => bif v then some false else nx (z, l, d, h)) (fun _ => rfl)
  · obtain ⟨sz, L, D, H⟩ := s
    dsimp only at r ⊢
    rw [m_lruns F hF r, Option.bind_some, cond_true, m_lives F hF]; rfl

theorem law_copies (F : Nat) (hF : 4100 < F) (a0 a1 : List S_tholelaw05_Act) (ha : Len a0.length) (hb : Len a1.length) (ha2 : ∀ x ∈ a0, x.Data.length ≤ 1048576) (hb2 : ∀ x ∈ a1, x.Data.length ≤ 1048576) : m_tholelaw05_ExtentCopies F a0 a1 = some true := by
  rw [m_tholelaw05_ExtentCopies, m_extent_New, Option.bind_some, grd_pos _ ha]
  refine loopL_mem (fun s : Int × List Rn × List UInt8 × List Bool => Rel s.2.1 s.1 s.2.2.1 s.2.2.2) (fun x => x.Data.length ≤ 1048576) (some true) _ _ (fun nx c x s hx r => ?_) (fun c s r => ?_) a0 0 (0, [], [], []) ha2 Rel.nil
  · obtain ⟨sz, L, D, H⟩ := s
    dsimp only at r ⊢
    obtain ⟨L', sz', D', H', e, r'⟩ := m_act F hF r (K := x.Kind) (A := x.A) (B := x.B) hx
    exact ⟨(sz', L', D', H'), r', by rw [e]; rfl⟩
  · obtain ⟨sz, L, D, H⟩ := s
    dsimp only at r ⊢
    have hd := r.hd; have hh := r.hh; have n1 := r.g.n1; have n0 := r.g.n0
    rw [m_bytes F hF r.g, Option.bind_some, m_copy F hF r.g, Option.bind_some]
    simp only [jn]
    rw [m_bytes F hF r.g, Option.bind_some, m_same, Option.bind_some, decide_eq_true rfl, Bool.not_true, cond_false, m_size, Option.bind_some, Option.bind_some, neq_f rfl, cond_false, m_rcopy F (by omega) (by omega), Option.bind_some, grd_pos _ hb]
    refine loopL_mem (fun s : Int × List Rn × List UInt8 × List Bool => Rel s.2.1 s.1 s.2.2.1 s.2.2.2) (fun x => x.Data.length ≤ 1048576) (some true) _ _ (fun nx c x s hx r => ?_) (fun c s r2 => ?_) a1 0 (sz, L, D, H) hb2 r
    · obtain ⟨sz, L, D, H⟩ := s
      dsimp only at r ⊢
      obtain ⟨L', sz', D', H', e, r'⟩ := m_act F hF r (K := x.Kind) (A := x.A) (B := x.B) hx
      exact ⟨(sz', L', D', H'), r', by rw [e]; rfl⟩
    · obtain ⟨sz2, L2, D2, H2⟩ := s
      dsimp only at r2 ⊢
      rw [Option.bind_some, m_same, Option.bind_some, decide_eq_true rfl, cond_true, m_lruns F hF r, Option.bind_some, cond_true, m_lruns F hF r2, Option.bind_some, cond_true, m_lives F hF]; rfl
end Go.Proofs.Ytmdfkklldbfocaa
