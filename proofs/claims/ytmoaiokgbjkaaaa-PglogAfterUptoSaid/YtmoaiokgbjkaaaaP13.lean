/-
  CHAPTER 13: plain facts on the models.
-/
import Derived.Test.YtmoaiokgbjkaaaaM13
set_option linter.unusedVariables false
set_option linter.unusedSimpArgs false
set_option maxRecDepth 100000
namespace Go.Proofs.Ytmoaiokgbjkaaaa
open Go Go.RowKit Sx

abbrev Ver := S_api_Version
abbrev Ent13 := S_api_Entry
abbrev Lst := S_api_Last
abbrev Itm := S_api_Item

theorem lives13 : m_tholelaw13_lives 64 = some true := by kernel_rfl

theorem ne_f {n m : Nat} (h : n = m) : (((n : Nat) : Int) != ((m : Nat) : Int)) = false := by rw [h]; simp
theorem ne_t {n m : Nat} (h : ¬ n = m) : (((n : Nat) : Int) != ((m : Nat) : Int)) = true := by simp; omega

/-! ### Versions -/

def cmpZ (x y : Int) : Int := if x < y then -1 else if y < x then 1 else 0
def vcmp (a b : Ver) : Int := if cmpZ a.Epoch b.Epoch = 0 then cmpZ a.N b.N else cmpZ a.Epoch b.Epoch

theorem m_cmpint (F : Nat) (x y : Int) : m_cmp_Compare_int_ F x y = some (cmpZ x y) := by
  simp only [m_cmp_Compare_int_, m_cmp_isNaN_int_, Option.bind_some, bne_self_eq_false, cond_false, cmpZ]
  by_cases h : x < y
  · simp [h]
  · by_cases h2 : y < x
    · simp [h, h2]
    · simp [h, h2]

theorem m_cmp (F : Nat) (a b : Ver) : m_pglog_Cmp F a b = some (vcmp a b) := by
  simp only [m_pglog_Cmp, m_cmpint, Option.bind_some, vcmp]
  by_cases h : cmpZ a.Epoch b.Epoch = 0
  · simp [h]
  · have : (cmpZ a.Epoch b.Epoch != 0) = true := by simpa using h
    rw [this, if_neg h]; rfl

theorem vbeq_self (a : Ver) : S_api_Version.beq a a = true := (S_api_Version.beq_iff a a).2 rfl

theorem m_refcmp (F : Nat) (a b : Ver) : m_tholeref13_Cmp F a b = some (vcmp a b) := by
  simp only [m_tholeref13_Cmp, jn]
  have hb : S_api_Version.beq a b = (decide (a.Epoch = b.Epoch) && decide (a.N = b.N)) := by
    simp [S_api_Version.beq, Bool.beq_eq_decide_eq]
  rw [hb]
  unfold vcmp cmpZ
  by_cases h1 : a.Epoch < b.Epoch
  · simp [h1]
  · by_cases h2 : a.Epoch = b.Epoch
    · by_cases h3 : a.N < b.N
      · simp [h2, h3]
      · by_cases h4 : b.N < a.N
        · have : ¬ a.N = b.N := by omega
          simp [h2, h3, h4, this]
        · have : a.N = b.N := by omega
          simp [h2, this]
    · have h5 : b.Epoch < a.Epoch := by omega
      have h6 : (a.Epoch == b.Epoch) = false := by simpa using h2
      simp [h1, h2, h5, h6]

theorem vcmp_lt {a b : Ver} : vcmp a b < 0 ↔ a.Epoch < b.Epoch ∨ (a.Epoch = b.Epoch ∧ a.N < b.N) := by
  unfold vcmp cmpZ
  (repeat' split) <;> omega
theorem vcmp_gt {a b : Ver} : vcmp a b > 0 ↔ b.Epoch < a.Epoch ∨ (a.Epoch = b.Epoch ∧ b.N < a.N) := by
  unfold vcmp cmpZ
  (repeat' split) <;> omega
theorem vcmp_swap (a b : Ver) : vcmp a b > 0 ↔ vcmp b a < 0 := by rw [vcmp_gt, vcmp_lt]; omega
theorem vcmp_self (a : Ver) : vcmp a a = 0 := by simp [vcmp, cmpZ]
theorem vcmp_gt_trans {a b c : Ver} (h : vcmp a b > 0) (h' : vcmp b c > 0) : vcmp a c > 0 := by
  rw [vcmp_gt] at *; omega
theorem vcmp_zero {a b : Ver} : vcmp a b = 0 ↔ a = b := by
  constructor
  · intro h
    obtain ⟨e, n⟩ := a
    obtain ⟨e', n'⟩ := b
    have h1 : ¬ vcmp ⟨e, n⟩ ⟨e', n'⟩ < 0 := by omega
    have h2 : ¬ vcmp ⟨e, n⟩ ⟨e', n'⟩ > 0 := by omega
    rw [vcmp_lt] at h1; rw [vcmp_gt] at h2
    simp only at h1 h2
    have : e = e' := by omega
    have : n = n' := by omega
    subst_vars; rfl
  · intro h; rw [h, vcmp_self]

def belowB (v : Ver) : Bool := decide (v.Epoch < 0) || decide (v.N < 0)
theorem m_below (F : Nat) (v : Ver) : m_pglog_below F v = some (belowB v) := by
  simp only [m_pglog_below, belowB]; cases decide (v.Epoch < 0) <;> rfl
theorem m_refbelow (F : Nat) (v : Ver) : m_tholeref13_below F v = some (belowB v) := by
  simp only [m_tholeref13_below, belowB]; cases decide (v.Epoch < 0) <;> rfl

/-! ### The same lists, the same states -/

theorem m_eqE (F : Nat) (l m : List Ent13) (h : l.length ≤ 33554432) : ∃ b, m_slices_Equal___api_Entry_api_Entry_ F l m = some b ∧ (b = true ↔ l = m) := by
  unfold m_slices_Equal___api_Entry_api_Entry_
  by_cases hl : l.length = m.length
  · rw [ne_f hl, cond_false, grd_pos _ (Len.of (by omega))]
    have := loop_eq S_api_Entry.beq S_api_Entry.beq_iff m dS_api_Entry l 0 (by omega)
    rwa [List.drop_zero] at this
  · rw [ne_t hl]
    exact ⟨false, rfl, by simp; intro e; exact hl (by rw [e])⟩
theorem m_eqL (F : Nat) (l m : List Lst) (h : l.length ≤ 33554432) : ∃ b, m_slices_Equal___api_Last_api_Last_ F l m = some b ∧ (b = true ↔ l = m) := by
  unfold m_slices_Equal___api_Last_api_Last_
  by_cases hl : l.length = m.length
  · rw [ne_f hl, cond_false, grd_pos _ (Len.of (by omega))]
    have := loop_eq S_api_Last.beq S_api_Last.beq_iff m dS_api_Last l 0 (by omega)
    rwa [List.drop_zero] at this
  · rw [ne_t hl]
    exact ⟨false, rfl, by simp; intro e; exact hl (by rw [e])⟩
theorem m_eqI (F : Nat) (l m : List Itm) (h : l.length ≤ 33554432) : ∃ b, m_slices_Equal___api_Item_api_Item_ F l m = some b ∧ (b = true ↔ l = m) := by
  unfold m_slices_Equal___api_Item_api_Item_
  by_cases hl : l.length = m.length
  · rw [ne_f hl, cond_false, grd_pos _ (Len.of (by omega))]
    have := loop_eq S_api_Item.beq S_api_Item.beq_iff m dS_api_Item l 0 (by omega)
    rwa [List.drop_zero] at this
  · rw [ne_t hl]
    exact ⟨false, rfl, by simp; intro e; exact hl (by rw [e])⟩

/-- A state. -/
structure Stt where
  les : Int
  tail : Ver
  log : List Ent13
  lasts : List Lst
  items : List Itm

/-- No more of anything than this. -/
structure Stt.Small (s : Stt) (n : Nat) : Prop where
  log : s.log.length ≤ n
  lasts : s.lasts.length ≤ n
  items : s.items.length ≤ n

theorem m_same (F : Nat) (s t : Stt) (h : s.Small 33554432) :
    ∃ b, m_pglog_Same F s.les s.tail s.log s.lasts s.items t.les t.tail t.log t.lasts t.items = some b ∧ (b = true ↔ s = t) := by
  obtain ⟨les, tail, log, lasts, items⟩ := s
  obtain ⟨les', tail', log', lasts', items'⟩ := t
  obtain ⟨h1, h2, h3⟩ := h
  simp only at h1 h2 h3 ⊢
  simp only [m_pglog_Same]
  by_cases e1 : les = les'
  · subst e1
    by_cases e2 : tail = tail'
    · subst e2
      obtain ⟨b1, g1, i1⟩ := m_eqE F log log' h1
      obtain ⟨b2, g2, i2⟩ := m_eqL F lasts lasts' h2
      obtain ⟨b3, g3, i3⟩ := m_eqI F items items' h3
      rw [beq_self_eq_true, vbeq_self, cond_true, cond_true, g1, g2, g3]
      simp only [Option.bind_some]
      cases b1 with
      | false => exact ⟨false, rfl, by simp; intro e; have := i1.2 e; cases this⟩
      | true =>
        cases b2 with
        | false => exact ⟨false, rfl, by simp; intro _ e; have := i2.2 e; cases this⟩
        | true =>
          refine ⟨b3, rfl, ?_⟩
          rw [i3]
          have a1 := i1.1 rfl
          have a2 := i2.1 rfl
          subst a1; subst a2
          simp
    · have : S_api_Version.beq tail tail' = false := by
        cases hb : S_api_Version.beq tail tail' with
        | false => rfl
        | true => exact absurd ((S_api_Version.beq_iff _ _).1 hb) e2
      rw [beq_self_eq_true, this]
      exact ⟨false, rfl, by simp [e2]⟩
  · have : (les == les') = false := by simpa using e1
    rw [this]
    exact ⟨false, rfl, by simp [e1]⟩

theorem m_refsame (F : Nat) (s t : Stt) (h : s.Small 33554432) :
    ∃ b, m_tholeref13_Same F s.les s.tail s.log s.lasts s.items t.les t.tail t.log t.lasts t.items = some b ∧ (b = true ↔ s = t) := by
  obtain ⟨les, tail, log, lasts, items⟩ := s
  obtain ⟨les', tail', log', lasts', items'⟩ := t
  obtain ⟨h1, h2, h3⟩ := h
  simp only at h1 h2 h3 ⊢
  simp only [m_tholeref13_Same, jn, cond_true]
  by_cases e1 : les = les'
  case neg =>
    have : (les != les') = true := by simpa using e1
    rw [this]; exact ⟨false, rfl, by simp [e1]⟩
  subst e1
  by_cases e2 : tail = tail'
  case neg =>
    have : S_api_Version.beq tail tail' = false := by
      cases hb : S_api_Version.beq tail tail' with
      | false => rfl
      | true => exact absurd ((S_api_Version.beq_iff _ _).1 hb) e2
    rw [this, bne_self_eq_false]; exact ⟨false, rfl, by simp [e2]⟩
  subst e2
  by_cases l1 : log.length = log'.length
  case neg =>
    rw [vbeq_self, bne_self_eq_false, ne_t l1]
    exact ⟨false, rfl, by simp; intro e; exact absurd (by rw [e]) l1⟩
  by_cases l2 : lasts.length = lasts'.length
  case neg =>
    rw [vbeq_self, bne_self_eq_false, ne_f l1, ne_t l2]
    exact ⟨false, rfl, by simp; intro _ e; exact absurd (by rw [e]) l2⟩
  by_cases l3 : items.length = items'.length
  case neg =>
    rw [vbeq_self, bne_self_eq_false, ne_f l1, ne_f l2, ne_t l3]
    exact ⟨false, rfl, by simp; intro _ _ e; exact absurd (by rw [e]) l3⟩
  rw [vbeq_self, bne_self_eq_false, ne_f l1, ne_f l2, ne_f l3]
  simp only [Bool.not_true, cond_false]
  rw [grd_pos _ (Len.of (by omega))]
  obtain ⟨c1, c2, c3⟩ := loop_eq3 S_api_Entry.beq S_api_Entry.beq_iff log' dS_api_Entry (fun _ _ => grd (Len lasts.length) (loopL (σ := Unit) (fun nx c x _ => grd (c < lasts'.length) (bif !(S_api_Last.beq x (lasts'.getD c dS_api_Last)) then some false else nx ())) (fun _ _ => grd (Len items.length) (loopL (σ := Unit) (fun nx c x _ => grd (c < items'.length) (bif !(S_api_Item.beq x (items'.getD c dS_api_Item)) then some false else nx ())) (fun _ _ => some true) items 0 ())) lasts 0 ())) log 0 (by omega)
  obtain ⟨d1, d2, d3⟩ := loop_eq3 S_api_Last.beq S_api_Last.beq_iff lasts' dS_api_Last (fun _ _ => grd (Len items.length) (loopL (σ := Unit) (fun nx c x _ => grd (c < items'.length) (bif !(S_api_Item.beq x (items'.getD c dS_api_Item)) then some false else nx ())) (fun _ _ => some true) items 0 ())) lasts 0 (by omega)
  obtain ⟨f1, f2, f3⟩ := loop_eq S_api_Item.beq S_api_Item.beq_iff items' dS_api_Item items 0 (by omega)
  refine ⟨c1 && (d1 && f1), ?_, ?_⟩
  · refine c2.trans ?_
    cases c1 with
    | false => rfl
    | true =>
      rw [cond_true, grd_pos _ (Len.of (by omega))]
      refine d2.trans ?_
      cases d1 with
      | false => rfl
      | true => rw [cond_true, grd_pos _ (Len.of (by omega))]; exact f2
  · simp only [Bool.and_eq_true, c3, d3, f3, List.drop_zero, Stt.mk.injEq, true_and]

theorem m_entries (F : Nat) (l m : List Ent13) (h : l.length ≤ 33554432) : ∃ b, m_tholelaw13_entries F l m = some b ∧ (b = true ↔ l = m) := by
  unfold m_tholelaw13_entries
  by_cases hl : l.length = m.length
  · rw [ne_f hl, cond_false, grd_pos _ (Len.of (by omega))]
    have := loop_eq S_api_Entry.beq S_api_Entry.beq_iff m dS_api_Entry l 0 (by omega)
    rwa [List.drop_zero] at this
  · rw [ne_t hl]
    exact ⟨false, rfl, by simp; intro e; exact hl (by rw [e])⟩

/-! ### PglogCompares -/

theorem bool_iff {a b : Bool} {p : Prop} (h : a = true ↔ p) (h' : b = true ↔ p) : a = b := by
  cases a <;> cases b <;> simp_all

theorem law_compares (a b : Ver) (s t : Stt) (h : s.Small 33554432) :
    m_tholelaw13_PglogCompares 64 a b s.les s.tail s.log s.lasts s.items t.les t.tail t.log t.lasts t.items = some true := by
  obtain ⟨b1, g1, i1⟩ := m_same 64 s t h
  obtain ⟨b2, g2, i2⟩ := m_refsame 64 s t h
  obtain ⟨b3, g3, i3⟩ := m_same 64 s s h
  have e : b1 = b2 := bool_iff i1 i2
  subst e
  have e3 : b3 = true := i3.2 rfl
  subst e3
  simp only [m_tholelaw13_PglogCompares, m_cmp, m_refcmp, g1, g2, g3, Option.bind_some, beq_self_eq_true, cond_true, lives13]

end Go.Proofs.Ytmoaiokgbjkaaaa
