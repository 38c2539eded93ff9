/-
  CHAPTER 13: plain facts on the models, part 3: the laws PglogTells and PglogAfter.
-/
import Derived.Test.YtmoaiokgbjkaaaaP13b
set_option linter.unusedVariables false
set_option linter.unusedSimpArgs false
set_option maxRecDepth 100000
namespace Go.Proofs.Ytmoaiokgbjkaaaa
open Go Go.RowKit Sx

theorem afterF_len (t : Ver) (l : List Ent13) (v : Ver) : (afterF t l v).1.length ≤ l.length := by
  unfold afterF
  split
  · simp
  · exact List.length_filter_le _ _

theorem law_tells (s : Stt) (v : Ver) (q : S_tholelaw13_Ask) (h : s.Small 33554432) (hn : s.Names) :
    m_tholelaw13_PglogTells 64 s.les s.tail s.log s.lasts s.items v q = some true := by
  have hal := afterF_len s.tail s.log v
  have hlog := h.log
  obtain ⟨b1, g1, i1⟩ := m_entries 64 (afterF s.tail s.log v).1 (afterF s.tail s.log v).1 (by omega)
  obtain ⟨b2, g2, i2⟩ := m_refsame 64 s s h
  have e1 : b1 = true := i1.2 rfl
  have e2 : b2 = true := i2.2 rfl
  subst e1; subst e2
  have hi : ∀ x : Itm, S_api_Item.beq x x = true := fun x => (S_api_Item.beq_iff x x).2 rfl
  have hL : ∀ x : Lst, S_api_Last.beq x x = true := fun x => (S_api_Last.beq_iff x x).2 rfl
  simp only [m_tholelaw13_PglogTells, m_refcopy 64 s h, m_after 64 s _ h.log, m_refafter 64 s _ h.log, m_find 64 s _ h.items, m_reffind 64 s _ h.items, m_seen 64 s _ _ h.lasts, m_refseen 64 s _ _ h.lasts, Option.bind_some, jn,
    show (S_api_Version.mk v.Epoch v.N) = v from rfl, g1, Bool.not_true, cond_false, beq_self_eq_true, hi, hL, bne_self_eq_false]
  rw [grd_pos _ (by omega)]
  refine loop_fill _ _ (some true) (afterF s.tail s.log v).1.length (fun c l hl => ?_) _ 0 _ rfl (by omega)
  simp only [m_copy 64 s h, Option.bind_some, g2, Bool.not_true, cond_false]
  rw [grd_pos _ (by have := h.items; omega)]
  refine loop_fill _ _ (some true) s.items.length (fun c l hl => ?_) _ 0 _ rfl (by omega)
  simp only [m_check 64 s h hn, m_refcheck 64 s h hn, m_head 64 s h.log, m_refhead 64 s h.log, m_info 64 s _ h.log, m_refinfo 64 s _ h.log, Option.bind_some, beq_self_eq_true, cond_true, vbeq_self, infbeq_self, g2, lives13]

/-! ### PglogAfter -/

theorem logOk_chain : ∀ (l : List Ent13) (v u : Ver), logOk l v = some u → (∀ e ∈ l, vcmp e.Version v > 0) ∧ l.Pairwise fun e f => vcmp f.Version e.Version > 0
  | [], v, u, _ => ⟨by simp, List.Pairwise.nil⟩
  | e :: l, v, u, h => by
    unfold logOk at h
    split at h
    · cases h
    · rename_i hc
      obtain ⟨h1, h2⟩ := logOk_chain l e.Version u h
      have h3 : vcmp e.Version v > 0 := by
        have : ¬ vcmp e.Version v ≤ 0 := fun hh => hc (.inr hh)
        omega
      refine ⟨fun x hx => ?_, List.pairwise_cons.2 ⟨fun x hx => h1 x hx, h2⟩⟩
      rcases List.mem_cons.1 hx with rfl | hx
      · exact h3
      · exact vcmp_gt_trans (h1 x hx) h3

theorem filter_after (d : Ent13) : ∀ (l : List Ent13) (k : Nat), l.Pairwise (fun e f => vcmp f.Version e.Version > 0) → k < l.length →
    l.filter (fun e => decide (vcmp e.Version (l.getD k d).Version > 0)) = l.drop (k + 1)
  | [], k, _, h => by simp at h
  | e :: l, 0, hp, _ => by
    obtain ⟨h1, h2⟩ := List.pairwise_cons.1 hp
    rw [List.getD_cons_zero, List.filter_cons, if_neg (by rw [vcmp_self]; simp), List.drop_succ_cons, List.drop_zero]
    exact List.filter_eq_self.2 fun x hx => decide_eq_true (h1 x hx)
  | e :: l, k + 1, hp, h => by
    obtain ⟨h1, h2⟩ := List.pairwise_cons.1 hp
    simp only [List.length_cons] at h
    have hk : k < l.length := by omega
    have hmem : l.getD k d ∈ l := by
      rw [List.getD_eq_getElem?_getD, List.getElem?_eq_getElem hk]; simp
    have h3 := h1 _ hmem
    rw [List.getD_cons_succ, List.filter_cons, if_neg (by
      have := (vcmp_swap (l.getD k d).Version e.Version).1 h3
      simp only [decide_eq_true_eq]; omega), List.drop_succ_cons]
    exact filter_after d l k h2 hk

theorem tmod_ix {a : Int} {n : Nat} (h0 : 0 ≤ a) (hn : 0 < n) (hb : n ≤ 33554432) : ∃ k : Nat, IntKind.i64.wrap (Int.tmod a (IntKind.u64.wrap ((n : Nat) : Int))) = ((k : Nat) : Int) ∧ k < n := by
  rw [u64_nat (by omega)]
  rw [Int.tmod_eq_emod_of_nonneg h0]
  have h1 := Int.emod_nonneg a (show ((n : Nat) : Int) ≠ 0 by omega)
  have h2 := Int.emod_lt_of_pos a (show 0 < ((n : Nat) : Int) by omega)
  refine ⟨(a % ((n : Nat) : Int)).toNat, ?_, by omega⟩
  rw [wrap_i64 (by omega) (by omega)]
  omega

theorem checkF_zero {s : Stt} (h : checkF s = 0) : ∃ u, logOk s.log s.tail = some u := by
  unfold checkF at h
  split at h
  · cases h
  · cases hl : logOk s.log s.tail with
    | none => rw [hl] at h; cases h
    | some u => exact ⟨u, rfl⟩

theorem law_after (s : Stt) (a : Int) (h : s.Small 33554432) (hn : s.Names) (ha : 0 ≤ a) :
    m_tholelaw13_PglogAfter 64 s.les s.tail s.log s.lasts s.items a = some true := by
  have hlog := h.log
  simp only [m_tholelaw13_PglogAfter, m_refcheck 64 s h hn, Option.bind_some, jn, lives13, cond_true]
  by_cases hc : checkF s = 0
  case neg =>
    have : (checkF s != 0) = true := by simpa using hc
    rw [this]; rfl
  rw [hc, bne_self_eq_false, cond_false]
  by_cases h0 : s.log.length = 0
  · rw [show (((s.log.length : Nat) : Int) == 0) = true by simp; exact List.length_eq_zero_iff.1 h0]; rfl
  rw [show (((s.log.length : Nat) : Int) == 0) = false by simp; exact fun e => h0 (by rw [e]; rfl), cond_false]
  rw [grd_pos _ (show IntKind.u64.wrap ((s.log.length : Nat) : Int) ≠ 0 by rw [u64_nat (by omega)]; omega)]
  obtain ⟨k, hk, hkn⟩ := tmod_ix (n := s.log.length) ha (by omega) h.log
  rw [hk]
  rw [grd_pos _ (show Ix ((k : Nat) : Int) s.log.length by unfold Ix; omega)]
  obtain ⟨u, hu⟩ := checkF_zero hc
  obtain ⟨c1, c2⟩ := logOk_chain _ _ _ hu
  obtain ⟨e, he⟩ : ∃ e, e = s.log.getD k dS_api_Entry := ⟨_, rfl⟩
  have hmem : e ∈ s.log := by rw [he, List.getD_eq_getElem?_getD, List.getElem?_eq_getElem hkn]; simp
  have hgt := c1 e hmem
  rw [show (((k : Nat) : Int)).toNat = k by omega, ← he]
  have hA : afterF s.tail s.log e.Version = (s.log.drop (k + 1), true) := by
    unfold afterF
    rw [if_neg (by omega), he, filter_after dS_api_Entry s.log k c2 hkn]
  rw [m_after 64 s e.Version h.log, hA, Option.bind_some]
  try dsimp only [Bool.not_true, Bool.not_false, cond_false, cond_true]
  rw [grd_pos _ (show I64 (((k : Nat) : Int) + 1) by unfold I64; omega), show ((((k : Nat) : Int) + 1)).toNat = k + 1 by omega, grd_pos _ (show Bd (((k : Nat) : Int) + 1) s.log.length by unfold Bd; omega)]
  have htk : (s.log.drop (k + 1)).take (s.log.length - (k + 1)) = s.log.drop (k + 1) := List.take_of_length_le (by simp)
  rw [htk]
  have hdl : (s.log.drop (k + 1)).length ≤ 33554432 := by rw [List.length_drop]; omega
  obtain ⟨b1, g1, i1⟩ := m_entries 64 (s.log.drop (k + 1)) (s.log.drop (k + 1)) hdl
  have e1 : b1 = true := i1.2 rfl
  subst e1
  rw [g1, Option.bind_some]
  try dsimp only [Bool.not_true, Bool.not_false, cond_false, cond_true]
  rw [grd_pos _ (show I64 (((s.log.length : Nat) : Int) - ((k : Nat) : Int)) by unfold I64; omega), grd_pos _ (show I64 (((s.log.length : Nat) : Int) - ((k : Nat) : Int) - 1) by unfold I64; omega)]
  have hT : m_pglog_Trim 64 s.les s.tail s.log s.lasts s.items (((s.log.length : Nat) : Int) - ((k : Nat) : Int) - 1) = some (s.les, e.Version, s.log.drop (k + 1), s.lasts, s.items) := by
    simp only [m_pglog_Trim, m_copy 64 s h, Option.bind_some]
    rw [if_neg (show ¬ (0 > ((s.log.length : Nat) : Int) - ((k : Nat) : Int) - 1) by omega)]
    rw [show ((s.log.length : Nat) : Int) - (((s.log.length : Nat) : Int) - ((k : Nat) : Int) - 1) = ((k + 1 : Nat) : Int) by push_cast; omega]
    rw [grd_pos _ (show I64 ((k + 1 : Nat) : Int) by unfold I64; omega), decide_eq_true (show ((k + 1 : Nat) : Int) > 0 by omega), cond_true, grd_pos _ (show I64 (((k + 1 : Nat) : Int) - 1) by unfold I64; omega)]
    rw [show (((k + 1 : Nat) : Int) - 1) = ((k : Nat) : Int) by push_cast; omega, grd_pos _ (show Ix ((k : Nat) : Int) s.log.length by unfold Ix; omega), show (((k : Nat) : Int)).toNat = k by omega, show (((k + 1 : Nat) : Int)).toNat = k + 1 by omega]
    rw [grd_pos _ (show Bd ((k + 1 : Nat) : Int) s.log.length by unfold Bd; omega), htk, grd_pos _ (App64 hdl), ← he]
  rw [hT, Option.bind_some]
  try dsimp only [Bool.not_true, Bool.not_false, cond_false, cond_true]
  have hA2 : afterF e.Version (s.log.drop (k + 1)) e.Version = (s.log.drop (k + 1), true) := by
    unfold afterF
    rw [if_neg (by rw [vcmp_self]; omega)]
    have := filter_after dS_api_Entry s.log k c2 hkn
    rw [← he] at this
    rw [← this, List.filter_filter]
    simp
  have hA3 : (afterF e.Version (s.log.drop (k + 1)) s.tail).2 = false := by
    unfold afterF
    rw [if_pos ((vcmp_swap _ _).1 hgt)]
  rw [m_after 64 ⟨s.les, e.Version, s.log.drop (k + 1), s.lasts, s.items⟩ e.Version hdl, m_after 64 ⟨s.les, e.Version, s.log.drop (k + 1), s.lasts, s.items⟩ s.tail hdl, hA2, Option.bind_some]
  try dsimp only [Bool.not_true, Bool.not_false, cond_false, cond_true]
  rw [g1, Option.bind_some]
  try dsimp only [Bool.not_true, Bool.not_false, cond_false, cond_true]
  rw [vbeq_self, Option.bind_some]
  try dsimp only [Bool.not_true, Bool.not_false, cond_false, cond_true]
  rw [hA3]
  rfl

end Go.Proofs.Ytmoaiokgbjkaaaa
