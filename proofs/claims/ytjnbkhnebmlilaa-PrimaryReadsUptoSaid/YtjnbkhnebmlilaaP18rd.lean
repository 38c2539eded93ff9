/-
  CHAPTER 18, PrimaryReads: the law on its model.
-/
import Derived.Test.YtjnbkhnebmlilaaP18rc
set_option linter.unusedVariables false
set_option linter.unusedSimpArgs false
set_option maxRecDepth 100000
namespace Go.Proofs.Ytjnbkhnebmlilaa
open Go Go.RowKit Sx

theorem lives18r (F : Nat) : m_tholelaw18_lives (F + 64) = some () := by kernel_rfl

theorem loop_first {ρ : Type} (f g : Int → S_api_Msg_n) (o : List Int) (R : Option ρ) {st : (List S_api_Msg_n × List Int → Option ρ) → Nat → S_api_Msg_n → List S_api_Msg_n × List Int → Option ρ} {fin : Nat → List S_api_Msg_n × List Int → Option ρ}
    (h1 : ∀ nx c k r old, r ≠ [] → c + 1 + r.length = o.length → old.length = c → st nx c (f k) (old, k :: r) = nx (old ++ [g k], r))
    (h2 : ∀ nx c k old, c + 1 = o.length → old.length = c → old ++ [g k] = o.map g → st nx c (f k) (old, [k]) = R) :
    ∀ (r : List Int) (old : List S_api_Msg_n) (c : Nat), r ≠ [] → old ++ r.map g = o.map g → old.length = c → c + r.length = o.length → loopL st fin (r.map f) c (old, r) = R
  | [], _, _, h, _, _, _ => absurd rfl h
  | [k], old, c, _, he, ho, hc => by
    rw [List.map_cons, loopL]
    exact h2 _ c k old (by simpa using hc) ho (by simpa using he)
  | k :: k' :: r, old, c, _, he, ho, hc => by
    simp only [List.length_cons] at hc
    rw [List.map_cons, loopL, h1 _ c k (k' :: r) old (by simp) (by simp only [List.length_cons]; omega) ho]
    exact loop_first f g o R h1 h2 (k' :: r) (old ++ [g k]) (c + 1) (by simp) (by rw [← he]; simp) (by simp [ho]) (by simp only [List.length_cons]; omega)

theorem loop_last {ρ : Type} (f : Int → S_api_Msg_n) (o : List Int) (R : Option ρ) {st : (List Int → Option ρ) → Nat → S_api_Msg_n → List Int → Option ρ} {fin : Nat → List Int → Option ρ}
    (h1 : ∀ nx c k r, r ≠ [] → c + 1 + r.length = o.length → st nx c (f k) (k :: r) = nx r)
    (h2 : ∀ nx c k, c + 1 = o.length → st nx c (f k) [k] = R) :
    ∀ (r : List Int) (c : Nat), r ≠ [] → c + r.length = o.length → loopL st fin (r.map f) c r = R
  | [], _, h, _ => absurd rfl h
  | [k], c, _, hc => by
    rw [List.map_cons, loopL]
    exact h2 _ c k (by simpa using hc)
  | k :: k' :: r, c, _, hc => by
    simp only [List.length_cons] at hc
    rw [List.map_cons, loopL, h1 _ c k (k' :: r) (by simp) (by simp only [List.length_cons]; omega)]
    exact loop_last f o R h1 h2 (k' :: r) (c + 1) (by simp) (by simp only [List.length_cons]; omega)

theorem pass_loop {α ρ : Type} {st : (Unit → Option ρ) → Nat → α → Unit → Option ρ} {fin : Nat → Unit → Option ρ} : ∀ (l : List α) (c : Nat), (∀ nx c, ∀ x ∈ l, st nx c x () = nx ()) → loopL st fin l c () = fin (c + l.length) ()
  | [], c, _ => rfl
  | x :: l, c, h => by
    rw [loopL, h _ _ x (by simp), pass_loop l (c + 1) (fun nx c y hy => h nx c y (by simp [hy])), List.length_cons]
    congr 1; omega

theorem u64_len (n : Nat) (h : n ≤ 1000) : IntKind.u64.wrap (((n : Nat)) : Int) = (n : Int) := by
  show ((n : Int) % 18446744073709551616) = (n : Int)
  omega
theorem i64_small (z : Int) (h0 : 0 ≤ z) (h : z < 1000) : IntKind.i64.wrap z = z := wrap_i64 (by omega) (by omega)

theorem pick_at (x : Int) (n : Nat) (hx : 0 ≤ x) (h0 : 0 < n) (h : n ≤ 1000) : 0 ≤ IntKind.i64.wrap (Int.tmod x (IntKind.u64.wrap ((n : Nat) : Int))) ∧ (IntKind.i64.wrap (Int.tmod x (IntKind.u64.wrap ((n : Nat) : Int)))).toNat < n := by
  rw [u64_len n h, Int.tmod_eq_emod_of_nonneg hx]
  have h1 := Int.emod_nonneg x (show (n : Int) ≠ 0 by omega)
  have h2 := Int.emod_lt_of_pos x (show (0 : Int) < n by omega)
  rw [i64_small _ h1 (by omega)]
  omega

theorem getD_at {α : Type} (l : List α) (d : α) {i : Nat} (h : i < l.length) : l.getD i d = l[i] := by rw [List.getD_eq_getElem?_getD, List.getElem?_eq_getElem h, Option.getD_some]

theorem law_reads (F : Nat) (pg : S_api_Pg) (epoch self boot : Int) (act : List Int) (s : Stt) (late : List Int) (ha : act.length ≤ 1048576) (hs : s.Small 2000000) (hi0 : s.items.length ≤ 1048576) (hn : s.Names) (hl : late.length ≤ 1048576) (hw : ∀ x ∈ late, 0 ≤ x) :
    m_tholelaw18_PrimaryReads (F + 64) pg epoch self boot act s.les s.tail s.log s.lasts s.items late = some true := by
  have hs' : s.Small 33554432 := ⟨Nat.le_trans hs.log (by omega), Nat.le_trans hs.lasts (by omega), Nat.le_trans hs.items (by omega)⟩
  obtain ⟨b, hb, hd⟩ := m_twice (F + 64) act ha
  rw [m_tholelaw18_PrimaryReads, hb, Option.bind_some]
  cases b with
  | true => rw [cond_true, lives18r, Option.bind_some]
  | false =>
  obtain ⟨hap, h20⟩ := hd rfl
  rw [cond_false]
  rcases m_new (F + 64) pg.Pool pg.Seed epoch self boot act s ha hs' hn with e | ⟨hm, ⟨ho, e⟩ | ⟨ho, e⟩⟩
  · rw [e, Option.bind_some, show ((0 : Nat) == 0) = true from rfl, cond_true, lives18r, Option.bind_some]
  · rw [e, Option.bind_some, show ((1 : Nat) == 0) = false from rfl, cond_false, show ((1 : Nat) == 1) = true from rfl, cond_true]
    dsimp only
    generalize hq : act.filter (fun x => x != self) = o at ho
    have hol : o.length ≤ 20 := by rw [← hq]; exact Nat.le_trans (List.length_filter_le _ _) h20
    have ho0 : 0 < o.length := List.length_pos_iff.2 ho
    have hne : act.length ≠ 1 := by
      intro h1
      obtain ⟨z, hz⟩ := List.length_eq_one_iff.1 h1
      subst hz
      obtain rfl : self = z := by simpa using hm
      simp at hq
      exact ho hq
    generalize hp : pg.Pool = pool
    generalize hse : pg.Seed = seed
    rw [m_step3 (F + 64) pool seed epoch self boot s.les s.tail.Epoch s.tail.N s.log s.lasts s.items 0 1 (by unfold I64; omega) o ho (by omega), Option.bind_some, show (0 : Int) + 1 = 1 from rfl]
    have hne' : (((act.length : Nat) : Int) == 1) = false := by rw [beq_eq_false_iff_ne]; omega
    rw [hne', cond_false, grd_pos _ (by unfold Len; simp; omega)]
    dsimp only
    have hi : s.items.length ≤ 1048576 := hi0
    refine loop_first (chk pool seed epoch self boot 1) (rep pool seed epoch self 1) o (some true) (fun nx c k r old hr hc hold => ?_) (fun nx c k old hc hold he => ?_) o [] 0 ho rfl rfl (by omega)
    · dsimp only [chk]
      refine (jn_to false (fun J => rfl : ∀ J : Bool → Option Bool, _ = J false)).trans ?_
      rw [cond_false, grd_pos _ (App.of (by simp; omega) (by omega)), m_step4 (F + 64) pool seed epoch self boot s.les s.tail.Epoch s.tail.N s.log s.lasts s.items 1 1 1 o k r (by omega) hi, Option.bind_some, if_neg hr, show ((0 : Nat) == 0) = true from rfl, cond_true]
      have hrl : 0 < r.length := List.length_pos_iff.2 hr
      have hcc : (((c + 1 : Nat) : Int) == (((o.map (chk pool seed epoch self boot 1)).length : Nat) : Int)) = false := by rw [beq_eq_false_iff_ne, List.length_map]; omega
      rw [hcc, beq_self_eq_true, Bool.not_true, cond_false]
      rfl
    · dsimp only [chk]
      refine (jn_to false (fun J => rfl : ∀ J : Bool → Option Bool, _ = J false)).trans ?_
      rw [cond_false, grd_pos _ (App.of (by simp; omega) (by omega)), m_step4 (F + 64) pool seed epoch self boot s.les s.tail.Epoch s.tail.N s.log s.lasts s.items 1 1 1 o k [] (by simp) hi, Option.bind_some, if_pos rfl, show ((1 : Nat) == 0) = false from rfl, cond_false]
      have hcc : (((c + 1 : Nat) : Int) == (((o.map (chk pool seed epoch self boot 1)).length : Nat) : Int)) = true := by rw [beq_iff_eq, List.length_map]; omega
      rw [hcc, beq_self_eq_true, Bool.not_true, cond_false, decide_eq_false (by rw [List.length_map]; omega), cond_false, m___primary_Machine__Idle_4, Option.bind_some, m_step5 (F + 64) pool seed epoch self boot s.les s.tail.Epoch s.tail.N s.log s.lasts s.items 1 2 (by unfold I64; omega) o ho (by omega), Option.bind_some, show (1 : Int) + 1 = 2 from rfl, grd_pos _ (by unfold Len; omega)]
      have he' : old ++ [S_api_Msg_n.mk 35 2 k 2 self 0 epoch pool seed 0 1 0 0 0 0 0 0 0 0 0 0 0 0 false 0 (ByteArray.mk #[]) 0 0 (ByteArray.mk #[]) 0 0 0 (ByteArray.mk #[]) 0 0 0] = o.map (rep pool seed epoch self 1) := he
      rw [he']
      dsimp only
      rw [pass_loop late 0 (fun nx c x hx => ?_)]
      · rw [grd_pos _ (by unfold Len; simp; omega)]
        refine loop_last (chk pool seed epoch self boot 2) o (some true) (fun nx c k r hr hc => ?_) (fun nx c k hc => ?_) o 0 ho (by omega)
        · dsimp only [chk]
          rw [show ((2 : Int) != 2) = false from rfl, cond_false, m_step4 (F + 64) pool seed epoch self boot s.les s.tail.Epoch s.tail.N s.log s.lasts s.items 2 2 2 o k r (by omega) hi, Option.bind_some, if_neg hr, show ((0 : Nat) == 0) = true from rfl, cond_true]
        · dsimp only [chk]
          rw [show ((2 : Int) != 2) = false from rfl, cond_false, m_step4 (F + 64) pool seed epoch self boot s.les s.tail.Epoch s.tail.N s.log s.lasts s.items 2 2 2 o k [] (by simp) hi, Option.bind_some, if_pos rfl, show ((1 : Nat) == 0) = false from rfl, cond_false, List.drop_of_length_le (by rw [List.length_map]; omega), loopL, m___primary_Machine__Idle_4, Option.bind_some, lives18r, Option.bind_some]
      · have hlm : (o.map (rep pool seed epoch self 1)).length = o.length := List.length_map ..
        obtain ⟨h0, h1⟩ := pick_at x o.length (hw x hx) ho0 (by omega)
        have hg : (o.map (rep pool seed epoch self 1)).getD (IntKind.i64.wrap (Int.tmod x (IntKind.u64.wrap ((o.length : Nat) : Int)))).toNat dS_api_Msg_n = rep pool seed epoch self 1 (o[(IntKind.i64.wrap (Int.tmod x (IntKind.u64.wrap ((o.length : Nat) : Int)))).toNat]'h1) := by
          rw [getD_at _ _ (by rw [hlm]; exact h1), List.getElem_map]
        rw [hlm, grd_pos _ (by rw [u64_len _ (by omega)]; omega), grd_pos _ ⟨h0, h1⟩, Option.bind_some, m_step6 (F + 64) pool seed epoch self boot s.les s.tail.Epoch s.tail.N s.log s.lasts s.items 2 2 o o _ (List.getElem_mem h1) (by omega) _ hg, Option.bind_some, m___primary_Machine__Idle_3, Option.bind_some]
  · rw [e, Option.bind_some, show ((2 : Nat) == 0) = false from rfl, cond_false, show ((2 : Nat) == 1) = false from rfl, cond_false]
    dsimp only
    have hall : ∀ x ∈ act, x = self := fun x hx => by
      have := List.filter_eq_nil_iff.1 ho x hx
      simpa using this
    have h1 : act.length = 1 := by
      have hpos : 0 < act.length := List.length_pos_of_mem hm
      rcases Nat.lt_or_ge 1 act.length with h2 | h2
      · have hk := hap 1 h2 0 (by omega)
        rw [getD_at _ _ hpos, getD_at _ _ h2, hall _ (List.getElem_mem hpos), hall _ (List.getElem_mem h2)] at hk
        exact absurd rfl hk
      · omega
    rw [m_step8 (F + 64) pg.Pool pg.Seed epoch self boot s.les s.tail.Epoch s.tail.N s.log s.lasts s.items 0 1 (by unfold I64; omega) hi0, Option.bind_some, h1, show (((1 : Nat) : Int) == 1) = true from rfl, cond_true, m___primary_Machine__Idle_5, Option.bind_some, lives18r, Option.bind_some]

end Go.Proofs.Ytjnbkhnebmlilaa
