/-
  CHAPTER 20, BackfillMeets: plain facts on the models: the law.
-/
import Derived.Test.YticlccnajfjdeaaP20mi
set_option linter.unusedVariables false
set_option linter.unusedSimpArgs false
set_option maxRecDepth 1000000
namespace Go.Proofs.Yticlccnajfjdeaa
open Go Go.RowKit Sx

theorem common_in (A B : List Ver) : ∀ (l : List Ver) (s : Ver × Bool), (s.2 = true → s.1 ∈ A ∧ s.1 ∈ B) → (∀ v ∈ l, v ∈ A) → (l.foldl (fun s v => seeF B v s) s).2 = true → (l.foldl (fun s v => seeF B v s) s).1 ∈ A ∧ (l.foldl (fun s v => seeF B v s) s).1 ∈ B
  | [], s, h, _, h2 => h h2
  | v :: l, s, h, hl, h2 => by
    rw [List.foldl_cons] at h2 ⊢
    refine common_in A B l (seeF B v s) (fun hs => ?_) (fun u hu => hl u (List.mem_cons_of_mem _ hu)) h2
    unfold seeF at hs ⊢
    split
    · next hc =>
      simp only [Bool.and_eq_true] at hc
      obtain ⟨w, hw, he⟩ := List.any_eq_true.1 hc.1
      have := (S_api_Version.beq_iff v w).1 he
      subst this
      exact ⟨hl v (by simp), hw⟩
    · next hc => rw [if_neg hc] at hs; exact h hs
theorem itm_ext {x y : Itm} (h1 : x.Name = y.Name) (h2 : x.Version = y.Version) (h3 : x.Crc = y.Crc) : x = y := by
  cases x; cases y; simp only at h1 h2 h3; subst h1; subst h2; subst h3; rfl
theorem vcmp_up {u v : Ver} (h : v.Epoch < u.Epoch) : vcmp u v > 0 := by
  unfold vcmp cmpZ
  rw [if_neg (by omega : ¬ u.Epoch < v.Epoch), if_pos h]
  simp

section
variable {S0 S own want : Stt} {n0 n1 n2 : Nat} (h0 : Pl S0 1 n0 S) (h1 : Pl S 2 n1 own) (h2 : Pl S 3 n2 want) (ht : S0.tail = ⟨0, 0⟩) (hl : S0.log = [])
include h0 h1 h2 ht hl
theorem low_common (hc : (commonF own want).2 = true) : (commonF own want).1.Epoch ≤ 1 := by
  obtain ⟨L1, a1, _, a3, _⟩ := h0.log
  obtain ⟨L2, b1, _, b3, _⟩ := h1.log
  obtain ⟨L3, c1, _, c3, _⟩ := h2.log
  obtain ⟨m1, m2⟩ := common_in (marks own) (marks want) (marks own) (⟨0, 0⟩, false) (fun h => by cases h) (fun v hv => hv) hc
  have key : ∀ (ep : Int) (s : Stt) (L : List Ent13), s.tail = S.tail → s.log = S.log ++ L → (∀ e ∈ L, e.Version.Epoch = ep ∧ e.Errno = 0) → ∀ v ∈ marks s, v.Epoch ≤ 1 ∨ v.Epoch = ep := by
    intro ep s L q1 q2 q3 v hv
    rcases List.mem_cons.1 hv with rfl | hv
    · rw [q1, h0.tail, ht]; exact .inl (by decide)
    · obtain ⟨e, he, rfl⟩ := List.mem_map.1 hv
      rw [q2, a1, hl, List.nil_append] at he
      rcases List.mem_append.1 he with he | he
      · exact .inl (by rw [(a3 e he).1]; decide)
      · exact .inr (q3 e he).1
  rcases key 2 own L2 h1.tail b1 b3 _ m1 with h | h
  · exact h
  · rcases key 3 want L3 h2.tail c1 c3 _ m2 with h' | h'
    · exact h'
    · unfold commonF at *; omega
theorem untouched (hc : (commonF own want).2 = true) (z : Itm) (hz : z.Name ∉ TT own want) : z ∈ own.items ↔ z ∈ want.items := by
  have hlow := low_common h0 h1 h2 ht hl hc
  obtain ⟨L2, b1, _, b3, b4⟩ := h1.log
  obtain ⟨L3, c1, _, c3, c4⟩ := h2.log
  rw [b4 z (fun e he q => hz ?_), c4 z (fun e he q => hz ?_)]
  · have : z.Name = e.Name := str_tl_inj q.symm
    rw [this]
    refine TT_mem own want (.inr ?_) (c3 e he).2
    unfold lackF aboveF
    rw [if_pos hc]
    exact List.mem_filter.2 ⟨by rw [c1]; exact List.mem_append.2 (.inr he), decide_eq_true (vcmp_up (by rw [(c3 e he).1]; omega))⟩
  · have : z.Name = e.Name := str_tl_inj q.symm
    rw [this]
    refine TT_mem own want (.inl ?_) (b3 e he).2
    unfold divF aboveF
    rw [if_pos hc]
    exact List.mem_filter.2 ⟨by rw [b1]; exact List.mem_append.2 (.inr he), decide_eq_true (vcmp_up (by rw [(b3 e he).1]; omega))⟩
theorem same_pull (hc : (commonF own want).2 = true) : (TT own want).flatMap (dPull own.items want.items) = want.items.flatMap (pPull own.items) := by
  have hu := untouched h0 h1 h2 ht hl hc
  refine ri_same kI (ri_flat kN kI _ (fun n z hz => ?_) (fun n => bif_len _ _) _ (TT_ri own want)) (ri_flat kI kI _ (fun n z hz => ?_) (fun n => bif_len _ _) _ h2.ri) (fun z => ?_)
  · obtain ⟨q1, rfl⟩ := mem_bif.1 hz
    simp only [Bool.and_eq_true] at q1
    unfold kI kN
    rw [(findF_yes q1.1).2]
  · obtain ⟨_, rfl⟩ := mem_bif.1 hz; rfl
  · rw [List.mem_flatMap, List.mem_flatMap]
    constructor
    · rintro ⟨n, hn, hz⟩
      obtain ⟨q1, rfl⟩ := mem_bif.1 hz
      simp only [Bool.and_eq_true] at q1
      obtain ⟨q1, q2⟩ := q1
      obtain ⟨q3, q4⟩ := findF_yes q1
      refine ⟨_, q3, mem_bif.2 ⟨?_, rfl⟩⟩
      rw [q4]
      cases hb : S_api_Item.beq (findF own.items n).1 (findF want.items n).1 with
      | false => simp
      | true =>
        have := (S_api_Item.beq_iff _ _).1 hb
        rw [this] at q2
        have q5 : S_api_Version.beq (findF want.items n).1.Version (findF want.items n).1.Version = true := (S_api_Version.beq_iff _ _).2 rfl
        rw [q5] at q2
        simpa using q2
    · rintro ⟨w, hw, hz⟩
      obtain ⟨q1, rfl⟩ := mem_bif.1 hz
      have hfw := findF_mem h2.ri hw
      have hT : z.Name ∈ TT own want := by
        refine Classical.byContradiction fun hn => ?_
        have hfo := findF_mem h1.ri ((hu z hn).2 hw)
        rw [hfo] at q1
        rw [show S_api_Item.beq z z = true from (S_api_Item.beq_iff z z).2 rfl] at q1
        cases q1
      refine ⟨z.Name, hT, mem_bif.2 ⟨?_, by rw [hfw]⟩⟩
      rw [hfw]
      simp only [Bool.true_and]
      cases ha : (findF own.items z.Name).2 with
      | false => rfl
      | true =>
        rw [ha, Bool.not_true, Bool.false_or] at q1
        rw [Bool.not_true, Bool.false_or]
        have hnm := (findF_yes ha).2
        cases hv : S_api_Version.beq (findF own.items z.Name).1.Version z.Version with
        | false => rfl
        | true =>
          rw [Bool.not_true, Bool.false_or]
          have hv := (S_api_Version.beq_iff _ _).1 hv
          rw [bne_iff_ne]
          intro hcrc
          have : (findF own.items z.Name).1 = z := itm_ext hnm hv hcrc
          rw [this, show S_api_Item.beq z z = true from (S_api_Item.beq_iff z z).2 rfl] at q1
          cases q1
theorem same_drop (hc : (commonF own want).2 = true) : (TT own want).flatMap (dDrop own.items want.items) = own.items.flatMap (pDrop want.items) := by
  have hu := untouched h0 h1 h2 ht hl hc
  refine ri_same kN (ri_flat kN kN _ (fun n z hz => ?_) (fun n => bif_len _ _) _ (TT_ri own want)) (ri_flat kI kN _ (fun n z hz => ?_) (fun n => bif_len _ _) _ h1.ri) (fun z => ?_)
  · obtain ⟨_, rfl⟩ := mem_bif.1 hz; rfl
  · obtain ⟨_, rfl⟩ := mem_bif.1 hz; rfl
  · rw [List.mem_flatMap, List.mem_flatMap]
    constructor
    · rintro ⟨n, hn, hz⟩
      obtain ⟨q1, rfl⟩ := mem_bif.1 hz
      simp only [Bool.and_eq_true] at q1
      obtain ⟨q3, q4⟩ := findF_yes q1.2
      exact ⟨_, q3, mem_bif.2 ⟨by rw [q4]; exact q1.1, q4.symm⟩⟩
    · rintro ⟨x, hx, hz⟩
      obtain ⟨q1, rfl⟩ := mem_bif.1 hz
      have hfo := findF_mem h1.ri hx
      have hT : x.Name ∈ TT own want := by
        refine Classical.byContradiction fun hn => ?_
        have hfw := findF_mem h2.ri ((hu x hn).1 hx)
        rw [hfw] at q1
        cases q1
      exact ⟨x.Name, hT, mem_bif.2 ⟨by rw [hfo, q1]; rfl, rfl⟩⟩
end

theorem loop_same {α β ρ : Type} (f : α → β) (l2 : List β) (d : β) (st : (Unit → Option ρ) → Nat → α → Unit → Option ρ) (fin : Nat → Unit → Option ρ) (r : Option ρ)
    (hs : ∀ nx c x, c < l2.length → l2.getD c d = f x → st nx c x () = nx ()) (hf : ∀ c, fin c () = r) :
    ∀ (l : List α) (c : Nat), l2.drop c = l.map f → loopL st fin l c () = r
  | [], c, h => by rw [loopL, hf]
  | x :: l, c, h => by
    have hc : c < l2.length := by
      by_cases hc : c < l2.length
      · exact hc
      · rw [List.drop_eq_nil_of_le (by omega)] at h; simp at h
    rw [List.drop_eq_getElem_cons hc, List.map_cons] at h
    rw [loopL, hs _ _ _ hc (by rw [List.getD, List.getElem?_eq_getElem hc]; exact (List.cons.inj h).1)]
    exact loop_same f l2 d st fin r hs hf l (c + 1) (List.cons.inj h).2
theorem m_items_self (F : Nat) (l : List Itm) (h : l.length ≤ 1000000) : m_tholelaw20_items F l l = some true := by
  simp only [m_tholelaw20_items]
  rw [show (((l.length : Nat) : Int) != ((l.length : Nat) : Int)) = false by simp, cond_false, grd_pos _ (by unfold Len; omega)]
  refine loop_same id l dS_api_Item _ _ _ (fun nx c x hc hx => ?_) (fun c => rfl) l 0 (by simp)
  rw [grd_pos _ hc, hx, show S_api_Item.beq x (id x) = true from (S_api_Item.beq_iff x x).2 rfl]
  rfl
theorem m_texts_self (F : Nat) (l : List ByteArray) (h : l.length ≤ 1000000) : m_tholeref01_Texts F l l = some true := by
  simp only [m_tholeref01_Texts]
  rw [show (((l.length : Nat) : Int) != ((l.length : Nat) : Int)) = false by simp, cond_false, grd_pos _ (by unfold Len; omega)]
  refine loop_same id l (ByteArray.mk #[]) _ _ _ (fun nx c x hc hx => ?_) (fun c => rfl) l 0 (by simp)
  rw [grd_pos _ hc, hx, show (x.toList == (id x).toList) = true from str_tl_self x]
  rfl
theorem flat_len {α β : Type} (f : α → List β) (h : ∀ x, (f x).length ≤ 1) : ∀ l : List α, (l.flatMap f).length ≤ l.length
  | [] => by simp
  | x :: l => by
    have := flat_len f h l
    have := h x
    rw [List.flatMap_cons, List.length_append, List.length_cons]; omega

theorem law_meets (a b c : List UInt8) (ha : a.length ≤ 1048576) (hb : b.length ≤ 1048576) (hc : c.length ≤ 1048576) : m_tholelaw20_BackfillMeets 3000 a b c = some true := by
  simp only [m_tholelaw20_BackfillMeets, m_tholelaw20_far, Option.bind_some]
  rw [grd_pos _ (by unfold I64; omega), grd_pos _ (by unfold I64; omega)]
  by_cases hf : ((a.length : Nat) : Int) + ((b.length : Nat) : Int) + ((c.length : Nat) : Int) > 400
  · rw [decide_eq_true hf, cond_true, awake20m, Option.bind_some]
  rw [decide_eq_false hf, cond_false]
  obtain ⟨r0, e0, S, rfl, p0⟩ := m_played 3000 ⟨0, ⟨0, 0⟩, [], [], []⟩ 1 a (by omega) ⟨by simp, by simp, by simp⟩ List.Pairwise.nil (by show (0 : Int) ≤ 0; decide) (by show (0 : Int) ≤ 1000; decide) (by decide)
  dsimp only at e0
  rw [e0, Option.bind_some]
  obtain ⟨L1, a1, a2, _, _⟩ := p0.log
  have a3 := p0.lasts
  have a4 := p0.items
  have a5 := p0.n1
  have a6 : S.log.length ≤ a.length := by rw [a1]; simpa using a2
  simp only [List.length_nil] at a3 a4
  replace a5 : (headF S.tail S.log).N ≤ 0 + (a.length : Int) := a5
  have hS : S.Small 800 := ⟨by omega, by omega, by omega⟩
  obtain ⟨r1, e1, own, rfl, p1⟩ := m_played 3000 S 2 b (by omega) hS p0.ri p0.n0 (by omega) (by decide)
  obtain ⟨r2, e2, want, rfl, p2⟩ := m_played 3000 S 3 c (by omega) hS p0.ri p0.n0 (by omega) (by decide)
  dsimp only
  rw [e1, Option.bind_some, e2, Option.bind_some]
  obtain ⟨L2, b1, b2, _, _⟩ := p1.log
  have b3 := p1.lasts
  have b4 := p1.items
  have b6 : own.log.length ≤ a.length + b.length := by rw [b1, List.length_append]; omega
  obtain ⟨L3, c1, c2, _, _⟩ := p2.log
  have c3 := p2.lasts
  have c4 := p2.items
  have c6 : want.log.length ≤ a.length + c.length := by rw [c1, List.length_append]; omega
  dsimp only
  rw [m_diff 3000 own want ⟨by omega, by omega, by omega⟩ ⟨by omega, by omega, by omega⟩, Option.bind_some, m_plan2 3000 (by decide) own want (by omega) (by omega) p1.ri p2.ri, Option.bind_some]
  cases hcm : (commonF own want).2 with
  | false => rw [cond_false]; dsimp only; rw [Bool.not_false, cond_true, awake20m, Option.bind_some]
  | true =>
    rw [cond_true]
    dsimp only
    rw [Bool.not_true, cond_false, same_pull p0 p1 p2 rfl rfl hcm, same_drop p0 p1 p2 rfl rfl hcm]
    have f1 := flat_len (pPull own.items) (fun _ => bif_len _ _) want.items
    have f2 := flat_len (pDrop want.items) (fun _ => bif_len _ _) own.items
    rw [m_items_self 3000 _ (by omega), Option.bind_some, cond_true, m_texts_self 3000 _ (by omega), Option.bind_some, cond_true, awake20m, Option.bind_some]

end Go.Proofs.Yticlccnajfjdeaa
