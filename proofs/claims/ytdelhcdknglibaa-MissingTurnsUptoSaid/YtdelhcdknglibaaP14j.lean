/-
  CHAPTER 14: plain facts on the models: the law MissingTurns.
-/
import Derived.Test.YtdelhcdknglibaaP14i
set_option linter.unusedVariables false
set_option linter.unusedSimpArgs false
set_option maxRecDepth 100000
namespace Go.Proofs.Ytdelhcdknglibaa
open Go Go.RowKit Sx

/-! ### The log is trimmed -/
def trimL (m : Int) : Ver → List Ent13 → Ver × List Ent13
  | t, [] => (t, [])
  | t, e :: l => bif decide ((((e :: l).length : Nat) : Int) > m) then trimL m e.Version l else (t, e :: l)
theorem trimL_spec (m : Int) : ∀ (l : List Ent13) (t : Ver), ∃ pre, l = pre ++ (trimL m t l).2 ∧ (trimL m t l).1 = headF t pre
  | [], t => ⟨[], rfl, rfl⟩
  | e :: l, t => by
    unfold trimL
    cases decide ((((e :: l).length : Nat) : Int) > m) with
    | false => exact ⟨[], rfl, rfl⟩
    | true =>
      obtain ⟨pre, h1, h2⟩ := trimL_spec m l e.Version
      refine ⟨e :: pre, by rw [cond_true, List.cons_append, ← h1], ?_⟩
      rw [cond_true, h2]
      cases pre with
      | nil => rfl
      | cons x r =>
        unfold headF
        rw [List.getLast?_cons_cons]
        cases hg : (x :: r).getLast? with
        | none => simp at hg
        | some y => rfl
theorem m_trim (F : Nat) (s : Stt) (m : Int) (hm : 0 ≤ m) (h1 : s.log.length ≤ 900) (h2 : s.lasts.length ≤ 900) (h3 : s.items.length ≤ 900) (hF : 901 ≤ F) :
    m_tholeref13_Trim F s.les s.tail s.log s.lasts s.items m = some (s.les, (trimL m s.tail s.log).1, (trimL m s.tail s.log).2, s.lasts, s.items) := by
  unfold m_tholeref13_Trim
  rw [jn_to m (fun J => by rw [decide_eq_false (by omega)]; rfl)]
  unfold m_tholeref13_Copy
  rw [grd_pos _ (A64 (by simp only [List.length_nil]; omega)), grd_pos _ (A40 (by simp only [List.length_nil]; omega)), grd_pos _ (A40 (by simp only [List.length_nil]; omega)), Option.bind_some]
  simp only [List.nil_append]
  have key : ∀ (l : List Ent13) (t : Ver) (G : Nat), l.length < G → loopW (fun (nx57 : Int × Int × List S_api_Entry → Option (Int × S_api_Version × List S_api_Entry × List S_api_Last × List S_api_Item)) (s65 : Int × Int × List S_api_Entry) => match s65 with | (c4_1_3, c4_2_3, l6_3) => (bif decide (((l6_3.length : Nat) : Int) > m) then grd (0 < l6_3.length) (grd (1 ≤ l6_3.length) (nx57 ((((l6_3.getD 0 dS_api_Entry).Version).Epoch), (((l6_3.getD 0 dS_api_Entry).Version).N), ((l6_3.drop 1).take (l6_3.length - 1))))) else some (s.les, (S_api_Version.mk c4_1_3 c4_2_3), l6_3, s.lasts, s.items))) G (t.Epoch, t.N, l)
      = some (s.les, (trimL m t l).1, (trimL m t l).2, s.lasts, s.items) := by
    intro l
    induction l with
    | nil =>
      intro t G hG
      obtain ⟨G, rfl⟩ : ∃ k, G = k + 1 := ⟨G - 1, by omega⟩
      rw [loopW]
      dsimp only
      rw [decide_eq_false (by simp only [List.length_nil]; omega)]
      rfl
    | cons e l ih =>
      intro t G hG
      obtain ⟨G, rfl⟩ : ∃ k, G = k + 1 := ⟨G - 1, by omega⟩
      rw [loopW, trimL]
      dsimp only
      cases decide ((((e :: l).length : Nat) : Int) > m) with
      | false => rfl
      | true =>
        rw [cond_true, grd_pos _ (by simp), grd_pos _ (by simp), cond_true]
        rw [List.length_cons] at hG
        have := ih e.Version G (by omega)
        rw [← this]
        simp
  exact key s.log s.tail F (by omega)

/-! ### What was trimmed, as long as they meet -/
theorem common_in (A B : List Ver) : ∀ (l : List Ver) (s : Ver × Bool), (s.2 = true → s.1 ∈ A ∧ s.1 ∈ B) → (∀ v ∈ l, v ∈ A) → (l.foldl (fun s v => seeF B v s) s).2 = true → (l.foldl (fun s v => seeF B v s) s).1 ∈ A ∧ (l.foldl (fun s v => seeF B v s) s).1 ∈ B
  | [], s, h, _, h2 => h h2
  | v :: l, s, h, hl, h2 => by
    rw [List.foldl_cons] at h2 ⊢
    refine common_in A B l (seeF B v s) (fun hs => ?_) (fun u hu => hl u (List.mem_cons_of_mem _ hu)) h2
    unfold seeF at hs ⊢
    split
    · next hc =>
      simp only [Bool.and_eq_true] at hc
      obtain ⟨w, hw, he⟩ := List.any_eq_true.1 hc.1
      have := (S_api_Version.beq_iff v w).1 he
      subst this
      exact ⟨hl v (by simp), hw⟩
    · next hc => rw [if_neg hc] at hs; exact h hs
theorem seeF_keep (B : List Ver) (v : Ver) {s : Ver × Bool} (h : s.2 = true) : (seeF B v s).2 = true := by
  unfold seeF
  split
  · rfl
  · exact h
theorem fold_keep (B : List Ver) : ∀ (l : List Ver) (s : Ver × Bool), s.2 = true → (l.foldl (fun s v => seeF B v s) s).2 = true
  | [], s, h => h
  | v :: l, s, h => fold_keep B l _ (seeF_keep B v h)
theorem common_tail {a b : Stt} (h : a.tail = b.tail) : (commonF a b).2 = true := by
  show ((a.log.map (·.Version)).foldl (fun s v => seeF (marks b) v s) (seeF (marks b) a.tail (⟨0, 0⟩, false))).2 = true
  refine fold_keep _ _ _ ?_
  unfold seeF
  rw [if_pos]
  simp [marks, h, vbeq_self]
theorem vcmp_up {u v : Ver} (h : v.Epoch < u.Epoch) : vcmp u v > 0 := by
  unfold vcmp cmpZ
  rw [if_neg (by omega : ¬ u.Epoch < v.Epoch), if_pos h]
  simp
theorem headF_in (t : Ver) (l : List Ent13) : headF t l = t ∨ ∃ e ∈ l, headF t l = e.Version := by
  unfold headF
  cases h : l.getLast? with
  | none => exact .inl rfl
  | some e => exact .inr ⟨e, List.mem_of_getLast? h, rfl⟩

/-- A state that is another one with a shorter log. -/
structure Cutt (want w : Stt) : Prop where
  items : w.items = want.items
  log : ∃ pre, want.log = pre ++ w.log ∧ w.tail = headF want.tail pre

section
variable {S0 S own want w : Stt} {n0 n1 n2 : Nat} (h0 : Pl S0 1 n0 S) (h1 : Pl S 2 n1 own) (h2 : Pl S 3 n2 want) (ht : S0.tail = ⟨0, 0⟩) (hl : S0.log = []) (hw : Cutt want w)
include h0 h1 h2 ht hl hw
theorem low_common (hc : (commonF own w).2 = true) : (commonF own w).1.Epoch ≤ 1 ∧ ∃ L3 : List Ent13, (∀ e ∈ L3, e ∈ w.log ∧ e.Version.Epoch = 3) ∧ ∀ z : Itm, (∀ e ∈ L3, e.Errno = 0 → e.Name.toList ≠ kI z) → (z ∈ want.items ↔ z ∈ S.items) := by
  obtain ⟨L1, a1, _, a3, _⟩ := h0.log
  obtain ⟨L2, b1, _, b3, _⟩ := h1.log
  obtain ⟨L3, c1, _, c3, c4⟩ := h2.log
  obtain ⟨pre, d1, d2⟩ := hw.log
  obtain ⟨m1, m2⟩ := common_in (marks own) (marks w) (marks own) (⟨0, 0⟩, false) (fun h => by cases h) (fun v hv => hv) hc
  have hS : ∀ e ∈ S.log, e.Version.Epoch = 1 := fun e he => by
    rw [a1, hl, List.nil_append] at he; exact a3 e he
  have k1 : (commonF own w).1.Epoch ≤ 1 ∨ (commonF own w).1.Epoch = 2 := by
    rcases List.mem_cons.1 m1 with e | hv
    · have e : (commonF own w).1 = own.tail := e
      rw [e, h1.tail, h0.tail, ht]; exact .inl (by decide)
    · obtain ⟨e, he, e2⟩ := List.mem_map.1 hv
      have e2 : e.Version = (commonF own w).1 := e2
      rw [b1] at he
      rcases List.mem_append.1 he with he | he
      · exact .inl (by rw [← e2, hS e he]; decide)
      · exact .inr (by rw [← e2]; exact b3 e he)
  have hwant : ∀ e ∈ want.log, e.Version.Epoch = 1 ∨ e.Version.Epoch = 3 := fun e he => by
    rw [c1] at he
    rcases List.mem_append.1 he with he | he
    · exact .inl (hS e he)
    · exact .inr (c3 e he)
  have k2 : (commonF own w).1.Epoch ≤ 1 ∨ (commonF own w).1.Epoch = 3 := by
    rcases List.mem_cons.1 m2 with e | hv
    · have e : (commonF own w).1 = w.tail := e
      rw [e, d2]
      rcases headF_in want.tail pre with q | ⟨x, hx, q⟩
      · rw [q, h2.tail, h0.tail, ht]; exact .inl (by decide)
      · rw [q]
        rcases hwant x (by rw [d1]; exact List.mem_append.2 (.inl hx)) with q | q
        · exact .inl (by rw [q]; decide)
        · exact .inr q
    · obtain ⟨e, he, e2⟩ := List.mem_map.1 hv
      have e2 : e.Version = (commonF own w).1 := e2
      rcases hwant e (by rw [d1]; exact List.mem_append.2 (.inr he)) with q | q
      · exact .inl (by rw [← e2, q]; decide)
      · exact .inr (by rw [← e2]; exact q)
  have hlow : (commonF own w).1.Epoch ≤ 1 := by omega
  refine ⟨hlow, L3, ?_, c4⟩
  have heq : pre ++ w.log = S.log ++ L3 := by rw [← d1, c1]
  rcases List.append_eq_append_iff.1 heq with ⟨as_, q1, q2⟩ | ⟨bs, q1, q2⟩
  · intro e he
    exact ⟨by rw [q2]; exact List.mem_append.2 (.inr he), c3 e he⟩
  · cases bs with
    | nil =>
      rw [List.nil_append] at q2
      intro e he
      exact ⟨by rw [← q2]; exact he, c3 e he⟩
    | cons x bs =>
      exfalso
      have hv3 : ∀ v ∈ marks w, v.Epoch = 3 := by
        intro v hv
        rcases List.mem_cons.1 hv with rfl | hv
        · rw [d2, q1]
          have : headF want.tail (S.log ++ x :: bs) = ((x :: bs).getLast (by simp)).Version := by
            unfold headF
            rw [List.getLast?_append, List.getLast?_eq_some_getLast (by simp)]
            rfl
          rw [this]
          exact c3 _ (by rw [q2]; exact List.mem_append.2 (.inl (List.getLast_mem _)))
        · obtain ⟨e, he, rfl⟩ := List.mem_map.1 hv
          exact c3 e (by rw [q2]; exact List.mem_append.2 (.inr he))
      have := hv3 _ m2
      have e3 : (commonF own w).1.Epoch = 3 := this
      omega
theorem untouched (hc : (commonF own w).2 = true) (z : Itm) (hz : z.Name ∉ TT own w) : z ∈ own.items ↔ z ∈ want.items := by
  obtain ⟨hlow, L3, c3, c4⟩ := low_common h0 h1 h2 ht hl hw hc
  obtain ⟨L2, b1, _, b3, b4⟩ := h1.log
  rw [b4 z (fun e he q0 q => hz ?_), c4 z (fun e he q0 q => hz ?_)]
  · have : z.Name = e.Name := str_tl_inj q.symm
    rw [this]
    refine TT_mem own w (.inr ?_) q0
    unfold lackF aboveF
    rw [if_pos hc]
    exact List.mem_filter.2 ⟨(c3 e he).1, decide_eq_true (vcmp_up (by rw [(c3 e he).2]; omega))⟩
  · have : z.Name = e.Name := str_tl_inj q.symm
    rw [this]
    refine TT_mem own w (.inl ?_) q0
    unfold divF aboveF
    rw [if_pos hc]
    exact List.mem_filter.2 ⟨by rw [b1]; exact List.mem_append.2 (.inr he), decide_eq_true (vcmp_up (by rw [b3 e he]; omega))⟩
end

/-! ### What is left, and what is fetched -/
theorem itm_ext {x y : Itm} (h1 : x.Name = y.Name) (h2 : x.Version = y.Version) (h3 : x.Crc = y.Crc) : x = y := by
  cases x; cases y; simp only at h1 h2 h3; subst h1; subst h2; subst h3; rfl
/-- Is an item left? -/
def keepF (pull : List Itm) (drop : List ByteArray) (x : Itm) : Bool := (drop.all fun n => !(n.toList == x.Name.toList)) && (pull.all fun y => !(y.Name.toList == x.Name.toList))
theorem keepF_iff (pull : List Itm) (drop : List ByteArray) (x : Itm) : keepF pull drop x = true ↔ x.Name ∉ drop ∧ ∀ y ∈ pull, y.Name ≠ x.Name := by
  unfold keepF
  simp only [Bool.and_eq_true, List.all_eq_true, Bool.not_eq_true']
  constructor
  · rintro ⟨h1, h2⟩
    exact ⟨fun h => (by have := h1 _ h; rw [str_tl_self] at this; cases this), fun y hy e => (by have := h2 y hy; rw [e, str_tl_self] at this; cases this)⟩
  · rintro ⟨h1, h2⟩
    refine ⟨fun n hn => ?_, fun y hy => ?_⟩
    · cases h : (n.toList == x.Name.toList) with
      | false => rfl
      | true => exact absurd ((str_tl _ _).1 h ▸ hn) h1
    · cases h : (y.Name.toList == x.Name.toList) with
      | false => rfl
      | true => exact absurd ((str_tl _ _).1 h) (h2 y hy)
theorem mem_pull {own want : List Itm} {T : List ByteArray} {z : Itm} : z ∈ T.flatMap (dPull own want) ↔ ∃ n ∈ T, ((findF want n).2 && (!(findF own n).2 || !(S_api_Item.beq (findF own n).1 (findF want n).1))) = true ∧ z = (findF want n).1 := by
  rw [List.mem_flatMap]
  refine exists_congr fun n => and_congr_right fun _ => ?_
  unfold dPull
  rw [← pull_same, mem_bif]
theorem mem_drop {own want : List Itm} {T : List ByteArray} {z : ByteArray} : z ∈ T.flatMap (dDrop own want) ↔ z ∈ T ∧ (findF want z).2 = false ∧ (findF own z).2 = true := by
  rw [List.mem_flatMap]
  constructor
  · rintro ⟨n, h1, h2⟩
    obtain ⟨q1, rfl⟩ := mem_bif.1 h2
    exact ⟨h1, by simpa using q1⟩
  · rintro ⟨h1, h2, h3⟩
    exact ⟨z, h1, mem_bif.2 ⟨by simp [h2, h3], rfl⟩⟩
theorem ri_nodup {α : Type} {k : α → List UInt8} {l : List α} (h : Ri k l) : l.Nodup := by
  refine List.Pairwise.imp (fun {a b} h e => ?_) h
  subst e
  exact absurd rfl (bl_ne h)

theorem turned {own want : List Itm} {T : List ByteArray} (ho : Ri kI own) (hw : Ri kI want) (hT : Ri kN T) (hu : ∀ z : Itm, z.Name ∉ T → (z ∈ own ↔ z ∈ want)) :
    (own.filter (keepF (T.flatMap (dPull own want)) (T.flatMap (dDrop own want))) ++ T.flatMap (dPull own want)).Perm want := by
  have hpr : Ri kI (T.flatMap (dPull own want)) := ri_flat kN kI _ (fun n z hz => by
    obtain ⟨q1, rfl⟩ := mem_bif.1 hz
    simp only [Bool.and_eq_true] at q1
    unfold kI kN
    rw [(findF_yes q1.1).2]) (fun n => bif_len _ _) _ hT
  refine (List.perm_ext_iff_of_nodup (List.nodup_append.2 ⟨(ri_nodup ho).filter _, ri_nodup hpr, fun x hx y hy e => ?_⟩) (ri_nodup hw)).2 (fun z => ?_)
  · subst e
    exact ((keepF_iff _ _ _).1 (List.mem_filter.1 hx).2).2 x hy rfl
  · rw [List.mem_append, List.mem_filter, keepF_iff]
    constructor
    · rintro (⟨h1, h2, h3⟩ | h1)
      · by_cases hz : z.Name ∈ T
        · have hfo := findF_mem ho h1
          cases hfw : (findF want z.Name).2 with
          | false => exact absurd (mem_drop.2 ⟨hz, hfw, by rw [hfo]⟩) h2
          | true =>
            cases hb : S_api_Item.beq (findF own z.Name).1 (findF want z.Name).1 with
            | true =>
              have := (S_api_Item.beq_iff _ _).1 hb
              rw [hfo] at this
              have h4 := (findF_yes hfw).1
              rw [← this] at h4
              exact h4
            | false => exact absurd (findF_yes hfw).2 (h3 _ (mem_pull.2 ⟨z.Name, hz, by rw [hfw, hb]; simp, rfl⟩))
        · exact (hu z hz).1 h1
      · obtain ⟨n, _, q, rfl⟩ := mem_pull.1 h1
        simp only [Bool.and_eq_true] at q
        exact (findF_yes q.1).1
    · intro h1
      have hfw := findF_mem hw h1
      by_cases hz : z.Name ∈ T
      · cases hc : (!(findF own z.Name).2 || !(S_api_Item.beq (findF own z.Name).1 (findF want z.Name).1)) with
        | true => exact .inr (mem_pull.2 ⟨z.Name, hz, by rw [hc, hfw]; rfl, by rw [hfw]⟩)
        | false =>
          simp only [Bool.or_eq_false_iff, Bool.not_eq_false'] at hc
          have := (S_api_Item.beq_iff _ _).1 hc.2
          rw [hfw] at this
          have h4 := (findF_yes hc.1).1
          rw [this] at h4
          refine .inl ⟨h4, fun h => ?_, fun y hy e => ?_⟩
          · have := (mem_drop.1 h).2.1
            rw [hfw] at this; cases this
          · obtain ⟨n, _, q, rfl⟩ := mem_pull.1 hy
            simp only [Bool.and_eq_true] at q
            have hn : z.Name = n := e.symm.trans (findF_yes q.1).2
            subst hn
            rw [hc.1, hc.2] at q
            simp at q
      · refine .inl ⟨(hu z hz).2 h1, fun h => hz (mem_drop.1 h).1, fun y hy e => ?_⟩
        obtain ⟨n, hn, q, rfl⟩ := mem_pull.1 hy
        simp only [Bool.and_eq_true] at q
        rw [(findF_yes q.1).2] at e
        exact hz (e ▸ hn)

theorem eraseF_perm (x : Itm) : ∀ (l : List Itm), x ∈ l → ∃ l', eraseF l x = some l' ∧ l.Perm (x :: l')
  | y :: l, h => by
    unfold eraseF
    by_cases hb : S_api_Item.beq x y = true
    · rw [if_pos hb]
      obtain rfl := (S_api_Item.beq_iff x y).1 hb
      exact ⟨l, rfl, List.Perm.refl _⟩
    · rw [if_neg hb]
      rcases List.mem_cons.1 h with rfl | h
      · exact absurd (ibeq_self x) hb
      · obtain ⟨l', h1, h2⟩ := eraseF_perm x l h
        exact ⟨y :: l', by rw [h1]; rfl, (h2.cons y).trans (List.Perm.swap x y l')⟩
theorem whole_perm : ∀ (items l : List Itm), l.Perm items → wholeF items l = true
  | [], l, _ => rfl
  | x :: r, l, h => by
    obtain ⟨l', h1, h2⟩ := eraseF_perm x l (h.mem_iff.2 (by simp))
    unfold wholeF
    rw [h1]
    exact whole_perm r l' (List.Perm.cons_inv (h2.symm.trans h))

theorem loop_all {α ρ : Type} (p : α → Bool) (fin : Nat → Bool → Option ρ) (R : Bool → Option ρ) (st : (Bool → Option ρ) → Nat → α → Bool → Option ρ) (hs : ∀ nx c x b, st nx c x b = nx (b && p x)) (hf : ∀ c b, fin c b = R b) :
    ∀ (l : List α) (c : Nat) (b : Bool), loopL st fin l c b = R (b && l.all p)
  | [], c, b => by rw [loopL, hf]; simp
  | x :: l, c, b => by rw [loopL, hs, loop_all p fin R st hs hf l (c + 1), List.all_cons, Bool.and_assoc]

theorem filter_flat {α : Type} (p : α → Bool) : ∀ l : List α, l.flatMap (fun x => bif p x then [x] else []) = l.filter p
  | [] => rfl
  | x :: l => by
    rw [List.flatMap_cons, filter_flat p l, List.filter_cons]
    cases p x <;> rfl

theorem law_turns (n : Nat) (a b c : List S_tholelaw14_Act) (ha : a.length ≤ 1048576) (hb : b.length ≤ 1048576) (hc : c.length ≤ 1048576) : m_tholelaw14_MissingTurns (n + 1000) a b c = some true := by
  unfold m_tholelaw14_MissingTurns
  rw [grd_pos _ (by unfold I64; omega), grd_pos _ (by unfold I64; omega)]
  by_cases hf : ((a.length : Nat) : Int) + ((b.length : Nat) : Int) + ((c.length : Nat) : Int) > 120
  · rw [decide_eq_true hf, cond_true, awake14, Option.bind_some]
  rw [decide_eq_false hf, cond_false]
  obtain ⟨r0, e0, S, rfl, p0⟩ := m_played (n + 1000) ⟨0, ⟨0, 0⟩, [], [], []⟩ 1 a (by omega) ⟨by simp, by simp, by simp⟩ List.Pairwise.nil (by show (0 : Int) ≤ 0; decide) (by show (0 : Int) ≤ 1000; decide) (by decide)
  dsimp only at e0
  rw [e0, Option.bind_some]
  obtain ⟨L1, a1, a2, _, _⟩ := p0.log
  have a3 := p0.lasts
  have a4 := p0.items
  have a5 := p0.n1
  have a6 : S.log.length ≤ a.length := by rw [a1]; simpa using a2
  simp only [List.length_nil] at a3 a4
  replace a5 : (headF S.tail S.log).N ≤ 0 + (a.length : Int) := a5
  have hS : S.Small 800 := ⟨by omega, by omega, by omega⟩
  obtain ⟨r1, e1, own, rfl, p1⟩ := m_played (n + 1000) S 2 b (by omega) hS p0.ri p0.n0 (by omega) (by decide)
  obtain ⟨r2, e2, want, rfl, p2⟩ := m_played (n + 1000) S 3 c (by omega) hS p0.ri p0.n0 (by omega) (by decide)
  dsimp only
  rw [e1, Option.bind_some, e2, Option.bind_some]
  obtain ⟨L2, b1, b2, _, _⟩ := p1.log
  have b3 := p1.lasts
  have b4 := p1.items
  have b6 : own.log.length ≤ a.length + b.length := by rw [b1, List.length_append]; omega
  obtain ⟨L3, c1, c2, _, _⟩ := p2.log
  have c3 := p2.lasts
  have c4 := p2.items
  have c6 : want.log.length ≤ a.length + c.length := by rw [c1, List.length_append]; omega
  dsimp only
  rw [grd_pos _ (by decide)]
  have key : ∀ (o : Option Bool), (∃ r, o = some r ∧ r = true) → o = some true := fun o ⟨r, h1, h2⟩ => by rw [h1, h2]
  refine key _ (loopC_ex (fun _ _ => True) (fun r => r = true) 4 _ _ (fun nx k u hk _ => ⟨(), trivial, ?_⟩) (fun u _ => ?_) _ 0 () rfl trivial)
  · obtain ⟨w, hw, hw0, hwl, hwla, hj⟩ : ∃ w : Stt, Cutt want w ∧ (k = 0 → w = want) ∧ w.log.length ≤ want.log.length ∧ w.lasts.length ≤ want.lasts.length ∧ ∀ J : Int × Int × Int × List S_api_Entry × List S_api_Last × List S_api_Item → Option Bool,
        (bif decide (((k : Nat) : Int) > 0) then grd (I64 (((k : Nat) : Int) * 2)) ((m_tholeref13_Trim (n + 1000) want.les want.tail want.log want.lasts want.items (((k : Nat) : Int) * 2)).bind (fun y870 => J (y870.1, y870.2.1.Epoch, y870.2.1.N, y870.2.2.1, y870.2.2.2.1, y870.2.2.2.2))) else J (want.les, want.tail.Epoch, want.tail.N, want.log, want.lasts, want.items))
          = J (w.les, w.tail.Epoch, w.tail.N, w.log, w.lasts, w.items) := by
      by_cases h0 : k = 0
      · subst h0
        exact ⟨want, ⟨rfl, [], rfl, rfl⟩, fun _ => rfl, Nat.le_refl _, Nat.le_refl _, fun J => rfl⟩
      · obtain ⟨pre, t1, t2⟩ := trimL_spec (((k : Nat) : Int) * 2) want.log want.tail
        refine ⟨⟨want.les, (trimL (((k : Nat) : Int) * 2) want.tail want.log).1, (trimL (((k : Nat) : Int) * 2) want.tail want.log).2, want.lasts, want.items⟩, ⟨rfl, pre, t1, t2⟩, fun h => absurd h h0, ?_, Nat.le_refl _, fun J => ?_⟩
        · have := congrArg List.length t1
          rw [List.length_append] at this
          show (trimL (((k : Nat) : Int) * 2) want.tail want.log).2.length ≤ _
          omega
        · rw [decide_eq_true (by omega), cond_true, grd_pos _ (by unfold I64; omega), m_trim _ want _ (by omega) (by omega) (by omega) (by omega) (by omega), Option.bind_some]
    rw [jn_to _ hj]
    dsimp only
    have hit : w.items = want.items := hw.items
    have hd := m_cdiff (n + 1000) own w (by omega) (by omega) (by omega) (by rw [hit]; omega)
    rw [show S_api_Version.mk w.tail.Epoch w.tail.N = w.tail from rfl, hd, Option.bind_some]
    have hDl := DD_len own w
    cases hcm : (commonF own w).2 with
    | false =>
      have hDD : DD own w = ([], [], false) := by unfold DD; rw [hcm]; rfl
      rw [hDD]
      have hk0 : k ≠ 0 := fun h => by
        have := hw0 h
        subst this
        rw [common_tail (p1.tail.trans p2.tail.symm)] at hcm
        cases hcm
      rw [Bool.not_false, cond_true, show (((k : Nat) : Int) == 0) = false by rw [beq_eq_false_iff_ne]; omega, cond_false]
    | true =>
      have hDD : DD own w = ((TT own w).flatMap (dPull own.items w.items), (TT own w).flatMap (dDrop own.items w.items), true) := by unfold DD; rw [hcm]; rfl
      have hperm := turned p1.ri p2.ri (TT_ri own w) (untouched p0 p1 p2 rfl rfl hw hcm)
      rw [← hit] at hperm
      rw [hDD] at hDl ⊢
      generalize hP : (TT own w).flatMap (dPull own.items w.items) = P at *
      generalize hD : (TT own w).flatMap (dDrop own.items w.items) = D at *
      dsimp only at hDl ⊢
      rw [Bool.not_true, cond_false, grd_pos _ (by unfold Len; omega)]
      refine (loop_gather (fun x => bif keepF P D x then [x] else []) (fun x => bif_len _ _) _ _ (fun have_ => grd (App (have_.length + P.length) 40) ((m_missing_Whole (n + 1000) w.les w.tail w.log w.lasts w.items (have_ ++ P)).bind (fun y1277 => (bif !y1277 then some false else nx ())))) (fun _ _ => True) (fun _ _ _ _ => trivial) (fun nx2 c2 x l acc hcc _ => ?_) (fun c2 acc => rfl) own.items 0 [] (by rw [List.length_nil]; omega) trivial).trans ?_
      · rw [grd_pos _ (by unfold Len; omega)]
        refine (loop_all (fun n : ByteArray => !(n.toList == x.Name.toList)) _ (fun b => loopL _ _ P 0 b) _ (fun nx c y b => by cases b <;> rfl) (fun c b => by rw [grd_pos _ (by unfold Len; omega)]) D 0 true).trans ?_
        refine (loop_all (fun y : Itm => !(y.Name.toList == x.Name.toList)) _ (fun b => bif b then grd (App (acc.length + [x].length) 40) (nx2 (acc ++ [x])) else nx2 acc) _ (fun nx c y b => by cases b <;> rfl) (fun c b => rfl) P 0 _).trans ?_
        rw [Bool.true_and]
        unfold keepF
        cases ((D.all fun n => !(n.toList == x.Name.toList)) && (P.all fun y => !(y.Name.toList == x.Name.toList))) with
        | false => simp only [cond_false, List.append_nil]
        | true => simp only [cond_true]; rw [grd_pos _ (A40 (by simp only [List.length_cons, List.length_nil]; omega))]
      · rw [List.nil_append, filter_flat]
        have hlen := hperm.length_eq
        have hfl := List.length_filter_le (keepF P D) own.items
        rw [grd_pos _ (A40 (by omega)), m_whole _ w _ (by rw [hit]; omega) (by rw [List.length_append]; omega), Option.bind_some, decide_eq_true hlen, whole_perm _ _ hperm]
        rfl
  · rw [m_cdiff (n + 1000) want want (by omega) (by omega) (by omega) (by omega), Option.bind_some]
    have hDD : DD want want = ([], [], true) := by
      unfold DD
      rw [common_tail rfl, cond_true]
      have h1 : (TT want want).flatMap (dPull want.items want.items) = [] := by
        rw [List.flatMap_eq_nil_iff]
        intro x _
        unfold dPull
        rw [vbeq_self]
        cases (findF want.items x).2 <;> simp [bne]
      have h2 : (TT want want).flatMap (dDrop want.items want.items) = [] := by
        rw [List.flatMap_eq_nil_iff]
        intro x _
        unfold dDrop
        cases (findF want.items x).2 <;> rfl
      rw [h1, h2]
    rw [hDD, awake14]
    exact ⟨true, rfl, rfl⟩

end Go.Proofs.Ytdelhcdknglibaa
