/-
  CHAPTER 18, PrimaryOnce: plain facts: what a put makes of a rising list, and of pairs.
-/
import Derived.Test.YtjnbkhnebmlilaaGreatP18od
set_option linter.unusedVariables false
set_option linter.unusedSimpArgs false
set_option maxRecDepth 100000
namespace Go.Proofs.YtjnbkhnebmlilaaGreat
open Go Go.RowKit Sx

section
variable {α κ : Type} (o : KOrd κ) (k : α → κ)

theorem KOrd.eq_ff {a b : κ} (h : o.eq a b = false) : a ≠ b := fun e => by rw [(o.eqi a b).2 e] at h; cases h

theorem mem_putT (it : α) : ∀ (l : List α) (z : α), z ∈ putG o k it true l ↔ z ∈ l ∧ k z ≠ k it
  | [], z => by simp [putG]
  | x :: r, z => by
    rw [putG, Bool.true_or, List.mem_append, mem_putT it r z, List.mem_cons]
    cases hx : o.eq (k x) (k it) with
    | true =>
      have : k x = k it := (o.eqi _ _).1 hx
      simp only [Bool.not_true, Bool.false_and, cond_false, cond_true, List.nil_append, List.not_mem_nil, false_or]
      constructor
      · exact fun h => ⟨.inr h.1, h.2⟩
      · rintro ⟨rfl | h, h2⟩
        · exact absurd this h2
        · exact ⟨h, h2⟩
    | false =>
      have := o.eq_ff hx
      simp only [Bool.not_true, Bool.false_and, cond_false, List.nil_append, List.mem_singleton]
      constructor
      · rintro (rfl | h)
        · exact ⟨.inl rfl, this⟩
        · exact ⟨.inr h.1, h.2⟩
      · rintro ⟨rfl | h, h2⟩
        · exact .inl rfl
        · exact .inr ⟨h, h2⟩

theorem mem_putF (it : α) : ∀ (l : List α) (z : α), z ∈ putG o k it false l ↔ z = it ∨ (z ∈ l ∧ k z ≠ k it)
  | [], z => by simp [putG]
  | x :: r, z => by
    rw [putG]
    cases hl : o.lt (k x) (k it) with
    | true =>
      have hne := o.lt_ne hl
      rw [o.eq_f hne]
      simp only [Bool.not_true, Bool.and_false, cond_false, List.nil_append, Bool.or_false, List.singleton_append, List.mem_cons]
      rw [mem_putF it r z]
      constructor
      · rintro (rfl | rfl | h)
        · exact .inr ⟨.inl rfl, hne⟩
        · exact .inl rfl
        · exact .inr ⟨.inr h.1, h.2⟩
      · rintro (rfl | ⟨rfl | h, h2⟩)
        · exact .inr (.inl rfl)
        · exact .inl rfl
        · exact .inr (.inr ⟨h, h2⟩)
    | false =>
      simp only [Bool.not_false, Bool.and_true, Bool.or_true, cond_true]
      rw [List.mem_append, List.mem_append, mem_putT o k it r z, List.mem_singleton, List.mem_cons]
      cases hx : o.eq (k x) (k it) with
      | true =>
        have : k x = k it := (o.eqi _ _).1 hx
        simp only [cond_true, List.not_mem_nil, or_false]
        constructor
        · rintro (rfl | h)
          · exact .inl rfl
          · exact .inr ⟨.inr h.1, h.2⟩
        · rintro (rfl | ⟨rfl | h, h2⟩)
          · exact .inl rfl
          · exact absurd this h2
          · exact .inr ⟨h, h2⟩
      | false =>
        have := o.eq_ff hx
        simp only [cond_false, List.mem_singleton]
        constructor
        · rintro ((rfl | rfl) | h)
          · exact .inl rfl
          · exact .inr ⟨.inl rfl, this⟩
          · exact .inr ⟨.inr h.1, h.2⟩
        · rintro (rfl | ⟨rfl | h, h2⟩)
          · exact .inl (.inl rfl)
          · exact .inl (.inr rfl)
          · exact .inr ⟨h, h2⟩

theorem ris_putT (it : α) : ∀ l : List α, Ris o k l → Ris o k (putG o k it true l)
  | [], _ => List.Pairwise.nil
  | x :: r, h => by
    have ih := ris_putT it r h.tail
    rw [putG, Bool.true_or]
    cases o.eq (k x) (k it) with
    | true => exact ih
    | false => exact List.pairwise_cons.2 ⟨fun z hz => h.head z ((mem_putT o k it r z).1 hz).1, ih⟩

theorem ris_putF (it : α) : ∀ l : List α, Ris o k l → Ris o k (putG o k it false l)
  | [], _ => List.pairwise_singleton _ _
  | x :: r, h => by
    rw [putG]
    cases hl : o.lt (k x) (k it) with
    | true =>
      rw [o.eq_f (o.lt_ne hl)]
      refine List.pairwise_cons.2 ⟨fun z hz => ?_, ris_putF it r h.tail⟩
      rcases (mem_putF o k it r z).1 hz with rfl | hz
      · exact hl
      · exact h.head z hz.1
    | false =>
      have ht := ris_putT o k it r h.tail
      cases hx : o.eq (k x) (k it) with
      | true =>
        have hk : k x = k it := (o.eqi _ _).1 hx
        refine List.pairwise_cons.2 ⟨fun z hz => ?_, ht⟩
        rw [← hk]
        exact h.head z ((mem_putT o k it r z).1 hz).1
      | false =>
        have hlt := o.tot _ _ hl (o.eq_ff hx)
        refine List.pairwise_cons.2 ⟨fun z hz => ?_, List.pairwise_cons.2 ⟨fun z hz => h.head z ((mem_putT o k it r z).1 hz).1, ht⟩⟩
        rcases List.mem_cons.1 hz with rfl | hz
        · exact hlt
        · exact o.tr _ _ _ hlt (h.head z ((mem_putT o k it r z).1 hz).1)

theorem ris_rises (lt : α → α → Bool) (hlt : ∀ x y, lt x y = o.lt (k x) (k y)) : ∀ (l : List α) (p : Option α), Ris o k l → (∀ q, p = some q → ∀ y ∈ l, o.lt (k q) (k y) = true) → rises lt p l = true
  | [], p, _, _ => by cases p <;> rfl
  | x :: l, p, h, hp => by
    have ih := ris_rises lt hlt l (some x) h.tail (fun q e y hy => by cases e; exact h.head y hy)
    cases p with
    | none => exact ih
    | some q => rw [rises, hlt, hp q rfl x (by simp), ih]; rfl
end

/-- What is asked of items and last requests, at a head. -/
structure Sound (s : Stt) (v : Ver) : Prop where
  log : logOk s.log s.tail = some v
  n3 : s.items.length ≤ 32
  items : ∀ x ∈ s.items, goodB x.Name = true ∧ belowB x.Version = false ∧ x.Version ≠ ⟨0, 0⟩ ∧ ¬ vcmp x.Version v > 0
  lasts : ∀ x ∈ s.lasts, belowB x.Version = false ∧ ¬ vcmp x.Version v > 0
  rI : Ris oS kI s.items
  rL : Ris oZ kC s.lasts

theorem Sound.check {s : Stt} {v : Ver} (h : Sound s v) (hl : 0 ≤ s.les) (ht : belowB s.tail = false) : checkF s = 0 := by
  unfold checkF
  rw [if_neg (by rw [ht]; have := h.n3; simp; omega), h.log]
  have h1 : s.items.any (badI v) = false := by
    rw [List.any_eq_false]
    intro x hx
    obtain ⟨a, b, c, d⟩ := h.items x hx
    unfold badI
    have hb : S_api_Version.beq x.Version ⟨0, 0⟩ = false := by
      cases hq : S_api_Version.beq x.Version ⟨0, 0⟩ with
      | false => rfl
      | true => exact absurd ((S_api_Version.beq_iff _ _).1 hq) c
    rw [a, b, hb, decide_eq_false d]; decide
  have h2 : s.lasts.any (badL v) = false := by
    rw [List.any_eq_false]
    intro x hx
    obtain ⟨b, d⟩ := h.lasts x hx
    unfold badL
    rw [b, decide_eq_false d]; decide
  have h3 := ris_rises oS kI nameLt (fun _ _ => rfl) s.items none h.rI (fun q e => by cases e)
  have h4 := ris_rises oZ kC cliLt (fun _ _ => rfl) s.lasts none h.rL (fun q e => by cases e)
  simp [h1, h2, h3, h4]

theorem good_size {n : ByteArray} (h : goodB n = true) : n.size ≤ 9223372036854775807 := by
  unfold goodB at h
  simp only [Bool.and_eq_true, decide_eq_true_eq] at h
  omega
theorem Sound.names {s : Stt} {v : Ver} (h : Sound s v) : s.Names := fun x hx => good_size (h.items x hx).1

theorem logOk_snoc : ∀ (l : List Ent13) (v u : Ver) (e : Ent13), logOk l v = some u → belowB e.Version = false → vcmp e.Version u > 0 → logOk (l ++ [e]) v = some e.Version
  | [], v, u, e, h, hb, hc => by
    simp only [logOk, Option.some.injEq] at h
    subst h
    show (if belowB e.Version = true ∨ vcmp e.Version v ≤ 0 then none else some e.Version) = _
    rw [if_neg (by rw [hb]; simp; omega)]
  | x :: l, v, u, e, h, hb, hc => by
    rw [logOk] at h
    split at h
    · cases h
    · rename_i hx
      rw [List.cons_append, logOk, if_neg hx]
      exact logOk_snoc l _ u e h hb hc

theorem hasK_iff {α κ : Type} (o : KOrd κ) (k : α → κ) (key : κ) : ∀ l : List α, Ris o k l → (hasK o k key l = true ↔ ∃ x ∈ l, k x = key)
  | [], _ => by simp [hasK]
  | x :: r, h => by
    rw [hasK]
    cases hl : o.lt (k x) key with
    | true =>
      rw [cond_true, hasK_iff o k key r h.tail]
      constructor
      · rintro ⟨y, hy, e⟩; exact ⟨y, by simp [hy], e⟩
      · rintro ⟨y, hy, e⟩
        rcases List.mem_cons.1 hy with rfl | hy
        · exact absurd e (o.lt_ne hl)
        · exact ⟨y, hy, e⟩
    | false =>
      rw [cond_false, o.eqi]
      constructor
      · exact fun e => ⟨x, by simp, e⟩
      · rintro ⟨y, hy, e⟩
        rcases List.mem_cons.1 hy with rfl | hy
        · exact e
        · have h1 := h.head y hy
          rw [e] at h1
          rw [hl] at h1; cases h1

theorem findF_has {items : List Itm} {n : ByteArray} : (findF items n).2 = true ↔ ∃ x ∈ items, kI x = n.toList := by
  unfold findF
  cases hf : items.find? (fun x => x.Name.toList == n.toList) with
  | none =>
    simp only [Bool.false_eq_true, false_iff, not_exists, not_and]
    intro x hx e
    have := List.find?_eq_none.1 hf x hx
    simp only [beq_iff_eq] at this
    exact this e
  | some x =>
    have h1 := List.mem_of_find?_eq_some hf
    have h2 := List.find?_some hf
    exact ⟨fun _ => ⟨x, h1, by simpa [kI] using h2⟩, fun _ => rfl⟩

theorem put_len_has {items : List Itm} (hr : Ris oS kI items) (it : Itm) (h : ∃ x ∈ items, kI x = kI it) : (putG oS kI it false items).length = items.length := by
  rw [putG_put oS kI it items hr, (hasK_iff oS kI (kI it) items hr).2 h, cond_true, List.length_set]

theorem vle {a b c : Ver} (h : ¬ vcmp a b > 0) (h2 : vcmp c b > 0) : ¬ vcmp a c > 0 := by
  rw [vcmp_gt] at *; omega


theorem headF_cons (v : Ver) (x : Ent13) (l : List Ent13) : headF v (x :: l) = headF x.Version l := by
  unfold headF
  cases l with
  | nil => rfl
  | cons y l => rw [List.getLast?_cons_cons]; cases hq : (y :: l).getLast? with | some q => rfl | none => simp at hq

theorem logOk_head : ∀ (l : List Ent13) (v u : Ver), logOk l v = some u → u = headF v l
  | [], v, u, h => by simp only [logOk, Option.some.injEq] at h; rw [← h]; rfl
  | x :: l, v, u, h => by
    rw [logOk] at h
    split at h
    · cases h
    · rw [headF_cons]; exact logOk_head l _ _ h

theorem logOk_split : ∀ (a b : List Ent13) (v u : Ver), logOk (a ++ b) v = some u → logOk b (headF v a) = some u ∧ (belowB v = false → belowB (headF v a) = false)
  | [], b, v, u, h => ⟨h, fun h => h⟩
  | x :: a, b, v, u, h => by
    rw [List.cons_append, logOk] at h
    split at h
    · cases h
    · rename_i hx
      rw [headF_cons]
      obtain ⟨h1, h2⟩ := logOk_split a b _ _ h
      exact ⟨h1, fun _ => h2 (by
        cases hq : belowB x.Version with
        | false => rfl
        | true => exact absurd (.inl hq) hx)⟩

def trimN (most : Int) (n : Nat) : Nat := n - (if 0 > most then 0 else most).toNat
def trimG (t : Ver) (l : List Ent13) (most : Int) : Ver × List Ent13 := (headF t (l.take (trimN most l.length)), l.drop (trimN most l.length))

theorem m_trimG (F : Nat) (s : Stt) (hs : s.Small 3000000) (most : Int) (hm : I64 most) : m_pglog_Trim F s.les s.tail s.log s.lasts s.items most = some (s.les, (trimG s.tail s.log most).1, (trimG s.tail s.log most).2, s.lasts, s.items) := by
  have hl := hs.log
  have hla := hs.lasts
  have hi := hs.items
  unfold I64 at hm
  rw [m_pglog_Trim, m_copy _ s ⟨by omega, by omega, by omega⟩, Option.bind_some]
  dsimp only
  unfold trimG trimN
  obtain ⟨m, hmm⟩ : ∃ m : Nat, (if 0 > most then 0 else most) = (m : Int) := ⟨(if 0 > most then 0 else most).toNat, by split <;> omega⟩
  have hm2 : (m : Int) ≤ 9223372036854775807 := by rw [← hmm]; split <;> omega
  rw [hmm, Int.toNat_natCast, grd_pos _ (by unfold I64; omega)]
  by_cases h : s.log.length > m
  · have e1 : decide (((s.log.length : Nat) : Int) - (m : Int) > 0) = true := by simp; omega
    have e2 : Int.toNat (((s.log.length : Nat) : Int) - (m : Int)) = s.log.length - m := by omega
    have e3 : Int.toNat (((s.log.length : Nat) : Int) - (m : Int) - 1) = s.log.length - m - 1 := by omega
    rw [e1, cond_true, grd_pos _ (by unfold I64; omega), grd_pos _ (by unfold Ix; omega), grd_pos _ (by unfold Bd; omega), e2, e3]
    rw [List.take_of_length_le (by simp), grd_pos _ (App64 (by simp; omega))]
    have e4 : headF s.tail (s.log.take (s.log.length - m)) = (s.log.getD (s.log.length - m - 1) dS_api_Entry).Version := by
      unfold headF
      have hlen : (s.log.take (s.log.length - m)).length = s.log.length - m := by simp
      rw [last_at (fun e => by rw [e] at hlen; simp at hlen; omega) dS_api_Entry, hlen]
      simp only [List.getD_eq_getElem?_getD]
      rw [List.getElem?_take_of_lt (by omega)]
    rw [e4]
  · have e1 : decide (((s.log.length : Nat) : Int) - (m : Int) > 0) = false := by simp; omega
    rw [e1, cond_false, show s.log.length - m = 0 by omega, List.take_zero, List.drop_zero]
    rfl

/-- What a trim leaves. -/
theorem trim_sound {s : Stt} {v : Ver} (h : Sound s v) (hb : belowB s.tail = false) (most : Int) :
    Sound ⟨s.les, (trimG s.tail s.log most).1, (trimG s.tail s.log most).2, s.lasts, s.items⟩ v ∧ belowB (trimG s.tail s.log most).1 = false ∧ headF (trimG s.tail s.log most).1 (trimG s.tail s.log most).2 = v := by
  have h0 : logOk (s.log.take (trimN most s.log.length) ++ s.log.drop (trimN most s.log.length)) s.tail = some v := by rw [List.take_append_drop]; exact h.log
  obtain ⟨h1, h2⟩ := logOk_split _ _ _ _ h0
  exact ⟨⟨h1, h.n3, h.items, h.lasts, h.rI, h.rL⟩, h2 hb, (logOk_head _ _ _ h1).symm⟩

end Go.Proofs.YtjnbkhnebmlilaaGreat
