/-
  CHAPTER 13, PglogGrows: plain facts: what stays so while a history grows.
-/
import Derived.Test.YtmoaiokgbjkaaaaP13ge
set_option linter.unusedVariables false
set_option linter.unusedSimpArgs false
set_option maxRecDepth 100000
namespace Go.Proofs.Ytmoaiokgbjkaaaa
open Go Go.RowKit Sx

/-- What is asked of items and last requests, at a head. -/
structure Sound (s : Stt) (v : Ver) : Prop where
  log : logOk s.log s.tail = some v
  n3 : s.items.length ≤ 32
  items : ∀ x ∈ s.items, goodB x.Name = true ∧ belowB x.Version = false ∧ x.Version ≠ ⟨0, 0⟩ ∧ ¬ vcmp x.Version v > 0
  lasts : ∀ x ∈ s.lasts, belowB x.Version = false ∧ ¬ vcmp x.Version v > 0
  rI : Ris oS kI s.items
  rL : Ris oZ kC s.lasts

theorem Sound.check {s : Stt} {v : Ver} (h : Sound s v) (hl : 0 ≤ s.les) (ht : belowB s.tail = false) : checkF s = 0 := by
  unfold checkF
  rw [if_neg (by rw [ht]; have := h.n3; simp; omega), h.log]
  have h1 : s.items.any (badI v) = false := by
    rw [List.any_eq_false]
    intro x hx
    obtain ⟨a, b, c, d⟩ := h.items x hx
    unfold badI
    have hb : S_api_Version.beq x.Version ⟨0, 0⟩ = false := by
      cases hq : S_api_Version.beq x.Version ⟨0, 0⟩ with
      | false => rfl
      | true => exact absurd ((S_api_Version.beq_iff _ _).1 hq) c
    rw [a, b, hb, decide_eq_false d]; decide
  have h2 : s.lasts.any (badL v) = false := by
    rw [List.any_eq_false]
    intro x hx
    obtain ⟨b, d⟩ := h.lasts x hx
    unfold badL
    rw [b, decide_eq_false d]; decide
  have h3 := ris_rises oS kI nameLt (fun _ _ => rfl) s.items none h.rI (fun q e => by cases e)
  have h4 := ris_rises oZ kC cliLt (fun _ _ => rfl) s.lasts none h.rL (fun q e => by cases e)
  simp [h1, h2, h3, h4]

theorem good_size {n : ByteArray} (h : goodB n = true) : n.size ≤ 9223372036854775807 := by
  unfold goodB at h
  simp only [Bool.and_eq_true, decide_eq_true_eq] at h
  omega
theorem Sound.names {s : Stt} {v : Ver} (h : Sound s v) : s.Names := fun x hx => good_size (h.items x hx).1

theorem headF_snoc (t : Ver) (l : List Ent13) (e : Ent13) : headF t (l ++ [e]) = e.Version := by
  unfold headF; simp

theorem logOk_snoc : ∀ (l : List Ent13) (v u : Ver) (e : Ent13), logOk l v = some u → belowB e.Version = false → vcmp e.Version u > 0 → logOk (l ++ [e]) v = some e.Version
  | [], v, u, e, h, hb, hc => by
    simp only [logOk, Option.some.injEq] at h
    subst h
    show (if belowB e.Version = true ∨ vcmp e.Version v ≤ 0 then none else some e.Version) = _
    rw [if_neg (by rw [hb]; simp; omega)]
  | x :: l, v, u, e, h, hb, hc => by
    rw [logOk] at h
    split at h
    · cases h
    · rename_i hx
      rw [List.cons_append, logOk, if_neg hx]
      exact logOk_snoc l _ u e h hb hc

theorem hasK_iff {α κ : Type} (o : KOrd κ) (k : α → κ) (key : κ) : ∀ l : List α, Ris o k l → (hasK o k key l = true ↔ ∃ x ∈ l, k x = key)
  | [], _ => by simp [hasK]
  | x :: r, h => by
    rw [hasK]
    cases hl : o.lt (k x) key with
    | true =>
      rw [cond_true, hasK_iff o k key r h.tail]
      constructor
      · rintro ⟨y, hy, e⟩; exact ⟨y, by simp [hy], e⟩
      · rintro ⟨y, hy, e⟩
        rcases List.mem_cons.1 hy with rfl | hy
        · exact absurd e (o.lt_ne hl)
        · exact ⟨y, hy, e⟩
    | false =>
      rw [cond_false, o.eqi]
      constructor
      · exact fun e => ⟨x, by simp, e⟩
      · rintro ⟨y, hy, e⟩
        rcases List.mem_cons.1 hy with rfl | hy
        · exact e
        · have h1 := h.head y hy
          rw [e] at h1
          rw [hl] at h1; cases h1

theorem findF_has {items : List Itm} {n : ByteArray} : (findF items n).2 = true ↔ ∃ x ∈ items, kI x = n.toList := by
  unfold findF
  cases hf : items.find? (fun x => x.Name.toList == n.toList) with
  | none =>
    simp only [Bool.false_eq_true, false_iff, not_exists, not_and]
    intro x hx e
    have := List.find?_eq_none.1 hf x hx
    simp only [beq_iff_eq] at this
    exact this e
  | some x =>
    have h1 := List.mem_of_find?_eq_some hf
    have h2 := List.find?_some hf
    exact ⟨fun _ => ⟨x, h1, by simpa [kI] using h2⟩, fun _ => rfl⟩

theorem put_len_has {items : List Itm} (hr : Ris oS kI items) (it : Itm) (h : ∃ x ∈ items, kI x = kI it) : (putG oS kI it false items).length = items.length := by
  rw [putG_put oS kI it items hr, (hasK_iff oS kI (kI it) items hr).2 h, cond_true, List.length_set]

theorem seen_put {lasts : List Lst} (hr : Ris oZ kC lasts) (e : Ent13) : seenF (putG oZ kC (lastOf e) false lasts) e.Client e.Number = (lastOf e, 1) := by
  have hR := ris_putF oZ kC (lastOf e) lasts hr
  have hm : lastOf e ∈ putG oZ kC (lastOf e) false lasts := (mem_putF oZ kC (lastOf e) lasts _).2 (.inl rfl)
  unfold seenF
  cases hf : (putG oZ kC (lastOf e) false lasts).find? (fun x => x.Client == e.Client) with
  | none =>
    have := List.find?_eq_none.1 hf _ hm
    exact absurd (show (e.Client == e.Client) = true by simp) this
  | some x =>
    have h1 := List.mem_of_find?_eq_some hf
    have h2 := List.find?_some hf
    have : x = lastOf e := ris_inj oZ kC hR h1 hm (by simpa [kC, lastOf] using h2)
    subst this
    show seenG e.Number (lastOf e) = _
    unfold seenG
    exact if_pos rfl

/-! ### The history -/

structure Inv (i : Nat) (s : Stt) (kv : KV) : Prop where
  les : s.les = 0
  tail : s.tail = ⟨0, 0⟩
  sound : Sound s (headF s.tail s.log)
  hE : (headF s.tail s.log).Epoch ≤ 1 + ((i / 3 : Nat) : Int)
  hN : (headF s.tail s.log).N ≤ (i : Int)
  n1 : s.log.length ≤ i
  n2 : s.lasts.length ≤ i
  told : Told s.items kv

theorem Inv.start : Inv 0 ⟨0, ⟨0, 0⟩, [], [], []⟩ [] :=
  ⟨rfl, rfl, ⟨rfl, by simp, (fun x h => by cases h), (fun x h => by cases h), List.Pairwise.nil, List.Pairwise.nil⟩, by decide, by decide, Nat.le_refl _, Nat.le_refl _, ⟨List.nodup_nil, (fun n => by simp [keysOf]), (fun x h => by cases h)⟩⟩

theorem Inv.next {i : Nat} {s : Stt} {kv : KV} (h : Inv i s kv) : Inv (i + 1) s kv :=
  ⟨h.les, h.tail, h.sound, by have := h.hE; omega, by have := h.hN; omega, by have := h.n1; omega, by have := h.n2; omega, h.told⟩

def kvF (kv : KV) (e : Ent13) (crc : Int) : KV := bif e.Errno == 0 then (bif !e.Remove then kput (kdel kv e.Name) e.Name crc else kdel kv e.Name) else kv

theorem vle {a b c : Ver} (h : ¬ vcmp a b > 0) (h2 : vcmp c b > 0) : ¬ vcmp a c > 0 := by
  rw [vcmp_gt] at *; omega

theorem Inv.step {i : Nat} {s : Stt} {kv : KV} (h : Inv i s kv) (e : Ent13) (crc : Int) (hv : e.Version = ⟨1 + ((i / 3 : Nat) : Int), ((i + 1 : Nat) : Int)⟩) (hg : goodB e.Name = true) (h3 : bad3 s e = false) :
    Inv (i + 1) ⟨s.les, s.tail, s.log ++ [e], putG oZ kC (lastOf e) false s.lasts, itemsF s e crc⟩ (kvF kv e crc) := by
  have hb : belowB e.Version = false := by rw [hv]; simp [belowB]; omega
  have hgt : vcmp e.Version (headF s.tail s.log) > 0 := by rw [vcmp_gt, hv]; have := h.hE; have := h.hN; simp only; omega
  have hne : e.Version ≠ ⟨0, 0⟩ := by rw [hv]; intro q; injection q with q1 q2; omega
  have hold : ∀ x ∈ s.items, goodB x.Name = true ∧ belowB x.Version = false ∧ x.Version ≠ ⟨0, 0⟩ ∧ ¬ vcmp x.Version e.Version > 0 := fun x hx => by
    obtain ⟨a, b, c, d⟩ := h.sound.items x hx
    exact ⟨a, b, c, vle d hgt⟩
  have hit : goodB (itemOf e crc).Name = true ∧ belowB (itemOf e crc).Version = false ∧ (itemOf e crc).Version ≠ ⟨0, 0⟩ ∧ ¬ vcmp (itemOf e crc).Version e.Version > 0 :=
    ⟨hg, hb, hne, by show ¬ vcmp e.Version e.Version > 0; rw [vcmp_self]; omega⟩
  refine ⟨h.les, h.tail, ?_, ?_, ?_, ?_, ?_, ?_⟩
  · show Sound _ (headF s.tail (s.log ++ [e]))
    rw [headF_snoc]
    refine ⟨logOk_snoc _ _ _ _ h.sound.log hb hgt, ?_, ?_, ?_, ?_, ris_putF oZ kC (lastOf e) s.lasts h.sound.rL⟩
    · show (itemsF s e crc).length ≤ 32
      have h32 := h.sound.n3
      unfold itemsF
      unfold bad3 at h3
      cases he : e.Errno != 0 with
      | true => exact h32
      | false =>
        have he0 : e.Errno = 0 := by simpa using he
        rw [cond_false]
        cases hr : e.Remove with
        | true => have := putG_len oS kI (itemOf e crc) s.items true; simp at this; omega
        | false =>
          by_cases hh : ∃ x ∈ s.items, kI x = e.Name.toList
          · rw [put_len_has h.sound.rI (itemOf e crc) hh]; exact h32
          · have hf : (findF s.items e.Name).2 = false := by
              cases hq : (findF s.items e.Name).2 with
              | false => rfl
              | true => exact absurd (findF_has.1 hq) hh
            rw [he0, hr, hf] at h3
            have h4 : s.items.length < 32 := by
              have : decide (((s.items.length : Nat) : Int) ≥ 32) = false := by simpa using h3
              have := of_decide_eq_false this
              omega
            have := putG_len oS kI (itemOf e crc) s.items false
            simp at this; omega
    · show ∀ x ∈ itemsF s e crc, _
      unfold itemsF
      cases e.Errno != 0 with
      | true => exact hold
      | false =>
        rw [cond_false]
        intro x hx
        cases hr : e.Remove with
        | true => rw [hr] at hx; exact hold x ((mem_putT oS kI _ _ x).1 hx).1
        | false =>
          rw [hr] at hx
          rcases (mem_putF oS kI _ _ x).1 hx with rfl | hx
          · exact hit
          · exact hold x hx.1
    · show ∀ x ∈ putG oZ kC (lastOf e) false s.lasts, _
      intro x hx
      rcases (mem_putF oZ kC _ _ x).1 hx with rfl | hx
      · exact ⟨hb, by show ¬ vcmp e.Version e.Version > 0; rw [vcmp_self]; omega⟩
      · obtain ⟨a, b⟩ := h.sound.lasts x hx.1
        exact ⟨a, vle b hgt⟩
    · show Ris oS kI (itemsF s e crc)
      unfold itemsF
      cases e.Errno != 0 with
      | true => exact h.sound.rI
      | false =>
        rw [cond_false]
        cases e.Remove with
        | true => exact ris_putT oS kI _ _ h.sound.rI
        | false => exact ris_putF oS kI _ _ h.sound.rI
  · show (headF s.tail (s.log ++ [e])).Epoch ≤ _
    rw [headF_snoc, hv]; simp only; omega
  · show (headF s.tail (s.log ++ [e])).N ≤ _
    rw [headF_snoc, hv]; simp only; omega
  · show (s.log ++ [e]).length ≤ _
    have := h.n1; simp; omega
  · show (putG oZ kC (lastOf e) false s.lasts).length ≤ _
    have := putG_len oZ kC (lastOf e) s.lasts false
    have := h.n2; simp at *; omega
  · show Told (itemsF s e crc) (kvF kv e crc)
    unfold itemsF kvF
    cases he : e.Errno == 0 with
    | false => rw [show (e.Errno != 0) = true from by simp at he ⊢; exact he]; exact h.told
    | true =>
      rw [show (e.Errno != 0) = false from by simp at he ⊢; exact he, cond_false, cond_true]
      cases e.Remove with
      | true => exact h.told.del (itemOf e crc)
      | false => exact h.told.put (itemOf e crc)

end Go.Proofs.Ytmoaiokgbjkaaaa
