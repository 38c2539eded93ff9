/-
  CHAPTER 18, PrimaryOnce: plain facts: what stays so while a machine writes; what a replica makes of an entry.
-/
import Derived.Test.YtjnbkhnebmlilaaGreatP18oe
import Derived.Test.YtjnbkhnebmlilaaGreatP18of
set_option linter.unusedVariables false
set_option linter.unusedSimpArgs false
set_option maxRecDepth 100000
namespace Go.Proofs.YtjnbkhnebmlilaaGreat
open Go Go.RowKit Sx

theorem Sound.step {s : Stt} (h : Sound s (headF s.tail s.log)) (e : Ent13) (crc : Int) (hb : belowB e.Version = false) (hgt : vcmp e.Version (headF s.tail s.log) > 0) (hne : e.Version ≠ ⟨0, 0⟩) (hg : goodB e.Name = true) (h3 : bad3 s e = false) :
    Sound ⟨s.les, s.tail, s.log ++ [e], putG oZ kC (lastOf e) false s.lasts, itemsF s e crc⟩ e.Version := by
  have hold : ∀ x ∈ s.items, goodB x.Name = true ∧ belowB x.Version = false ∧ x.Version ≠ ⟨0, 0⟩ ∧ ¬ vcmp x.Version e.Version > 0 := fun x hx => by
    obtain ⟨a, b, c, d⟩ := h.items x hx
    exact ⟨a, b, c, vle d hgt⟩
  have hit : goodB (itemOf e crc).Name = true ∧ belowB (itemOf e crc).Version = false ∧ (itemOf e crc).Version ≠ ⟨0, 0⟩ ∧ ¬ vcmp (itemOf e crc).Version e.Version > 0 :=
    ⟨hg, hb, hne, by show ¬ vcmp e.Version e.Version > 0; rw [vcmp_self]; omega⟩
  refine ⟨logOk_snoc _ _ _ _ h.log hb hgt, ?_, ?_, ?_, ?_, ris_putF oZ kC (lastOf e) s.lasts h.rL⟩
  · show (itemsF s e crc).length ≤ 32
    have h32 := h.n3
    unfold itemsF
    unfold bad3 at h3
    cases he : e.Errno != 0 with
    | true => exact h32
    | false =>
      have he0 : e.Errno = 0 := by simpa using he
      rw [cond_false]
      cases hr : e.Remove with
      | true => have := putG_len oS kI (itemOf e crc) s.items true; simp at this; omega
      | false =>
        by_cases hh : ∃ x ∈ s.items, kI x = e.Name.toList
        · rw [put_len_has h.rI (itemOf e crc) hh]; exact h32
        · have hf : (findF s.items e.Name).2 = false := by
            cases hq : (findF s.items e.Name).2 with
            | false => rfl
            | true => exact absurd (findF_has.1 hq) hh
          rw [he0, hr, hf] at h3
          have h4 : s.items.length < 32 := by
            have : decide (((s.items.length : Nat) : Int) ≥ 32) = false := by simpa using h3
            have := of_decide_eq_false this
            omega
          have := putG_len oS kI (itemOf e crc) s.items false
          simp at this; omega
  · show ∀ x ∈ itemsF s e crc, _
    unfold itemsF
    cases e.Errno != 0 with
    | true => exact hold
    | false =>
      rw [cond_false]
      intro x hx
      cases hr : e.Remove with
      | true => rw [hr] at hx; exact hold x ((mem_putT oS kI _ _ x).1 hx).1
      | false =>
        rw [hr] at hx
        rcases (mem_putF oS kI _ _ x).1 hx with rfl | hx
        · exact hit
        · exact hold x hx.1
  · show ∀ x ∈ putG oZ kC (lastOf e) false s.lasts, _
    intro x hx
    rcases (mem_putF oZ kC _ _ x).1 hx with rfl | hx
    · exact ⟨hb, by show ¬ vcmp e.Version e.Version > 0; rw [vcmp_self]; omega⟩
    · obtain ⟨a, b⟩ := h.lasts x hx.1
      exact ⟨a, vle b hgt⟩
  · show Ris oS kI (itemsF s e crc)
    unfold itemsF
    cases e.Errno != 0 with
    | true => exact h.rI
    | false =>
      rw [cond_false]
      cases e.Remove with
      | true => exact ris_putT oS kI _ _ h.rI
      | false => exact ris_putF oS kI _ _ h.rI

/-- What stays so. -/
structure Inv (j : Nat) (s : Stt) : Prop where
  les : s.les = 3
  tail : belowB s.tail = false
  sound : Sound s (headF s.tail s.log)
  hE : (headF s.tail s.log).Epoch ≤ 3
  hN0 : 0 ≤ (headF s.tail s.log).N
  hN : (headF s.tail s.log).N ≤ (j : Int)
  n1 : s.log.length ≤ 32
  n2 : s.lasts.length ≤ j

theorem Inv.start : Inv 0 ⟨3, ⟨0, 0⟩, [], [], []⟩ :=
  ⟨rfl, rfl, ⟨rfl, by simp, (fun x h => by cases h), (fun x h => by cases h), List.Pairwise.nil, List.Pairwise.nil⟩, by decide, by decide, by decide, by decide, Nat.le_refl _⟩
theorem Inv.more {j : Nat} {s : Stt} (h : Inv j s) : Inv (j + 1) s :=
  ⟨h.les, h.tail, h.sound, h.hE, h.hN0, by have := h.hN; omega, h.n1, by have := h.n2; omega⟩
theorem Inv.small {j : Nat} {s : Stt} (h : Inv j s) (hj : j ≤ 1000) : s.Small 1999999 := ⟨by have := h.n1; omega, by have := h.n2; omega, by have := h.sound.n3; omega⟩

/-- What an entry makes of a state. -/
def nextF (s : Stt) (e : Ent13) (crc : Int) : Stt := ⟨s.les, (trimG s.tail (s.log ++ [e]) 32).1, (trimG s.tail (s.log ++ [e]) 32).2, putG oZ kC (lastOf e) false s.lasts, itemsF s e crc⟩

theorem appF_ok {s : Stt} {e : Ent13} {crc : Int} (h : (appF s e crc).2.2.2.2.2 = 0) : appF s e crc = (s.les, s.tail, s.log ++ [e], putG oZ kC (lastOf e) false s.lasts, itemsF s e crc, 0) ∧ bad1 s e = false ∧ goodB e.Name = true ∧ bad3 s e = false := by
  unfold appF at h ⊢
  cases h1 : bad1 s e with
  | true => rw [h1] at h; cases h
  | false =>
  cases h2 : goodB e.Name with
  | false => rw [h1, h2] at h; cases h
  | true =>
  cases h3 : bad3 s e with
  | true => rw [h1, h2, h3] at h; cases h
  | false => exact ⟨rfl, rfl, rfl, rfl⟩
theorem appF_err (s : Stt) (e : Ent13) (c1 c2 : Int) : (appF s e c1).2.2.2.2.2 = (appF s e c2).2.2.2.2.2 := by
  unfold appF
  cases bad1 s e <;> cases goodB e.Name <;> cases bad3 s e <;> rfl

def verN (s : Stt) : Ver := ⟨3, (headF s.tail s.log).N + 1⟩

theorem Inv.next {j : Nat} {s : Stt} (h : Inv j s) (e : Ent13) (crc : Int) (hv : e.Version = verN s) (hok : (appF s e crc).2.2.2.2.2 = 0) : Inv (j + 1) (nextF s e crc) := by
  obtain ⟨_, h1, h2, h3⟩ := appF_ok hok
  have hb : belowB e.Version = false := by
    rw [hv]; have := h.hN0; unfold belowB; rw [decide_eq_false (show ¬ (verN s).Epoch < 0 from by show ¬ (3 : Int) < 0; omega), decide_eq_false (show ¬ (verN s).N < 0 from by show ¬ (headF s.tail s.log).N + 1 < 0; omega)]; rfl
  have hgt : vcmp e.Version (headF s.tail s.log) > 0 := by rw [vcmp_gt, hv]; have := h.hE; show _ < 3 ∨ 3 = _ ∧ _ < (headF s.tail s.log).N + 1; omega
  have hne : e.Version ≠ ⟨0, 0⟩ := by rw [hv]; intro q; have := congrArg S_api_Version.Epoch q; exact absurd (show (3 : Int) = 0 from this) (by decide)
  have hs := h.sound.step e crc hb hgt hne h2 h3
  obtain ⟨t1, t2, t3⟩ := trim_sound hs h.tail 32
  dsimp only at t1 t2 t3
  refine ⟨h.les, t2, ?_, ?_, ?_, ?_, ?_, ?_⟩
  · show Sound (nextF s e crc) (headF (trimG s.tail (s.log ++ [e]) 32).1 (trimG s.tail (s.log ++ [e]) 32).2)
    rw [t3]; exact t1
  · show (headF (trimG s.tail (s.log ++ [e]) 32).1 (trimG s.tail (s.log ++ [e]) 32).2).Epoch ≤ 3
    rw [t3, hv]; simp [verN]
  · show 0 ≤ (headF (trimG s.tail (s.log ++ [e]) 32).1 (trimG s.tail (s.log ++ [e]) 32).2).N
    rw [t3, hv]; have := h.hN0; simp only [verN]; omega
  · show (headF (trimG s.tail (s.log ++ [e]) 32).1 (trimG s.tail (s.log ++ [e]) 32).2).N ≤ _
    rw [t3, hv]; have := h.hN; simp only [verN]; omega
  · show ((s.log ++ [e]).drop (trimN 32 (s.log ++ [e]).length)).length ≤ 32
    rw [List.length_drop]; unfold trimN; split <;> omega
  · show (putG oZ kC (lastOf e) false s.lasts).length ≤ _
    have := putG_len oZ kC (lastOf e) s.lasts false
    have := h.n2; simp at *; omega

theorem m_next (F : Nat) {s : Stt} {j : Nat} (h : Inv j s) (hj : j ≤ 1000) : m_primary_Next F s.les s.tail s.log s.lasts s.items 3 = some (verN s) := by
  have hs := h.small hj
  rw [m_primary_Next, m_head _ s (by have := hs.log; omega), Option.bind_some, grd_pos _ (by have := h.hN0; have := h.hN; unfold I64; omega)]
  rfl
theorem m_trim32 (F : Nat) (s : Stt) (e : Ent13) (crc : Int) (hs : s.Small 1999999) (hok : (appF s e crc).2.2.2.2.2 = 0) :
    m_pglog_Trim F (appF s e crc).1 (appF s e crc).2.1 (appF s e crc).2.2.1 (appF s e crc).2.2.2.1 (appF s e crc).2.2.2.2.1 32 = some ((nextF s e crc).les, (nextF s e crc).tail, (nextF s e crc).log, (nextF s e crc).lasts, (nextF s e crc).items) := by
  rw [(appF_ok hok).1]
  have hl := hs.log; have hla := hs.lasts; have hi := hs.items
  refine m_trimG F ⟨s.les, s.tail, s.log ++ [e], putG oZ kC (lastOf e) false s.lasts, itemsF s e crc⟩ ⟨?_, ?_, ?_⟩ 32 (by unfold I64; omega)
  · show (s.log ++ [e]).length ≤ _
    simp; omega
  · show (putG oZ kC (lastOf e) false s.lasts).length ≤ _
    have := putG_len oZ kC (lastOf e) s.lasts false; simp at this; omega
  · show (itemsF s e crc).length ≤ _
    unfold itemsF
    cases e.Errno != 0 with
    | true => show s.items.length ≤ _; omega
    | false => rw [cond_false]; cases e.Remove with | true => have := putG_len oS kI (itemOf e crc) s.items true; simp at this; omega | false => have := putG_len oS kI (itemOf e crc) s.items false; simp at this; omega

/-- A replica takes the next entry. -/
theorem m_take (F : Nat) {s : Stt} {j : Nat} (h : Inv j s) (hj : j ≤ 1000) (e : Ent13) (crc : Int) (hv : e.Version = verN s) (hn : e.Name.size ≤ 9223372036854775807) (hok : (appF s e crc).2.2.2.2.2 = 0) :
    m_primary_Take (F + 64) s.les s.tail s.log s.lasts s.items e crc = some ((nextF s e crc).les, (nextF s e crc).tail, (nextF s e crc).log, (nextF s e crc).lasts, (nextF s e crc).items, 1) := by
  have hs := h.small hj
  have hl := hs.log; have hla := hs.lasts; have hi := hs.items
  have h1 := h.hN0; have h2 := h.hN
  rw [m_primary_Take, m_head _ s (by omega), Option.bind_some, m_cmp, Option.bind_some]
  have hgt : vcmp e.Version (headF s.tail s.log) > 0 := by rw [vcmp_gt, hv]; have := h.hE; show _ < 3 ∨ 3 = _ ∧ _ < (headF s.tail s.log).N + 1; omega
  rw [decide_eq_false (by omega), cond_false, grd_pos _ (by rw [hv]; simp only [verN]; unfold I64; omega)]
  have he : (e.Version.N - 1 != (headF s.tail s.log).N) = false := by rw [hv]; show ((headF s.tail s.log).N + 1 - 1 != (headF s.tail s.log).N) = false; rw [show (headF s.tail s.log).N + 1 - 1 = (headF s.tail s.log).N by omega]; simp
  rw [he, cond_false, m_append F s e crc ⟨by omega, by omega, by omega⟩ hn h.sound.rL h.sound.rI, Option.bind_some, hok]
  show (m_pglog_Trim _ _ _ _ _ _ _).bind _ = _
  rw [m_trim32 _ s e crc hs hok]
  rfl

theorem putT_crc (e : Ent13) (c1 c2 : Int) : ∀ l : List Itm, putG oS kI (itemOf e c1) true l = putG oS kI (itemOf e c2) true l
  | [] => rfl
  | x :: r => by
    have := putT_crc e c1 c2 r
    unfold putG
    rw [Bool.true_or]
    rw [this]
    rfl
theorem nextF_crc (s : Stt) (e : Ent13) (c1 c2 : Int) (h : e.Errno = 0 → e.Remove = true) : nextF s e c1 = nextF s e c2 := by
  unfold nextF itemsF
  cases he : e.Errno != 0 with
  | true => rfl
  | false => rw [h (by simpa using he), putT_crc e c1 c2]

end Go.Proofs.YtjnbkhnebmlilaaGreat
