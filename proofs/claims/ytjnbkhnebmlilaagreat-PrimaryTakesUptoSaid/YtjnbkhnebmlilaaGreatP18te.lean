/-
  CHAPTER 18, PrimaryTakes: the law of the models.
-/
import Derived.Test.YtjnbkhnebmlilaaGreatP18td
set_option linter.unusedVariables false
set_option linter.unusedSimpArgs false
set_option maxRecDepth 100000
namespace Go.Proofs.YtjnbkhnebmlilaaGreat
open Go Go.RowKit Sx

/-! ### The oldest entries go -/

def trimF (t : Ver) (l : List Ent13) : Ver × List Ent13 := if l.length > 32 then ((l.getD (l.length - 33) dS_api_Entry).Version, l.drop (l.length - 32)) else (t, l)

theorem m_trim (F : Nat) (s : Stt) (hs : s.Small 3000000) : m_pglog_Trim_2 F s.les s.tail s.log s.lasts s.items 32 = some (s.les, (trimF s.tail s.log).1, (trimF s.tail s.log).2, s.lasts, s.items) := by
  have hl := hs.log
  have hla := hs.lasts
  have hi := hs.items
  rw [m_pglog_Trim_2, m_copy _ s ⟨by omega, by omega, by omega⟩, Option.bind_some]
  dsimp only
  simp only [show (if (0 : Int) > 32 then (0 : Int) else 32) = 32 from rfl]
  rw [grd_pos _ (by unfold I64; omega)]
  unfold trimF
  by_cases h : s.log.length > 32
  · have e1 : decide (((s.log.length : Nat) : Int) - 32 > 0) = true := by simp; omega
    have e2 : Int.toNat (((s.log.length : Nat) : Int) - 32) = s.log.length - 32 := by omega
    have e3 : Int.toNat (((s.log.length : Nat) : Int) - 32 - 1) = s.log.length - 33 := by omega
    rw [e1, cond_true, grd_pos _ (by unfold I64; omega), grd_pos _ (by unfold Ix; omega), grd_pos _ (by unfold Bd; omega), e2, e3, if_pos h]
    rw [List.take_of_length_le (by simp), grd_pos _ (App64 (by simp; omega))]
  · have e1 : decide (((s.log.length : Nat) : Int) - 32 > 0) = false := by simp; omega
    rw [e1, cond_false, if_neg h]

theorem trimF_step (t : Ver) (x : Ent13) (l : List Ent13) (h : (x :: l).length > 32) : trimF t (x :: l) = trimF x.Version l := by
  simp only [List.length_cons] at h
  unfold trimF
  rw [if_pos (by simpa using h)]
  by_cases h2 : l.length > 32
  · rw [if_pos h2]
    simp only [List.length_cons]
    rw [show l.length + 1 - 33 = (l.length - 33) + 1 by omega, show l.length + 1 - 32 = (l.length - 32) + 1 by omega, List.getD_cons_succ, List.drop_succ_cons]
  · have : l.length = 32 := by omega
    rw [if_neg h2]
    simp [this]

theorem m_reftrim (F : Nat) (s : Stt) (hs : s.Small 3000000) (hF : s.log.length < F) : m_tholeref13_Trim F s.les s.tail s.log s.lasts s.items 32 = some (s.les, (trimF s.tail s.log).1, (trimF s.tail s.log).2, s.lasts, s.items) := by
  have hl := hs.log
  have hla := hs.lasts
  have hi := hs.items
  rw [m_tholeref13_Trim, jn_to (b := fun J5 => bif decide ((32 : Int) < 0) then J5 0 else J5 32) 32 (fun J => rfl), m_refcopy _ s ⟨by omega, by omega, by omega⟩, Option.bind_some]
  dsimp only
  suffices H : ∀ (l : List Ent13) (t : Ver) (n : Nat), l.length < n → loopW (fun (nx57 : Int × Int × List S_api_Entry → Option (Int × S_api_Version × List S_api_Entry × List S_api_Last × List S_api_Item)) (s65 : Int × Int × List S_api_Entry) => match s65 with | (c4_1_3, c4_2_3, l6_3) => (bif decide (((l6_3.length : Nat) : Int) > 32) then grd (0 < l6_3.length) (grd (1 ≤ l6_3.length) (nx57 ((((l6_3.getD 0 dS_api_Entry).Version).Epoch), (((l6_3.getD 0 dS_api_Entry).Version).N), ((l6_3.drop 1).take (l6_3.length - 1))))) else some (s.les, (S_api_Version.mk c4_1_3 c4_2_3), l6_3, s.lasts, s.items))) n (t.Epoch, t.N, l) = some (s.les, (trimF t l).1, (trimF t l).2, s.lasts, s.items) from H s.log s.tail F hF
  intro l
  induction l with
  | nil =>
    intro t n hn
    obtain ⟨n, rfl⟩ : ∃ k, n = k + 1 := ⟨n - 1, by omega⟩
    rfl
  | cons x l ih =>
    intro t n hn
    obtain ⟨n, rfl⟩ : ∃ k, n = k + 1 := ⟨n - 1, by omega⟩
    rw [List.length_cons] at hn
    rw [loopW]
    by_cases h : (x :: l).length > 32
    · have e1 : decide ((((x :: l).length : Nat) : Int) > 32) = true := by simp only [decide_eq_true_eq]; omega
      simp only [e1, cond_true]
      rw [grd_pos _ (by simp), grd_pos _ (by simp), trimF_step t x l h]
      have e2 : ((x :: l).drop 1).take ((x :: l).length - 1) = l := by simp
      rw [e2]
      exact ih x.Version n (by omega)
    · have e1 : decide ((((x :: l).length : Nat) : Int) > 32) = false := by simp only [decide_eq_false_iff_not]; omega
      simp only [e1, cond_false]
      unfold trimF
      rw [if_neg h]

/-! ### Take -/

theorem wrap_move {a b : Int} (ha : I64 a) (hb : I64 b) : (IntKind.i64.wrap (a - 1) != b) = (a != IntKind.i64.wrap (b + 1)) := by
  unfold I64 at ha hb
  have h1 : IntKind.i64.wrap (a - 1) = b ↔ a = IntKind.i64.wrap (b + 1) := by
    rw [IntKind.wrap_i64, IntKind.wrap_i64]
    omega
  by_cases h : a = IntKind.i64.wrap (b + 1)
  · rw [bne_f h, bne_f (h1.2 h)]
  · rw [bne_t h, bne_t (fun e => h (h1.1 e))]

theorem appF_small (s : Stt) (e : Ent13) (crc : Int) (hs : s.Small 2000000) : (Stt.mk (appF s e crc).1 (appF s e crc).2.1 (appF s e crc).2.2.1 (appF s e crc).2.2.2.1 (appF s e crc).2.2.2.2.1).Small 2000001 := by
  have hl := hs.log
  have hla := hs.lasts
  have hi := hs.items
  have h1 := putG_len oZ kC (lastOf e) s.lasts false
  have h2 := putG_len oS kI (itemOf e crc) s.items e.Remove
  have h3 : (itemsF s e crc).length ≤ s.items.length + 1 := by
    unfold itemsF
    cases e.Errno != 0
    · show (putG oS kI (itemOf e crc) e.Remove s.items).length ≤ _
      cases hr : e.Remove <;> rw [hr] at h2 <;> simp at h2 <;> omega
    · show s.items.length ≤ _
      omega
  simp only [cond_false] at h1
  unfold appF
  cases bad1 s e with
  | true => exact ⟨by simp, by simp, by simp⟩
  | false =>
  cases goodB e.Name with
  | false => exact ⟨by simp, by simp, by simp⟩
  | true =>
  cases bad3 s e with
  | true => exact ⟨by simp, by simp, by simp⟩
  | false => exact ⟨by simp; omega, by simp; omega, by simp; omega⟩

/-- What both make of an entry. -/
theorem m_takes (F : Nat) (s : Stt) (e : Ent13) (hs : s.Small 2000000) (hF : s.log.length + 1 < F + 64) (hn : e.Name.size ≤ 9223372036854775807) (hL : Ris oZ kC s.lasts) (hI : Ris oS kI s.items) (he : I64 e.Version.N) (hh : I64 (headF s.tail s.log).N) :
    ∃ t : Stt, ∃ n : Int, t.Small 3000000 ∧ m_primary_Take (F + 64) s.les s.tail s.log s.lasts s.items e 7 = some (t.les, t.tail, t.log, t.lasts, t.items, n) ∧ m_tholeref18_Take (F + 64) s.les s.tail s.log s.lasts s.items e 7 = some (t.les, t.tail, t.log, t.lasts, t.items, n) := by
  have hl := hs.log
  have hla := hs.lasts
  have hi := hs.items
  have hs2 : s.Small 33554432 := ⟨by omega, by omega, by omega⟩
  have hs3 : s.Small 3000000 := ⟨by omega, by omega, by omega⟩
  rw [m_primary_Take, m_tholeref18_Take, m_head _ s (by omega), m_refhead _ s (by omega), Option.bind_some, Option.bind_some, m_cmp, m_refcmp, Option.bind_some, Option.bind_some, m_copy _ s hs2]
  simp only [Option.bind_some]
  cases decide (vcmp e.Version (headF s.tail s.log) ≤ 0) with
  | true => exact ⟨s, 0, hs3, rfl, rfl⟩
  | false =>
  rw [cond_false, cond_false, wrap_move he hh]
  cases e.Version.N != IntKind.i64.wrap ((headF s.tail s.log).N + 1) with
  | true => exact ⟨s, -1, hs3, rfl, rfl⟩
  | false =>
  rw [cond_false, cond_false, m_append F s e 7 hs hn hL hI, m_refappend _ s e 7 hs hn, Option.bind_some, Option.bind_some]
  have hsm := appF_small s e 7 hs
  have hlen : (appF s e 7).2.2.1.length ≤ s.log.length + 1 := by
    unfold appF
    cases bad1 s e <;> cases goodB e.Name <;> cases bad3 s e <;> simp
  generalize appF s e 7 = r at hsm hlen ⊢
  obtain ⟨r1, r2, r3, r4, r5, r6⟩ := r
  dsimp only at hsm hlen ⊢
  cases r6 != 0 with
  | true => exact ⟨s, -1, hs3, rfl, rfl⟩
  | false =>
  rw [cond_false, cond_false]
  have hsm3 : (Stt.mk r1 r2 r3 r4 r5).Small 3000000 := ⟨Nat.le_trans hsm.log (by omega), Nat.le_trans hsm.lasts (by omega), Nat.le_trans hsm.items (by omega)⟩
  have g1 := m_trim (F + 64) ⟨r1, r2, r3, r4, r5⟩ hsm3
  have g2 := m_reftrim (F + 64) ⟨r1, r2, r3, r4, r5⟩ hsm3 (by show r3.length < _; omega)
  dsimp only at g1 g2
  rw [g1, g2]
  refine ⟨⟨r1, (trimF r2 r3).1, (trimF r2 r3).2, r4, r5⟩, 1, ⟨?_, hsm3.lasts, hsm3.items⟩, rfl, rfl⟩
  show (trimF r2 r3).2.length ≤ _
  have := hsm3.log
  dsimp only at this
  unfold trimF
  split
  · simp; omega
  · exact this

/-! ### Verdict -/

theorem m_verdicts (F : Nat) (s : Stt) (hs : s.Small 2000000) (kind : Int) (name : ByteArray) (data : List UInt8) (ex : Ver) (hn : name.size ≤ 9223372036854775807) :
    ∃ v : Int, m_primary_Verdict_2 F s.les s.tail s.log s.lasts s.items kind name data ex = some v ∧ m_tholeref18_Verdict F s.les s.tail s.log s.lasts s.items kind name data ex = some v := by
  have hi := hs.items
  rw [m_primary_Verdict_2, m_tholeref18_Verdict, m_find _ s _ (by omega), m_reffind _ s _ (by omega), m_good _ _ hn, m_refgood _ _ hn]
  simp only [jn, Option.bind_some]
  generalize findF s.items name = f
  obtain ⟨it, has⟩ := f
  dsimp only
  by_cases h2 : kind = 2
  · subst h2
    cases goodB name <;> cases decide (((data.length : Nat) : Int) > 4096) <;> cases has <;> cases decide (((s.items.length : Nat) : Int) ≥ 32) <;> exact ⟨_, rfl, rfl⟩
  · by_cases h3 : kind = 3
    · subst h3
      cases goodB name <;> cases decide (((data.length : Nat) : Int) > 4096) <;> cases has <;> cases decide (((s.items.length : Nat) : Int) ≥ 32) <;> exact ⟨_, rfl, rfl⟩
    · by_cases h4 : kind = 4
      · subst h4
        cases goodB name <;> cases decide (((data.length : Nat) : Int) > 4096) <;> cases has <;> cases decide (((s.items.length : Nat) : Int) ≥ 32) <;> cases S_api_Version.beq it.Version ex <;> exact ⟨_, rfl, rfl⟩
      · rw [beq_f h2, beq_f h3, beq_f h4, bne_t h2, bne_t h3, bne_t h4]
        cases has <;> exact ⟨_, rfl, rfl⟩

/-! ### The law -/

theorem lives18t (F : Nat) : m_tholelaw18_lives (F + 64) = some () := by kernel_rfl

theorem checkF_ris {s : Stt} (h : checkF s = 0) : Ris oZ kC s.lasts ∧ Ris oS kI s.items := by
  have h2 : rises cliLt none s.lasts = true ∧ rises nameLt none s.items = true := by
    unfold checkF at h
    split at h
    · cases h
    · split at h
      · cases h
      · rename_i v _
        split at h
        · cases h
        · rename_i hq
          cases h1 : rises nameLt none s.items <;> cases h2 : rises cliLt none s.lasts <;> simp [h1, h2] at hq ⊢
  exact ⟨(rises_ris oZ kC cliLt (fun _ _ => rfl) _ _ h2.1).1, (rises_ris oS kI nameLt (fun _ _ => rfl) _ _ h2.2).1⟩

theorem law_takes (F : Nat) (s : Stt) (e : Ent13) (kind : Int) (name : ByteArray) (data : List UInt8) (ex : Ver) (hs : s.Small 2000000) (hnm : s.Names) (hF : s.log.length + 1 < F + 64) (hn : e.Name.size ≤ 9223372036854775807) (hn2 : name.size ≤ 9223372036854775807) (he : I64 e.Version.N) (hh : I64 (headF s.tail s.log).N) :
    m_tholelaw18_PrimaryTakes (F + 64) s.les s.tail s.log s.lasts s.items e kind name data ex = some true := by
  have hl := hs.log
  have hla := hs.lasts
  have hi := hs.items
  have hs2 : s.Small 33554432 := ⟨by omega, by omega, by omega⟩
  rw [m_tholelaw18_PrimaryTakes, m_refcheck _ s hs2 hnm, Option.bind_some, lives18t]
  by_cases hc : checkF s = 0
  · rw [bne_f hc, cond_false]
    obtain ⟨hL, hI⟩ := checkF_ris hc
    obtain ⟨t, n, ht, g1, g2⟩ := m_takes F s e hs hF hn hL hI he hh
    rw [g1, Option.bind_some, g2, Option.bind_some]
    dsimp only
    rw [beq_self_eq_true, cond_true]
    obtain ⟨b, g3, g4⟩ := m_refsame (F + 64) t t ⟨Nat.le_trans ht.log (by omega), Nat.le_trans ht.lasts (by omega), Nat.le_trans ht.items (by omega)⟩
    have := g4.2 rfl
    subst this
    rw [g3, Option.bind_some, cond_true]
    obtain ⟨v, g5, g6⟩ := m_verdicts (F + 64) s hs kind name data ex hn2
    rw [g5, Option.bind_some, g6, Option.bind_some, beq_self_eq_true, cond_true, m_primary_Next_2, m_tholeref18_Next, m_head _ s (by omega), m_refhead _ s (by omega)]
    simp only [Option.bind_some, vbeq_self, cond_true]
  · rw [bne_t hc, cond_true, Option.bind_some]

theorem headF_I64 (t : Ver) (l : List Ent13) (ht : I64 t.N) (hl : ∀ x ∈ l, I64 x.Version.N) : I64 (headF t l).N := by
  unfold headF
  split
  · rename_i e he
    exact hl e (List.mem_of_getLast? he)
  · exact ht

end Go.Proofs.YtjnbkhnebmlilaaGreat
