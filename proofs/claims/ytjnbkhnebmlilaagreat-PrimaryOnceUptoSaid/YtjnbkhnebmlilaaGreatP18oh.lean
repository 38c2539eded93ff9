/-
  CHAPTER 18, PrimaryOnce: plain facts: what a machine makes of a request.
-/
import Derived.Test.YtjnbkhnebmlilaaGreatP18og
set_option linter.unusedVariables false
set_option linter.unusedSimpArgs false
set_option maxRecDepth 100000
namespace Go.Proofs.YtjnbkhnebmlilaaGreat
open Go Go.RowKit Sx

/-- An entry that was made, and what it made of the state. -/
def Made (s : Stt) (n : Nat) (p : S_api_Op) (v u : Int) (rem : Bool) (err les te tn : Int) (log : List Ent13) (lasts : List Lst) (items : List Itm) : Prop :=
  S_api_Version.mk v u = verN s ∧ (appF s (S_api_Entry.mk ⟨v, u⟩ rem err p.Name 5 (n : Int)) (crcF p.Data : Nat)).2.2.2.2.2 = 0 ∧ Stt.mk les ⟨te, tn⟩ log lasts items = nextF s (S_api_Entry.mk ⟨v, u⟩ rem err p.Name 5 (n : Int)) (crcF p.Data : Nat)

def Spec (s : Stt) (n : Nat) (p : S_api_Op) (t : Nat) (c6 c7 : Int) (c9 : Bool) (c10 : Int) (c11 : List UInt8) (c12 c13 c14 : Int) (c15 : List Ent13) (c16 : List Lst) (c17 : List Itm)
    (d12 d13 : Int) (d14 : Bool) (d15 d16 d17 d18 : Int) (d19 : List Ent13) (d20 : List Lst) (d21 : List Itm) : Prop :=
  t = 0 ∨ t = 1 ∨ (t = 2 ∧ c11 = p.Data ∧ Made s n p c6 c7 c9 c10 c12 c13 c14 c15 c16 c17) ∨ (t = 3 ∧ (d15 = 0 → d14 = true) ∧ Made s n p d12 d13 d14 d15 d16 d17 d18 d19 d20 d21)

def Op.Ok (p : S_api_Op) : Prop := p.Data.length ≤ 1048576 ∧ p.Name.size ≤ 1048576

theorem m_verdict (F : Nat) (s : Stt) (hs : s.Small 1999999) (kind : Int) (name : ByteArray) (data : List UInt8) (ex : Ver) (hn : name.size ≤ 9223372036854775807) :
    ∃ v : Int, m_primary_Verdict F s.les s.tail s.log s.lasts s.items kind name data ex = some v := by
  have hi := hs.items
  rw [m_primary_Verdict, m_find _ s _ (by omega), Option.bind_some, m_good _ _ hn]
  generalize findF s.items name = r
  obtain ⟨it, ok⟩ := r
  unfold jn
  simp only [Option.bind_some]
  cases ok <;> cases goodB name <;> cases kind == 2 <;> cases kind == 3 <;> cases kind == 4 <;> cases decide ((data.length : Int) > 4096) <;> cases kind != 3 <;> cases decide ((s.items.length : Int) ≥ 32) <;> cases S_api_Version.beq it.Version ex <;> exact ⟨_, rfl⟩

theorem m_clone (F : Nat) (b : List UInt8) (h : b.length ≤ 1048576) : m_slices_Clone___byte_byte_ F b = some b := by
  rw [m_slices_Clone___byte_byte_, grd_pos _ (App.of (by simp; omega) (by omega) : App (([] : List UInt8).length + b.length) 1)]
  rfl
theorem m_copied (F : Nat) (a : ByteArray) (x y : Int) (b : List UInt8) (h : b.length ≤ 1048576) : m_primary_copied F a x y b = some b := by
  rw [m_primary_copied, m_clone _ _ h]; rfl

theorem next_small {s : Stt} {j : Nat} (h : Inv j s) (hj : j ≤ 999) (e : Ent13) (crc : Int) (hv : e.Version = verN s) (hok : (appF s e crc).2.2.2.2.2 = 0) : (nextF s e crc).Small 33554432 := by
  have := (h.next e crc hv hok).small (by omega)
  exact ⟨by have := this.log; omega, by have := this.lasts; omega, by have := this.items; omega⟩

theorem new_good : ∃ e, (∀ F, m_digest_New F = some e) ∧ GoodE e := ⟨_, fun _ => rfl, rfl, rfl, .inl ⟨rfl, rfl⟩⟩

theorem write_spec (F : Nat) {s : Stt} {j : Nat} (h : Inv j s) (hj : j ≤ 999) (c : Int) (n : Nat) (p : S_api_Op) (hp : Op.Ok p) :
    ∃ b, m___primary_Machine__write (F + 64) s.les s.tail.Epoch s.tail.N s.log s.lasts s.items c 30 3 0 2 0 0 0 1 0 5 ((n : Nat) : Int) 0 0 0 0 0 0 0 0 0 0 0 0 false 0 (ByteArray.mk #[]) 0 0 (ByteArray.mk #[]) 0 0 p.Kind p.Name p.Data p.Expect.Epoch p.Expect.N 0 = some b ∧
      Spec s n p b.t b.c6 b.c7 b.c9 b.c10 b.c11 b.c12 b.c13 b.c14 b.c15 b.c16 b.c17 b.d12 b.d13 b.d14 b.d15 b.d16 b.d17 b.d18 b.d19 b.d20 b.d21 := by
  have hs := h.small (by omega : j ≤ 1000)
  have hl := hs.log; have hla := hs.lasts; have hi := hs.items
  have hs2 : s.Small 2000000 := ⟨by omega, by omega, by omega⟩
  obtain ⟨hd, hn⟩ := hp
  rw [m___primary_Machine__write, m_seen _ s _ _ (by omega), Option.bind_some]
  cases (seenF s.lasts 5 (n : Int)).2 == 1 with
  | true =>
    rw [cond_true]
    unfold m___primary_Machine__again jn
    cases (seenF s.lasts 5 (n : Int)).1.Errno == 0 <;> exact ⟨_, rfl, .inl rfl⟩
  | false =>
  rw [cond_false]
  cases (seenF s.lasts 5 (n : Int)).2 == 2 with
  | true => exact ⟨_, rfl, .inr (.inl rfl)⟩
  | false =>
  rw [cond_false]
  obtain ⟨v, hv⟩ := m_verdict (F + 64) s hs p.Kind p.Name p.Data p.Expect (by omega)
  rw [show S_api_Version.mk p.Expect.Epoch p.Expect.N = p.Expect from rfl, show S_api_Version.mk s.tail.Epoch s.tail.N = s.tail from rfl, hv, Option.bind_some]
  rw [jn_to (v == 22 || v == 36 || v == 27) (fun J => by cases v == 22 <;> cases v == 36 <;> cases v == 27 <;> rfl)]
  cases v == 22 || v == 36 || v == 27 with
  | true => exact ⟨_, rfl, .inl rfl⟩
  | false =>
  rw [cond_false, m_next _ h (by omega), Option.bind_some]
  obtain ⟨eng, he, hg⟩ := new_good
  have hcrc := m_crc (F + 64) eng hg p.Data (by omega)
  have happ := m_append F s (S_api_Entry.mk (verN s) (p.Kind == 3) v p.Name 5 (n : Int)) (crcF p.Data : Nat) hs2 (show p.Name.size ≤ _ by omega) h.sound.rL h.sound.rI
  have hclone : m_slices_Clone___int_int_ (F + 64) = some () := rfl
  rw [hclone, Option.bind_some, jn_to (v == 0 && !(p.Kind == 3)) (fun J => by cases v == 0 <;> cases p.Kind == 3 <;> rfl)]
  cases hcase : v == 0 && !(p.Kind == 3) with
  | true =>
    obtain ⟨hv0, hk⟩ : (v == 0) = true ∧ (p.Kind == 3) = false := by
      cases h1 : v == 0 <;> cases h2 : p.Kind == 3 <;> rw [h1, h2] at hcase <;> first | exact ⟨rfl, rfl⟩ | cases hcase
    rw [cond_true, m_clone _ _ hd, Option.bind_some, he, Option.bind_some, hcrc, Option.bind_some]
    show ∃ b, (m_pglog_Append _ _ _ _ _ _ _ _).bind _ = some b ∧ _
    rw [happ, Option.bind_some]
    cases hok : (appF s (S_api_Entry.mk (verN s) (p.Kind == 3) v p.Name 5 (n : Int)) (crcF p.Data : Nat)).2.2.2.2.2 != 0 with
    | true => exact ⟨_, rfl, .inl rfl⟩
    | false =>
      have hok : (appF s (S_api_Entry.mk (verN s) (p.Kind == 3) v p.Name 5 (n : Int)) (crcF p.Data : Nat)).2.2.2.2.2 = 0 := by simpa using hok
      rw [cond_false, m_trim32 _ s _ _ hs hok, Option.bind_some]
      have hsm := next_small h hj (S_api_Entry.mk (verN s) (p.Kind == 3) v p.Name 5 (n : Int)) _ rfl hok
      generalize hN : nextF s (S_api_Entry.mk (verN s) (p.Kind == 3) v p.Name 5 (n : Int)) (crcF p.Data : Nat) = N at hsm
      dsimp only
      rw [m___primary_Machine__stored, show S_api_Version.mk N.tail.Epoch N.tail.N = N.tail from rfl, m_copy _ N hsm, Option.bind_some, grd_pos _ hv0, grd_pos _ hk, m_copied _ _ _ _ _ hd, Option.bind_some, Option.bind_some]
      rw [m___primary_Machine__ask, m_copied _ _ _ _ _ hd, Option.bind_some]
      exact ⟨_, rfl, .inr (.inr (.inl ⟨rfl, rfl, rfl, hok, by rw [hN]⟩))⟩
  | false =>
    have hrem : v = 0 → (p.Kind == 3) = true := fun e => by
      subst e
      cases h2 : p.Kind == 3 with
      | true => rfl
      | false => rw [h2] at hcase; cases hcase
    rw [cond_false, he, Option.bind_some, hcrc, Option.bind_some]
    show ∃ b, (m_pglog_Append _ _ _ _ _ _ _ _).bind _ = some b ∧ _
    rw [happ, Option.bind_some]
    cases hok : (appF s (S_api_Entry.mk (verN s) (p.Kind == 3) v p.Name 5 (n : Int)) (crcF p.Data : Nat)).2.2.2.2.2 != 0 with
    | true => exact ⟨_, rfl, .inl rfl⟩
    | false =>
      have hok : (appF s (S_api_Entry.mk (verN s) (p.Kind == 3) v p.Name 5 (n : Int)) (crcF p.Data : Nat)).2.2.2.2.2 = 0 := by simpa using hok
      rw [cond_false, m_trim32 _ s _ _ hs hok, Option.bind_some]
      have hsm := next_small h hj (S_api_Entry.mk (verN s) (p.Kind == 3) v p.Name 5 (n : Int)) _ rfl hok
      generalize hN : nextF s (S_api_Entry.mk (verN s) (p.Kind == 3) v p.Name 5 (n : Int)) (crcF p.Data : Nat) = N at hsm
      dsimp only
      have hst : ∃ d, m___primary_Machine__stored_2 (F + 64) N.les N.tail.Epoch N.tail.N N.log N.lasts N.items 30 3 0 2 0 0 0 1 0 5 ((n : Nat) : Int) 0 0 0 0 0 0 0 0 0 0 0 0 false 0 (ByteArray.mk #[]) 0 0 (ByteArray.mk #[]) 0 0 p.Kind p.Name p.Data p.Expect.Epoch p.Expect.N 0 (verN s).Epoch (verN s).N (p.Kind == 3) v p.Name 5 ((n : Nat) : Int) (ByteArray.mk #[]) 0 0 0 c = some d := by
        rw [m___primary_Machine__stored_2, show S_api_Version.mk N.tail.Epoch N.tail.N = N.tail from rfl, m_copy _ N hsm, Option.bind_some]
        cases v == 0 <;> cases p.Kind == 3 <;> exact ⟨_, rfl⟩
      obtain ⟨d, hst⟩ := hst
      rw [hst, Option.bind_some]
      exact ⟨_, rfl, .inr (.inr (.inr ⟨rfl, hrem, rfl, hok, by rw [hN]⟩))⟩

end Go.Proofs.YtjnbkhnebmlilaaGreat
