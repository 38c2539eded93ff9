/-
  CHAPTER 13, PglogGrows: the law on its model.
-/
import Derived.Test.YtmoaiokgbjkaaaaP13gg
set_option linter.unusedVariables false
set_option linter.unusedSimpArgs false
set_option maxRecDepth 100000
namespace Go.Proofs.Ytmoaiokgbjkaaaa
open Go Go.RowKit Sx

theorem lives13g (F : Nat) : m_tholelaw13_lives (F + 64) = some () := by kernel_rfl

def tupG (s : Stt) (kv : KV) : Int × Int × Int × KV × List S_api_Entry × List S_api_Last × List S_api_Item := (s.les, s.tail.Epoch, s.tail.N, kv, s.log, s.lasts, s.items)

theorem grows_loop {α : Type} {st : (Int × Int × Int × KV × List S_api_Entry × List S_api_Last × List S_api_Item → Option Bool) → Nat → α → Int × Int × Int × KV × List S_api_Entry × List S_api_Last × List S_api_Item → Option Bool} {fin : Nat → Int × Int × Int × KV × List S_api_Entry × List S_api_Last × List S_api_Item → Option Bool} {p : α → Prop}
    (hs : ∀ nx c x s kv, Inv c s kv → c < 1048576 → p x → ∃ s' kv', Inv (c + 1) s' kv' ∧ st nx c x (tupG s kv) = nx (tupG s' kv'))
    (hf : ∀ c s kv, Inv c s kv → c ≤ 1048576 → fin c (tupG s kv) = some true) :
    ∀ (l : List α) (c : Nat) (s : Stt) (kv : KV), Inv c s kv → c + l.length ≤ 1048576 → (∀ x ∈ l, p x) → loopL st fin l c (tupG s kv) = some true
  | [], c, s, kv, h, hc, _ => by rw [loopL]; exact hf c s kv h (by simpa using hc)
  | x :: l, c, s, kv, h, hc, hp => by
    rw [List.length_cons] at hc
    obtain ⟨s', kv', h', e⟩ := hs (fun s' => loopL st fin l (c + 1) s') c x s kv h (by omega) (hp x (by simp))
    rw [loopL, e]
    exact grows_loop hs hf l (c + 1) s' kv' h' (by omega) (fun y hy => hp y (by simp [hy]))

theorem pass_loop {α ρ : Type} {st : (Unit → Option ρ) → Nat → α → Unit → Option ρ} {fin : Nat → Unit → Option ρ} : ∀ (l : List α) (c : Nat), (∀ nx c, ∀ x ∈ l, st nx c x () = nx ()) → loopL st fin l c () = fin (c + l.length) ()
  | [], c, _ => rfl
  | x :: l, c, h => by
    rw [loopL, h _ _ x (by simp), pass_loop l (c + 1) (fun nx c y hy => h nx c y (by simp [hy])), List.length_cons]
    congr 1; omega

theorem Inv.small {i : Nat} {s : Stt} {kv : KV} (h : Inv i s kv) (hi : i ≤ 1048577) : s.Small 2000000 := ⟨by have := h.n1; omega, by have := h.n2; omega, by have := h.sound.n3; omega⟩

theorem law_grows (F : Nat) (l : List S_tholelaw13_Put) (most : Int) (hl : l.length ≤ 1048576) (hm : I64 most) (hn : ∀ p ∈ l, p.Name.size ≤ 9223372036854775807) : m_tholelaw13_PglogGrows (F + 64) l most = some true := by
  rw [m_tholelaw13_PglogGrows, grd_pos _ (by unfold Len; omega)]
  refine grows_loop (p := fun p : S_tholelaw13_Put => p.Name.size ≤ 9223372036854775807) (fun nx c p s kv h hc hp => ?_) (fun c s kv h hc => ?_) l 0 ⟨0, ⟨0, 0⟩, [], [], []⟩ [] Inv.start (by omega) hn
  · have hsm := h.small (by omega)
    have h33 : s.Small 33554432 := ⟨Nat.le_trans hsm.log (by omega), Nat.le_trans hsm.lasts (by omega), Nat.le_trans hsm.items (by omega)⟩
    have hd : Int.tdiv ((c : Nat) : Int) 3 = ((c / 3 : Nat) : Int) := rfl
    unfold tupG
    dsimp only
    rw [hd, grd_pos _ (by unfold I64; omega), grd_pos _ (by unfold I64; omega)]
    generalize he : S_api_Entry.mk (S_api_Version.mk (1 + ((c / 3 : Nat) : Int)) ((c + 1 : Nat) : Int)) p.Remove p.Errno p.Name p.Client p.Number = e
    have ev : e.Version = ⟨1 + ((c / 3 : Nat) : Int), ((c + 1 : Nat) : Int)⟩ := by rw [← he]
    have e1 : e.Name = p.Name := by rw [← he]
    have e2 : e.Errno = p.Errno := by rw [← he]
    have e3 : e.Remove = p.Remove := by rw [← he]
    have e4 : e.Client = p.Client := by rw [← he]
    have e5 : e.Number = p.Number := by rw [← he]
    rw [m_append F s e p.Crc hsm (by rw [e1]; exact hp) h.sound.rL h.sound.rI, Option.bind_some, ← ev, ← e1, ← e2, ← e3, ← e4, ← e5]
    unfold appF
    cases hb1 : bad1 s e with
    | true => exact ⟨s, kv, h.next, rfl⟩
    | false =>
    cases hg : goodB e.Name with
    | false => exact ⟨s, kv, h.next, rfl⟩
    | true =>
    cases hb3 : bad3 s e with
    | true => exact ⟨s, kv, h.next, rfl⟩
    | false =>
    have hI := h.step e p.Crc ev hg hb3
    refine ⟨_, _, hI, ?_⟩
    have hsm' := hI.small (by omega)
    have h33' : Stt.Small ⟨s.les, s.tail, s.log ++ [e], putG oZ kC (lastOf e) false s.lasts, itemsF s e p.Crc⟩ 33554432 := ⟨Nat.le_trans hsm'.log (by omega), Nat.le_trans hsm'.lasts (by omega), Nat.le_trans hsm'.items (by omega)⟩
    simp only [Bool.not_true, cond_false]
    rw [show ((0 : Int) != 0) = false from rfl, cond_false]
    rw [jn_to (kvF kv e p.Crc) (fun J => by unfold kvF; cases e.Errno == 0 <;> cases e.Remove <;> rfl)]
    have g1 := m_check (F + 64) _ h33' hI.sound.names
    have g2 := m_head (F + 64) _ h33'.log
    have g3 := m_seen (F + 64) _ e.Client e.Number h33'.lasts
    dsimp only at g1 g2 g3
    have hck := hI.sound.check (by show 0 ≤ s.les; rw [h.les]; omega) (by show belowB s.tail = false; rw [h.tail]; rfl)
    have hlen := hI.told.len hI.sound.rI
    dsimp only at hlen
    rw [jn_to false (fun J => by
      rw [g1, Option.bind_some, hck, show ((0 : Int) != 0) = false from rfl, cond_false, g2, Option.bind_some, headF_snoc, vbeq_self, Bool.not_true, cond_false, hlen, bne_self_eq_false])]
    rw [cond_false, g3, Option.bind_some, seen_put h.sound.rL e]
    rw [jn_to false (fun J => by
      dsimp only [lastOf]
      rw [show ((1 : Int) != 1) = false from rfl, cond_false, bne_self_eq_false, cond_false, vbeq_self, Bool.not_true])]
    rfl
  · have hsm := h.small (by omega)
    have hsm3 : s.Small 3000000 := ⟨Nat.le_trans hsm.log (by omega), Nat.le_trans hsm.lasts (by omega), Nat.le_trans hsm.items (by omega)⟩
    have hbt : belowB s.tail = false := by rw [h.tail]; rfl
    unfold tupG
    dsimp only
    rw [grd_pos _ (by have := hsm.items; unfold Len; omega), pass_loop s.items 0 (fun nx c x hx => by rw [h.told.crc x hx, bne_self_eq_false, cond_false])]
    obtain ⟨k1, k2, k3⟩ := trim_sound h.sound hbt most
    have t := m_trimG (F + 64) s hsm3 most hm
    have hle : (trimG s.tail s.log most).2.length ≤ s.log.length := by unfold trimG; simp
    have hmo : ¬ most < 0 → (((trimG s.tail s.log most).2.length : Nat) : Int) ≤ most := fun h0 => by
      unfold trimG trimN
      rw [if_neg (by omega)]
      simp only [List.length_drop]; omega
    rw [t, Option.bind_some]
    dsimp only
    generalize trimG s.tail s.log most = g at k1 k2 k3 hle hmo ⊢
    obtain ⟨g1, g2⟩ := g
    dsimp only at k1 k2 k3 hle hmo ⊢
    have h33 : Stt.Small ⟨s.les, g1, g2, s.lasts, s.items⟩ 33554432 := ⟨Nat.le_trans hle (Nat.le_trans hsm.log (by omega)), Nat.le_trans hsm.lasts (by omega), Nat.le_trans hsm.items (by omega)⟩
    have q1 := m_head (F + 64) _ h33.log
    have q2 := m_after (F + 64) ⟨s.les, g1, g2, s.lasts, s.items⟩ (headF s.tail s.log) h33.log
    have q3 := m_check (F + 64) _ h33 k1.names
    have q4 := m_head (F + 64) s (Nat.le_trans hsm.log (by omega))
    have hck := k1.check (by show 0 ≤ s.les; rw [h.les]; omega) k2
    have ha := after_head k1.log
    dsimp only at q1 q2 q3 ha
    rw [q1, Option.bind_some, k3, q2, Option.bind_some, ha, q3, Option.bind_some, hck, beq_self_eq_true, cond_true, Option.bind_some, q4, Option.bind_some, vbeq_self, cond_true, beq_self_eq_true, cond_true, beq_self_eq_true, cond_true, lives13g]
    by_cases h0 : most < 0
    · rw [decide_eq_true h0]; rfl
    · rw [decide_eq_false h0, decide_eq_true (hmo h0)]; rfl

end Go.Proofs.Ytmoaiokgbjkaaaa
