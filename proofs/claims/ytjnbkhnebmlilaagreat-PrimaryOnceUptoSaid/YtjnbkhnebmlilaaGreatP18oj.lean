/-
  CHAPTER 18, PrimaryOnce: the plain law: of requests that come again and again each makes one entry, and a replica that takes the entries has the very same state.
-/
import Derived.Test.YtjnbkhnebmlilaaGreatP18oi
set_option linter.unusedVariables false
set_option linter.unusedSimpArgs false
set_option maxRecDepth 100000
namespace Go.Proofs.YtjnbkhnebmlilaaGreat
open Go Go.RowKit Sx

theorem lives18o (F : Nat) : m_tholelaw18_lives (F + 64) = some true := by kernel_rfl

theorem u64_len (n : Nat) (h : n ≤ 1000) : IntKind.u64.wrap (((n : Nat)) : Int) = (n : Int) := by
  show ((n : Int) % 18446744073709551616) = (n : Int)
  omega
theorem i64_small (z : Int) (h0 : 0 ≤ z) (h : z < 1000) : IntKind.i64.wrap z = z := wrap_i64 (by omega) (by omega)
theorem pick_at (x : Int) (n : Nat) (hx : 0 ≤ x) (h0 : 0 < n) (h : n ≤ 1000) : 0 ≤ IntKind.i64.wrap (Int.tmod x (IntKind.u64.wrap ((n : Nat) : Int))) ∧ (IntKind.i64.wrap (Int.tmod x (IntKind.u64.wrap ((n : Nat) : Int)))).toNat < n := by
  rw [u64_len n h, Int.tmod_eq_emod_of_nonneg hx]
  have h1 := Int.emod_nonneg x (show (n : Int) ≠ 0 by omega)
  have h2 := Int.emod_lt_of_pos x (show (0 : Int) < n by omega)
  rw [i64_small _ h1 (by omega)]
  omega
theorem getD_mem' {α : Type} (l : List α) (d : α) {i : Nat} (h : i < l.length) : l.getD i d ∈ l := by rw [List.getD_eq_getElem?_getD, List.getElem?_eq_getElem h, Option.getD_some]; exact List.getElem_mem h

theorem loopL_inv {α σ ρ : Type} (N : Nat) (P : α → Prop) (Q : Nat → σ → Prop) (r : Option ρ) (st : (σ → Option ρ) → Nat → α → σ → Option ρ) (fin : Nat → σ → Option ρ)
    (hst : ∀ nx q a x, q < N → P a → Q q x → (∀ y, Q (q + 1) y → nx y = r) → st nx q a x = r) (hfin : ∀ x, Q N x → fin N x = r) :
    ∀ (l : List α) (q : Nat) (x : σ), q + l.length = N → (∀ a ∈ l, P a) → Q q x → loopL st fin l q x = r
  | [], q, x, hq, _, hx => by
    have : q = N := by simpa using hq
    subst this
    exact hfin x hx
  | a :: l, q, x, hq, hp, hx => by
    simp only [List.length_cons] at hq
    exact hst _ q a x (by omega) (hp a (List.mem_cons_self ..)) hx fun y hy => loopL_inv N P Q r st fin hst hfin l (q + 1) y (by omega) (fun b hb => hp b (List.mem_cons_of_mem _ hb)) hy
theorem jn_key {σ ρ : Type} {k : σ → Option ρ} {b : (σ → Option ρ) → Option ρ} {r : Option ρ} (P : σ → Prop) (hk : ∀ s, P s → k s = r) (hb : ∀ J : σ → Option ρ, (∀ s, P s → J s = r) → b J = r) : jn k b = r := hb k hk

abbrev reqM (n : Nat) (p : S_api_Op) : S_api_Msg_m := S_api_Msg_m.mk 30 3 0 2 0 0 0 1 0 5 ((n : Nat) : Int) 0 0 0 0 0 0 0 0 0 0 0 0 false 0 (ByteArray.mk #[]) 0 0 (ByteArray.mk #[]) 0 0 p.Kind p.Name p.Data p.Expect.Epoch p.Expect.N 0
/-- A request. -/
def Req (a : S_api_Msg_m) : Prop := ∃ n p, a = reqM n p ∧ Op.Ok p

abbrev tupI (s : Stt) (c : Int) : Int × Int × Int × Int × Int × Int × Int × List S_api_Entry × List S_api_Last × List S_api_Item × List S_api_Entry × List S_api_Last × List S_api_Item :=
  (s.les, s.tail.Epoch, s.tail.N, c, s.les, s.tail.Epoch, s.tail.N, s.log, s.lasts, s.items, s.log, s.lasts, s.items)
abbrev tupO (s : Stt) (c : Int) (z : List S_api_Msg_m) : Int × Int × Int × Int × Int × Int × Int × List S_api_Msg_m × List S_api_Entry × List S_api_Last × List S_api_Item × List S_api_Entry × List S_api_Last × List S_api_Item :=
  (s.les, s.tail.Epoch, s.tail.N, c, s.les, s.tail.Epoch, s.tail.N, z, s.log, s.lasts, s.items, s.log, s.lasts, s.items)
def InvI (j : Nat) (x : Int × Int × Int × Int × Int × Int × Int × List S_api_Entry × List S_api_Last × List S_api_Item × List S_api_Entry × List S_api_Last × List S_api_Item) : Prop := ∃ s c, x = tupI s c ∧ Inv j s ∧ 0 ≤ c ∧ c ≤ (j : Int)
def InvO (q : Nat) (x : Int × Int × Int × Int × Int × Int × Int × List S_api_Msg_m × List S_api_Entry × List S_api_Last × List S_api_Item × List S_api_Entry × List S_api_Last × List S_api_Item) : Prop :=
  ∃ s c z j, x = tupO s c z ∧ j ≤ 2 * q ∧ Inv j s ∧ 0 ≤ c ∧ c ≤ (j : Int) ∧ z.length = q ∧ ∀ a ∈ z, Req a

theorem law_once (F : Nat) (a0 : List S_api_Op) (a1 : List Int) (h0 : a0.length ≤ 1048576) (hp : ∀ p ∈ a0, Op.Ok p) (hw : ∀ x ∈ a1, 0 ≤ x) : m_tholelaw18_PrimaryOnce (F + 64) a0 a1 = some true := by
  rw [m_tholelaw18_PrimaryOnce, show m_primary_New (F + 64) = some () from rfl, Option.bind_some]
  cases hlen : decide ((a0.length : Int) > 100) with
  | true => rw [cond_true, lives18o]; rfl
  | false =>
  have hlen : a0.length ≤ 100 := by have := of_decide_eq_false hlen; omega
  rw [cond_false, grd_pos _ (by unfold Len; omega)]
  refine loopL_inv a0.length Op.Ok InvO (some true) _ _ (fun nx q p x hq hpo hx hnx => ?_) (fun x hx => ?_) a0 0 _ (by omega) hp ⟨⟨3, ⟨0, 0⟩, [], [], []⟩, 0, [], 0, rfl, by omega, Inv.start, by omega, by omega, rfl, fun a ha => by cases ha⟩
  · obtain ⟨s, c, z, j, rfl, hj, hi, hc0, hc, hz, hza⟩ := hx
    dsimp only
    rw [grd_pos _ (App.of (by omega) (by omega)), Option.bind_some, Option.bind_some]
    have hreq : Req (reqM (q + 1) p) := ⟨_, _, rfl, hpo⟩
    refine jn_key (fun C : List S_api_Msg_m => C.length ≤ 2 ∧ ∀ a ∈ C, Req a) (fun C hC => ?_) (fun J hJ => ?_)
    · rw [grd_pos _ (by unfold Len; omega)]
      refine loopL_inv C.length Req (fun k x => InvI (j + k) x) (some true) _ _ (fun nx2 k a x hk ha hx hnx2 => ?_) (fun x hx => ?_) C 0 _ (by omega) hC.2 ⟨s, c, rfl, hi, hc0, hc⟩
      · obtain ⟨s, c, rfl, hi, hc0, hc⟩ := hx
        obtain ⟨n, p, rfl, hpo⟩ := ha
        have hk2 : k < 2 := by omega
        have hs := hi.small (by omega)
        have hl := hs.log; have hla := hs.lasts; have hit := hs.items
        obtain ⟨b, hb, hsp⟩ := step_spec F hi (by omega) c ⟨hc0, by omega⟩ n p hpo
        dsimp only
        rw [hb, Option.bind_some]
        rcases hsp with (h0 | h1 | ⟨h2, hd, hv, hok, hN⟩ | ⟨h3, hrem, hv, hok, hN⟩) | ⟨h4, he⟩
        · rw [h0]; exact hnx2 _ ⟨s, c, rfl, hi.more, hc0, by omega⟩
        · rw [h1]; exact hnx2 _ ⟨s, c, rfl, hi.more, hc0, by omega⟩
        · rw [h2]
          have htk := m_take F hi (by omega) (S_api_Entry.mk ⟨b.c6, b.c7⟩ b.c9 b.c10 p.Name 5 (n : Int)) (crcF p.Data : Nat) hv (show p.Name.size ≤ _ by have := hpo.2; omega) hok
          have hinv := hi.next (S_api_Entry.mk ⟨b.c6, b.c7⟩ b.c9 b.c10 p.Name 5 (n : Int)) (crcF p.Data : Nat) hv hok
          rw [← hN] at htk hinv
          obtain ⟨al, hal⟩ := step2_ok (F + 64) n p b c
          show (m_tholeref01_Crc _ _).bind _ = _
          rw [hd, m_refcrc _ _ (by have := hpo.1; omega), Option.bind_some]
          show (m_primary_Take _ _ _ _ _ _ _ _).bind _ = _
          rw [htk, Option.bind_some]
          dsimp only
          rw [jn_to false (fun J => by
            rw [show ((1 : Int) != 1) = false from rfl, cond_false, show S_api_Version.mk s.tail.Epoch s.tail.N = s.tail from rfl, m_refhead _ s (by omega), Option.bind_some, grd_pos _ (by have := hi.hN0; have := hi.hN; unfold I64; omega)]
            have : b.c7 = (headF s.tail s.log).N + 1 := congrArg S_api_Version.N hv
            rw [this]; simp)]
          rw [cond_false, hal, Option.bind_some]
          exact hnx2 _ ⟨_, c, rfl, hinv, hc0, by omega⟩
        · rw [h3]
          have hok0 : (appF s (S_api_Entry.mk ⟨b.d12, b.d13⟩ b.d14 b.d15 p.Name 5 (n : Int)) 0).2.2.2.2.2 = 0 := by rw [appF_err _ _ 0 (crcF p.Data : Nat)]; exact hok
          have htk := m_take F hi (by omega) (S_api_Entry.mk ⟨b.d12, b.d13⟩ b.d14 b.d15 p.Name 5 (n : Int)) 0 hv (show p.Name.size ≤ _ by have := hpo.2; omega) hok0
          have hinv := hi.next (S_api_Entry.mk ⟨b.d12, b.d13⟩ b.d14 b.d15 p.Name 5 (n : Int)) (crcF p.Data : Nat) hv hok
          rw [nextF_crc s _ 0 (crcF p.Data : Nat) hrem] at htk
          rw [← hN] at htk hinv
          obtain ⟨al, hal⟩ := step3_ok (F + 64) n p b c
          show (m_primary_Take _ _ _ _ _ _ _ _).bind _ = _
          rw [htk, Option.bind_some]
          dsimp only
          rw [jn_to false (fun J => by
            rw [show ((1 : Int) != 1) = false from rfl, cond_false, show S_api_Version.mk s.tail.Epoch s.tail.N = s.tail from rfl, m_refhead _ s (by omega), Option.bind_some, grd_pos _ (by have := hi.hN0; have := hi.hN; unfold I64; omega)]
            have : b.d13 = (headF s.tail s.log).N + 1 := congrArg S_api_Version.N hv
            rw [this]; simp)]
          rw [cond_false, hal, Option.bind_some]
          exact hnx2 _ ⟨_, c, rfl, hinv, hc0, by omega⟩
        · rw [h4]
          obtain ⟨W, hW⟩ := step4_ok F hs n p hpo b c
          rw [show ((4 : Nat) == 0) = false from rfl, cond_false, show ((4 : Nat) == 1) = false from rfl, cond_false, show ((4 : Nat) == 2) = false from rfl, cond_false, show ((4 : Nat) == 3) = false from rfl, cond_false]
          refine jn_key (fun _ => True) (fun _ _ => ?_) (fun J hJ => ?_)
          · exact hnx2 _ ⟨s, b.e0, rfl, hi.more, by omega, by omega⟩
          · rw [hW, Option.bind_some]
            cases W.t == 0 with
            | true => exact hJ () trivial
            | false =>
            cases W.t == 1 with
            | true => exact hJ () trivial
            | false => exact hnx2 _ ⟨s, b.e0, rfl, hi.more, by omega, by omega⟩
      · obtain ⟨s, c, rfl, hi, hc0, hc⟩ := hx
        exact hnx _ ⟨s, c, z ++ [reqM (q + 1) p], j + C.length, rfl, by omega, hi, hc0, hc, by simp [hz], fun a ha => by
          rcases List.mem_append.1 ha with h | h
          · exact hza a h
          · rw [List.mem_singleton.1 h]; exact hreq⟩
    · have hone : ∀ a ∈ [reqM (q + 1) p], Req a := fun a ha => by rw [List.mem_singleton.1 ha]; exact hreq
      cases hqa : decide ((q : Int) < (a1.length : Int)) with
      | false => exact hJ _ ⟨by simp, hone⟩
      | true =>
        have hqa : q < a1.length := by have := of_decide_eq_true hqa; omega
        have hr : (z ++ [reqM (q + 1) p]).length = q + 1 := by simp [hz]
        have hmem : ∀ a ∈ z ++ [reqM (q + 1) p], Req a := fun a ha => by
          rcases List.mem_append.1 ha with h | h
          · exact hza a h
          · rw [List.mem_singleton.1 h]; exact hreq
        have hx0 : 0 ≤ a1.getD q 0 := hw _ (getD_mem' _ _ hqa)
        obtain ⟨h1, h2⟩ := pick_at (a1.getD q 0) (q + 1) hx0 (by omega) (by omega)
        rw [cond_true]
        show grd (_ < (z ++ [reqM (q + 1) p]).length) _ = _
        rw [hr, grd_pos _ h2, Option.bind_some, grd_pos _ hqa, grd_pos _ (by rw [u64_len _ (by omega)]; omega), grd_pos _ ⟨h1, h2⟩, grd_pos _ (App.of (by simp) (by omega))]
        refine hJ _ ⟨by simp, fun a ha => ?_⟩
        rcases List.mem_append.1 ha with h | h
        · exact hone a h
        · rw [List.mem_singleton.1 h]; exact hmem _ (getD_mem' _ _ (by rw [hr]; exact h2))
  · obtain ⟨s, c, z, j, rfl, hj, hi, hc0, hc, hz, hza⟩ := hx
    have hs := hi.small (by omega)
    have hl := hs.log; have hla := hs.lasts; have hit := hs.items
    have hs2 : s.Small 33554432 := ⟨by omega, by omega, by omega⟩
    dsimp only
    rw [m___primary_Machine__State, show S_api_Version.mk s.tail.Epoch s.tail.N = s.tail from rfl, m_copy _ s hs2, Option.bind_some, Option.bind_some]
    dsimp only
    obtain ⟨b, hb, hiff⟩ := m_refsame (F + 64) s s hs2
    obtain rfl := hiff.2 rfl
    rw [show S_api_Version.mk s.tail.Epoch s.tail.N = s.tail from rfl, hb, Option.bind_some, cond_true, m_refcheck _ s hs2 hi.sound.names, Option.bind_some, hi.sound.check (by rw [hi.les]; omega) hi.tail]
    rw [show ((0 : Int) == 0) = true from rfl, cond_true, lives18o]
    rfl

end Go.Proofs.YtjnbkhnebmlilaaGreat
