/-
  CHAPTER 20, BackfillMeets: plain facts on the models: a history's state; finds; loops that gather.
-/
import Derived.Test.YticlccnajfjdeaaP20mg
set_option linter.unusedVariables false
set_option linter.unusedSimpArgs false
set_option maxRecDepth 100000
namespace Go.Proofs.Yticlccnajfjdeaa
open Go Go.RowKit Sx

theorem headF_snoc (t : Ver) (l : List Ent13) (e : Ent13) : headF t (l ++ [e]) = e.Version := by simp [headF]

/-- A history of c steps behind the state S. -/
structure Pl (S : Stt) (ep : Int) (c : Nat) (s : Stt) : Prop where
  tail : s.tail = S.tail
  log : ∃ L : List Ent13, s.log = S.log ++ L ∧ L.length ≤ c ∧ (∀ e ∈ L, e.Version.Epoch = ep ∧ e.Errno = 0) ∧ ∀ z : Itm, (∀ e ∈ L, e.Name.toList ≠ kI z) → (z ∈ s.items ↔ z ∈ S.items)
  lasts : s.lasts.length ≤ S.lasts.length + c
  items : s.items.length ≤ S.items.length + c
  ri : Ri kI s.items
  n0 : 0 ≤ (headF s.tail s.log).N
  n1 : (headF s.tail s.log).N ≤ (headF S.tail S.log).N + c

theorem Pl.mono {S : Stt} {ep : Int} {c d : Nat} {s : Stt} (h : Pl S ep c s) (hcd : c ≤ d) : Pl S ep d s := by
  obtain ⟨L, h1, h2, h3⟩ := h.log
  have := h.lasts
  have := h.items
  have := h.n1
  exact ⟨h.tail, ⟨L, h1, by omega, h3⟩, by omega, by omega, h.ri, h.n0, by omega⟩
theorem Pl.wait {S : Stt} {ep : Int} {c : Nat} {s : Stt} (h : Pl S ep c s) : Pl S ep (c + 1) s := by
  obtain ⟨L, h1, h2, h3⟩ := h.log
  have := h.lasts
  have := h.items
  have := h.n1
  exact ⟨h.tail, ⟨L, h1, by omega, h3⟩, by omega, by omega, h.ri, h.n0, by omega⟩
theorem Pl.next {S : Stt} {ep : Int} {c : Nat} {s s' : Stt} {e : Ent13} {crc : Int} (h : Pl S ep c s) (he1 : e.Version.Epoch = ep) (he2 : e.Errno = 0) (he3 : e.Version.N = (headF s.tail s.log).N + 1)
    (ht : s'.tail = s.tail) (hl : s'.log = s.log ++ [e]) (hla : s'.lasts.length ≤ s.lasts.length + 1) (hi : s'.items = putG kI (S_api_Item.mk e.Name e.Version crc) e.Remove s.items) : Pl S ep (c + 1) s' := by
  obtain ⟨L, h1, h2, h3, h4⟩ := h.log
  have q1 := h.lasts
  have q2 := h.items
  have q3 := h.n1
  have q4 := h.n0
  have hh : headF s'.tail s'.log = e.Version := by rw [hl, headF_snoc]
  refine ⟨ht.trans h.tail, ⟨L ++ [e], by rw [hl, h1, List.append_assoc], by simp; omega, fun x hx => ?_, fun z hz => ?_⟩, by omega, ?_, ?_, by rw [hh, he3]; omega, by rw [hh, he3]; omega⟩
  · rcases List.mem_append.1 hx with h5 | h5
    · exact h3 x h5
    · rw [List.mem_singleton] at h5; subst h5; exact ⟨he1, he2⟩
  · rw [← h4 z (fun x hx => hz x (List.mem_append.2 (.inl hx))), hi]
    have hne : kI z ≠ kI (S_api_Item.mk e.Name e.Version crc) := fun q => hz e (by simp) q.symm
    cases e.Remove with
    | true => rw [mem_putT]; exact ⟨fun h => h.1, fun h => ⟨h, hne⟩⟩
    | false =>
      rw [mem_putF]
      refine ⟨fun h => h.elim (fun q => absurd (by rw [q]) hne) (fun q => q.1), fun h => .inr ⟨h, hne⟩⟩
  · have := putG_len kI (S_api_Item.mk e.Name e.Version crc) s.items e.Remove
    rw [hi]
    cases hr : e.Remove <;> rw [hr] at this <;> simp only [cond_true, cond_false] at this <;> omega
  · rw [hi]; exact putG_ri kI _ s.items _ h.ri (fun _ _ _ => trivial)

theorem m_played (F : Nat) (S : Stt) (ep : Int) (b : List UInt8) (hb : b.length ≤ 400) (hS : S.Small 800) (hri : Ri kI S.items) (h0 : 0 ≤ (headF S.tail S.log).N) (h1 : (headF S.tail S.log).N ≤ 1000) (hep : 0 ≤ ep ∧ ep ≤ 3) :
    ∃ r, m_tholelaw20_played F S.les S.tail S.log S.lasts S.items ep b = some r ∧ ∃ s : Stt, r = (s.les, s.tail, s.log, s.lasts, s.items) ∧ Pl S ep b.length s := by
  simp only [m_tholelaw20_played]
  rw [grd_pos _ (by unfold Len; omega)]
  refine loop_some (fun c (t : Int × Int × Int × List Ent13 × List Lst × List Itm) => Pl S ep c ⟨t.1, ⟨t.2.1, t.2.2.1⟩, t.2.2.2.1, t.2.2.2.2.1, t.2.2.2.2.2⟩) _ b.length _ _ (fun nx c x t hc hp => ?_) (fun c t hc hp => ?_) b 0 _ (by simp)
    ⟨rfl, ⟨[], by simp, by simp, by simp, fun z _ => Iff.rfl⟩, by simp, by simp, hri, h0, by simp⟩
  · obtain ⟨les, te, tn, log, lasts, items⟩ := t
    dsimp only at hp ⊢
    obtain ⟨L, l1, l2, _⟩ := hp.log
    have q1 := hp.lasts
    have q2 := hp.items
    have q3 := hp.n1
    have q4 := hp.n0
    have z1 := hS.log
    have z2 := hS.lasts
    have z3 := hS.items
    dsimp only at l1 q1 q2 q3 q4
    have l3 : log.length ≤ 1200 := by rw [l1, List.length_append]; omega
    have hd := m_refhead F ⟨les, ⟨te, tn⟩, log, lasts, items⟩ (by show log.length ≤ _; omega)
    dsimp only at hd
    rw [hd, Option.bind_some, grd_pos _ (by unfold I64; omega), grd_pos _ (wrap_u8_range _), grd_pos _ (by unfold I64; omega), grd_pos _ (by unfold I64; omega)]
    obtain ⟨r, e1, e2⟩ := m_append F ⟨les, ⟨te, tn⟩, log, lasts, items⟩ (S_api_Entry.mk (S_api_Version.mk ep ((headF ⟨te, tn⟩ log).N + 1)) ((Int.tmod ((x.toNat : Nat) : Int) 5) == 0) 0 (ByteArray.mk [(UInt8.ofNat (Int.toNat (IntKind.u8.wrap (97 + (Int.tmod ((x.toNat : Nat) : Int) 7)))))].toArray) ep ((c + 1 : Nat) : Int)) (IntKind.u32.wrap ((ep * 1000) + ((c : Nat) : Int)))
      ⟨by show log.length ≤ _; omega, by show lasts.length ≤ _; omega, by show items.length ≤ _; omega⟩ rfl (by show (1 : Nat) ≤ 9223372036854775807; decide)
    dsimp only at e1 e2
    rw [e1, Option.bind_some]
    cases hr : (r.2.2.2.2.2 == 0) with
    | false => exact ⟨_, hp.wait, rfl⟩
    | true =>
      rcases e2 with e2 | ⟨_, e3, e4, e5, e6⟩
      · exact absurd (by simpa using hr) e2
      · refine ⟨(r.1, r.2.1.Epoch, r.2.1.N, r.2.2.1, r.2.2.2.1, r.2.2.2.2.1), hp.next (s' := ⟨r.1, r.2.1, r.2.2.1, r.2.2.2.1, r.2.2.2.2.1⟩) (e := S_api_Entry.mk _ _ _ _ _ _) rfl rfl rfl e3 e4 e5 e6, rfl⟩
  · obtain ⟨les, te, tn, log, lasts, items⟩ := t
    exact ⟨_, rfl, ⟨les, ⟨te, tn⟩, log, lasts, items⟩, rfl, hp.mono hc⟩

/-! ### Finds -/
theorem findF_yes {l : List Itm} {n : ByteArray} (h : (findF l n).2 = true) : (findF l n).1 ∈ l ∧ (findF l n).1.Name = n := by
  unfold findF at h ⊢
  cases hf : l.find? fun x => x.Name.toList == n.toList with
  | none => rw [hf] at h; cases h
  | some x =>
    have h1 := List.find?_some hf
    exact ⟨List.mem_of_find?_eq_some hf, (str_tl _ _).1 h1⟩
theorem findF_no {l : List Itm} {n : ByteArray} (h : (findF l n).2 = false) : ∀ x ∈ l, x.Name ≠ n := by
  unfold findF at h
  cases hf : l.find? fun x => x.Name.toList == n.toList with
  | some x => rw [hf] at h; cases h
  | none =>
    intro x hx e
    have := List.find?_eq_none.1 hf x hx
    exact this ((str_tl _ _).2 e)
theorem findF_mem {l : List Itm} (h : Ri kI l) {x : Itm} (hx : x ∈ l) : findF l x.Name = (x, true) := by
  cases h2 : (findF l x.Name).2 with
  | false => exact absurd rfl (findF_no h2 x hx)
  | true =>
    obtain ⟨h3, h4⟩ := findF_yes h2
    have : (findF l x.Name).1 = x := ri_key kI h h3 hx (by unfold kI; rw [h4])
    exact Prod.ext this h2

/-! ### Loops that gather -/
theorem ri_flat {α β : Type} (k : α → List UInt8) (k' : β → List UInt8) (f : α → List β) (h1 : ∀ x z, z ∈ f x → k' z = k x) (h2 : ∀ x, (f x).length ≤ 1) : ∀ T : List α, Ri k T → Ri k' (T.flatMap f)
  | [], _ => List.Pairwise.nil
  | x :: T, h => by
    have p := List.pairwise_cons.1 h
    rw [List.flatMap_cons]
    refine List.pairwise_append.2 ⟨?_, ri_flat k k' f h1 h2 T p.2, fun a ha b hb => ?_⟩
    · have := h2 x
      match f x, this with
      | [], _ => exact List.Pairwise.nil
      | [a], _ => exact List.pairwise_singleton _ _
    · obtain ⟨y, hy, hb⟩ := List.mem_flatMap.1 hb
      rw [h1 x a ha, h1 y b hb]
      exact p.1 y hy

theorem loop_gather {α β ρ : Type} (f : α → List β) (hf1 : ∀ x, (f x).length ≤ 1) (st : (List β → Option ρ) → Nat → α → List β → Option ρ) (fin : Nat → List β → Option ρ) (R : List β → Option ρ) (I : List β → List α → Prop)
    (hI : ∀ acc x l, I acc (x :: l) → I (acc ++ f x) l) (hs : ∀ nx c x l acc, acc.length ≤ 5000 → I acc (x :: l) → st nx c x acc = nx (acc ++ f x)) (hf : ∀ c acc, fin c acc = R acc) :
    ∀ (l : List α) (c : Nat) (acc : List β), acc.length + l.length ≤ 5000 → I acc l → loopL st fin l c acc = R (acc ++ l.flatMap f)
  | [], c, acc, _, _ => by rw [loopL, hf, List.flatMap_nil, List.append_nil]
  | x :: l, c, acc, h, hi => by
    rw [List.length_cons] at h
    have := hf1 x
    rw [loopL, hs _ _ _ l _ (by omega) hi, loop_gather f hf1 st fin R I hI hs hf l (c + 1) _ (by rw [List.length_append]; omega) (hI _ _ _ hi), List.flatMap_cons, List.append_assoc]
theorem loop_gather2 {α β γ ρ : Type} (f : α → List β) (g : α → List γ) (hf1 : ∀ x, (f x).length ≤ 1) (hg1 : ∀ x, (g x).length ≤ 1) (st : (List β × List γ → Option ρ) → Nat → α → List β × List γ → Option ρ) (fin : Nat → List β × List γ → Option ρ) (R : List β → List γ → Option ρ)
    (hs : ∀ nx c x a b, a.length ≤ 5000 → b.length ≤ 5000 → st nx c x (a, b) = nx (a ++ f x, b ++ g x)) (hf : ∀ c a b, fin c (a, b) = R a b) :
    ∀ (l : List α) (c : Nat) (a : List β) (b : List γ), a.length + l.length ≤ 5000 → b.length + l.length ≤ 5000 → loopL st fin l c (a, b) = R (a ++ l.flatMap f) (b ++ l.flatMap g)
  | [], c, a, b, _, _ => by rw [loopL, hf, List.flatMap_nil, List.flatMap_nil, List.append_nil, List.append_nil]
  | x :: l, c, a, b, h, h' => by
    rw [List.length_cons] at h h'
    have := hf1 x
    have := hg1 x
    rw [loopL, hs _ _ _ _ _ (by omega) (by omega), loop_gather2 f g hf1 hg1 st fin R hs hf l (c + 1) _ _ (by rw [List.length_append]; omega) (by rw [List.length_append]; omega), List.flatMap_cons, List.flatMap_cons, List.append_assoc, List.append_assoc]

end Go.Proofs.Yticlccnajfjdeaa
