/-
  CHAPTER 14: plain facts on the models: rising lists, Find, Put, Append.
-/
import Derived.Test.YtdelhcdknglibaaP14e
set_option linter.unusedVariables false
set_option linter.unusedSimpArgs false
set_option maxRecDepth 100000
namespace Go.Proofs.Ytdelhcdknglibaa
open Go Go.RowKit Sx
def findF (items : List S_api_Item) (n : ByteArray) : S_api_Item × Bool := match items.find? fun x => x.Name.toList == n.toList with | some x => (x, true) | none => (dS_api_Item, false)

def headF (tail : Ver) (log : List Ent13) : Ver := match log.getLast? with | some e => e.Version | none => tail

theorem last_at {α : Type} {l : List α} (h : l ≠ []) (d : α) : l.getLast? = some (l.getD (l.length - 1) d) := by
  have hp : 0 < l.length := List.length_pos_iff.2 h
  rw [List.getLast?_eq_getElem?]
  rw [List.getD_eq_getElem?_getD, List.getElem?_eq_getElem (show l.length - 1 < l.length by omega)]; rfl

theorem m_refhead (F : Nat) (s : Stt) (h : s.log.length ≤ 33554432) : m_tholeref13_Head F s.les s.tail s.log s.lasts s.items = some (headF s.tail s.log) := by
  unfold m_tholeref13_Head headF
  by_cases h0 : s.log = []
  · rw [h0]; rfl
  · have hp : 0 < s.log.length := List.length_pos_iff.2 h0
    rw [last_at h0 dS_api_Entry, show (((s.log.length : Nat) : Int) == 0) = false by simp; omega, cond_false, grd_pos _ (by unfold I64; omega), grd_pos _ (by unfold Ix; omega)]
    rw [show (((s.log.length : Nat) : Int) - 1).toNat = s.log.length - 1 by omega]



theorem bl_ne {a b : List UInt8} (h : Op.bytesLess a b = true) : a ≠ b := fun e => by subst e; have := bl_as a a h; rw [h] at this; cases this
theorem bl_of {a b : List UInt8} (h : Op.bytesLess b a = false) (hn : a ≠ b) : Op.bytesLess a b = true := by
  cases hab : Op.bytesLess a b with
  | true => rfl
  | false => exact absurd (bl_tot a b hab h) hn
theorem bl_trans {a b c : List UInt8} (h1 : Op.bytesLess a b = true) (h2 : Op.bytesLess b c = true) : Op.bytesLess a c = true := by
  refine bl_of (bl_tr a b c (bl_as _ _ h1) (bl_as _ _ h2)) (fun e => ?_)
  subst e
  have := bl_as a b h1
  rw [h2] at this; cases this

section
variable {α : Type} (k : α → List UInt8)
/-- Rising by what k says. -/
def Ri (L : List α) : Prop := L.Pairwise fun a b => Op.bytesLess (k a) (k b) = true
theorem ri_same : ∀ {A B : List α}, Ri k A → Ri k B → (∀ z, z ∈ A ↔ z ∈ B) → A = B
  | [], [], _, _, _ => rfl
  | [], b :: B, _, _, h => by have := (h b).2 (by simp); cases this
  | a :: A, [], _, _, h => by have := (h a).1 (by simp); cases this
  | a :: A, b :: B, hA, hB, h => by
    have pA := List.pairwise_cons.1 hA
    have pB := List.pairwise_cons.1 hB
    have irr : ∀ x y : α, Op.bytesLess (k x) (k y) = true → Op.bytesLess (k y) (k x) = true → False := fun x y h1 h2 => by
      rw [bl_as _ _ h1] at h2; cases h2
    have hab : a = b := by
      rcases List.mem_cons.1 ((h a).1 (by simp)) with h1 | h1
      · exact h1
      · rcases List.mem_cons.1 ((h b).2 (by simp)) with h2 | h2
        · exact h2.symm
        · exact (irr _ _ (pB.1 a h1) (pA.1 b h2)).elim
    subst hab
    have self : Op.bytesLess (k a) (k a) = true → False := fun h => irr _ _ h h
    rw [ri_same pA.2 pB.2 (fun z => ⟨fun hz => ?_, fun hz => ?_⟩)]
    · rcases List.mem_cons.1 ((h z).1 (by simp [hz])) with rfl | h1
      · exact (self (pA.1 _ hz)).elim
      · exact h1
    · rcases List.mem_cons.1 ((h z).2 (by simp [hz])) with rfl | h1
      · exact (self (pB.1 _ hz)).elim
      · exact h1
theorem ri_key {L : List α} (h : Ri k L) : ∀ {x y : α}, x ∈ L → y ∈ L → k x = k y → x = y := by
  induction L with
  | nil => intro x y hx; cases hx
  | cons a L ih =>
    have p := List.pairwise_cons.1 h
    intro x y hx hy e
    rcases List.mem_cons.1 hx with h1 | h1 <;> rcases List.mem_cons.1 hy with h2 | h2
    · rw [h1, h2]
    · rw [h1] at e; exact absurd e (bl_ne (p.1 y h2))
    · rw [h2] at e; exact absurd e.symm (bl_ne (p.1 x h1))
    · exact ih p.2 h1 h2 e

/-- One more, behind those that are below it; whatever has its key goes. -/
def putG (it : α) : Bool → List α → List α
  | p, [] => bif p then [] else [it]
  | p, x :: r => (bif !p && !Op.bytesLess (k x) (k it) then [it] else []) ++ (bif k x == k it then [] else [x]) ++ putG it (p || !Op.bytesLess (k x) (k it)) r
theorem putG_len (it : α) : ∀ (l : List α) (p : Bool), (putG k it p l).length ≤ l.length + (bif p then 0 else 1)
  | [], p => by cases p <;> simp [putG]
  | x :: r, p => by
    have h1 := putG_len it r true
    have h2 := putG_len it r false
    simp only [cond_true, cond_false] at h1 h2
    rw [putG]
    cases p <;> cases Op.bytesLess (k x) (k it) <;> cases k x == k it <;> simp <;> omega
theorem mem_putT (it : α) : ∀ (l : List α) (z : α), z ∈ putG k it true l ↔ z ∈ l ∧ k z ≠ k it
  | [], z => by simp [putG]
  | x :: r, z => by
    rw [putG, Bool.true_or, Bool.not_true, Bool.false_and, cond_false, List.nil_append, List.mem_append, mem_putT it r z, List.mem_cons]
    cases hx : k x == k it with
    | true =>
      have : k x = k it := by simpa using hx
      rw [cond_true]
      constructor
      · rintro (h | h)
        · cases h
        · exact ⟨.inr h.1, h.2⟩
      · rintro ⟨rfl | h, h2⟩
        · exact absurd this h2
        · exact .inr ⟨h, h2⟩
    | false =>
      have : ¬ k x = k it := by simpa using hx
      rw [cond_false]
      constructor
      · rintro (h | h)
        · rw [List.mem_singleton] at h; subst h; exact ⟨.inl rfl, this⟩
        · exact ⟨.inr h.1, h.2⟩
      · rintro ⟨rfl | h, h2⟩
        · exact .inl (by simp)
        · exact .inr ⟨h, h2⟩
theorem mem_putF (it : α) : ∀ (l : List α) (z : α), z ∈ putG k it false l ↔ z = it ∨ (z ∈ l ∧ k z ≠ k it)
  | [], z => by simp [putG]
  | x :: r, z => by
    rw [putG, Bool.false_or, Bool.not_false, Bool.true_and, List.mem_append, List.mem_append, List.mem_cons]
    have hx : z ∈ (bif k x == k it then [] else [x]) ↔ z = x ∧ k z ≠ k it := by
      cases h : k x == k it with
      | true =>
        have : k x = k it := by simpa using h
        rw [cond_true]
        exact ⟨fun h => (by cases h), fun ⟨h1, h2⟩ => absurd (by rw [h1]; exact this) h2⟩
      | false =>
        have : ¬ k x = k it := by simpa using h
        rw [cond_false, List.mem_singleton]
        exact ⟨fun h => ⟨h, h ▸ this⟩, fun h => h.1⟩
    rw [hx]
    cases Op.bytesLess (k x) (k it) with
    | true =>
      rw [Bool.not_true, cond_false, mem_putF it r z]
      constructor
      · rintro ((h | h) | h | h)
        · cases h
        · exact .inr ⟨.inl h.1, h.2⟩
        · exact .inl h
        · exact .inr ⟨.inr h.1, h.2⟩
      · rintro (h | ⟨h | h, h2⟩)
        · exact .inr (.inl h)
        · exact .inl (.inr ⟨h, h2⟩)
        · exact .inr (.inr ⟨h, h2⟩)
    | false =>
      rw [Bool.not_false, cond_true, mem_putT k it r z, List.mem_singleton]
      constructor
      · rintro ((h | h) | h)
        · exact .inl h
        · exact .inr ⟨.inl h.1, h.2⟩
        · exact .inr ⟨.inr h.1, h.2⟩
      · rintro (h | ⟨h | h, h2⟩)
        · exact .inl (.inl h)
        · exact .inl (.inr ⟨h, h2⟩)
        · exact .inr ⟨h, h2⟩
theorem putG_ri (it : α) : ∀ (l : List α) (p : Bool), Ri k l → (∀ z ∈ l, p = true → True) → Ri k (putG k it p l)
  | [], p, _, _ => by cases p <;> simp [putG, Ri]
  | x :: r, p, h, _ => by
    have q := List.pairwise_cons.1 h
    have hT := putG_ri it r true q.2 (fun _ _ _ => trivial)
    have hF := putG_ri it r false q.2 (fun _ _ _ => trivial)
    have tailT : Ri k ((bif k x == k it then [] else [x]) ++ putG k it true r) := by
      cases k x == k it with
      | true => exact hT
      | false => exact List.pairwise_cons.2 ⟨fun z hz => q.1 z ((mem_putT k it r z).1 hz).1, hT⟩
    rw [putG]
    cases p with
    | true => exact tailT
    | false =>
      rw [Bool.not_false, Bool.true_and, Bool.false_or]
      cases hx : Op.bytesLess (k x) (k it) with
      | true =>
        have hne : (k x == k it) = false := by simpa using bl_ne hx
        rw [hne]
        refine List.pairwise_cons.2 ⟨fun z hz => ?_, hF⟩
        rcases (mem_putF k it r z).1 hz with rfl | ⟨h1, _⟩
        · exact hx
        · exact q.1 z h1
      | false =>
        refine List.pairwise_cons.2 ⟨fun z hz => ?_, tailT⟩
        have hxit : ∀ z, (z = x ∨ z ∈ r) → k z ≠ k it → Op.bytesLess (k it) (k z) = true := fun z hz hn => by
          rcases hz with rfl | hz
          · exact bl_of hx (fun e => hn e.symm)
          · by_cases he : k it = k x
            · rw [he]; exact q.1 z hz
            · exact bl_trans (bl_of hx he) (q.1 z hz)
        rcases List.mem_append.1 hz with h1 | h1
        · cases he : k x == k it with
          | true => rw [he] at h1; cases h1
          | false =>
            rw [he] at h1
            obtain rfl : z = x := by simpa using h1
            exact hxit z (.inl rfl) (by simpa using he)
        · obtain ⟨h2, h3⟩ := (mem_putT k it r z).1 h1
          exact hxit z (.inr h2) h3
end

theorem loop_some {α σ ρ : Type} (P : Nat → σ → Prop) (Q : ρ → Prop) (N : Nat) (st : (σ → Option ρ) → Nat → α → σ → Option ρ) (fin : Nat → σ → Option ρ)
    (hs : ∀ nx c x s, c < N → P c s → ∃ s', P (c + 1) s' ∧ st nx c x s = nx s') (hf : ∀ c s, c ≤ N → P c s → ∃ r, fin c s = some r ∧ Q r) :
    ∀ (l : List α) (c : Nat) (s : σ), c + l.length = N → P c s → ∃ r, loopL st fin l c s = some r ∧ Q r
  | [], c, s, h, hp => by rw [loopL]; exact hf c s (by simp at h; omega) hp
  | x :: l, c, s, h, hp => by
    rw [List.length_cons] at h
    obtain ⟨s', h1, e⟩ := hs (fun s' => loopL st fin l (c + 1) s') c x s (by omega) hp
    rw [loopL, e]
    exact loop_some P Q N st fin hs hf l (c + 1) s' (by omega) h1

/-- A loop that puts. -/
theorem loop_putG {α ρ : Type} (k : α → List UInt8) (it : α) (by_ : Nat) (hby : by_ ≤ 100) (st : (Bool × List α → Option ρ) → Nat → α → Bool × List α → Option ρ) (fin : Nat → Bool × List α → Option ρ) (R : List α → Option ρ)
    (hs : ∀ nx c x p acc, acc.length + 2 ≤ 100000 → st nx c x (p, acc) = nx (p || !Op.bytesLess (k x) (k it), acc ++ ((bif !p && !Op.bytesLess (k x) (k it) then [it] else []) ++ (bif k x == k it then [] else [x]))))
    (hf : ∀ c p acc, acc.length + 1 ≤ 100000 → fin c (p, acc) = R (acc ++ (bif p then [] else [it]))) :
    ∀ (l : List α) (c : Nat) (p : Bool) (acc : List α), acc.length + 2 * l.length + 2 ≤ 100000 → loopL st fin l c (p, acc) = R (acc ++ putG k it p l)
  | [], c, p, acc, h => by rw [loopL, hf _ _ _ (by simp at h; omega)]; rfl
  | x :: l, c, p, acc, h => by
    rw [List.length_cons] at h
    rw [loopL, hs _ _ _ _ _ (by omega), loop_putG k it by_ hby st fin R hs hf l (c + 1) _ _ ?_, putG]
    · simp only [List.append_assoc]
    · cases p <;> cases Op.bytesLess (k x) (k it) <;> cases k x == k it <;> simp <;> omega


theorem jn_to {σ ρ : Type} {k : σ → Option ρ} {b : (σ → Option ρ) → Option ρ} (s : σ) (h : ∀ J, b J = J s) : jn k b = k s := h k
def okByte (b : UInt8) : Bool := decide (33 ≤ b.toNat) && decide (b.toNat ≤ 126)
def goodB (s : ByteArray) : Bool := decide (1 ≤ s.size) && decide (s.size ≤ 64) && s.data.toList.all okByte

theorem any_not_all (l : List UInt8) : l.any (fun b => !okByte b) = !l.all okByte := by
  induction l with
  | nil => rfl
  | cons x l ih => simp [ih, Bool.not_and]

theorem ba_getD (s : ByteArray) (i : Nat) : s.data.getD i 0 = s.data.toList.getD i 0 := by
  rw [Array.getD_eq_getD_getElem?, List.getD_eq_getElem?_getD, Array.getElem?_toList]

theorem m_refgood (F : Nat) (s : ByteArray) (h : s.size ≤ 9223372036854775807) : m_tholeref09_Good F s = some (goodB s) := by
  unfold m_tholeref09_Good
  rw [grd_pos _ (by omega)]
  have hsz : s.size = s.data.toList.length := by rw [Array.length_toList]; rfl
  refine (loopC_congr (st' := fun nx c _ => grd (c < s.data.toList.length) (bif !okByte (s.data.toList.getD c 0) then some false else nx ())) fun nx c u => ?_).trans ?_
  · simp only [jn, ← hsz, ba_getD]
    by_cases hc : c < s.size
    · rw [grd_pos _ hc, grd_pos _ hc]
      unfold okByte
      by_cases h1 : (s.data.toList.getD c 0).toNat < 33
      · have h2 : ¬ 33 ≤ (s.data.toList.getD c 0).toNat := by omega
        rw [show decide ((((s.data.toList.getD c 0).toNat : Nat) : Int) < 33) = true from decide_eq_true (by omega), show decide (33 ≤ (s.data.toList.getD c 0).toNat) = false from decide_eq_false h2]
        rfl
      · rw [show decide ((((s.data.toList.getD c 0).toNat : Nat) : Int) < 33) = false from decide_eq_false (by omega), show decide (33 ≤ (s.data.toList.getD c 0).toNat) = true from decide_eq_true (by omega)]
        by_cases h3 : (s.data.toList.getD c 0).toNat ≤ 126
        · rw [show decide ((((s.data.toList.getD c 0).toNat : Nat) : Int) > 126) = false from decide_eq_false (by omega), show decide ((s.data.toList.getD c 0).toNat ≤ 126) = true from decide_eq_true h3]; rfl
        · rw [show decide ((((s.data.toList.getD c 0).toNat : Nat) : Int) > 126) = true from decide_eq_true (by omega), show decide ((s.data.toList.getD c 0).toNat ≤ 126) = false from decide_eq_false h3]; rfl
    · unfold grd; rw [if_neg hc, if_neg hc]
  · rw [show (((s.size : Nat) : Int) - ((0 : Nat) : Int)).toNat = s.data.toList.length by omega]
    refine (loopC_list (fun b => !okByte b) 0 (some false) _ s.data.toList _ 0 (by omega)).trans ?_
    rw [List.drop_zero, any_not_all]
    unfold goodB
    cases s.data.toList.all okByte with
    | false => simp
    | true =>
      simp only [Bool.not_true, cond_false, Bool.and_true]
      by_cases h1 : s.size = 0
      · simp [h1]
      · by_cases h2 : s.size ≤ 64
        · rw [show decide (((s.size : Nat) : Int) ≥ 1) = true from decide_eq_true (by omega), show decide (((s.size : Nat) : Int) ≤ 64) = true from decide_eq_true (by omega), show decide (1 ≤ s.size) = true from decide_eq_true (by omega), show decide (s.size ≤ 64) = true from decide_eq_true h2]; rfl
        · rw [show decide (((s.size : Nat) : Int) ≥ 1) = true from decide_eq_true (by omega), show decide (((s.size : Nat) : Int) ≤ 64) = false from decide_eq_false (by omega), show decide (s.size ≤ 64) = false from decide_eq_false h2]; simp

theorem m_find (F : Nat) (s : Stt) (n : ByteArray) (h : s.items.length ≤ 33554432) : m_pglog_Find F s.les s.tail s.log s.lasts s.items n = some (findF s.items n) := by
  unfold m_pglog_Find findF
  rw [grd_pos _ (Len.of (by omega))]
  refine (Sx.loop_find (fun x : Itm => x.Name.toList == n.toList) (fun x => some (x, true)) _ s.items 0).trans ?_
  cases s.items.find? fun x => x.Name.toList == n.toList <;> rfl
theorem m_reffind (F : Nat) (s : Stt) (n : ByteArray) (h : s.items.length ≤ 33554432) : m_tholeref13_Find F s.les s.tail s.log s.lasts s.items n = some (findF s.items n) := m_find F s n h

def kI (x : Itm) : List UInt8 := x.Name.toList
def kN (x : ByteArray) : List UInt8 := x.toList
theorem A16 {n : Nat} (h : n ≤ 200000) : App n 16 := by unfold App; omega
theorem A40 {n : Nat} (h : n ≤ 200000) : App n 40 := by unfold App; omega
theorem A64 {n : Nat} (h : n ≤ 200000) : App n 64 := by unfold App; omega

theorem m_put (F : Nat) (l : List ByteArray) (x : ByteArray) (h : l.length ≤ 2000) : m_tholeref14_Put F l x = some (putG kN x false l) := by
  simp only [m_tholeref14_Put]
  rw [grd_pos _ (by unfold Len; omega)]
  refine (loop_putG kN x 16 (by decide) _ _ some (fun nx c y p acc ha => ?_) (fun c p acc ha => ?_) l 0 false [] (by simp; omega)).trans rfl
  · simp only [jn, kN]
    cases p <;> cases Op.bytesLess y.toList x.toList <;> cases y.toList == x.toList <;> simp only [Bool.not_true, Bool.not_false, cond_true, cond_false, Bool.true_and, Bool.false_and, Bool.or_true, Bool.or_false, Bool.true_or, Bool.false_or, List.append_nil, List.nil_append] <;> (repeat rw [grd_pos _ (A16 (by simp only [List.length_append, List.length_cons, List.length_nil]; omega))]) <;> simp only [List.append_assoc]
  · cases p
    · simp only [Bool.not_false, cond_true, cond_false]
      rw [grd_pos _ (A16 (by simp only [List.length_cons, List.length_nil]; omega))]
    · simp only [Bool.not_true, cond_true, cond_false, List.append_nil]

theorem m_append (F : Nat) (s : Stt) (e : Ent13) (crc : Int) (hs : s.Small 2000) (hn : e.Name.size ≤ 9223372036854775807) :
    ∃ r : Int × Ver × List Ent13 × List Lst × List Itm × Int, m_tholeref13_Append F s.les s.tail s.log s.lasts s.items e crc = some r ∧
      (r.2.2.2.2.2 ≠ 0 ∨ (r.1 = s.les ∧ r.2.1 = s.tail ∧ r.2.2.1 = s.log ++ [e] ∧ r.2.2.2.1.length ≤ s.lasts.length + 1 ∧ r.2.2.2.2.1 = bif e.Errno == 0 then putG kI (S_api_Item.mk e.Name e.Version crc) e.Remove s.items else s.items)) := by
  have hl := hs.log
  have hla := hs.lasts
  have hi := hs.items
  rw [m_tholeref13_Append]
  rw [jn_to (decide (vcmp e.Version (headF s.tail s.log) ≤ 0) || decide (e.Client < 0) || decide (e.Number < 0)) (fun J => by
    rw [m_refhead F s (by omega), Option.bind_some, m_refcmp, Option.bind_some]
    cases decide (vcmp e.Version (headF s.tail s.log) ≤ 0) <;> cases decide (e.Client < 0) <;> rfl)]
  cases (decide (vcmp e.Version (headF s.tail s.log) ≤ 0) || decide (e.Client < 0) || decide (e.Number < 0)) with
  | true => exact ⟨_, rfl, .inl (by decide)⟩
  | false =>
  rw [cond_false, m_refgood F _ hn, Option.bind_some]
  cases goodB e.Name with
  | false => exact ⟨_, rfl, .inl (by decide)⟩
  | true =>
  rw [Bool.not_true, cond_false, m_reffind F s _ (by omega), Option.bind_some]
  rw [jn_to ((e.Errno == 0) && (!e.Remove && !(findF s.items e.Name).2 && decide (((s.items.length : Nat) : Int) ≥ 32))) (fun J => by
    cases (e.Errno == 0) <;> cases e.Remove <;> cases (findF s.items e.Name).2 <;> rfl)]
  cases ((e.Errno == 0) && (!e.Remove && !(findF s.items e.Name).2 && decide (((s.items.length : Nat) : Int) ≥ 32))) with
  | true => exact ⟨_, rfl, .inl (by decide)⟩
  | false =>
  rw [cond_false, grd_pos _ (A64 (by simp only [List.length_nil]; omega)), grd_pos _ (A64 (by simp only [List.nil_append, List.length_cons, List.length_nil]; omega)), grd_pos _ (by unfold Len; omega)]
  refine loop_some (fun c (q : Bool × List Lst) => q.2.length ≤ c + (bif q.1 then 1 else 0)) _ s.lasts.length _ _ (fun nx c x q hc hp => ?_) (fun c q hc hp => ?_) s.lasts 0 (false, []) (by simp) (by simp)
  · obtain ⟨p, acc⟩ := q
    simp only [jn] at hp ⊢
    have hacc : acc.length ≤ 3000 := by cases p <;> simp only [cond_true, cond_false] at hp <;> omega
    cases p
    · simp only [Bool.not_false, cond_true, cond_false] at hp ⊢
      cases decide (x.Client ≥ e.Client) <;> cases (x.Client != e.Client) <;> simp only [cond_true, cond_false] <;> (repeat rw [grd_pos _ (A40 (by simp only [List.length_append, List.length_cons, List.length_nil]; omega))]) <;> exact ⟨_, by simp only [List.length_append, List.length_cons, List.length_nil, cond_true, cond_false]; omega, rfl⟩
    · simp only [Bool.not_true, cond_true, cond_false] at hp ⊢
      cases (x.Client != e.Client) <;> simp only [cond_true, cond_false] <;> (repeat rw [grd_pos _ (A40 (by simp only [List.length_append, List.length_cons, List.length_nil]; omega))]) <;> exact ⟨_, by simp only [List.length_append, List.length_cons, List.length_nil, cond_true, cond_false]; omega, rfl⟩
  · obtain ⟨p, acc⟩ := q
    dsimp only at hp ⊢
    have hacc : acc.length ≤ s.lasts.length + 1 := by cases p <;> simp only [cond_true, cond_false] at hp <;> omega
    rw [jn_to (bif p then acc else acc ++ [S_api_Last.mk e.Client e.Number e.Errno e.Version]) (fun J => by
      cases p
      · simp only [Bool.not_false, cond_true, cond_false]
        simp only [cond_false] at hp
        rw [grd_pos _ (A40 (by simp only [List.length_cons, List.length_nil]; omega))]
      · rfl)]
    have hlast : (bif p then acc else acc ++ [S_api_Last.mk e.Client e.Number e.Errno e.Version]).length ≤ s.lasts.length + 1 := by
      cases p
      · simp only [cond_false] at hp ⊢
        simp only [List.length_append, List.length_cons, List.length_nil]; omega
      · exact hacc
    rw [show (e.Errno != 0) = !(e.Errno == 0) from rfl]
    cases he : (e.Errno == 0) with
    | false =>
      rw [Bool.not_false, cond_true, grd_pos _ (A40 (by simp only [List.length_nil]; omega))]
      exact ⟨_, rfl, .inr ⟨rfl, rfl, rfl, hlast, rfl⟩⟩
    | true =>
    have he : e.Errno = 0 := by simpa using he
    rw [Bool.not_true, cond_false, grd_pos _ (by unfold Len; omega), cond_true]
    refine ⟨_, loop_putG kI (S_api_Item.mk e.Name e.Version crc) 40 (by decide) _ _ (fun its => some (s.les, s.tail, (([] : List S_api_Entry) ++ s.log) ++ [e], (bif p then acc else acc ++ [S_api_Last.mk e.Client e.Number e.Errno e.Version]), its, 0)) (fun nx c y p acc ha => ?_) (fun c p acc ha => ?_) s.items 0 e.Remove [] (by simp; omega), .inr ⟨rfl, rfl, rfl, hlast, rfl⟩⟩
    · simp only [jn, kI]
      cases p <;> cases Op.bytesLess y.Name.toList e.Name.toList <;> cases y.Name.toList == e.Name.toList <;> simp only [Bool.not_true, Bool.not_false, cond_true, cond_false, Bool.true_and, Bool.false_and, Bool.or_true, Bool.or_false, Bool.true_or, Bool.false_or, List.append_nil, List.nil_append] <;> (repeat rw [grd_pos _ (A40 (by simp only [List.length_append, List.length_cons, List.length_nil]; omega))]) <;> simp only [List.append_assoc]
    · cases p
      · simp only [Bool.not_false, cond_true, cond_false]
        rw [grd_pos _ (A40 (by simp only [List.length_cons, List.length_nil]; omega))]
      · simp only [Bool.not_true, cond_true, cond_false, List.append_nil]

end Go.Proofs.Ytdelhcdknglibaa
