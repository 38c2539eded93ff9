/-
  CHAPTER 20, BackfillMeets: plain facts: rising lists, and one more put into one.
-/
import Derived.Test.YticlccnajfjdeaaP20md
import Derived.Test.YticlccnajfjdeaaP20me
set_option linter.unusedVariables false
set_option linter.unusedSimpArgs false
set_option maxRecDepth 100000
namespace Go.Proofs.Yticlccnajfjdeaa
open Go Go.RowKit Sx

theorem bl_ne {a b : List UInt8} (h : Op.bytesLess a b = true) : a ≠ b := fun e => by subst e; have := bl_as a a h; rw [h] at this; cases this
theorem bl_of {a b : List UInt8} (h : Op.bytesLess b a = false) (hn : a ≠ b) : Op.bytesLess a b = true := by
  cases hab : Op.bytesLess a b with
  | true => rfl
  | false => exact absurd (bl_tot a b hab h) hn
theorem bl_trans {a b c : List UInt8} (h1 : Op.bytesLess a b = true) (h2 : Op.bytesLess b c = true) : Op.bytesLess a c = true := by
  refine bl_of (bl_tr a b c (bl_as _ _ h1) (bl_as _ _ h2)) (fun e => ?_)
  subst e
  have := bl_as a b h1
  rw [h2] at this; cases this

section
variable {α : Type} (k : α → List UInt8)
/-- Rising by what k says. -/
def Ri (L : List α) : Prop := L.Pairwise fun a b => Op.bytesLess (k a) (k b) = true
theorem ri_same : ∀ {A B : List α}, Ri k A → Ri k B → (∀ z, z ∈ A ↔ z ∈ B) → A = B
  | [], [], _, _, _ => rfl
  | [], b :: B, _, _, h => by have := (h b).2 (by simp); cases this
  | a :: A, [], _, _, h => by have := (h a).1 (by simp); cases this
  | a :: A, b :: B, hA, hB, h => by
    have pA := List.pairwise_cons.1 hA
    have pB := List.pairwise_cons.1 hB
    have irr : ∀ x y : α, Op.bytesLess (k x) (k y) = true → Op.bytesLess (k y) (k x) = true → False := fun x y h1 h2 => by
      rw [bl_as _ _ h1] at h2; cases h2
    have hab : a = b := by
      rcases List.mem_cons.1 ((h a).1 (by simp)) with h1 | h1
      · exact h1
      · rcases List.mem_cons.1 ((h b).2 (by simp)) with h2 | h2
        · exact h2.symm
        · exact (irr _ _ (pB.1 a h1) (pA.1 b h2)).elim
    subst hab
    have self : Op.bytesLess (k a) (k a) = true → False := fun h => irr _ _ h h
    rw [ri_same pA.2 pB.2 (fun z => ⟨fun hz => ?_, fun hz => ?_⟩)]
    · rcases List.mem_cons.1 ((h z).1 (by simp [hz])) with rfl | h1
      · exact (self (pA.1 _ hz)).elim
      · exact h1
    · rcases List.mem_cons.1 ((h z).2 (by simp [hz])) with rfl | h1
      · exact (self (pB.1 _ hz)).elim
      · exact h1
theorem ri_key {L : List α} (h : Ri k L) : ∀ {x y : α}, x ∈ L → y ∈ L → k x = k y → x = y := by
  induction L with
  | nil => intro x y hx; cases hx
  | cons a L ih =>
    have p := List.pairwise_cons.1 h
    intro x y hx hy e
    rcases List.mem_cons.1 hx with h1 | h1 <;> rcases List.mem_cons.1 hy with h2 | h2
    · rw [h1, h2]
    · rw [h1] at e; exact absurd e (bl_ne (p.1 y h2))
    · rw [h2] at e; exact absurd e.symm (bl_ne (p.1 x h1))
    · exact ih p.2 h1 h2 e

/-- One more, behind those that are below it; whatever has its key goes. -/
def putG (it : α) : Bool → List α → List α
  | p, [] => bif p then [] else [it]
  | p, x :: r => (bif !p && !Op.bytesLess (k x) (k it) then [it] else []) ++ (bif k x == k it then [] else [x]) ++ putG it (p || !Op.bytesLess (k x) (k it)) r
theorem putG_len (it : α) : ∀ (l : List α) (p : Bool), (putG k it p l).length ≤ l.length + (bif p then 0 else 1)
  | [], p => by cases p <;> simp [putG]
  | x :: r, p => by
    have h1 := putG_len it r true
    have h2 := putG_len it r false
    simp only [cond_true, cond_false] at h1 h2
    rw [putG]
    cases p <;> cases Op.bytesLess (k x) (k it) <;> cases k x == k it <;> simp <;> omega
theorem mem_putT (it : α) : ∀ (l : List α) (z : α), z ∈ putG k it true l ↔ z ∈ l ∧ k z ≠ k it
  | [], z => by simp [putG]
  | x :: r, z => by
    rw [putG, Bool.true_or, Bool.not_true, Bool.false_and, cond_false, List.nil_append, List.mem_append, mem_putT it r z, List.mem_cons]
    cases hx : k x == k it with
    | true =>
      have : k x = k it := by simpa using hx
      rw [cond_true]
      constructor
      · rintro (h | h)
        · cases h
        · exact ⟨.inr h.1, h.2⟩
      · rintro ⟨rfl | h, h2⟩
        · exact absurd this h2
        · exact .inr ⟨h, h2⟩
    | false =>
      have : ¬ k x = k it := by simpa using hx
      rw [cond_false]
      constructor
      · rintro (h | h)
        · rw [List.mem_singleton] at h; subst h; exact ⟨.inl rfl, this⟩
        · exact ⟨.inr h.1, h.2⟩
      · rintro ⟨rfl | h, h2⟩
        · exact .inl (by simp)
        · exact .inr ⟨h, h2⟩
theorem mem_putF (it : α) : ∀ (l : List α) (z : α), z ∈ putG k it false l ↔ z = it ∨ (z ∈ l ∧ k z ≠ k it)
  | [], z => by simp [putG]
  | x :: r, z => by
    rw [putG, Bool.false_or, Bool.not_false, Bool.true_and, List.mem_append, List.mem_append, List.mem_cons]
    have hx : z ∈ (bif k x == k it then [] else [x]) ↔ z = x ∧ k z ≠ k it := by
      cases h : k x == k it with
      | true =>
        have : k x = k it := by simpa using h
        rw [cond_true]
        exact ⟨fun h => (by cases h), fun ⟨h1, h2⟩ => absurd (by rw [h1]; exact this) h2⟩
      | false =>
        have : ¬ k x = k it := by simpa using h
        rw [cond_false, List.mem_singleton]
        exact ⟨fun h => ⟨h, h ▸ this⟩, fun h => h.1⟩
    rw [hx]
    cases Op.bytesLess (k x) (k it) with
    | true =>
      rw [Bool.not_true, cond_false, mem_putF it r z]
      constructor
      · rintro ((h | h) | h | h)
        · cases h
        · exact .inr ⟨.inl h.1, h.2⟩
        · exact .inl h
        · exact .inr ⟨.inr h.1, h.2⟩
      · rintro (h | ⟨h | h, h2⟩)
        · exact .inr (.inl h)
        · exact .inl (.inr ⟨h, h2⟩)
        · exact .inr (.inr ⟨h, h2⟩)
    | false =>
      rw [Bool.not_false, cond_true, mem_putT k it r z, List.mem_singleton]
      constructor
      · rintro ((h | h) | h)
        · exact .inl h
        · exact .inr ⟨.inl h.1, h.2⟩
        · exact .inr ⟨.inr h.1, h.2⟩
      · rintro (h | ⟨h | h, h2⟩)
        · exact .inl (.inl h)
        · exact .inl (.inr ⟨h, h2⟩)
        · exact .inr ⟨h, h2⟩
theorem putG_ri (it : α) : ∀ (l : List α) (p : Bool), Ri k l → (∀ z ∈ l, p = true → True) → Ri k (putG k it p l)
  | [], p, _, _ => by cases p <;> simp [putG, Ri]
  | x :: r, p, h, _ => by
    have q := List.pairwise_cons.1 h
    have hT := putG_ri it r true q.2 (fun _ _ _ => trivial)
    have hF := putG_ri it r false q.2 (fun _ _ _ => trivial)
    have tailT : Ri k ((bif k x == k it then [] else [x]) ++ putG k it true r) := by
      cases k x == k it with
      | true => exact hT
      | false => exact List.pairwise_cons.2 ⟨fun z hz => q.1 z ((mem_putT k it r z).1 hz).1, hT⟩
    rw [putG]
    cases p with
    | true => exact tailT
    | false =>
      rw [Bool.not_false, Bool.true_and, Bool.false_or]
      cases hx : Op.bytesLess (k x) (k it) with
      | true =>
        have hne : (k x == k it) = false := by simpa using bl_ne hx
        rw [hne]
        refine List.pairwise_cons.2 ⟨fun z hz => ?_, hF⟩
        rcases (mem_putF k it r z).1 hz with rfl | ⟨h1, _⟩
        · exact hx
        · exact q.1 z h1
      | false =>
        refine List.pairwise_cons.2 ⟨fun z hz => ?_, tailT⟩
        have hxit : ∀ z, (z = x ∨ z ∈ r) → k z ≠ k it → Op.bytesLess (k it) (k z) = true := fun z hz hn => by
          rcases hz with rfl | hz
          · exact bl_of hx (fun e => hn e.symm)
          · by_cases he : k it = k x
            · rw [he]; exact q.1 z hz
            · exact bl_trans (bl_of hx he) (q.1 z hz)
        rcases List.mem_append.1 hz with h1 | h1
        · cases he : k x == k it with
          | true => rw [he] at h1; cases h1
          | false =>
            rw [he] at h1
            obtain rfl : z = x := by simpa using h1
            exact hxit z (.inl rfl) (by simpa using he)
        · obtain ⟨h2, h3⟩ := (mem_putT k it r z).1 h1
          exact hxit z (.inr h2) h3
end

theorem loop_some {α σ ρ : Type} (P : Nat → σ → Prop) (Q : ρ → Prop) (N : Nat) (st : (σ → Option ρ) → Nat → α → σ → Option ρ) (fin : Nat → σ → Option ρ)
    (hs : ∀ nx c x s, c < N → P c s → ∃ s', P (c + 1) s' ∧ st nx c x s = nx s') (hf : ∀ c s, c ≤ N → P c s → ∃ r, fin c s = some r ∧ Q r) :
    ∀ (l : List α) (c : Nat) (s : σ), c + l.length = N → P c s → ∃ r, loopL st fin l c s = some r ∧ Q r
  | [], c, s, h, hp => by rw [loopL]; exact hf c s (by simp at h; omega) hp
  | x :: l, c, s, h, hp => by
    rw [List.length_cons] at h
    obtain ⟨s', h1, e⟩ := hs (fun s' => loopL st fin l (c + 1) s') c x s (by omega) hp
    rw [loopL, e]
    exact loop_some P Q N st fin hs hf l (c + 1) s' (by omega) h1

/-- A loop that puts. -/
theorem loop_putG {α ρ : Type} (k : α → List UInt8) (it : α) (by_ : Nat) (hby : by_ ≤ 100) (st : (Bool × List α → Option ρ) → Nat → α → Bool × List α → Option ρ) (fin : Nat → Bool × List α → Option ρ) (R : List α → Option ρ)
    (hs : ∀ nx c x p acc, acc.length + 2 ≤ 100000 → st nx c x (p, acc) = nx (p || !Op.bytesLess (k x) (k it), acc ++ ((bif !p && !Op.bytesLess (k x) (k it) then [it] else []) ++ (bif k x == k it then [] else [x]))))
    (hf : ∀ c p acc, acc.length + 1 ≤ 100000 → fin c (p, acc) = R (acc ++ (bif p then [] else [it]))) :
    ∀ (l : List α) (c : Nat) (p : Bool) (acc : List α), acc.length + 2 * l.length + 2 ≤ 100000 → loopL st fin l c (p, acc) = R (acc ++ putG k it p l)
  | [], c, p, acc, h => by rw [loopL, hf _ _ _ (by simp at h; omega)]; rfl
  | x :: l, c, p, acc, h => by
    rw [List.length_cons] at h
    rw [loopL, hs _ _ _ _ _ (by omega), loop_putG k it by_ hby st fin R hs hf l (c + 1) _ _ ?_, putG]
    · simp only [List.append_assoc]
    · cases p <;> cases Op.bytesLess (k x) (k it) <;> cases k x == k it <;> simp <;> omega

end Go.Proofs.Yticlccnajfjdeaa
