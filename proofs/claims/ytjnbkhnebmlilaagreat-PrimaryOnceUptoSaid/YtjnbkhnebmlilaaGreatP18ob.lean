/-
  CHAPTER 18, PrimaryOnce: plain facts: one element put into a rising list; where it stands is found by halving.
-/
import Derived.Test.YtjnbkhnebmlilaaGreatP18oa
set_option linter.unusedVariables false
set_option linter.unusedSimpArgs false
set_option maxRecDepth 100000
namespace Go.Proofs.YtjnbkhnebmlilaaGreat
open Go Go.RowKit Sx

/-- An order of keys. -/
structure KOrd (κ : Type) where
  lt : κ → κ → Bool
  eq : κ → κ → Bool
  eqi : ∀ a b, eq a b = true ↔ a = b
  irr : ∀ a, lt a a = false
  tr : ∀ a b c, lt a b = true → lt b c = true → lt a c = true
  tot : ∀ a b, lt a b = false → a ≠ b → lt b a = true

def oZ : KOrd Int where
  lt a b := decide (a < b)
  eq a b := a == b
  eqi a b := by simp
  irr a := by simp
  tr a b c h h' := by simp at *; omega
  tot a b h h' := by simp at *; omega
def oS : KOrd (List UInt8) where
  lt a b := Op.bytesLess a b
  eq a b := a == b
  eqi a b := by simp
  irr a := lex_irrefl a
  tr a b c h h' := lex_trans h h'
  tot a b h h' := lex_total h h'

section
variable {α κ : Type} (o : KOrd κ) (k : α → κ)

theorem KOrd.eq_f {a b : κ} (h : a ≠ b) : o.eq a b = false := by
  cases he : o.eq a b with
  | false => rfl
  | true => exact absurd ((o.eqi a b).1 he) h
theorem KOrd.lt_ne {a b : κ} (h : o.lt a b = true) : a ≠ b := fun e => by rw [e, o.irr] at h; cases h

def putG (it : α) : Bool → List α → List α
  | p, [] => bif p then [] else [it]
  | p, x :: r => (bif !p && !o.lt (k x) (k it) then [it] else []) ++ (bif o.eq (k x) (k it) then [] else [x]) ++ putG it (p || !o.lt (k x) (k it)) r
theorem putG_len (it : α) : ∀ (l : List α) (p : Bool), (putG o k it p l).length ≤ l.length + (bif p then 0 else 1)
  | [], p => by cases p <;> simp [putG]
  | x :: r, p => by
    have h1 := putG_len it r true
    have h2 := putG_len it r false
    simp only [cond_true, cond_false] at h1 h2
    rw [putG]
    cases p <;> cases o.lt (k x) (k it) <;> cases o.eq (k x) (k it) <;> simp <;> omega

/-- Where a key stands, or would stand. -/
def atK (key : κ) : List α → Nat
  | [] => 0
  | x :: r => bif o.lt (k x) key then atK key r + 1 else 0
/-- Is it there? -/
def hasK (key : κ) : List α → Bool
  | [] => false
  | x :: r => bif o.lt (k x) key then hasK key r else o.eq (k x) key
theorem atK_le (key : κ) : ∀ l : List α, atK o k key l ≤ l.length
  | [] => Nat.le_refl _
  | x :: r => by
    have := atK_le key r
    rw [atK]
    cases o.lt (k x) key <;> simp <;> omega
theorem hasK_lt (key : κ) : ∀ l : List α, hasK o k key l = true → atK o k key l < l.length
  | [], h => by cases h
  | x :: r, h => by
    have := hasK_lt key r
    rw [hasK] at h
    rw [atK]
    cases hx : o.lt (k x) key with
    | true => rw [hx, cond_true] at h; have := this h; simp; omega
    | false => simp
theorem hasK_at (key : κ) (d : α) : ∀ l : List α, hasK o k key l = (decide (atK o k key l < l.length) && o.eq (k (l.getD (atK o k key l) d)) key)
  | [] => rfl
  | x :: r => by
    have := hasK_at key d r
    rw [hasK, atK]
    cases hx : o.lt (k x) key with
    | true => rw [cond_true, cond_true, this]; simp
    | false => simp

def Ris (l : List α) : Prop := l.Pairwise fun x y => o.lt (k x) (k y) = true
variable {o k} in
theorem Ris.tail {x : α} {l : List α} (h : Ris o k (x :: l)) : Ris o k l := (List.pairwise_cons.1 h).2
variable {o k} in
theorem Ris.head {x : α} {l : List α} (h : Ris o k (x :: l)) : ∀ y ∈ l, o.lt (k x) (k y) = true := (List.pairwise_cons.1 h).1

theorem putG_skip (it : α) : ∀ l : List α, (∀ y ∈ l, k y ≠ k it) → putG o k it true l = l
  | [], _ => rfl
  | x :: r, h => by
    rw [putG, Bool.true_or, putG_skip it r fun y hy => h y (by simp [hy]), o.eq_f (h x (by simp))]; rfl
theorem putG_put (it : α) : ∀ l : List α, Ris o k l → putG o k it false l = bif hasK o k (k it) l then l.set (atK o k (k it) l) it else l.take (atK o k (k it) l) ++ ([it] ++ l.drop (atK o k (k it) l))
  | [], _ => rfl
  | x :: r, h => by
    rw [putG, hasK, atK]
    cases hx : o.lt (k x) (k it) with
    | true =>
      rw [o.eq_f (o.lt_ne hx), Bool.not_true, Bool.and_false, Bool.or_false, putG_put it r h.tail]
      simp only [cond_true, cond_false]
      cases hasK o k (k it) r <;> rfl
    | false =>
      rw [Bool.not_false, Bool.and_true, Bool.or_true]
      simp only [cond_true, cond_false, Bool.not_false]
      cases he : o.eq (k x) (k it) with
      | true =>
        have hk := (o.eqi _ _).1 he
        rw [putG_skip o k it r fun y hy e => by
          have := h.head y hy
          rw [e, hk, o.irr] at this; cases this]
        rfl
      | false =>
        have hne : k x ≠ k it := fun e => by rw [(o.eqi _ _).2 e] at he; cases he
        rw [putG_skip o k it r fun y hy e => by
          have h1 := h.head y hy
          have h2 := o.tot _ _ hx hne
          rw [e] at h1
          have := o.tr _ _ _ h1 h2
          rw [o.irr] at this; cases this]
        rfl
theorem putG_del (it : α) : ∀ l : List α, Ris o k l → putG o k it true l = bif hasK o k (k it) l then l.take (atK o k (k it) l) ++ l.drop (atK o k (k it) l + 1) else l
  | [], _ => rfl
  | x :: r, h => by
    rw [putG, hasK, atK, Bool.true_or]
    cases hx : o.lt (k x) (k it) with
    | true =>
      rw [o.eq_f (o.lt_ne hx), putG_del it r h.tail]
      simp only [cond_true, cond_false, Bool.not_true, Bool.false_and]
      cases hasK o k (k it) r <;> rfl
    | false =>
      simp only [cond_true, cond_false, Bool.not_true, Bool.false_and]
      cases he : o.eq (k x) (k it) with
      | true =>
        have hk := (o.eqi _ _).1 he
        rw [putG_skip o k it r fun y hy e => by
          have := h.head y hy
          rw [e, hk, o.irr] at this; cases this]
        rfl
      | false =>
        have hne : k x ≠ k it := fun e => by rw [(o.eqi _ _).2 e] at he; cases he
        rw [putG_skip o k it r fun y hy e => by
          have h1 := h.head y hy
          have h2 := o.tot _ _ hx hne
          rw [e] at h1
          have := o.tr _ _ _ h1 h2
          rw [o.irr] at this; cases this]
        rfl

/-- In a rising list those below a key are those ahead of its place. -/
theorem at_iff (key : κ) (d : α) : ∀ (l : List α), Ris o k l → ∀ i, i < l.length → (o.lt (k (l.getD i d)) key = true ↔ i < atK o k key l)
  | [], _, i, h => by simp at h
  | x :: r, h, i, hi => by
    rw [atK]
    cases hx : o.lt (k x) key with
    | true =>
      rw [cond_true]
      cases i with
      | zero => simp [hx]
      | succ i =>
        have := at_iff key d r h.tail i (by simpa using hi)
        simp only [List.getD_cons_succ]
        rw [this]; omega
    | false =>
      rw [cond_false]
      constructor
      · intro hlt
        cases i with
        | zero => simp only [List.getD_cons_zero] at hlt; rw [hx] at hlt; cases hlt
        | succ i =>
          simp only [List.getD_cons_succ] at hlt
          have hm : r.getD i d ∈ r := by
            have hi' : i < r.length := by simpa using hi
            rw [List.getD_eq_getElem?_getD, List.getElem?_eq_getElem hi']
            exact List.getElem_mem hi'
          have := o.tr _ _ _ (h.head _ hm) hlt
          rw [hx] at this; cases this
      · intro h0; omega
end

/-- Halving. -/
theorem halving {ρ : Type} (len at_ : Nat) (below : Nat → Bool) (hb : ∀ i, i < len → (below i = true ↔ i < at_)) (st : (Int × Int → Option ρ) → Int × Int → Option ρ) (fin : Nat → Option ρ)
    (hs : ∀ nx (i j : Nat), i < j → j ≤ len → st nx ((i : Int), (j : Int)) = bif below ((i + j) / 2) then nx (((((i + j) / 2 + 1 : Nat)) : Int), (j : Int)) else nx ((i : Int), ((((i + j) / 2 : Nat)) : Int)))
    (hf : ∀ nx (i : Nat), i ≤ len → st nx ((i : Int), (i : Int)) = fin i) :
    ∀ (n i j : Nat), i ≤ at_ → at_ ≤ j → j ≤ len → j - i < 2 ^ n → loopW st (n + 1) ((i : Int), (j : Int)) = fin at_
  | 0, i, j, h1, h2, h3, h4 => by
    have : i = j := by simp at h4; omega
    subst this
    have : at_ = i := by omega
    rw [loopW, hf _ _ h3, this]
  | n + 1, i, j, h1, h2, h3, h4 => by
    rcases Nat.lt_or_ge i j with h | h
    · rw [loopW, hs _ _ _ h h3]
      rw [Nat.pow_succ] at h4
      cases hx : below ((i + j) / 2) with
      | true =>
        have := (hb ((i + j) / 2) (by omega)).1 hx
        rw [cond_true]
        exact halving len at_ below hb st fin hs hf n _ _ (by omega) h2 h3 (by omega)
      | false =>
        have : ¬ (i + j) / 2 < at_ := fun e => by rw [(hb ((i + j) / 2) (by omega)).2 e] at hx; cases hx
        rw [cond_false]
        exact halving len at_ below hb st fin hs hf n _ _ h1 (by omega) (by omega) (by omega)
    · have : i = j := by omega
      subst this
      have : at_ = i := by omega
      rw [loopW, hf _ _ h3, this]

theorem mid_eq {i j : Nat} (h : i + j ≤ 1000000000) : IntKind.i64.wrap (Int.fdiv (IntKind.u64.wrap (((i : Nat) : Int) + ((j : Nat) : Int))) (2 ^ 1)) = (((i + j) / 2 : Nat) : Int) := by
  have h1 : IntKind.u64.wrap (((i : Nat) : Int) + ((j : Nat) : Int)) = ((i + j : Nat) : Int) := by
    rw [← Int.natCast_add]
    have : IntKind.u64.wrap (((i + j : Nat)) : Int) = ((i + j : Nat) : Int) % 18446744073709551616 := by
      simp [IntKind.wrap, IntKind.signed, IntKind.bits]
    rw [this]; omega
  rw [h1]
  have h2 : Int.fdiv ((i + j : Nat) : Int) (2 ^ 1) = (((i + j) / 2 : Nat) : Int) := by
    rw [show ((2 : Int) ^ 1) = ((2 : Nat) : Int) from rfl, Int.fdiv_eq_ediv_of_nonneg _ (by omega)]
    omega
  rw [h2, wrap_i64 (by omega) (by omega)]

end Go.Proofs.YtjnbkhnebmlilaaGreat
