/-
  CHAPTER 16: the rank, and whose info is better.
-/
import Derived.Test.YthaokdobgmbeeaaPinf
import Derived.Test.YthaokdobgmbeeaaPsort
set_option linter.unusedVariables false
namespace Go.Proofs.Ythaokdobgmbeeaa
open Go Sx

def infLt (a b : Inf) : Prop := a.les < b.les ∨ a.les = b.les ∧ (a.he < b.he ∨ a.he = b.he ∧ (a.hn < b.hn ∨ a.hn = b.hn ∧ (b.te < a.te ∨ b.te = a.te ∧ b.tn < a.tn)))
def infEq (a b : Inf) : Prop := a.les = b.les ∧ a.he = b.he ∧ a.hn = b.hn ∧ a.te = b.te ∧ a.tn = b.tn

theorem verF_is (a b c d : Int) : (verF a b c d = -1 ∧ (a < c ∨ a = c ∧ b < d)) ∨ (verF a b c d = 0 ∧ a = c ∧ b = d) ∨ (verF a b c d = 1 ∧ (c < a ∨ a = c ∧ d < b)) := by
  unfold verF cmpI
  (repeat' split) <;> omega

theorem infF_is (a b : Inf) : (infF a b = -1 ∧ infLt a b) ∨ (infF a b = 0 ∧ infEq a b) ∨ (infF a b = 1 ∧ infLt b a) := by
  have h1 := verF_is a.he a.hn b.he b.hn
  have h2 := verF_is b.te b.tn a.te a.tn
  unfold infF infLt infEq
  (repeat' split) <;> omega

theorem infF_anti (a b : Inf) : infF b a = 0 - infF a b := by
  have h1 := infF_is a b
  have h2 := infF_is b a
  unfold infLt infEq at h1 h2
  omega
theorem infF_self (a : Inf) : infF a a = 0 := by
  have h1 := infF_is a a
  unfold infLt infEq at h1
  omega
theorem infF_range (a b : Inf) : -1 ≤ infF a b ∧ infF a b ≤ 1 := by
  have h1 := infF_is a b
  omega
theorem infF_trans (a b c : Inf) : (infF a b < 0 ∨ infF b c < 0 ∨ infF a c ≥ 0) ∧ (infF a b > 0 ∨ infF b c > 0 ∨ infF a c ≤ 0) := by
  have h1 := infF_is a b
  have h2 := infF_is b c
  have h3 := infF_is a c
  unfold infLt infEq at h1 h2 h3
  omega

theorem fill_set (xs : List Int) (i m : Nat) (v : Int) (h : xs.length = i) (hi : i < m) : (xs ++ List.replicate (m - i) 0).set i v = (xs ++ [v]) ++ List.replicate (m - (i + 1)) 0 := by
  subst h
  rw [List.set_append_right _ _ (Nat.le_refl _), Nat.sub_self, show m - xs.length = (m - (xs.length + 1)) + 1 by omega, List.replicate_succ, List.set_cons_zero, List.append_assoc]
  rfl

def mapTo (f : Int → Int) (s : List Int) : Nat → List Int
  | 0 => []
  | i + 1 => mapTo f s i ++ [f (s.getD i 0)]
theorem mapTo_len (f : Int → Int) (s : List Int) : ∀ i, (mapTo f s i).length = i
  | 0 => rfl
  | i + 1 => by simp [mapTo, mapTo_len f s i]

/-- Is place u ahead of place v? -/
def ltI (osds : List Int) (infos : List Inf) (self : Int) (u v : Int) : Bool := decide (rankF osds infos self (Int.toNat u) (Int.toNat v) < 0)

/-- The places, the best one first. -/
def orderF (osds : List Int) (infos : List Inf) (self : Int) (m : Nat) : List Int := insS (fun u v => rankF osds infos self (Int.toNat u) (Int.toNat v)) 0 (m - (0 + 1)) (upTo m)
def minL (osds : List Int) (infos : List Inf) : Nat := if infos.length < osds.length then infos.length else osds.length
def rankedF (osds : List Int) (infos : List Inf) (self : Int) : List Int := mapTo (fun k => osds.getD k.toNat 0) (orderF osds infos self (minL osds infos)) (minL osds infos)
theorem rankedF_len (osds : List Int) (infos : List Inf) (self : Int) : (rankedF osds infos self).length = minL osds infos := mapTo_len _ _ _
theorem orderF_len (osds : List Int) (infos : List Inf) (self : Int) (m : Nat) : (orderF osds infos self m).length = m := by rw [orderF, insS_len, upTo_len]
theorem orderF_within (osds : List Int) (infos : List Inf) (self : Int) (m : Nat) : Within m (orderF osds infos self m) := insS_within _ _ (by rw [upTo_len]; omega) (upTo_within m)

def bestF (osds : List Int) (infos : List Inf) (self : Int) : Int × Bool := if minL osds infos = 0 then (0, false) else ((rankedF osds infos self).getD 0 0, true)

theorem awake1 : bestF [0, 1, 2] [⟨1, 1, 5, 0, 0, 0⟩, ⟨3, 3, 1, 0, 0, 0⟩, ⟨3, 3, 1, 0, 0, 0⟩] 2 = (2, true) := by decide +kernel
theorem awake2 : bestF [0, 1, 2] [⟨1, 1, 5, 0, 0, 0⟩, ⟨3, 3, 1, 0, 0, 0⟩, ⟨3, 3, 1, 0, 0, 0⟩] 0 = (1, true) := by decide +kernel

/-- Of the first k: is each one's last epoch the greatest? -/
def eligTo (infos : List Inf) : Nat → List Bool
  | 0 => []
  | k + 1 => eligTo infos k ++ [(infos.getD k dI).les == lesTo infos infos.length]
theorem eligTo_len (infos : List Inf) : ∀ k, (eligTo infos k).length = k
  | 0 => rfl
  | k + 1 => by simp [eligTo, eligTo_len infos k]

end Go.Proofs.Ythaokdobgmbeeaa
