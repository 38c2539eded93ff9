/-
  CHAPTER 7: what a weight that grows, or one that is left out, changes.
-/
import Derived.Test.YtmdmfjgpjpfoaaaP07d
set_option linter.unusedVariables false
set_option maxRecDepth 100000
namespace Go.Proofs.Ytmdmfjgpjpfoaaa
open Go Sx

theorem all_succ {p : Nat → Prop} {i : Nat} (h : ∀ j, j < i → p j) (hi : p i) : ∀ j, j < i + 1 → p j := fun j hj =>
  if hji : j = i then hji ▸ hi else h j (by omega)

theorem tdiv_mono {a b c : Int} (ha : a ≤ 0) (hb : 1 ≤ b) (hc : b ≤ c) : Int.tdiv a b ≤ Int.tdiv a c := by
  obtain ⟨n, rfl⟩ : ∃ n : Nat, a = -(n : Int) := ⟨(-a).toNat, by omega⟩
  obtain ⟨p, rfl⟩ : ∃ p : Nat, b = (p : Int) := ⟨b.toNat, by omega⟩
  obtain ⟨q, rfl⟩ : ∃ q : Nat, c = (q : Int) := ⟨c.toNat, by omega⟩
  have e1 : Int.tdiv (n : Int) (p : Int) = ((n / p : Nat) : Int) := rfl
  have e2 : Int.tdiv (n : Int) (q : Int) = ((n / q : Nat) : Int) := rfl
  rw [Int.neg_tdiv, Int.neg_tdiv, e1, e2]
  have : n / q ≤ n / p := Nat.div_le_div_left (by omega) (by omega)
  omega

theorem drawF_mono {h a b : Int} (ha : 1 ≤ a) (hab : a ≤ b) : drawF h a ≤ drawF h b := by
  unfold drawF
  rw [if_neg (by omega), if_neg (by omega)]
  exact tdiv_mono (by have := lnF_top (IntKind.i64.wrap (iand .u32 h 65535)); omega) ha hab

theorem strawOf_other {ids ws : List Int} {x r v : Int} {i j : Nat} (h : i ≠ j) : strawOf ids (ws.set i v) x r j = strawOf ids ws x r j := by
  unfold strawOf
  rw [getD_set, if_neg (fun hc => h hc.1)]

theorem moves1 {ids ws : List Int} {x r v : Int} {i : Nat} (hl : ids.length = ws.length) (hi : i < ws.length) (hv : ws.getD i 0 ≤ v) (hok : (chooseF ids ws x r).2 = true) :
    (chooseF ids (ws.set i v) x r).2 = true ∧ ((chooseF ids (ws.set i v) x r).1 = (chooseF ids ws x r).1 ∨ (chooseF ids (ws.set i v) x r).1 = (i : Int)) := by
  obtain ⟨k, hk, bk, _⟩ := chooseF_some hok
  have hl' : ids.length = (ws.set i v).length := by rw [List.length_set]; exact hl
  have hkl := bk.lt
  have hkw : 1 ≤ (ws.set i v).getD k 0 := by
    rw [getD_set]
    split
    · rename_i h; have := bk.heavy; rw [← h.1] at this; omega
    · exact bk.heavy
  rcases chooseF_is x r hl' with ⟨_, h2⟩ | ⟨m, hm, bm⟩
  · exact absurd hkw (h2 k hkl)
  · rw [hm, hk]
    refine ⟨rfl, ?_⟩
    by_cases hmi : m = i
    · exact .inr (by rw [hmi])
    by_cases hmk : m = k
    · exact .inl (by rw [hmk])
    exfalso
    have hmw : 1 ≤ ws.getD m 0 := by have := bm.heavy; rwa [getD_set, if_neg (fun hc => hmi hc.1.symm)] at this
    have h1 := bk.most m bm.lt hmw
    have h2 := bm.most k hkl hkw
    rw [strawOf_other (Ne.symm hmi)] at h2
    by_cases hki : k = i
    · subst hki
      have h3 : strawOf ids ws x r k ≤ strawOf ids (ws.set k v) x r k := by
        unfold strawOf
        rw [getD_set, if_pos ⟨rfl, by omega⟩]
        exact drawF_mono bk.heavy hv
      rcases Nat.lt_or_gt_of_ne hmk with hc | hc
      · have := h1.2 hc; omega
      · have := h2.2 hc; omega
    · rw [strawOf_other (Ne.symm hki)] at h2
      rcases Nat.lt_or_gt_of_ne hmk with hc | hc
      · have := h1.2 hc; omega
      · have := h2.2 hc; omega

theorem moves2 {ids ws : List Int} {x r : Int} {i : Nat} (hl : ids.length = ws.length) (hok : (chooseF ids ws x r).2 = true) (hki : (chooseF ids ws x r).1 ≠ (i : Int)) :
    (chooseF ids (ws.set i 0) x r).2 = true ∧ (chooseF ids (ws.set i 0) x r).1 = (chooseF ids ws x r).1 := by
  obtain ⟨k, hk, bk, _⟩ := chooseF_some hok
  have hl' : ids.length = (ws.set i 0).length := by rw [List.length_set]; exact hl
  have hik : i ≠ k := fun hc => hki (by rw [hk, hc])
  have b : Best ids (ws.set i 0) x r ids.length k := by
    refine ⟨bk.lt, ?_, fun j hj hw => ?_⟩
    · rw [getD_set, if_neg (fun hc => hik hc.1)]; exact bk.heavy
    · have hij : i ≠ j := fun hc => by
        subst hc
        rw [getD_set, if_pos ⟨rfl, by omega⟩] at hw
        omega
      rw [strawOf_other hij, strawOf_other hik]
      rw [getD_set, if_neg (fun hc => hij hc.1)] at hw
      exact bk.most j hj hw
  rw [chooseF_of_best hl' b, hk]
  exact ⟨rfl, rfl⟩

theorem wrap_u64_nat (a : Int) : ∃ A : Nat, IntKind.u64.wrap a = (A : Int) := by
  refine ⟨(IntKind.u64.wrap a).toNat, ?_⟩
  have : 0 ≤ IntKind.u64.wrap a := by
    simp only [IntKind.wrap, IntKind.signed, IntKind.bits]
    simp
    omega
  omega

end Go.Proofs.Ytmdmfjgpjpfoaaa
