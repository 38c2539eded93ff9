/-
  CHAPTER 01: plain facts on the models: the law DigestMany.
-/
import Derived.Test.YtmjlfdllpnkgoaaP01g
set_option linter.unusedVariables false
set_option linter.unusedSimpArgs false
set_option maxRecDepth 1000000
namespace Go.Proofs.Ytmjlfdllpnkgoaa
open Go Go.RowKit Sx

def oldE (d : Int) (T : List Int) (c : Nat) : S_digest_Engine := S_digest_Engine.mk (S_sync_Once.mk (S_sync_noCopy.mk) (S_atomic_Bool.mk (S_atomic_noCopy.mk) d) (S_sync_Mutex'.mk (S_sync_noCopy.mk) (S_sync_Mutex.mk 0 0))) T (S_atomic_Int64.mk (S_atomic_noCopy.mk) (S_atomic_align64.mk) (c : Int))
theorem oldE_good {d : Int} {T : List Int} (h : (d = 0 ∧ T = List.replicate 256 0) ∨ (d = 1 ∧ T = TBL)) (c : Nat) : GoodE (oldE d T c) := ⟨rfl, rfl, h⟩

theorem law_many (b : List UInt8) (a : Int) (ha : 0 ≤ a) : m_tholelaw01_DigestMany 1000 b a = some true := by
  simp only [m_tholelaw01_DigestMany]
  rw [m_new, Option.bind_some]
  by_cases hb : ((b.length : Nat) : Int) > 2000
  · rw [decide_eq_true hb, cond_true, lives01, Option.bind_some]
  have hb' : b.length ≤ 2000 := by omega
  have hm1 : 0 ≤ Int.tmod a 50 := Int.tmod_nonneg _ ha
  have hm2 : Int.tmod a 50 < 50 := Int.tmod_lt_of_pos _ (by decide)
  rw [decide_eq_false hb, cond_false, wrap_i64 (by omega) (by omega)]
  generalize Int.tmod a 50 = i at hm1 hm2 ⊢
  obtain ⟨k, rfl⟩ : ∃ k : Nat, i = k := ⟨i.toNat, (Int.toNat_of_nonneg hm1).symm⟩
  rw [grd_pos _ (by omega), show Int.toNat ((k : Int) - ((0 : Nat) : Int)) = k by omega]
  refine loopC_to (fun n s => s.2.1 = 0 ∧ s.2.2.1 = 0 ∧ ((s.1 = 0 ∧ s.2.2.2.1 = List.replicate 256 0) ∨ (s.1 = 1 ∧ s.2.2.2.1 = TBL)) ∧ s.2.2.2.2 = ((2 * n : Nat) : Int)) k _ _ _ (fun nx n s hn hs => ?_) (fun s hs => ?_) k 0 _ (by omega) ⟨rfl, rfl, .inl ⟨rfl, rfl⟩, rfl⟩
  · obtain ⟨d, st, se, T, c⟩ := s
    obtain ⟨h1, h2, h3, h4⟩ := hs
    dsimp only at h1 h2 h3 h4 ⊢
    subst h1; subst h2; subst h4
    have hg := oldE_good h3 (2 * n)
    have e1 := m_crc 1000 _ hg b (by omega)
    have e2 := m_crc 1000 _ (GoodE.made ((2 * n + 1 : Nat) : Int)) (b.take (b.length / 2)) (by rw [List.length_take]; omega)
    rw [show IntKind.i64.wrap ((oldE d T (2 * n)).calls.v + 1) = ((2 * n + 1 : Nat) : Int) from wrap_i64 (x := ((2 * n : Nat) : Int) + 1) (by omega) (by omega)] at e1
    rw [show IntKind.i64.wrap ((madeE ((2 * n + 1 : Nat) : Int)).calls.v + 1) = ((2 * (n + 1) : Nat) : Int) from wrap_i64 (x := ((2 * n + 1 : Nat) : Int) + 1) (by omega) (by omega)] at e2
    unfold oldE at e1
    unfold jn
    dsimp only
    rw [e1, Option.bind_some, m_refcrc 1000 b (by omega), Option.bind_some]
    rw [show ((((crcF b : Nat) : Int) != ((crcF b : Nat) : Int))) = false by simp, cond_false]
    rw [show Int.tdiv ((b.length : Nat) : Int) 2 = ((b.length / 2 : Nat) : Int) by rw [Int.tdiv_eq_ediv_of_nonneg (by omega)]; omega]
    rw [grd_pos _ (by unfold I64; omega), grd_pos _ (by unfold Bd; omega), Int.toNat_natCast, e2, Option.bind_some, m_refcrc 1000 _ (by rw [List.length_take]; omega), Option.bind_some]
    rw [show ((((crcF (b.take (b.length / 2)) : Nat) : Int) != ((crcF (b.take (b.length / 2)) : Nat) : Int))) = false by simp, cond_false]
    exact ⟨_, ⟨rfl, rfl, .inr ⟨rfl, rfl⟩, rfl⟩, rfl⟩
  · obtain ⟨d, st, se, T, c⟩ := s
    obtain ⟨h1, h2, h3, h4⟩ := hs
    dsimp only at h1 h2 h3 h4 ⊢
    subst h1; subst h2; subst h4
    have hl : T.length = 256 := (oldE_good h3 0).len
    rw [m___digest_Engine__Calls, grd_pos _ hl, Option.bind_some, grd_pos _ (by unfold I64; omega)]
    rw [show (((2 * k : Nat) : Int) == 2 * (k : Int)) = true by rw [beq_iff_eq]; omega, cond_true, lives01, Option.bind_some]

end Go.Proofs.Ytmjlfdllpnkgoaa
