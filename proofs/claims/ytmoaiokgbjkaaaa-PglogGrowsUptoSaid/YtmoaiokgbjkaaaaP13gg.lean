/-
  CHAPTER 13, PglogGrows: plain facts: the oldest entries go.
-/
import Derived.Test.YtmoaiokgbjkaaaaP13gf
set_option linter.unusedVariables false
set_option linter.unusedSimpArgs false
set_option maxRecDepth 100000
namespace Go.Proofs.Ytmoaiokgbjkaaaa
open Go Go.RowKit Sx

theorem headF_cons (v : Ver) (x : Ent13) (l : List Ent13) : headF v (x :: l) = headF x.Version l := by
  unfold headF
  cases l with
  | nil => rfl
  | cons y l => rw [List.getLast?_cons_cons]; cases hq : (y :: l).getLast? with | some q => rfl | none => simp at hq

theorem logOk_head : ∀ (l : List Ent13) (v u : Ver), logOk l v = some u → u = headF v l
  | [], v, u, h => by simp only [logOk, Option.some.injEq] at h; rw [← h]; rfl
  | x :: l, v, u, h => by
    rw [logOk] at h
    split at h
    · cases h
    · rw [headF_cons]; exact logOk_head l _ _ h

theorem logOk_split : ∀ (a b : List Ent13) (v u : Ver), logOk (a ++ b) v = some u → logOk b (headF v a) = some u ∧ (belowB v = false → belowB (headF v a) = false)
  | [], b, v, u, h => ⟨h, fun h => h⟩
  | x :: a, b, v, u, h => by
    rw [List.cons_append, logOk] at h
    split at h
    · cases h
    · rename_i hx
      rw [headF_cons]
      obtain ⟨h1, h2⟩ := logOk_split a b _ _ h
      exact ⟨h1, fun _ => h2 (by
        cases hq : belowB x.Version with
        | false => rfl
        | true => exact absurd (.inl hq) hx)⟩

theorem logOk_ge : ∀ (l : List Ent13) (v u : Ver), logOk l v = some u → ¬ vcmp u v < 0 ∧ ∀ e ∈ l, ¬ vcmp e.Version u > 0
  | [], v, u, h => by
    simp only [logOk, Option.some.injEq] at h
    subst h
    exact ⟨by rw [vcmp_self]; omega, fun e he => by cases he⟩
  | x :: l, v, u, h => by
    rw [logOk] at h
    split at h
    · cases h
    · rename_i hx
      obtain ⟨h1, h2⟩ := logOk_ge l _ _ h
      have hgt : vcmp x.Version v > 0 := by
        rw [not_or] at hx; omega
      refine ⟨?_, fun e he => ?_⟩
      · rw [vcmp_lt] at h1 ⊢; rw [vcmp_gt] at hgt; omega
      · rcases List.mem_cons.1 he with rfl | he
        · rw [vcmp_lt] at h1; rw [vcmp_gt]; omega
        · exact h2 e he

def trimN (most : Int) (n : Nat) : Nat := n - (if 0 > most then 0 else most).toNat
def trimG (t : Ver) (l : List Ent13) (most : Int) : Ver × List Ent13 := (headF t (l.take (trimN most l.length)), l.drop (trimN most l.length))

theorem m_trimG (F : Nat) (s : Stt) (hs : s.Small 3000000) (most : Int) (hm : I64 most) : m_pglog_Trim F s.les s.tail s.log s.lasts s.items most = some (s.les, (trimG s.tail s.log most).1, (trimG s.tail s.log most).2, s.lasts, s.items) := by
  have hl := hs.log
  have hla := hs.lasts
  have hi := hs.items
  unfold I64 at hm
  rw [m_pglog_Trim, m_copy _ s ⟨by omega, by omega, by omega⟩, Option.bind_some]
  dsimp only
  unfold trimG trimN
  obtain ⟨m, hmm⟩ : ∃ m : Nat, (if 0 > most then 0 else most) = (m : Int) := ⟨(if 0 > most then 0 else most).toNat, by split <;> omega⟩
  have hm2 : (m : Int) ≤ 9223372036854775807 := by rw [← hmm]; split <;> omega
  rw [hmm, Int.toNat_natCast, grd_pos _ (by unfold I64; omega)]
  by_cases h : s.log.length > m
  · have e1 : decide (((s.log.length : Nat) : Int) - (m : Int) > 0) = true := by simp; omega
    have e2 : Int.toNat (((s.log.length : Nat) : Int) - (m : Int)) = s.log.length - m := by omega
    have e3 : Int.toNat (((s.log.length : Nat) : Int) - (m : Int) - 1) = s.log.length - m - 1 := by omega
    rw [e1, cond_true, grd_pos _ (by unfold I64; omega), grd_pos _ (by unfold Ix; omega), grd_pos _ (by unfold Bd; omega), e2, e3]
    rw [List.take_of_length_le (by simp), grd_pos _ (App64 (by simp; omega))]
    have e4 : headF s.tail (s.log.take (s.log.length - m)) = (s.log.getD (s.log.length - m - 1) dS_api_Entry).Version := by
      unfold headF
      have hlen : (s.log.take (s.log.length - m)).length = s.log.length - m := by simp
      rw [last_at (fun e => by rw [e] at hlen; simp at hlen; omega) dS_api_Entry, hlen]
      simp only [List.getD_eq_getElem?_getD]
      rw [List.getElem?_take_of_lt (by omega)]
    rw [e4]
  · have e1 : decide (((s.log.length : Nat) : Int) - (m : Int) > 0) = false := by simp; omega
    rw [e1, cond_false, show s.log.length - m = 0 by omega, List.take_zero, List.drop_zero]
    rfl

/-- What a trim leaves. -/
theorem trim_sound {s : Stt} {v : Ver} (h : Sound s v) (hb : belowB s.tail = false) (most : Int) :
    Sound ⟨s.les, (trimG s.tail s.log most).1, (trimG s.tail s.log most).2, s.lasts, s.items⟩ v ∧ belowB (trimG s.tail s.log most).1 = false ∧ headF (trimG s.tail s.log most).1 (trimG s.tail s.log most).2 = v := by
  have h0 : logOk (s.log.take (trimN most s.log.length) ++ s.log.drop (trimN most s.log.length)) s.tail = some v := by rw [List.take_append_drop]; exact h.log
  obtain ⟨h1, h2⟩ := logOk_split _ _ _ _ h0
  exact ⟨⟨h1, h.n3, h.items, h.lasts, h.rI, h.rL⟩, h2 hb, (logOk_head _ _ _ h1).symm⟩

theorem after_head {t : Ver} {l : List Ent13} {v : Ver} (h : logOk l t = some v) : afterF t l v = ([], true) := by
  obtain ⟨h1, h2⟩ := logOk_ge l t v h
  unfold afterF
  rw [if_neg h1]
  rw [List.filter_eq_nil_iff.2 (fun e he => by simpa using h2 e he)]

end Go.Proofs.Ytmoaiokgbjkaaaa
