/-
  CHAPTER 24: the law of the sizes, without the reference.
-/
import Derived.Test.YtfdojammchbboaaDoorP24m
set_option linter.unusedVariables false
set_option linter.unusedSimpArgs false
set_option maxRecDepth 100000
namespace Go.Proofs.YtfdojammchbboaaDoor
open Go Go.RowKit Sx

def tot (z : List Int) : Int := z.foldr (fun x s => x + s) 0
theorem tot_cons (x : Int) (z : List Int) : tot (x :: z) = x + tot z := rfl
theorem tot_app (a b : List Int) : tot (a ++ b) = tot a + tot b := by
  induction a with
  | nil => simp [tot]
  | cons x a ih => rw [List.cons_append, tot_cons, tot_cons, ih]; omega
theorem tot_zero (n : Nat) : tot (List.replicate n 0) = 0 := by
  induction n with
  | zero => rfl
  | succ n ih => rw [List.replicate_succ, tot_cons, ih]; rfl
theorem tot_set (z : List Int) (i : Nat) (x : Int) (h : i < z.length) : tot (z.set i x) = tot z - z.getD i 0 + x := by
  induction z generalizing i with
  | nil => simp at h
  | cons y z ih =>
    cases i with
    | zero => simp [tot_cons, List.getD]; omega
    | succ i =>
      rw [List.set_cons_succ, tot_cons, tot_cons, ih i (by simpa using h)]
      simp [List.getD]; omega
theorem tot_step (z : List Int) (o : Nat) (c : Int) : tot (sstep z o c) = tot z + c := by
  unfold sstep
  rw [tot_set _ _ _ (grow_len z o)]
  have : tot (grow z o) = tot z := by unfold grow; rw [tot_app, tot_zero]; omega
  rw [this]; omega

theorem tot_bytes {l : Lay} (g : Gd l) : ∀ n : Nat, tot (sizeSum (bytesE l n [] 0)) = n
  | 0 => rfl
  | n + 1 => by
    have e : bytesE l (n + 1) [] 0 = addE (bytesE l n [] 0) (plc l n).1 (plc l n).2 1 := by
      rw [bytesE_add l n 1]; simp [bytesE]
    rw [e, sum_add, tot_step, tot_bytes g n]; push_cast; rfl

/-- The running sum over the sizes. -/
theorem loop_tot (S : Int) (st : (Int → Option Bool) → Nat → Int → Int → Option Bool) (fin : Nat → Int → Option Bool)
    (hs : ∀ nx c x v, 0 ≤ x ∧ x ≤ S → 0 ≤ v ∧ v + x ≤ 65536 → st nx c x v = nx (v + x)) :
    ∀ (z : List Int) (c : Nat) (v : Int), (∀ x ∈ z, 0 ≤ x ∧ x ≤ S) → 0 ≤ v → v + tot z ≤ 65536 → loopL st fin z c v = fin (c + z.length) (v + tot z)
  | [], c, v, hz, h0, h1 => by rw [loopL]; simp [tot]
  | x :: z, c, v, hz, h0, h1 => by
    have hx := hz x (by simp)
    have hn : 0 ≤ tot z := by
      have : ∀ z : List Int, (∀ x ∈ z, 0 ≤ x ∧ x ≤ S) → 0 ≤ tot z := by
        intro z; induction z with
        | nil => intro _; exact Int.le_refl _
        | cons y z ih => intro h; rw [tot_cons]; have := h y (by simp); have := ih (fun x hx => h x (by simp [hx])); omega
      exact this z (fun x hx => hz x (by simp [hx]))
    rw [tot_cons] at h1 ⊢
    rw [loopL, hs _ _ _ _ hx ⟨h0, by omega⟩, loop_tot S st fin hs z (c + 1) (v + x) (fun x hx => hz x (by simp [hx])) (by omega) (by omega)]
    rw [List.length_cons, show c + 1 + z.length = c + (z.length + 1) by omega, show v + x + tot z = v + (x + tot z) by omega]

theorem loop_all (st : (Unit → Option Bool) → Nat → Unit → Option Bool) (fin : Nat → Unit → Option Bool) (n : Nat)
    (hs : ∀ nx c, c < n → st nx c () = nx ()) : ∀ (k c : Nat), c + k = n → loopC st fin k c () = fin n ()
  | 0, c, h => by rw [loopC]; congr 1
  | k + 1, c, h => by rw [loopC, hs _ _ (by omega), loop_all st fin n hs k (c + 1) (by omega)]

theorem szo_le (U C q o p : Nat) (hU : 1 ≤ U) (hC : 1 ≤ C) (hq : 1 ≤ q) : szo U C q o p ≤ q * U := by
  have hk := Nat.mod_lt (p / U / C) (show q > 0 by omega)
  have hb := Nat.mod_lt p (show U > 0 by omega)
  unfold szo szf
  have h1 : (p / U / C % q + 1) * U ≤ q * U := Nat.mul_le_mul_right _ (by omega)
  have h2 : (p / U / C % q + 1) * U = p / U / C % q * U + U := by rw [Nat.add_mul, Nat.one_mul]
  repeat' split
  all_goals omega

theorem law_sizes (l : Lay) (a1 : Int) (h0 : 0 ≤ a1) : m_tholelaw24_StripeSizes 2000000 l a1 = some true := by
  simp only [m_tholelaw24_StripeSizes]
  rw [m_good, Option.bind_some]
  by_cases g : Gd l
  · rw [decide_eq_true g]
    simp only [Bool.not_true, cond_false]
    obtain ⟨n, hn, hk⟩ : ∃ n : Nat, n < 20000 ∧ IntKind.i64.wrap (Int.tmod a1 20000) = (n : Int) := by
      refine ⟨(a1 % 20000).toNat, by omega, ?_⟩
      rw [Int.tmod_eq_emod_of_nonneg h0, wrap_i64 (by omega) (by omega)]
      omega
    rw [hk]
    have b := set_bd g
    have q1 : 1 ≤ Lay.q l := by
      have hs := g.2.2.2.2.1
      have := g.1
      exact (Nat.one_le_div_iff (by omega)).2 (by omega)
    have ge := g
    obtain ⟨u1, u2, c1, c2, s1, s2, s3⟩ := ge
    have U1 : 1 ≤ Lay.u l := by simp only [Lay.u]; omega
    have C1 : 1 ≤ Lay.c l := by simp only [Lay.c]; omega
    have hqU : Lay.q l * Lay.u l = l.Size.toNat := by
      have hd : l.Unit.toNat ∣ l.Size.toNat := by
        refine Nat.dvd_of_mod_eq_zero ?_
        have : ((l.Size.toNat % l.Unit.toNat : Nat) : Int) = 0 := by
          rw [Int.natCast_emod, Int.toNat_of_nonneg (by omega), Int.toNat_of_nonneg (by omega)]; exact s3
        omega
      exact Nat.div_mul_cancel hd
    have hE : exts l 0 (n : Int) = bytesE l n [] 0 := by
      unfold exts
      have : EOut l 0 (n : Int) = false := by
        unfold EOut
        rw [decide_eq_true g]
        simp only [Bool.not_true, Bool.false_or]
        simp; omega
      rw [this]; simp
    have hz := m_sizes 2000000 (by omega) l n
    have hg := (sizes_eq g n (by omega)).2
    have ht := tot_bytes g n
    have hL := sum_len _ (ok_exts l n).1 [] (by simp)
    have hL : (sizeSum (exts l 0 (n : Int))).length ≤ 1048592 := hL
    rw [hz, Option.bind_some]
    rw [hE] at hL hz ⊢
    have hbd : ∀ x ∈ sizeSum (bytesE l n [] 0), 0 ≤ x ∧ x ≤ l.Size := by
      intro x hx
      obtain ⟨i, hi, rfl⟩ := List.getElem_of_mem hx
      have e := hg i
      rw [List.getD, List.getElem?_eq_getElem hi, Option.getD_some] at e
      have := szo_le (Lay.u l) (Lay.c l) (Lay.q l) i n U1 C1 q1
      rw [hqU] at this
      rw [e]; omega
    have hSC := mul_bd (show (0:Int) ≤ l.Size by omega) s2 (show (0:Int) ≤ l.Count by omega) c2
    have hSC1 : 1 ≤ l.Size * l.Count := by
      have := Int.mul_le_mul (show (1:Int) ≤ l.Size by omega) c1 (by omega) (by omega)
      omega
    have hdiv : Int.tdiv (n : Int) (l.Size * l.Count) = ((n / (l.Size.toNat * l.Count.toNat) : Nat) : Int) := by
      rw [Int.tdiv_eq_ediv_of_nonneg (by omega), Int.natCast_ediv, Int.natCast_mul, Int.toNat_of_nonneg (by omega), Int.toNat_of_nonneg (by omega)]
    generalize hzz : sizeSum (bytesE l n [] 0) = z at *
    rw [grd_pos _ (by unfold Len; omega)]
    rw [loop_tot l.Size _ _ (fun nx c x v hx hv => ?_) z 0 0 hbd (by omega) (by omega), hdiv]
    · have hdl : n / (l.Size.toNat * l.Count.toNat) ≤ n := Nat.div_le_self _ _
      have hfl : n / (l.Size.toNat * l.Count.toNat) * l.Count.toNat ≤ 20000 * 16 := Nat.mul_le_mul (by omega) (by omega)
      have hfe : ((n / (l.Size.toNat * l.Count.toNat) : Nat) : Int) * l.Count = ((n / (l.Size.toNat * l.Count.toNat) * l.Count.toNat : Nat) : Int) := by
        rw [Int.natCast_mul, Int.toNat_of_nonneg (show 0 ≤ l.Count by omega)]
      rw [hfe]
      have hs : n / Lay.u l / Lay.c l / Lay.q l = n / (l.Size.toNat * l.Count.toNat) := by
        rw [Nat.div_div_eq_div_mul, Nat.div_div_eq_div_mul, ← hqU]
        congr 1
        show Lay.u l * (Lay.c l * Lay.q l) = Lay.q l * Lay.u l * Lay.c l
        rw [Nat.mul_comm (Lay.q l) (Lay.u l), Nat.mul_assoc, Nat.mul_comm (Lay.c l) (Lay.q l)]
      generalize n / (l.Size.toNat * l.Count.toNat) = fq at *
      rw [grd_pos _ (by unfold I64; omega), grd_pos _ (by omega), grd_pos _ (by unfold I64; omega), grd_pos _ (by unfold I64; omega), grd_pos _ (by omega)]
      rw [loop_all _ _ (fq * l.Count.toNat) (fun nx c hc => ?_) _ 0 (by omega)]
      · have e0 : (0 + tot z == (n : Int)) = true := by rw [ht]; simp
        rw [e0, cond_true]
        simp only [m_stripe_Objects]
        rw [hz]
        simp only [Option.bind_some]
        rw [beq_self_eq_true, cond_true]
        have e1 : (decide ((n : Int) > 0) == decide (((z.length : Nat) : Int) > 0)) = true := by
          rw [beq_iff_eq]
          refine decide_eq_decide.2 ⟨fun h => ?_, fun h => ?_⟩
          · cases z with
            | nil => have e : tot ([] : List Int) = 0 := rfl
                     rw [e] at ht; omega
            | cons x z => simp
          · rcases Nat.eq_zero_or_pos n with rfl | hp
            · have : z = [] := hzz.symm.trans rfl
              subst this; simp at h
            · omega
        rw [e1, cond_true, lives24F]
        rfl
      · have hc1 : c / Lay.c l < n / Lay.u l / Lay.c l / Lay.q l := by
          rw [hs]; exact Nat.div_lt_of_lt_mul (by rw [Nat.mul_comm]; exact hc)
        have e := hg c
        have e2 : szo (Lay.u l) (Lay.c l) (Lay.q l) c n = l.Size.toNat := by
          unfold szo szf
          rw [if_pos hc1, hqU]
        rw [e2] at e
        have hci : c < z.length := by
          rcases Nat.lt_or_ge c z.length with h | h
          · exact h
          · rw [List.getD, List.getElem?_eq_none h] at e
            simp at e; omega
        simp only [jn]
        rw [decide_eq_false (by omega), cond_false, grd_pos _ hci, e]
        rw [show (((l.Size.toNat : Nat) : Int) != l.Size) = false by simp; omega]
        rfl
    · simp only [jn]
      rw [decide_eq_false (by omega), decide_eq_false (by omega)]
      simp only [cond_false]
      rw [grd_pos _ (by unfold I64; omega)]
  · rw [decide_eq_false g]
    have hE : exts l 0 5 = [] := by unfold exts EOut; rw [decide_eq_false g]; rfl
    rw [m_sizes _ (by omega), hE, Option.bind_some]
    simp only [Bool.not_false, cond_true]
    rw [lives24F]
    rfl

end Go.Proofs.YtfdojammchbboaaDoor
