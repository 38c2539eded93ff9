/-
  CHAPTER 24, StripeSplits: plain facts: the reference's Split.
-/
import Derived.Test.YtfdojammchbboaaDoorP24zt
set_option linter.unusedVariables false
set_option linter.unusedSimpArgs false
set_option maxRecDepth 100000
namespace Go.Proofs.YtfdojammchbboaaDoor
open Go Go.RowKit Sx

theorem loopL_inv {α σ ρ : Type} (Q : Nat → σ → Prop) (l0 : List α) (d : α) (r : Option ρ) (st : (σ → Option ρ) → Nat → α → σ → Option ρ) (fin : Nat → σ → Option ρ)
    (hs : ∀ nx c s, c < l0.length → Q c s → ∃ s', Q (c + 1) s' ∧ st nx c (l0.getD c d) s = nx s') (hf : ∀ s, Q l0.length s → fin l0.length s = r) :
    ∀ (l : List α) (c : Nat) (s : σ), l0.drop c = l → c ≤ l0.length → Q c s → loopL st fin l c s = r
  | [], c, s, h, hc, hq => by
    have : c = l0.length := by
      have := congrArg List.length h
      simp at this; omega
    subst this
    rw [loopL, hf s hq]
  | x :: l, c, s, h, hc, hq => by
    have hc : c < l0.length := drop_lt h
    have hx : l0.getD c d = x := by
      have : l0[c]? = some x := by rw [← List.head?_drop, h]; rfl
      rw [List.getD, this]; rfl
    obtain ⟨s', h1, e⟩ := hs (fun s' => loopL st fin l (c + 1) s') c s hc hq
    rw [hx] at e
    rw [loopL, e]
    exact loopL_inv Q l0 d r st fin hs hf l (c + 1) s' (drop_next h) hc h1
theorem loopC_inv {σ ρ : Type} (Q : Nat → σ → Prop) (n : Nat) (r : Option ρ) (st : (σ → Option ρ) → Nat → σ → Option ρ) (fin : Nat → σ → Option ρ)
    (hs : ∀ nx c s, c < n → Q c s → ∃ s', Q (c + 1) s' ∧ st nx c s = nx s') (hf : ∀ s, Q n s → fin n s = r) : ∀ (k c : Nat) (s : σ), c + k = n → Q c s → loopC st fin k c s = r
  | 0, c, s, h, hq => by
    obtain rfl : c = n := by omega
    rw [loopC, hf s hq]
  | k + 1, c, s, h, hq => by
    obtain ⟨s', h1, e⟩ := hs (fun s' => loopC st fin k (c + 1) s') c s (by omega) hq
    rw [loopC, e, loopC_inv Q n r st fin hs hf k (c + 1) s' (by omega) h1]

section
variable {l : Lay} (b : List UInt8)
/-- What the reference has of the objects after the first m bytes: noughts up to the size. -/
def rpc (l : Lay) (b : List UInt8) (n m o : Nat) : List UInt8 := pcs l b m o ++ List.replicate (szo (Lay.u l) (Lay.c l) (Lay.q l) o n - szo (Lay.u l) (Lay.c l) (Lay.q l) o m) 0
def Rs (l : Lay) (b : List UInt8) (n K m : Nat) : List (List UInt8) := (List.range K).map (rpc l b n m)
theorem Rs_len (n K m : Nat) : (Rs l b n K m).length = K := by simp [Rs]
theorem Rs_at {n K m o : Nat} (h : o < K) : (Rs l b n K m).getD o [] = rpc l b n m o := by simp [Rs, List.getD, h]
theorem szo_mono (g : Gd l) (o m : Nat) : ∀ k, szo (Lay.u l) (Lay.c l) (Lay.q l) o m ≤ szo (Lay.u l) (Lay.c l) (Lay.q l) o (m + k)
  | 0 => Nat.le_refl _
  | k + 1 => by
    obtain ⟨h1, h2, h3⟩ := gd_nat g
    have := szo_mono g o m k
    rw [← Nat.add_assoc, szo_succ h1 h2 h3]; omega
theorem Rs_end (n K : Nat) : Rs l b n K n = Ls l b K n := by
  unfold Rs Ls
  refine List.map_congr_left fun o _ => ?_
  unfold rpc; rw [Nat.sub_self]; simp
theorem set_mid (p : List UInt8) (x : UInt8) (k : Nat) : (p ++ List.replicate (k + 1) 0).set p.length x = p ++ [x] ++ List.replicate k 0 := by
  rw [List.replicate_succ, List.set_append_right _ _ (Nat.le_refl _), Nat.sub_self, List.set_cons_zero, List.append_assoc]; rfl
theorem rpc_room (g : Gd l) {n m : Nat} (h : m < n) : szo (Lay.u l) (Lay.c l) (Lay.q l) (obN (Lay.u l) (Lay.c l) (Lay.q l) m) m + 1 ≤ szo (Lay.u l) (Lay.c l) (Lay.q l) (obN (Lay.u l) (Lay.c l) (Lay.q l) m) n := by
  obtain ⟨h1, h2, h3⟩ := gd_nat g
  have := szo_mono g (obN (Lay.u l) (Lay.c l) (Lay.q l) m) (m + 1) (n - (m + 1))
  rw [show m + 1 + (n - (m + 1)) = n by omega, szo_succ h1 h2 h3, if_pos rfl] at this
  omega
theorem rpc_len (g : Gd l) (n m o : Nat) (h : m ≤ n) : (rpc l b n m o).length = szo (Lay.u l) (Lay.c l) (Lay.q l) o n := by
  have := szo_mono g o m (n - m)
  rw [show m + (n - m) = n by omega] at this
  unfold rpc
  rw [List.length_append, List.length_replicate, pcs_len l b g]; omega
theorem Rs_succ (g : Gd l) {n K m : Nat} (hm : m < n) (h : obN (Lay.u l) (Lay.c l) (Lay.q l) m < K) :
    (Rs l b n K m).set (obN (Lay.u l) (Lay.c l) (Lay.q l) m) (((Rs l b n K m).getD (obN (Lay.u l) (Lay.c l) (Lay.q l) m) []).set (atN (Lay.u l) (Lay.c l) (Lay.q l) m) (b.getD m 0)) = Rs l b n K (m + 1) := by
  rw [Rs_at b h]
  obtain ⟨h1, h2, h3⟩ := gd_nat g
  refine List.ext_getElem (by simp [Rs]) fun i i1 i2 => ?_
  rw [List.getElem_set]
  split
  · next e =>
    subst e
    simp only [Rs, List.getElem_map, List.getElem_range]
    have hr := rpc_room (l := l) g hm
    unfold rpc
    rw [pcs, if_pos rfl, szo_succ h1 h2 h3, if_pos rfl, ← pcs_at l b g m]
    obtain ⟨k, hk⟩ := Nat.exists_eq_add_one_of_ne_zero (show szo (Lay.u l) (Lay.c l) (Lay.q l) (obN (Lay.u l) (Lay.c l) (Lay.q l) m) n - szo (Lay.u l) (Lay.c l) (Lay.q l) (obN (Lay.u l) (Lay.c l) (Lay.q l) m) m ≠ 0 by omega)
    rw [hk, set_mid, show szo (Lay.u l) (Lay.c l) (Lay.q l) (obN (Lay.u l) (Lay.c l) (Lay.q l) m) n - (szo (Lay.u l) (Lay.c l) (Lay.q l) (obN (Lay.u l) (Lay.c l) (Lay.q l) m) m + 1) = k by omega]
  · next e =>
    simp only [Rs, List.getElem_map, List.getElem_range]
    unfold rpc
    rw [pcs, if_neg (fun q => e q.symm), szo_succ h1 h2 h3, if_neg (fun q => e q.symm), List.append_nil]; rfl
theorem Rs_zero (n : Nat) (z : List Int) (hz : ∀ o, z.getD o 0 = ((szo (Lay.u l) (Lay.c l) (Lay.q l) o n : Nat) : Int)) : z.map (fun x => List.replicate x.toNat (0 : UInt8)) = Rs l b n z.length 0 := by
  refine List.ext_getElem (by simp [Rs]) fun i i1 i2 => ?_
  rw [List.length_map] at i1
  have h := hz i
  rw [List.getD, List.getElem?_eq_getElem i1, Option.getD_some] at h
  simp only [Rs, List.getElem_map, List.getElem_range, rpc, pcs, h, Int.toNat_natCast, szo_zero, Nat.sub_zero, List.nil_append]
end

theorem ob_lim {l : Lay} {b : List UInt8} (g : Gd l) (n : Nat) (hn : n ≤ 65536) : (sizeSum (bytesE l n [] 0)).length ≤ 1048592 := by
  have hx := exts_all g hn
  have hex := ok_exts l (n : Int)
  rw [hx] at hex
  have key : ∀ (E : List Ext) (z : List Int), OkO E → z.length ≤ 1048592 → (E.foldl (fun z e => sstep z e.Object.toNat e.N) z).length ≤ 1048592 := by
    intro E
    induction E with
    | nil => intro z _ h; exact h
    | cons e E ih =>
      intro z hE h
      have := (hE e (by simp)).1
      exact ih _ (fun x hx => hE x (by simp [hx])) (by rw [sstep_len']; omega)
  exact key _ [] hex.1 (by simp)

theorem szo_le {l : Lay} (g : Gd l) (o : Nat) : ∀ n, szo (Lay.u l) (Lay.c l) (Lay.q l) o n ≤ n
  | 0 => by rw [szo_zero]; exact Nat.le_refl _
  | n + 1 => by
    obtain ⟨h1, h2, h3⟩ := gd_nat g
    have := szo_le g o n
    rw [szo_succ h1 h2 h3]; split <;> omega

theorem m_rsplit (F : Nat) (hF : 1048592 < F) {l : Lay} (g : Gd l) (b : List UInt8) (hb : b.length ≤ 65536) :
    m_tholeref24_Split F (rl l) b = some (Ls l b (sizeSum (bytesE l b.length [] 0)).length b.length) := by
  have hob := nobj g b.length
  have hlim := ob_lim (b := b) g b.length hb
  have hsz := (sizes_eq g b.length hb).2
  simp only [m_tholeref24_Split]
  rw [m_rsizes F hF, sizes_same, exts_all g hb, Option.bind_some]
  generalize sizeSum (bytesE l b.length [] 0) = z at *
  rw [grd_pos _ (by unfold Len; omega)]
  refine loopL_inv (fun c s => s = (z.take c).map (fun x => List.replicate x.toNat (0 : UInt8))) z 0 _ _ _ (fun nx c s hc hq => ⟨_, rfl, ?_⟩) (fun s hq => ?_) z 0 [] List.drop_zero (Nat.zero_le _) rfl
  · subst hq
    have h1 := hsz c
    have h2 := szo_le g c b.length
    rw [grd_pos _ (by omega), grd_pos _ (by omega), grd_pos _ (by unfold Len; omega)]
    rw [grd_pos _ (by unfold App; rw [List.length_map, List.length_take, List.length_singleton]; omega)]
    congr 1
    rw [List.take_add, List.map_append]
    congr 1
    rw [List.drop_eq_getElem_cons hc, List.take_succ_cons, List.take_zero, List.map_cons, List.map_nil, List.getD, List.getElem?_eq_getElem hc]; rfl
  · subst hq
    rw [List.take_length, Rs_zero (l := l) b b.length z hsz]
    cases hz : z with
    | nil => rfl
    | cons y z' =>
      rw [← hz]
      have hK : z.length ≠ 0 := by rw [hz]; simp
      rw [Rs_len]
      rw [show (((z.length : Nat) : Int) == 0) = false by rw [beq_eq_false_iff_ne]; omega, cond_false, grd_pos _ (by unfold Len; omega)]
      refine loopL_inv (fun m s => s = Rs l b b.length z.length m) b 0 _ _ _ (fun nx m s hm hq => ⟨_, rfl, ?_⟩) (fun s hq => ?_) b 0 _ List.drop_zero (Nat.zero_le _) rfl
      · subst hq
        have ho := hob m hm
        have hO : Out l (m : Int) = false := by unfold Out; rw [decide_eq_true g, decide_eq_false (by omega), decide_eq_false (by omega)]; rfl
        have hr := rpc_room (l := l) g hm
        have hat := szo_at (U := Lay.u l) (q := Lay.q l) (p := m) (gd_nat g).2.1
        rw [m_rplace, Option.bind_some, hO, cond_false, plc_nat g m]
        dsimp only
        rw [Int.toNat_natCast, Int.toNat_natCast, grd_pos _ (by rw [Rs_len]; exact ho), grd_pos _ (by unfold Ix; rw [Rs_len]; omega), grd_pos _ (by rw [Rs_at b ho]; unfold Ix; rw [rpc_len b g _ _ _ (by omega)]; omega)]
        rw [Rs_succ b g hm ho]
      · subst hq
        rw [Rs_end]
end Go.Proofs.YtfdojammchbboaaDoor
