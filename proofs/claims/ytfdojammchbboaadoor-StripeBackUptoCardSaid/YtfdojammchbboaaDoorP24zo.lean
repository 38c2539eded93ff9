/-
  CHAPTER 24, StripeBack and StripeSplits: plain facts: Split of the code.
-/
import Derived.Test.YtfdojammchbboaaDoorP24zn
set_option linter.unusedVariables false
set_option linter.unusedSimpArgs false
set_option maxRecDepth 100000
namespace Go.Proofs.YtfdojammchbboaaDoor
open Go Go.RowKit Sx

theorem sstep_len' (z : List Int) (o : Nat) (c : Int) : (sstep z o c).length = max z.length (o + 1) := by
  unfold sstep; rw [List.length_set, grow_len']

theorem nobj {l : Lay} (g : Gd l) : ∀ m, ∀ i, i < m → obN (Lay.u l) (Lay.c l) (Lay.q l) i < (sizeSum (bytesE l m [] 0)).length
  | 0, i, h => by omega
  | m + 1, i, h => by
    have e : bytesE l (m + 1) [] 0 = addE (bytesE l m [] 0) (plc l m).1 (plc l m).2 1 := by
      rw [bytesE_add l m 1]; simp [bytesE]
    rw [e, plc_nat g m, sum_add, sstep_len', Int.toNat_natCast]
    by_cases hi : i = m
    · subst hi; omega
    · have := nobj g m i (by omega); omega

theorem fst_mono (b : List UInt8) (E : List Ext) : ∀ s : Nat × List (List UInt8), s.1 ≤ (E.foldl (spl b) s).1 := by
  induction E with
  | nil => intro s; exact Nat.le_refl _
  | cons e E ih => intro s; rw [List.foldl_cons]; exact Nat.le_trans (by simp [spl]) (ih _)

theorem loop_split {b : List UInt8} (hb : b.length ≤ 65536) {K : Nat} (st : (Int × List (List UInt8) → Option (List (List UInt8))) → Nat → Ext → Int × List (List UInt8) → Option (List (List UInt8))) (fin : Nat → Int × List (List UInt8) → Option (List (List UInt8)))
    (hs : ∀ nx c e (s : Nat × List (List UInt8)), PE K e → s.2.length = K → s.1 + e.N.toNat ≤ b.length → (∀ i, (s.2.getD i []).length ≤ s.1) → st nx c e ((s.1 : Int), s.2) = nx (((spl b s e).1 : Int), (spl b s e).2)) (hf : ∀ c s, fin c s = some s.2) :
    ∀ (E : List Ext) (c : Nat) (s : Nat × List (List UInt8)), (∀ e ∈ E, PE K e) → s.2.length = K → (E.foldl (spl b) s).1 ≤ b.length → (∀ i, (s.2.getD i []).length ≤ s.1) → loopL st fin E c ((s.1 : Int), s.2) = some (E.foldl (spl b) s).2
  | [], c, s, h1, h2, h3, h4 => by rw [loopL, hf]; rfl
  | e :: E, c, s, h1, h2, h3, h4 => by
    have he := h1 e (by simp)
    rw [List.foldl_cons] at h3
    have hm := fst_mono b E (spl b s e)
    have h5 : (spl b s e).1 = s.1 + e.N.toNat := rfl
    rw [loopL, hs _ _ e s he h2 (by omega) h4, List.foldl_cons]
    refine loop_split hb st fin hs hf E (c + 1) (spl b s e) (fun x hx => h1 x (by simp [hx])) (by rw [spl_len, h2]) h3 (fun i => ?_)
    have hi := h4 i
    have ho := h4 e.Object.toNat
    show ((s.2.set e.Object.toNat _).getD i []).length ≤ s.1 + e.N.toNat
    by_cases q : i = e.Object.toNat
    · subst q
      rw [List.getD, List.getElem?_set_self (by rw [h2]; exact he.2.1), Option.getD_some, List.length_append, List.length_take]
      omega
    · rw [List.getD, List.getElem?_set_ne (fun w => q w.symm), ← List.getD]; omega

theorem m_split (F : Nat) (hF : 1048592 < F) {l : Lay} (g : Gd l) (b : List UInt8) (hb : b.length ≤ 65536) :
    m_stripe_Split F l b = some (Ls l b (sizeSum (bytesE l b.length [] 0)).length b.length) := by
  have hx : exts l 0 (b.length : Int) = bytesE l b.length [] 0 := by
    unfold exts EOut
    rw [decide_eq_true g, decide_eq_false (show ¬ (0 : Int) < 0 by omega), decide_eq_false (show ¬ (b.length : Int) < 0 by omega), decide_eq_false (show ¬ (0 : Int) > 65536 by omega), decide_eq_false (show ¬ (b.length : Int) > 65536 - 0 by omega)]
    rw [Int.toNat_natCast]; rfl
  have hex := ok_exts l (b.length : Int)
  rw [hx] at hex
  obtain ⟨p1, p2⟩ := spl_bytes b g (Nat.le_refl _) (nobj g b.length) b.length (Nat.le_refl _)
  generalize hK : (sizeSum (bytesE l b.length [] 0)).length = K at *
  have hKb : K ≤ 1048592 := by
    have key : ∀ (E : List Ext) (z : List Int), OkO E → z.length ≤ 1048592 → (E.foldl (fun z e => sstep z e.Object.toNat e.N) z).length ≤ 1048592 := by
      intro E
      induction E with
      | nil => intro z _ h; exact h
      | cons e E ih =>
        intro z hE h
        have := (hE e (by simp)).1
        exact ih _ (fun x hx => hE x (by simp [hx])) (by rw [sstep_len']; omega)
    rw [← hK]; exact key _ [] hex.1 (by simp)
  simp only [m_stripe_Split, m_stripe_Objects]
  rw [decide_eq_false (by omega), cond_false, m_sizes F hF, hx, Option.bind_some, Option.bind_some, hK, grd_pos _ (by omega), Int.toNat_natCast, grd_pos _ (by omega), grd_pos _ (by unfold Len; omega), m_exts F (by omega), hx, Option.bind_some, grd_pos _ (by unfold Len; omega)]
  have h0 := Ls_zero l b K
  rw [← h0]
  refine (loop_split hb (K := K) _ _ (fun nx c e s he h2 h3 h4 => ?_) (fun c s => rfl) (bytesE l b.length [] 0) 0 (0, Ls l b K 0) p1 (Ls_len l b K 0) (by rw [p2]; exact Nat.le_refl _) (fun i => ?_)).trans (by rw [p2])
  · obtain ⟨q1, q2, q3⟩ := he
    have hN : ((s.1 : Int) + e.N).toNat = s.1 + e.N.toNat := by omega
    have h6 := h4 e.Object.toNat
    dsimp only
    rw [grd_pos _ (by omega), grd_pos _ (by unfold Bd; omega), grd_pos _ (by unfold Bd; omega), grd_pos _ (by unfold Ix; omega), grd_pos _ (by unfold I64; omega)]
    rw [hN, Int.toNat_natCast, show s.1 + e.N.toNat - s.1 = e.N.toNat by omega]
    rw [grd_pos _ (by unfold App; rw [List.length_take]; omega)]
    unfold spl
    rw [show ((s.1 : Int) + e.N) = ((s.1 + e.N.toNat : Nat) : Int) by omega]
  · rw [h0]
    by_cases hi : i < K
    · simp [List.getD, hi]
    · simp [List.getD, hi]
end Go.Proofs.YtfdojammchbboaaDoor
