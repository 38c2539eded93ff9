/-
  CHAPTER 24, StripeSplits: plain facts: both Joins of any parts; the law on its model.
-/
import Derived.Test.YtfdojammchbboaaDoorP24zu
set_option linter.unusedVariables false
set_option linter.unusedSimpArgs false
set_option maxRecDepth 100000
namespace Go.Proofs.YtfdojammchbboaaDoor
open Go Go.RowKit Sx

theorem loop_hit {α ρ : Type} (l0 : List α) (d : α) (p : Nat → Bool) (r : Option ρ) (st : (Unit → Option ρ) → Nat → α → Unit → Option ρ) (fin : Nat → Unit → Option ρ)
    (hs : ∀ nx c, c < l0.length → st nx c (l0.getD c d) () = bif p c then r else nx ()) :
    ∀ (l : List α) (c : Nat), l0.drop c = l → (∃ i, c ≤ i ∧ i < l0.length ∧ p i = true) → loopL st fin l c () = r
  | [], c, h, ⟨i, h1, h2, h3⟩ => by
    have := congrArg List.length h
    simp at this; omega
  | x :: l, c, h, ⟨i, h1, h2, h3⟩ => by
    have hc : c < l0.length := drop_lt h
    have hx : l0.getD c d = x := by
      have : l0[c]? = some x := by rw [← List.head?_drop, h]; rfl
      rw [List.getD, this]; rfl
    have e := hs (fun _ => loopL st fin l (c + 1) ()) c hc
    rw [hx] at e
    rw [loopL]
    refine e.trans ?_
    cases hp : p c with
    | true => rfl
    | false =>
      refine loop_hit l0 d p r st fin hs l (c + 1) (drop_next h) ⟨i, ?_, h2, h3⟩
      rcases Nat.lt_or_ge c i with q | q
      · omega
      · obtain rfl : i = c := by omega
        rw [hp] at h3; cases h3

/-- All bytes, each looked up in its object. -/
def jb (l : Lay) (L : List (List UInt8)) (m : Nat) : List UInt8 :=
  (List.range m).map fun i => (L.getD (obN (Lay.u l) (Lay.c l) (Lay.q l) i) []).getD (atN (Lay.u l) (Lay.c l) (Lay.q l) i) 0
theorem jb_succ (l : Lay) (L : List (List UInt8)) (m : Nat) : jb l L (m + 1) = jb l L m ++ [(L.getD (obN (Lay.u l) (Lay.c l) (Lay.q l) m) []).getD (atN (Lay.u l) (Lay.c l) (Lay.q l) m) 0] := by
  unfold jb; rw [List.range_succ, List.map_append]; rfl
theorem jb_len (l : Lay) (L : List (List UInt8)) (m : Nat) : (jb l L m).length = m := by simp [jb]

theorem take_one {L : List UInt8} {a : Nat} (h : a < L.length) : (L.drop a).take 1 = [L.getD a 0] := by
  rw [List.drop_eq_getElem_cons h, List.take_succ_cons, List.take_zero, List.getD, List.getElem?_eq_getElem h]; rfl

theorem jpl_any {l : Lay} (g : Gd l) {L : List (List UInt8)} {n : Nat} (hL : ∀ i, i < n → atN (Lay.u l) (Lay.c l) (Lay.q l) i < (L.getD (obN (Lay.u l) (Lay.c l) (Lay.q l) i) []).length) : ∀ m, m ≤ n →
    (∀ e ∈ bytesE l m [] 0, QE e) ∧ (bytesE l m [] 0).foldl (jpl L) [] = jb l L m
  | 0, _ => ⟨fun e he => (by cases he), rfl⟩
  | m + 1, hm => by
    obtain ⟨h1, h2⟩ := jpl_any g hL m (by omega)
    have e : bytesE l (m + 1) [] 0 = addE (bytesE l m [] 0) (plc l m).1 (plc l m).2 1 := by
      rw [bytesE_add l m 1]; simp [bytesE]
    rw [e, plc_nat g m]
    refine ⟨addE_QE h1 (by omega) (by omega), ?_⟩
    rw [jpl_add h1, h2]
    unfold jpl
    dsimp only
    rw [Int.toNat_natCast, Int.toNat_natCast, show (1 : Int).toNat = 1 from rfl, take_one (hL m (by omega)), jb_succ]

/-- Do the parts have the sizes? -/
def Fit (z : List Int) (L : List (List UInt8)) : Prop := L.length = z.length ∧ ∀ c, c < z.length → (((L.getD c []).length : Nat) : Int) = z.getD c 0
theorem fit_no {z : List Int} {L : List (List UInt8)} (h : ¬ Fit z L) (hl : L.length = z.length) : ∃ i, 0 ≤ i ∧ i < z.length ∧ ((((L.getD i []).length : Nat) : Int) != z.getD i 0) = true := by
  refine Classical.byContradiction fun q => h ⟨hl, fun c hc => ?_⟩
  refine Classical.byContradiction fun e => q ⟨c, Nat.zero_le _, hc, ?_⟩
  rw [bne_iff_ne]; exact e

theorem jat {σ ρ : Type} {k : σ → Option ρ} {bb : (σ → Option ρ) → Option ρ} (s : σ) (h : ∀ J, bb J = J s) : jn k bb = k s := h _

section
variable {l : Lay} (g : Gd l) (n : Nat) (hn : n ≤ 65536) (L : List (List UInt8))

include g hn in
theorem join_bad (F : Nat) (hF : 1048592 < F) (h : ¬ Fit (sizeSum (bytesE l n [] 0)) L) : m_stripe_Join F l (n : Int) L = some ([], 22) := by
  have hx := exts_all g hn
  have hlim := ob_lim (b := []) g n hn
  simp only [m_stripe_Join]
  rw [m_sizes F hF, hx, Option.bind_some]
  generalize hz : sizeSum (bytesE l n [] 0) = z at *
  by_cases hlen : L.length = z.length
  · refine (jat false fun J => ?_).trans ?_
    · rw [m_good, Option.bind_some, decide_eq_true g, Bool.not_true, cond_false, decide_eq_false (by omega), cond_false, decide_eq_false (by omega), cond_false, hlen]
      simp
    · rw [cond_false, grd_pos _ (by unfold Len; omega)]
      exact loop_hit z 0 (fun c => (((L.getD c []).length : Nat) : Int) != z.getD c 0) _ _ _ (fun nx c hc => by rw [grd_pos _ (by omega)]) z 0 List.drop_zero (fit_no h hlen)
  · refine (jat true fun J => ?_).trans ?_
    · rw [m_good, Option.bind_some, decide_eq_true g, Bool.not_true, cond_false, decide_eq_false (by omega), cond_false, decide_eq_false (by omega), cond_false]
      rw [show (((L.length : Nat) : Int) != ((z.length : Nat) : Int)) = true by rw [bne_iff_ne]; omega]
    · rfl

include g hn in
theorem join_ok (F : Nat) (hF : 1048592 < F) (h : Fit (sizeSum (bytesE l n [] 0)) L) : m_stripe_Join F l (n : Int) L = some (jb l L n, 0) := by
  have hx := exts_all g hn
  have hex := ok_exts l (n : Int)
  rw [hx] at hex
  have hob := nobj g n
  have hsz := (sizes_eq g n hn).2
  have hlim := ob_lim (b := []) g n hn
  obtain ⟨p1, p2⟩ := spl_bytes (List.replicate n 0) g (by simp) hob n (Nat.le_refl _)
  simp only [m_stripe_Join]
  rw [m_sizes F hF, hx, Option.bind_some]
  generalize hz : sizeSum (bytesE l n [] 0) = z at *
  obtain ⟨hlen, hfit⟩ := h
  have hsize : ∀ o, o < z.length → (L.getD o []).length = szo (Lay.u l) (Lay.c l) (Lay.q l) o n := fun o ho => by
    have := hfit o ho; rw [hsz o] at this; omega
  have hroom : ∀ i, i < n → atN (Lay.u l) (Lay.c l) (Lay.q l) i < (L.getD (obN (Lay.u l) (Lay.c l) (Lay.q l) i) []).length := fun i hi => by
    have h1 := rpc_room (l := l) g hi
    have h2 := szo_at (U := Lay.u l) (q := Lay.q l) (p := i) (gd_nat g).2.1
    rw [hsize _ (hob i hi)]; omega
  obtain ⟨j1, j2⟩ := jpl_any g (L := L) hroom n (Nat.le_refl _)
  have hre := re_bytes (List.replicate n 0) g n j1
  refine (jat false fun J => ?_).trans ?_
  · rw [m_good, Option.bind_some, decide_eq_true g, Bool.not_true, cond_false, decide_eq_false (by omega), cond_false, decide_eq_false (by omega), cond_false, hlen]
    simp
  · rw [cond_false, grd_pos _ (by unfold Len; omega)]
    refine loop_all z 0 _ _ _ (fun nx c x hc hxx => ?_) (fun c => ?_) z 0 List.drop_zero
    · rw [grd_pos _ (by omega), ← hxx, hfit c hc]
      simp
    · rw [m_exts F (by omega), hx, Option.bind_some, grd_pos _ (by unfold Len; omega)]
      refine (loop_join (L := L) (fun out => some (out, (0 : Int))) _ _ (fun nx c e out q1 q2 q3 q4 => ?_) (fun c out => rfl) (bytesE l n [] 0) 0 [] (fun e he => ?_) (by rw [j2, jb_len]; omega)).trans ?_
      · obtain ⟨a1, a2, a3⟩ := q1
        have hs : (e.At + e.N).toNat = e.At.toNat + e.N.toNat := by omega
        have hAN : e.At.toNat + e.N.toNat ≤ 65536 := by
          have := hsize e.Object.toNat (by omega)
          have := szo_le g e.Object.toNat n
          omega
        unfold jpl at q4
        rw [List.length_append] at q4
        rw [grd_pos _ q2, grd_pos _ (by unfold Bd; omega), grd_pos _ (by unfold Bd; omega), grd_pos _ (by unfold Ix; omega), grd_pos _ (by unfold I64; omega), hs, show e.At.toNat + e.N.toNat - e.At.toNat = e.N.toNat by omega]
        rw [grd_pos _ (by unfold App; omega)]
        rfl
      · have h1 := (p1 e he).2.1
        have h2 := hre e he
        unfold RE at h2
        rw [pcs_len _ _ g] at h2
        refine ⟨j1 e he, by omega, ?_⟩
        rw [hsize _ h1]; exact h2
      · rw [j2]

include g hn in
theorem rjoin_bad (F : Nat) (hF : 1048592 < F) (h : ¬ Fit (sizeSum (bytesE l n [] 0)) L) : m_tholeref24_Join F (rl l) (n : Int) L = some ([], 22) := by
  have hx := exts_all g hn
  have hlim := ob_lim (b := []) g n hn
  simp only [m_tholeref24_Join]
  refine (jat false fun J => ?_).trans ?_
  · rw [m_rgood, Option.bind_some, decide_eq_true g, Bool.not_true, cond_false, decide_eq_false (by omega), cond_false, decide_eq_false (by omega)]
  · rw [cond_false, m_rsizes F hF, sizes_same, hx, Option.bind_some]
    generalize hz : sizeSum (bytesE l n [] 0) = z at *
    by_cases hlen : L.length = z.length
    · rw [hlen, show (((z.length : Nat) : Int) != ((z.length : Nat) : Int)) = false by simp, cond_false, grd_pos _ (by unfold Len; omega)]
      obtain ⟨i, h1, h2, h3⟩ := fit_no h hlen
      exact loop_hit L [] (fun c => (((L.getD c []).length : Nat) : Int) != z.getD c 0) _ _ _ (fun nx c hc => by rw [grd_pos _ (by omega)]) L 0 List.drop_zero ⟨i, h1, by omega, h3⟩
    · rw [show (((z.length : Nat) : Int) != ((L.length : Nat) : Int)) = true by rw [bne_iff_ne]; omega]
      rfl

theorem u8_back (x : UInt8) : UInt8.ofNat (Int.toNat ((x.toNat : Nat) : Int)) = x := by
  rw [Int.toNat_natCast]; simp

include g hn in
theorem rjoin_ok (F : Nat) (hF : 1048592 < F) (h : Fit (sizeSum (bytesE l n [] 0)) L) : m_tholeref24_Join F (rl l) (n : Int) L = some (jb l L n, 0) := by
  have hx := exts_all g hn
  have hob := nobj g n
  have hsz := (sizes_eq g n hn).2
  have hlim := ob_lim (b := []) g n hn
  simp only [m_tholeref24_Join]
  refine (jat false fun J => ?_).trans ?_
  · rw [m_rgood, Option.bind_some, decide_eq_true g, Bool.not_true, cond_false, decide_eq_false (by omega), cond_false, decide_eq_false (by omega)]
  · rw [cond_false, m_rsizes F hF, sizes_same, hx, Option.bind_some]
    generalize hz : sizeSum (bytesE l n [] 0) = z at *
    obtain ⟨hlen, hfit⟩ := h
    have hsize : ∀ o, o < z.length → (L.getD o []).length = szo (Lay.u l) (Lay.c l) (Lay.q l) o n := fun o ho => by
      have := hfit o ho; rw [hsz o] at this; omega
    have hroom : ∀ i, i < n → atN (Lay.u l) (Lay.c l) (Lay.q l) i < (L.getD (obN (Lay.u l) (Lay.c l) (Lay.q l) i) []).length := fun i hi => by
      have h1 := rpc_room (l := l) g hi
      have h2 := szo_at (U := Lay.u l) (q := Lay.q l) (p := i) (gd_nat g).2.1
      rw [hsize _ (hob i hi)]; omega
    rw [hlen, show (((z.length : Nat) : Int) != ((z.length : Nat) : Int)) = false by simp, cond_false, grd_pos _ (by unfold Len; omega)]
    refine loop_all L [] _ _ _ (fun nx c x hc hxx => ?_) (fun c => ?_) L 0 List.drop_zero
    · rw [grd_pos _ (by omega), ← hxx, hfit c (by omega)]
      simp
    · rw [grd_pos _ (by omega)]
      refine loopC_inv (fun m s => s = jb l L m) n _ _ _ (fun nx m s hm hq => ⟨_, rfl, ?_⟩) (fun s hq => by rw [hq]) _ 0 [] (by omega) rfl
      subst hq
      have hO : Out l (m : Int) = false := by unfold Out; rw [decide_eq_true g, decide_eq_false (by omega), decide_eq_false (by omega)]; rfl
      have hr := hroom m hm
      have ho := hob m hm
      rw [m_rplace, Option.bind_some, hO, cond_false, plc_nat g m]
      dsimp only
      rw [Int.toNat_natCast, Int.toNat_natCast, grd_pos _ (by omega), grd_pos _ (by unfold Ix; omega), grd_pos _ (by unfold Ix; omega)]
      have hx8 := (((L.getD (obN (Lay.u l) (Lay.c l) (Lay.q l) m) []).getD (atN (Lay.u l) (Lay.c l) (Lay.q l) m) 0).toNat_lt)
      rw [grd_pos _ (by omega), grd_pos _ (by unfold App; rw [jb_len, List.length_singleton]; omega), u8_back, jb_succ]
end

theorem lists_self (F : Nat) (L : List (List UInt8)) (h : L.length ≤ 1048592) : m_tholelaw24_lists F L L = some true := by
  simp only [m_tholelaw24_lists]
  rw [show (((L.length : Nat) : Int) != ((L.length : Nat) : Int)) = false by simp, cond_false, grd_pos _ (by unfold Len; omega)]
  refine loop_all L [] _ _ _ (fun nx c x hc hx => ?_) (fun c => rfl) L 0 List.drop_zero
  rw [grd_pos _ hc, hx]
  simp only [m_tholeref01_Same, Option.bind_some, beq_self_eq_true, Bool.not_true, cond_false]

/-- What is lent. -/
def lnd (b : List UInt8) : List UInt8 := 165 :: b ++ [90]
theorem m_lend (F : Nat) (b : List UInt8) (h : b.length ≤ 1048576) : m_tholeref01_Lend F b = some (lnd b, b) := by
  simp only [m_tholeref01_Lend]
  rw [grd_pos _ (by unfold Len; omega), grd_pos _ (by omega), grd_pos _ (by unfold Len; omega), grd_pos _ (by simp), grd_pos _ (by simp), grd_pos _ (by unfold Len; omega)]
  refine loopL_inv (fun c s => s = 165 :: (b.take c ++ List.replicate (b.length - c) 0) ++ [90]) b 0 _ _ _ (fun nx c s hc hq => ⟨_, rfl, ?_⟩) (fun s hq => ?_) b 0 _ List.drop_zero (Nat.zero_le _) ?_
  · subst hq
    have hl : (b.take c).length = c := by rw [List.length_take]; omega
    rw [grd_pos _ (by simp; omega)]
    congr 1
    rw [List.cons_append, List.set_cons_succ, List.cons_append]
    congr 1
    rw [List.append_assoc, List.append_assoc, List.set_append_right _ _ (by omega), hl, Nat.sub_self]
    obtain ⟨k, hk⟩ : ∃ k, b.length - c = k + 1 := ⟨b.length - c - 1, by omega⟩
    rw [hk, show b.length - (c + 1) = k by omega, List.replicate_succ, List.cons_append, List.set_cons_zero, List.take_add, List.append_assoc, take_one hc]
    rfl
  · subst hq
    rw [List.take_length, Nat.sub_self, List.replicate_zero, List.append_nil]
    rw [grd_pos _ (by simp), grd_pos _ (by omega)]
    refine congrArg some (Prod.ext rfl ?_)
    show ((165 :: b ++ [90]).drop 1).take (b.length + 1 - 1) = b
    simp
  · rw [List.take_zero, List.nil_append, Nat.sub_zero, show b.length + 2 = (b.length + 1) + 1 from rfl, List.replicate_succ, List.set_cons_zero, List.set_cons_succ, List.cons_append]
    congr 1
    have e : List.replicate (b.length + 1) (0 : UInt8) = List.replicate b.length 0 ++ [0] := List.replicate_succ'
    rw [e, List.set_append_right _ _ (by simp)]
    simp
theorem m_kept (F : Nat) (b : List UInt8) (h : b.length ≤ 1048576) : m_tholeref01_Kept F (lnd b) b = some true := by
  have hl : (lnd b).length = b.length + 2 := by simp [lnd]
  simp only [m_tholeref01_Kept]
  rw [grd_pos _ (by unfold Len; omega), hl, show (((b.length + 2 : Nat) : Int) == ((b.length + 2 : Nat) : Int)) = true by simp, cond_true, grd_pos _ (by omega)]
  rw [show ((((lnd b).getD 0 0).toNat : Nat) : Int) = 165 from rfl, show ((165 : Int) == 165) = true from rfl, cond_true, grd_pos _ (by unfold Len; omega), grd_pos _ (by omega)]
  have e : (lnd b).getD (b.length + 1) 0 = 90 := by
    unfold lnd
    rw [List.cons_append, List.getD_cons_succ, List.getD, List.getElem?_append_right (Nat.le_refl _), Nat.sub_self]; rfl
  rw [e, show ((((90 : UInt8).toNat : Nat) : Int) == 90) = true from rfl, cond_true, grd_pos _ (by omega), grd_pos _ (by omega)]
  rw [show ((lnd b).drop 1).take (b.length + 1 - 1) = b by simp [lnd], beq_self_eq_true]

theorem law_splits (l : Lay) (b : List UInt8) (L : List (List UInt8)) (hb : b.length ≤ 1048576) : m_tholelaw24_StripeSplits 2000000 l b L = some true := by
  simp only [m_tholelaw24_StripeSplits, m_tholelaw24_plain, Option.bind_some]
  by_cases h7 : b.length > 70000
  · rw [decide_eq_true (show ((b.length : Nat) : Int) > 70000 by omega), cond_true, lives24F, Option.bind_some]
  · rw [decide_eq_false (show ¬ ((b.length : Nat) : Int) > 70000 by omega), cond_false, m_lend _ _ hb, Option.bind_some]
    show (m_stripe_Split 2000000 l b).bind _ = _
    have hrl : S_tholeref24_Layout.mk l.Unit l.Count l.Size = rl l := rfl
    rw [hrl]
    have key : ∃ S c e, m_stripe_Split 2000000 l b = some S ∧ S.length ≤ 1048592 ∧ m_tholeref24_Split 2000000 (rl l) b = some S ∧ m_stripe_Join 2000000 l (b.length : Int) L = some (c, e) ∧ m_tholeref24_Join 2000000 (rl l) (b.length : Int) L = some (c, e) := by
      by_cases hg : Gd l ∧ b.length ≤ 65536
      · obtain ⟨g, h6⟩ := hg
        by_cases hf : Fit (sizeSum (bytesE l b.length [] 0)) L
        · exact ⟨_, _, _, m_split _ (by omega) g b h6, by rw [Ls_len]; exact ob_lim (b := b) g _ h6, m_rsplit _ (by omega) g b h6, join_ok g _ h6 L _ (by omega) hf, rjoin_ok g _ h6 L _ (by omega) hf⟩
        · exact ⟨_, _, _, m_split _ (by omega) g b h6, by rw [Ls_len]; exact ob_lim (b := b) g _ h6, m_rsplit _ (by omega) g b h6, join_bad g _ h6 L _ (by omega) hf, rjoin_bad g _ h6 L _ (by omega) hf⟩
      · have hx : exts l 0 (b.length : Int) = [] := by
          unfold exts EOut
          by_cases g : Gd l
          · rw [decide_eq_true (show (b.length : Int) > 65536 - 0 by have : ¬ b.length ≤ 65536 := fun q => hg ⟨g, q⟩; omega)]; simp
          · rw [decide_eq_false g]; simp
        refine ⟨[], [], 22, ?_, Nat.zero_le _, ?_, ?_, ?_⟩
        · simp only [m_stripe_Split, m_stripe_Objects]
          by_cases h6 : b.length > 65536
          · rw [decide_eq_true (by omega), cond_true]
          · rw [decide_eq_false (by omega), cond_false, m_sizes _ (by omega), hx, Option.bind_some, Option.bind_some]
            rw [grd_pos _ (by simp [sizeSum]), grd_pos _ (by simp [sizeSum]), grd_pos _ (by simp [sizeSum, Len]), m_exts _ (by omega), hx, Option.bind_some, grd_pos _ (by simp [Len])]
            rfl
        · simp only [m_tholeref24_Split]
          rw [m_rsizes _ (by omega), hx, Option.bind_some, grd_pos _ (by simp [sizeMax, Len])]
          rfl
        · simp only [m_stripe_Join]
          rw [m_sizes _ (by omega), hx, Option.bind_some]
          refine (jat true fun J => ?_).trans rfl
          rw [m_good, Option.bind_some]
          by_cases g : Gd l
          · have h6 : ¬ b.length ≤ 65536 := fun q => hg ⟨g, q⟩
            rw [decide_eq_true g, Bool.not_true, cond_false, decide_eq_false (by omega), cond_false, decide_eq_true (by omega), cond_true]
          · rw [decide_eq_false g, Bool.not_false, cond_true]
        · simp only [m_tholeref24_Join]
          refine (jat true fun J => ?_).trans rfl
          rw [m_rgood, Option.bind_some]
          by_cases g : Gd l
          · have h6 : ¬ b.length ≤ 65536 := fun q => hg ⟨g, q⟩
            rw [decide_eq_true g, Bool.not_true, cond_false, decide_eq_false (by omega), cond_false, decide_eq_true (by omega)]
          · rw [decide_eq_false g, Bool.not_false, cond_true]
    obtain ⟨S, c, e, h1, h2, h3, h4, h5⟩ := key
    rw [h1, Option.bind_some]
    refine (jat false fun J => ?_).trans ?_
    · rw [h3, Option.bind_some, lists_self _ _ h2, Option.bind_some, Bool.not_true, cond_false]
      show (m_tholeref01_Kept 2000000 (lnd b) b).bind _ = _
      rw [m_kept _ _ hb, Option.bind_some, Bool.not_true]
    · rw [cond_false, h4, Option.bind_some, h5, Option.bind_some]
      dsimp only
      rw [beq_self_eq_true, cond_true]
      simp only [m_tholeref01_Same, Option.bind_some, beq_self_eq_true, cond_true, lives24F]
end Go.Proofs.YtfdojammchbboaaDoor
