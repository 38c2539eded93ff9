/-
  CHAPTER 24: plain facts on the models: names of objects, and back.
-/
import Derived.Test.YtfdojammchbboaaDoorM24n
set_option linter.unusedVariables false
set_option linter.unusedSimpArgs false
set_option maxRecDepth 100000
namespace Go.Proofs.YtfdojammchbboaaDoor
open Go Go.RowKit Sx

theorem jn_to {σ ρ : Type} {k : σ → Option ρ} {b : (σ → Option ρ) → Option ρ} (s : σ) (h : ∀ J, b J = J s) : jn k b = k s := h k
theorem size_data (s : ByteArray) : s.data.toList.length = s.size := by rw [Array.length_toList]; rfl
theorem ba_getD (s : ByteArray) (i : Nat) : s.data.getD i 0 = s.data.toList.getD i 0 := by
  rw [Array.getD_eq_getD_getElem?, List.getD_eq_getElem?_getD, Array.getElem?_toList]
theorem ba_ext {a b : ByteArray} (h : a.data.toList = b.data.toList) : a = b := str_tl_inj (by rw [ByteArray.toList_eq, ByteArray.toList_eq, h])

/-! ### Digits -/
def dig (c : UInt8) : Bool := decide (48 ≤ c.toNat) && decide (c.toNat ≤ 57)
def vl (acc : Nat) (c : UInt8) : Nat := acc * 10 + (c.toNat - 48)
def val10 (l : List UInt8) : Nat := l.foldl vl 0
theorem val_snoc (l : List UInt8) (c : UInt8) : val10 (l ++ [c]) = val10 l * 10 + (c.toNat - 48) := by simp [val10, vl]
theorem fold_ge : ∀ (l : List UInt8) (a : Nat), a ≤ l.foldl vl a
  | [], a => Nat.le_refl _
  | c :: l, a => Nat.le_trans (by unfold vl; omega) (fold_ge l (vl a c))
theorem of48 {u : Nat} (h : u < 10) : (UInt8.ofNat (48 + u)).toNat = 48 + u := by
  rw [UInt8.toNat_ofNat']; omega
theorem dec_props (u : Nat) : Lib.decDigits u ≠ [] ∧ (Lib.decDigits u).all dig = true ∧ val10 (Lib.decDigits u) = u ∧ (1 ≤ u → ∀ c r, Lib.decDigits u = c :: r → c.toNat ≠ 48) := by
  induction u using Nat.strongRecOn with
  | _ u ih =>
    by_cases h : u < 10
    · rw [Lib.decDigits_one h]
      refine ⟨by simp, by simp only [List.all_cons, List.all_nil, Bool.and_true, dig, of48 h, Bool.and_eq_true, decide_eq_true_eq]; omega, by show vl 0 (UInt8.ofNat (48 + u)) = u; unfold vl; rw [of48 h]; omega, fun h1 c r e => ?_⟩
      rw [← (List.cons.inj e).1, of48 h]; omega
    · rw [Lib.decDigits, dif_neg h]
      obtain ⟨h1, h2, h3, h4⟩ := ih (u / 10) (by omega)
      have hm : u % 10 < 10 := by omega
      refine ⟨by simp, by rw [List.all_append, h2]; simp only [List.all_cons, List.all_nil, Bool.and_true, Bool.true_and, dig, of48 hm, Bool.and_eq_true, decide_eq_true_eq]; omega, by rw [val_snoc, h3, of48 hm]; omega, fun _ c r e => ?_⟩
      cases hd : Lib.decDigits (u / 10) with
      | nil => exact absurd hd h1
      | cons c' r' =>
        rw [hd] at e
        rw [← (List.cons.inj e).1]
        exact h4 (by omega) c' r' hd
theorem dec_len {u : Nat} (h : u ≤ 65535) : (Lib.decDigits u).length ≤ 5 := by
  have step : ∀ v, ¬ v < 10 → (Lib.decDigits v).length = (Lib.decDigits (v / 10)).length + 1 := fun v hv => by
    rw [Lib.decDigits, dif_neg hv, List.length_append]; rfl
  have one : ∀ v, v < 10 → (Lib.decDigits v).length = 1 := fun v hv => by rw [Lib.decDigits_one hv]; rfl
  by_cases h1 : u < 10
  · rw [one u h1]; omega
  rw [step u h1]
  by_cases h2 : u / 10 < 10
  · rw [one _ h2]; omega
  rw [step _ h2]
  by_cases h3 : u / 10 / 10 < 10
  · rw [one _ h3]; omega
  rw [step _ h3]
  by_cases h4 : u / 10 / 10 / 10 < 10
  · rw [one _ h4]; omega
  rw [step _ h4]
  have h5 : u / 10 / 10 / 10 / 10 < 10 := by omega
  rw [one _ h5]
  omega

/-- The canonical numerals. -/
def canon (l : List UInt8) : Prop := l ≠ [] ∧ l.all dig = true ∧ ∀ c r, l = c :: r → r ≠ [] → c.toNat ≠ 48
theorem val_pos {l : List UInt8} (h : canon l) (h1 : 1 < l.length) : 1 ≤ val10 l := by
  obtain ⟨_, h2, h3⟩ := h
  cases l with
  | nil => simp at h1
  | cons c r =>
    have hr : r ≠ [] := fun e => by subst e; simp at h1
    have hc := h3 c r rfl hr
    simp only [List.all_cons, Bool.and_eq_true, dig, decide_eq_true_eq] at h2
    have := fold_ge r (vl 0 c)
    show 1 ≤ r.foldl vl (vl 0 c)
    have : 1 ≤ vl 0 c := by unfold vl; omega
    omega
theorem canon_dec : ∀ (n : Nat) (l : List UInt8), l.length = n + 1 → canon l → Lib.decDigits (val10 l) = l
  | 0, l, hl, h => by
    match l, hl with
    | [c], _ =>
      have h2 := h.2.1
      simp only [List.all_cons, List.all_nil, Bool.and_true, dig, Bool.and_eq_true, decide_eq_true_eq] at h2
      have hv : val10 [c] = c.toNat - 48 := by simp [val10, vl]
      rw [hv, Lib.decDigits_one (by omega)]
      congr 1
      rw [show 48 + (c.toNat - 48) = c.toNat by omega]
      exact UInt8.ofNat_toNat
  | n + 1, l, hl, h => by
    have hne : l ≠ [] := h.1
    obtain ⟨m, c, rfl⟩ : ∃ m c, l = m ++ [c] := ⟨l.dropLast, l.getLast hne, (List.dropLast_concat_getLast hne).symm⟩
    have hm : m.length = n + 1 := by simpa using hl
    have h2 := h.2.1
    rw [List.all_append, Bool.and_eq_true] at h2
    have hcm : canon m := by
      refine ⟨fun e => by subst e; simp at hm, h2.1, fun c' r' e hr => ?_⟩
      subst e
      exact h.2.2 c' (r' ++ [c]) rfl (by simp)
    have ih := canon_dec n m hm hcm
    have hc := h2.2
    simp only [List.all_cons, List.all_nil, Bool.and_true, dig, Bool.and_eq_true, decide_eq_true_eq] at hc
    have hv := val_pos h (by rw [hl]; omega)
    have hbig : ¬ val10 (m ++ [c]) < 10 := by
      rw [val_snoc]
      intro hlt
      have : val10 m = 0 := by omega
      cases n with
      | zero =>
        match m, hm with
        | [c'], _ =>
          have h6 := h.2.2 c' [c] rfl (by simp)
          have h7 := hcm.2.1
          simp only [List.all_cons, List.all_nil, Bool.and_true, dig, Bool.and_eq_true, decide_eq_true_eq] at h7
          simp [val10, vl] at this
          omega
      | succ n => have := val_pos hcm (by omega); omega
    rw [Lib.decDigits, dif_neg hbig, val_snoc, show (val10 m * 10 + (c.toNat - 48)) / 10 = val10 m by omega, show (val10 m * 10 + (c.toNat - 48)) % 10 = c.toNat - 48 by omega, ih]
    congr 2
    rw [show 48 + (c.toNat - 48) = c.toNat by omega]
    exact UInt8.ofNat_toNat

theorem parse_dig : ∀ (l : List UInt8) (a : Nat), l.all dig = true → l.foldl vl a ≤ 65535 → Lib.parseUint10 a l = .ok (l.foldl vl a)
  | [], a, _, _ => rfl
  | c :: l, a, h, hb => by
    simp only [List.all_cons, Bool.and_eq_true, dig, decide_eq_true_eq] at h
    have hge := fold_ge l (vl a c)
    have hb' : l.foldl vl (vl a c) ≤ 65535 := hb
    have ha : vl a c ≤ 65535 := by omega
    unfold vl at ha
    unfold Lib.parseUint10
    rw [if_pos ⟨h.1.1, h.1.2⟩, if_neg (by omega), if_neg (by omega)]
    exact parse_dig l (vl a c) h.2 hb'

/-- What the code asks of the digits. -/
def okC (d : ByteArray) : Bool := atok d && (decide (0 ≤ atoiV d) && (decide (atoiV d ≤ 65535) && decide (Lib.itoa (atoiV d) = d.data.toList)))
theorem okC_iff (d : ByteArray) : (okC d = true ↔ canon d.data.toList ∧ val10 d.data.toList ≤ 65535) ∧ (okC d = true → atoiV d = ((val10 d.data.toList : Nat) : Int) ∧ d.data.toList.length ≤ 5) := by
  have fwd : okC d = true → (canon d.data.toList ∧ val10 d.data.toList ≤ 65535) ∧ atoiV d = ((val10 d.data.toList : Nat) : Int) ∧ d.data.toList.length ≤ 5 := fun h => by
    unfold okC at h
    simp only [Bool.and_eq_true, decide_eq_true_eq] at h
    obtain ⟨_, h1, h2, h3⟩ := h
    obtain ⟨u, hu⟩ : ∃ u : Nat, atoiV d = (u : Int) := ⟨(atoiV d).toNat, (Int.toNat_of_nonneg h1).symm⟩
    rw [hu] at h2 h3 ⊢
    have h3' : Lib.decDigits u = d.data.toList := by rw [← h3]; unfold Lib.itoa; rw [if_neg (by omega)]; simp
    obtain ⟨p1, p2, p3, p4⟩ := dec_props u
    rw [h3'] at p1 p2 p3 p4
    have hl := dec_len (u := u) (by omega)
    rw [h3'] at hl
    refine ⟨⟨⟨p1, p2, fun c r e hr => ?_⟩, by rw [p3]; omega⟩, by rw [p3], hl⟩
    by_cases hu1 : 1 ≤ u
    · exact p4 hu1 c r e
    · have : u = 0 := by omega
      subst this
      rw [Lib.decDigits_one (by omega)] at h3'
      rw [← h3'] at e
      exact absurd (List.cons.inj e).2.symm hr
  refine ⟨⟨fun h => (fwd h).1, fun ⟨h1, h2⟩ => ?_⟩, fun h => (fwd h).2⟩
  have hne := h1.1
  have hall := h1.2.1
  have hp : Lib.parseMag d.data.toList = .ok (val10 d.data.toList) := by
    unfold Lib.parseMag
    rw [if_neg hne]
    exact parse_dig _ 0 hall h2
  have ha : Lib.atoiAll d.data.toList = .ok ((val10 d.data.toList : Nat) : Int) := by
    cases hd : d.data.toList with
    | nil => exact absurd hd hne
    | cons c r =>
      rw [hd] at hp hall h2
      simp only [List.all_cons, Bool.and_eq_true, dig, decide_eq_true_eq] at hall
      unfold Lib.atoiAll
      simp only []
      rw [if_neg (by omega), hp]
      simp only []
      rw [if_neg (by omega), if_neg (by omega), if_neg (by omega)]
  have hv : atoiV d = ((val10 d.data.toList : Nat) : Int) := by unfold atoiV; rw [ha]
  have hk : atok d = true := by unfold atok; rw [ha]
  obtain ⟨n, hn⟩ : ∃ n, d.data.toList.length = n + 1 := ⟨d.data.toList.length - 1, by have := List.length_pos_iff.2 hne; omega⟩
  unfold okC
  rw [hk, hv, decide_eq_true (by omega), decide_eq_true (by omega), decide_eq_true]
  · rfl
  · unfold Lib.itoa
    rw [if_neg (by omega)]
    simpa using canon_dec n _ hn h1

/-! ### The last point -/
def lastF (l : List UInt8) : Nat → Int
  | 0 => -1
  | k + 1 => if l.getD k 0 = 46 then (k : Int) else lastF l k
theorem lastF_lt (l : List UInt8) : ∀ k, -1 ≤ lastF l k ∧ lastF l k < k
  | 0 => ⟨by unfold lastF; omega, by unfold lastF; omega⟩
  | k + 1 => by
    have := lastF_lt l k
    unfold lastF
    split <;> omega
theorem c46 (c : UInt8) : (((c.toNat : Nat) : Int) == 46) = decide (c = 46) := by
  rw [Bool.eq_iff_iff, beq_iff_eq, decide_eq_true_eq]
  constructor
  · intro h; exact UInt8.toNat_inj.1 (by show c.toNat = 46; omega)
  · rintro rfl; rfl
theorem m_last (F : Nat) (a : ByteArray) (h : a.size < F) (hs : a.size ≤ 1000000000) : m_strings_LastIndexByte F a 46 = some (lastF a.data.toList a.size) := by
  unfold m_strings_LastIndexByte m_internal_bytealg_LastIndexByteString
  rw [grd_pos _ (by unfold I64; omega)]
  have key : ∀ (k G : Nat), k < G → k ≤ a.size → loopW (fun (nx29 : Int → Option (Int)) (v5_1 : Int) => (bif decide (v5_1 ≥ 0) then grd (Ix v5_1 a.size) ((bif (((a.data.getD (Int.toNat v5_1) 0).toNat : Nat) : Int) == 46 then some v5_1 else grd (I64 (v5_1 - 1)) (nx29 (v5_1 - 1)))) else some (-1))) G (((k : Nat) : Int) - 1) = some (lastF a.data.toList k) := by
    intro k
    induction k with
    | zero =>
      intro G hG _
      obtain ⟨G, rfl⟩ : ∃ q, G = q + 1 := ⟨G - 1, by omega⟩
      rw [loopW]; rfl
    | succ k ih =>
      intro G hG hk
      obtain ⟨G, rfl⟩ : ∃ q, G = q + 1 := ⟨G - 1, by omega⟩
      rw [loopW]
      rw [show (((k + 1 : Nat) : Int) - 1) = (k : Int) by omega, decide_eq_true (by omega), cond_true, grd_pos _ (by unfold Ix; omega), show (k : Int).toNat = k by omega, c46, ba_getD]
      unfold lastF
      by_cases h46 : a.data.toList.getD k 0 = 46
      · rw [decide_eq_true h46, if_pos h46]; rfl
      · rw [decide_eq_false h46, if_neg h46, cond_false, grd_pos _ (by unfold I64; omega)]
        exact ih G (by omega) (by omega)
  rw [key a.size F h (Nat.le_refl _)]
  rfl

theorem num_c {c : UInt8} (h : dig c = true) : IntKind.i64.wrap (IntKind.u8.wrap ((((c.toNat : Nat) : Int) - 48))) = ((c.toNat - 48 : Nat) : Int) := by
  unfold dig at h
  simp only [Bool.and_eq_true, decide_eq_true_eq] at h
  rw [wrap_u8 (by omega) (by omega), wrap_i64 (by omega) (by omega)]
  omega
theorem fold_bound : ∀ (l : List UInt8) (a : Nat), l.all dig = true → l.foldl vl a < (a + 1) * 10 ^ l.length
  | [], a, _ => by simp
  | c :: l, a, h => by
    simp only [List.all_cons, Bool.and_eq_true, dig, decide_eq_true_eq] at h
    have := fold_bound l (vl a c) h.2
    rw [List.foldl_cons, List.length_cons, Nat.pow_succ]
    refine Nat.lt_of_lt_of_le this ?_
    rw [Nat.mul_comm (10 ^ l.length) 10, ← Nat.mul_assoc]
    exact Nat.mul_le_mul_right _ (by unfold vl; omega)

theorem m_refparse (F : Nat) (a : ByteArray) (hs : a.size ≤ 1000000000) : m_tholeref24_Parse F a =
    (if lastF a.data.toList a.size < 0 then some (ByteArray.mk #[], 0, false) else
      if okC (a.extract (Int.toNat (lastF a.data.toList a.size + 1)) a.size) = true then some (a.extract 0 (Int.toNat (lastF a.data.toList a.size)), atoiV (a.extract (Int.toNat (lastF a.data.toList a.size + 1)) a.size), true) else some (ByteArray.mk #[], 0, false)) := by
  unfold m_tholeref24_Parse
  rw [grd_pos _ (by omega)]
  have key : ∀ {ρ : Type} (fin : Nat → Int → Option ρ) (k c : Nat), c + k = a.size → loopC (fun (nx55 : Int → Option ρ) (v12_1 : Nat) (v5_1 : Int) => grd (v12_1 < a.size) ((bif (((a.data.getD v12_1 0).toNat : Nat) : Int) == 46 then nx55 ((v12_1 : Nat) : Int) else nx55 v5_1))) fin k c (lastF a.data.toList c) = fin a.size (lastF a.data.toList a.size) := by
    intro ρ fin k
    induction k with
    | zero => intro c h; obtain rfl : c = a.size := by omega
              rfl
    | succ k ih =>
      intro c h
      rw [loopC, grd_pos _ (by omega), c46, ba_getD, ← ih (c + 1) (by omega)]
      rw [show lastF a.data.toList (c + 1) = if a.data.toList.getD c 0 = 46 then (c : Int) else lastF a.data.toList c from rfl]
      by_cases h46 : a.data.toList.getD c 0 = 46
      · rw [decide_eq_true h46, if_pos h46]; rfl
      · rw [decide_eq_false h46, if_neg h46]; rfl
  refine (key _ _ 0 (by omega)).trans ?_
  obtain ⟨e1, e2⟩ := lastF_lt a.data.toList a.size
  generalize lastF a.data.toList a.size = e at *
  by_cases he : e < 0
  · rw [decide_eq_true he, if_pos he]; rfl
  rw [decide_eq_false he, if_neg he, cond_false, grd_pos _ (by unfold I64; omega), grd_pos _ (by unfold Bd; omega)]
  generalize hd : a.extract (Int.toNat (e + 1)) a.size = d
  have hds : d.size ≤ 1000000000 := by rw [← hd, ByteArray.size_extract]; omega
  have hsz := size_data d
  obtain ⟨i1, i2⟩ := okC_iff d
  rw [jn_to (decide (d.data.toList = []) || (decide (d.size > 5) || (decide (d.size > 1) && decide (d.data.toList.getD 0 0 = 48)))) (fun J => by
    have q1 : (d.toList == (ByteArray.mk #[]).toList) = decide (d.data.toList = []) := by
      rw [ByteArray.toList_eq, ByteArray.toList_eq, Bool.eq_iff_iff, beq_iff_eq, decide_eq_true_eq]
    rw [q1, show decide (((d.size : Nat) : Int) > 5) = decide (d.size > 5) from decide_eq_decide.2 (by omega), show decide (((d.size : Nat) : Int) > 1) = decide (d.size > 1) from decide_eq_decide.2 (by omega)]
    cases decide (d.data.toList = []) with
    | true => rfl
    | false =>
      cases decide (d.size > 5) with
      | true => rfl
      | false =>
        by_cases h1 : d.size > 1
        · rw [decide_eq_true h1, cond_false, cond_false, cond_true, grd_pos _ (by omega), ba_getD]
          have : ((((d.data.toList.getD 0 0).toNat : Nat) : Int) == 48) = true ↔ d.data.toList.getD 0 0 = 48 := by
            rw [beq_iff_eq]
            exact ⟨fun h => UInt8.toNat_inj.1 (by show _ = 48; omega), fun h => by rw [h]; rfl⟩
          rw [show ((((d.data.toList.getD 0 0).toNat : Nat) : Int) == 48) = decide (d.data.toList.getD 0 0 = 48) by rw [Bool.eq_iff_iff, decide_eq_true_eq]; exact this]
          rfl
        · rw [decide_eq_false h1]; rfl)]
  cases hc : (decide (d.data.toList = []) || (decide (d.size > 5) || (decide (d.size > 1) && decide (d.data.toList.getD 0 0 = 48)))) with
  | true =>
    rw [cond_true, if_neg]
    intro ho
    obtain ⟨⟨c1, c2, c3⟩, _⟩ := i1.1 ho
    obtain ⟨_, c4⟩ := i2 ho
    simp only [Bool.or_eq_true, Bool.and_eq_true, decide_eq_true_eq] at hc
    rcases hc with hc | hc | ⟨hc, hc'⟩
    · exact c1 hc
    · omega
    · cases hl : d.data.toList with
      | nil => exact c1 hl
      | cons x r =>
        rw [hl] at hc' hsz
        refine c3 x r hl (fun e => by subst e; simp at hsz; omega) ?_
        have : x = 48 := hc'
        rw [this]; rfl
  | false =>
    simp only [Bool.or_eq_false_iff, Bool.and_eq_false_iff, decide_eq_false_iff_not] at hc
    obtain ⟨hc1, hc2, hc3⟩ := hc
    rw [cond_false, grd_pos _ (by omega)]
    have hloop : ∀ (fin : Nat → Int → Option (ByteArray × Int × Bool)) (k c v : Nat), c + k = d.size → v < 10 ^ c → loopC (fun (nx131 : Int → Option (ByteArray × Int × Bool)) (v46_9 : Nat) (v8_9 : Int) => jn (fun (v58_12 : Bool) => (bif v58_12 then some ((ByteArray.mk #[]), 0, false) else grd (I64 (v8_9 * 10)) (grd (v46_9 < d.size) (grd (I64 ((v8_9 * 10) + (IntKind.i64.wrap (IntKind.u8.wrap ((((d.data.getD v46_9 0).toNat : Nat) : Int) - 48))))) (nx131 ((v8_9 * 10) + (IntKind.i64.wrap (IntKind.u8.wrap ((((d.data.getD v46_9 0).toNat : Nat) : Int) - 48))))))))) (fun (J119 : Bool → Option (ByteArray × Int × Bool)) => grd (v46_9 < d.size) ((bif decide ((((d.data.getD v46_9 0).toNat : Nat) : Int) < 48) then J119 true else J119 (decide ((((d.data.getD v46_9 0).toNat : Nat) : Int) > 57)))))) fin k c ((v : Nat) : Int) =
        if (d.data.toList.drop c).all dig = true then fin d.size (((d.data.toList.drop c).foldl vl v : Nat) : Int) else some (ByteArray.mk #[], 0, false) := by
      intro fin k
      induction k with
      | zero =>
        intro c v h _
        obtain rfl : c = d.size := by omega
        rw [loopC, List.drop_eq_nil_of_le (by omega)]
        rfl
      | succ k ih =>
        intro c v h hv
        have hlt : c < d.data.toList.length := by omega
        rw [List.drop_eq_getElem_cons hlt, List.all_cons, List.foldl_cons]
        have hg : d.data.toList.getD c 0 = d.data.toList[c] := by rw [List.getD, List.getElem?_eq_getElem hlt]; rfl
        have hc5 : c ≤ 4 := by omega
        have hv5 : v < 10 ^ 4 := Nat.lt_of_lt_of_le hv (Nat.pow_le_pow_right (by decide) hc5)
        rw [loopC, jn_to (!dig d.data.toList[c]) (fun J => by
          rw [grd_pos _ (by omega), ba_getD, hg]
          unfold dig
          by_cases g1 : d.data.toList[c].toNat < 48
          · rw [decide_eq_true (by omega), show decide (48 ≤ d.data.toList[c].toNat) = false from decide_eq_false (by omega)]; rfl
          · rw [decide_eq_false (by omega), show decide (48 ≤ d.data.toList[c].toNat) = true from decide_eq_true (by omega), cond_false]
            by_cases g2 : d.data.toList[c].toNat ≤ 57
            · rw [decide_eq_false (by omega), decide_eq_true g2]; rfl
            · rw [decide_eq_true (by omega), decide_eq_false g2]; rfl)]
        cases hdg : dig d.data.toList[c] with
        | false => simp
        | true =>
          have hdg' := hdg
          unfold dig at hdg'
          simp only [Bool.and_eq_true, decide_eq_true_eq] at hdg'
          rw [Bool.not_true, cond_false, ba_getD, hg, num_c hdg, grd_pos _ (by unfold I64; omega), grd_pos _ (by omega), grd_pos _ (by unfold I64; omega)]
          rw [show ((v : Int) * 10 + ((d.data.toList[c].toNat - 48 : Nat) : Int)) = ((vl v d.data.toList[c] : Nat) : Int) by unfold vl; omega]
          refine (ih (c + 1) (vl v d.data.toList[c]) (by omega) (by rw [Nat.pow_succ]; unfold vl; omega)).trans ?_
          rw [Bool.true_and]
    refine (hloop _ _ 0 0 (by omega) (by decide)).trans ?_
    rw [List.drop_zero]
    have hcan : (canon d.data.toList ∧ val10 d.data.toList ≤ 65535) ↔ (d.data.toList.all dig = true ∧ val10 d.data.toList ≤ 65535) := by
      refine ⟨fun h => ⟨h.1.2.1, h.2⟩, fun h => ⟨⟨hc1, h.1, fun x r e hr hx => ?_⟩, h.2⟩⟩
      rw [e] at hsz hc3
      have : 1 < d.size := by
        cases r with
        | nil => exact absurd rfl hr
        | cons y r => simp at hsz; omega
      rcases hc3 with h3 | h3
      · exact h3 this
      · exact h3 (UInt8.toNat_inj.1 hx)
    by_cases ho : okC d = true
    · have h1 := hcan.1 (i1.1 ho)
      have h2 := (i2 ho).1
      rw [if_pos h1.1, if_pos ho, h2]
      have : d.data.toList.foldl vl 0 ≤ 65535 := h1.2
      rw [decide_eq_false (by omega), cond_false, grd_pos _ (by unfold Bd; omega)]
      rfl
    · rw [if_neg ho]
      by_cases hall : d.data.toList.all dig = true
      · rw [if_pos hall]
        have hbig : ¬ val10 d.data.toList ≤ 65535 := fun h => ho (i1.2 (hcan.2 ⟨hall, h⟩))
        have : ¬ d.data.toList.foldl vl 0 ≤ 65535 := hbig
        rw [decide_eq_true (by omega), cond_true]
      · rw [if_neg hall]

theorem m_parse (F : Nat) (a : ByteArray) (hF : a.size < F) (hs : a.size ≤ 1000000000) : m_stripe_Parse F a = m_tholeref24_Parse F a := by
  rw [m_refparse F a hs]
  unfold m_stripe_Parse
  rw [m_last F a hF hs, Option.bind_some]
  obtain ⟨e1, e2⟩ := lastF_lt a.data.toList a.size
  generalize lastF a.data.toList a.size = e at *
  by_cases he : e < 0
  · rw [decide_eq_true he, if_pos he]; rfl
  rw [decide_eq_false he, if_neg he, cond_false, grd_pos _ (by unfold I64; omega), grd_pos _ (by unfold Bd; omega)]
  generalize hd : a.extract (Int.toNat (e + 1)) a.size = d
  have hds : d.size ≤ 1000000000 := by rw [← hd, ByteArray.size_extract]; omega
  unfold okC
  cases hk : atok d with
  | false => rw [cond_false, grd_pos _ (by omega)]; rfl
  | true =>
    have hrange : -9223372036854775808 ≤ atoiV d ∧ atoiV d ≤ 9223372036854775807 := by
      unfold atok at hk
      unfold atoiV
      cases hr : Lib.atoiAll d.data.toList with
      | ok v =>
        simp only []
        unfold Lib.atoiAll at hr
        split at hr
        · cases hr
        · simp only [] at hr
          split at hr
          · cases hr
          · cases hr
          · split at hr
            · cases hr
            · split at hr
              · cases hr
              · injection hr with hr
                rename_i n1 n2
                split at hr <;> omega
      | _ => rw [hr] at hk; cases hk
    rw [cond_true, grd_pos _ (by omega), Bool.true_and]
    have hq : ((ByteArray.mk (Lib.itoa (atoiV d)).toArray).toList == d.toList) = decide (Lib.itoa (atoiV d) = d.data.toList) := by
      rw [ByteArray.toList_eq, ByteArray.toList_eq, Bool.eq_iff_iff, beq_iff_eq, decide_eq_true_eq]
    rw [jn_to (!(decide (0 ≤ atoiV d) && (decide (atoiV d ≤ 65535) && decide (Lib.itoa (atoiV d) = d.data.toList)))) (fun J => by
      rw [hq]
      by_cases h1 : atoiV d < 0
      · rw [decide_eq_true h1, show decide (0 ≤ atoiV d) = false from decide_eq_false (by omega)]; rfl
      · rw [decide_eq_false h1, show decide (0 ≤ atoiV d) = true from decide_eq_true (by omega), cond_false]
        by_cases h2 : atoiV d > 65535
        · rw [decide_eq_true h2, show decide (atoiV d ≤ 65535) = false from decide_eq_false (by omega)]; rfl
        · rw [decide_eq_false h2, show decide (atoiV d ≤ 65535) = true from decide_eq_true (by omega), cond_false, grd_pos _ (show I64 (atoiV d) from hrange)]; rfl)]
    cases (decide (0 ≤ atoiV d) && (decide (atoiV d ≤ 65535) && decide (Lib.itoa (atoiV d) = d.data.toList))) with
    | true => rw [Bool.not_true, cond_false, if_pos rfl, grd_pos _ (by unfold Bd; omega)]
    | false => rw [Bool.not_false, cond_true, if_neg (by simp)]

/-! ### The other way -/
theorem m_digits : ∀ (F u : Nat) (acc : ByteArray), u < 10 ^ F → u < 18446744073709551616 → acc.size + F ≤ 9000000000000000000 → 1 ≤ F →
    loopW (fun (nx22 : Int × ByteArray → Option (ByteArray)) (s32 : Int × ByteArray) => match s32 with | (v0_1, v3_1) => (bif decide (v0_1 > 9) then grd (0 ≤ (IntKind.u8.wrap (IntKind.u64.wrap (48 + (Int.tmod v0_1 10)))) ∧ (IntKind.u8.wrap (IntKind.u64.wrap (48 + (Int.tmod v0_1 10)))) < 256) (grd (Len ((ByteArray.mk [(UInt8.ofNat (Int.toNat (IntKind.u8.wrap (IntKind.u64.wrap (48 + (Int.tmod v0_1 10))))))].toArray).size + v3_1.size)) (nx22 ((IntKind.u64.wrap (Int.tdiv v0_1 10)), ((ByteArray.mk [(UInt8.ofNat (Int.toNat (IntKind.u8.wrap (IntKind.u64.wrap (48 + (Int.tmod v0_1 10))))))].toArray) ++ v3_1)))) else grd (0 ≤ (IntKind.u8.wrap (IntKind.u64.wrap (48 + v0_1))) ∧ (IntKind.u8.wrap (IntKind.u64.wrap (48 + v0_1))) < 256) (grd (Len ((ByteArray.mk [(UInt8.ofNat (Int.toNat (IntKind.u8.wrap (IntKind.u64.wrap (48 + v0_1)))))].toArray).size + v3_1.size)) (some ((ByteArray.mk [(UInt8.ofNat (Int.toNat (IntKind.u8.wrap (IntKind.u64.wrap (48 + v0_1)))))].toArray) ++ v3_1))))) F ((u : Int), acc)
      = some (ByteArray.mk (Lib.decDigits u).toArray ++ acc)
  | 0, u, acc, _, _, _, h => by omega
  | F + 1, u, acc, hu, hu2, ha, _ => by
    rw [loopW]
    dsimp only
    by_cases h9 : u < 10
    · rw [decide_eq_false (by omega), cond_false, wrap_u64 (by omega) (by omega), wrap_u8 (by omega) (by omega), grd_pos _ (by omega), grd_pos _ (by unfold Len; show 1 + acc.size ≤ _; omega), Lib.decDigits_one h9, show (48 + (u : Int)).toNat = 48 + u by omega]
    · have hm : Int.tmod (u : Int) 10 = ((u % 10 : Nat) : Int) := rfl
      have hd : Int.tdiv (u : Int) 10 = ((u / 10 : Nat) : Int) := rfl
      rw [decide_eq_true (by omega), cond_true, hm, hd, wrap_u64 (x := 48 + ((u % 10 : Nat) : Int)) (by omega) (by omega), wrap_u8 (by omega) (by omega), wrap_u64 (x := ((u / 10 : Nat) : Int)) (by omega) (by omega), grd_pos _ (by omega), grd_pos _ (by unfold Len; show 1 + acc.size ≤ _; omega), show (48 + ((u % 10 : Nat) : Int)).toNat = 48 + u % 10 by omega]
      rw [Nat.pow_succ] at hu
      have hF : 1 ≤ F := by
        rcases Nat.eq_zero_or_pos F with h0 | h0
        · subst h0; omega
        · exact h0
      rw [m_digits F (u / 10) _ (by omega) (by omega) (by rw [ByteArray.size_append]; show 1 + acc.size + F ≤ _; omega) hF]
      rw [Lib.decDigits.eq_1 u, dif_neg h9]
      congr 1
      apply ba_ext
      simp [ByteArray.data_append]

theorem m_name (F : Nat) (a : ByteArray) (k : Int) (hF : 20 ≤ F ∧ F ≤ 8000000000000000000) (hs : a.size ≤ 1000000000) (hk : k ≤ 9223372036854775807) : m_stripe_Name F a k = m_tholeref24_Name F a k := by
  unfold m_stripe_Name m_tholeref24_Name
  by_cases h0 : k < 0
  · rw [decide_eq_true h0]; rfl
  · obtain ⟨u, rfl⟩ : ∃ u : Nat, k = (u : Int) := ⟨k.toNat, (Int.toNat_of_nonneg (by omega)).symm⟩
    rw [decide_eq_false h0, cond_false, cond_false]
    unfold m_tholeref08_Text m_tholeref08_text m_tholeref08_digits
    rw [decide_eq_false h0, cond_false, wrap_u64 (by omega) (by omega), m_digits F u _ (Nat.lt_of_lt_of_le (show u < 10 ^ 20 by omega) (Nat.pow_le_pow_right (by decide) hF.1)) (by omega) (by show 0 + F ≤ _; omega) (by omega)]
    rw [grd_pos _ (show I64 (u : Int) by unfold I64; omega)]
    have hi : ByteArray.mk (Lib.itoa (u : Int)).toArray = ByteArray.mk (Lib.decDigits u).toArray ++ ByteArray.mk #[] := by
      apply ba_ext
      unfold Lib.itoa
      rw [if_neg (by omega)]
      simp [ByteArray.data_append]
    rw [hi]
    rfl

end Go.Proofs.YtfdojammchbboaaDoor
