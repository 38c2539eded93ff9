/-
  CHAPTER 05: plain facts: Write, Zero, Truncate, Size, Extents, Bytes, Read.
-/
import Derived.Test.YtmdfkklldbfocaaP05yb
set_option linter.unusedVariables false
set_option linter.unusedSimpArgs false
set_option maxRecDepth 100000
namespace Go.Proofs.Ytmdfkklldbfocaa
open Go Go.RowKit Sx

theorem eq_t {a b : Int} (h : a = b) : (a == b) = true := by rw [h]; exact beq_self_eq_true b
theorem eq_f {a b : Int} (h : a ≠ b) : (a == b) = false := by simpa using h
theorem neq_t {a b : Int} (h : a ≠ b) : (a != b) = true := by simpa using h
theorem neq_f {a b : Int} (h : a = b) : (a != b) = false := by simpa using h
/-- What a call answers of a range. -/
def mayE (at_ n : Int) : Int := if at_ < 0 ∨ n < 0 then 22 else if at_ > 4096 ∨ n > 4096 - at_ then 27 else 0
theorem m_may (F : Nat) (z a n : Int) : m___extent_Map__may F z a n = some (mayE a n) := by
  rw [m___extent_Map__may, m___extent_Map__is, Option.bind_some]
  simp only [jn]
  unfold mayE
  by_cases h1 : a < 0
  · rw [decide_eq_true h1, if_pos (.inl h1)]; rfl
  · rw [decide_eq_false h1, cond_false]
    by_cases h2 : n < 0
    · rw [decide_eq_true h2, if_pos (.inr h2)]; rfl
    · rw [decide_eq_false h2, cond_false, if_neg (by omega)]
      by_cases h3 : a > 4096
      · rw [decide_eq_true h3, if_pos (.inl h3)]; rfl
      · rw [decide_eq_false h3, cond_false, grd_pos _ ⟨by omega, by omega⟩]
        by_cases h4 : n > 4096 - a
        · rw [decide_eq_true h4, if_pos (.inr h4)]; rfl
        · rw [decide_eq_false h4, if_neg (by omega)]; rfl
theorem mayE_0 {a n : Int} (h : mayE a n = 0) : 0 ≤ a ∧ 0 ≤ n ∧ a + n ≤ 4096 := by
  unfold mayE at h
  split at h
  · cases h
  · split at h
    · cases h
    · omega

/-- A map that may be: its runs, its size. -/
structure Gd5 (L : List Rn) (sz : Int) : Prop where
  s : sep 0 L
  b : below sz L
  n0 : 0 ≤ sz
  n1 : sz ≤ 4096
theorem Gd5.ok {L : List Rn} {sz : Int} (g : Gd5 L sz) : ∀ r ∈ L, okR r := sep_okR g.s (Int.le_refl _) g.b g.n1
theorem sep_len {N : Int} : ∀ {L : List Rn} {p : Int}, sep p L → below N L → L = [] ∨ (L.length : Int) + p ≤ N
  | [], _, _, _ => .inl rfl
  | r :: t, p, ⟨h1, h2, h3⟩, hb => by
    have g := ren_gt h2; have hr := hb r (by simp)
    rcases sep_len h3 (fun x hx => hb x (by simp [hx])) with h | h
    · subst h; right; simp only [List.length_cons, List.length_nil]; omega
    · right; simp only [List.length_cons]; omega
theorem Gd5.len {L : List Rn} {sz : Int} (g : Gd5 L sz) : L.length ≤ 4096 := by
  have := g.n1
  rcases sep_len g.s g.b with h | h
  · rw [h]; simp
  · omega
theorem Gd5.clr {L : List Rn} {sz lo hi z : Int} (g : Gd5 L sz) (h : lo < hi) (h1 : sz ≤ z) (h2 : z ≤ 4096) : Gd5 (clr lo hi L) z :=
  ⟨sep_clr h g.s, fun x hx => Int.le_trans (below_clr h g.b x hx) h1, Int.le_trans g.n0 h1, h2⟩
theorem Gd5.cut {L : List Rn} {sz n : Int} (g : Gd5 L sz) (h : 0 ≤ n) (h2 : n ≤ 4096) : Gd5 (Go.Proofs.Ytmdfkklldbfocaa.clr n 4097 L) n := by
  refine ⟨sep_clr (by omega) g.s, fun x hx => ?_, h, h2⟩
  obtain ⟨h3, r, hr, h4, h5⟩ := mem_clr (by omega) hx
  have := g.b r hr; have := g.n1
  have h6 := sep_ge (sep_clr (lo := n) (hi := 4097) (by omega) g.s) x hx
  have := ren_gt h6.2
  omega
theorem Gd5.ins {L : List Rn} {sz : Int} {x0 : Rn} (g : Gd5 L sz) (h0 : x0.b ≠ []) (ha : 0 ≤ x0.at_) (hc : clear0 x0 L) {z : Int} (h1 : ren x0 ≤ z) (h2 : sz ≤ z) (h3 : z ≤ 4096) : Gd5 (Go.Proofs.Ytmdfkklldbfocaa.ins x0 L) z :=
  ⟨sep_ins h0 ha g.s hc, below_ins h1 fun r hr => Int.le_trans (g.b r hr) h2, Int.le_trans g.n0 h2, h3⟩

theorem wr_loop {x0 : Rn} {z : Int} (st : (Int × List Rn × List UInt8 × List Rn → Option (Int × List Rn × Int)) → Int × List Rn × List UInt8 × List Rn → Option (Int × List Rn × Int))
    (h0 : ∀ nx (cur : Rn) dn, okR cur → st nx (cur.at_, dn, cur.b, []) = some (0, dn ++ glue1 cur [x0], z))
    (h1 : ∀ nx (cur : Rn) dn x t, okR cur → okR x → st nx (cur.at_, dn, cur.b, x :: t) = if x.at_ < x0.at_ then nx (x.at_, dn ++ [cur], x.b, t) else some (0, dn ++ glue1 cur (glue1 x0 (x :: t)), z)) :
    ∀ (l : List Rn) (n : Nat) (cur : Rn) (dn : List Rn), (∀ r ∈ cur :: l, okR r) → l.length < n → loopW st n (cur.at_, dn, cur.b, l) = some (0, dn ++ ins0 x0 cur l, z)
  | [], n + 1, cur, dn, h, _ => by rw [loopW, h0 _ _ _ (h cur (by simp))]; rfl
  | x :: t, n + 1, cur, dn, h, hn => by
    rw [loopW, h1 _ _ _ _ _ (h cur (by simp)) (h x (by simp)), ins0]
    by_cases hx : x.at_ < x0.at_
    · rw [if_pos hx, if_pos hx, wr_loop st h0 h1 t n x (dn ++ [cur]) (fun r hr => h r (by simp at hr ⊢; exact .inr hr)) (by simp at hn; omega)]
      simp
    · rw [if_neg hx, if_neg hx]
  | [], 0, _, _, _, hn => by simp at hn
  | _ :: _, 0, _, _, _, hn => by simp at hn

/-- What Write makes of a map. -/
def wrL (L : List Rn) (a : Int) (bs : List UInt8) : List Rn := if mayE a bs.length = 0 ∧ bs ≠ [] then ins ⟨a, bs⟩ (clr a (a + bs.length) L) else L
def wrZ (sz a : Int) (n : Int) : Int := if mayE a n = 0 ∧ n ≠ 0 then (if a + n > sz then a + n else sz) else sz

theorem m_write (F : Nat) (hF : 4100 < F) {L : List Rn} {sz : Int} (g : Gd5 L sz) (a : Int) (bs : List UInt8) :
    m___extent_Map__Write F L sz a bs = some (mayE a bs.length, wrL L a bs, wrZ sz a bs.length) := by
  rw [m___extent_Map__Write, m_may, Option.bind_some]
  simp only [jn]
  unfold wrL wrZ
  by_cases h1 : mayE a bs.length = 0
  · rw [neq_f h1, cond_false]
    by_cases h2 : bs = []
    · subst h2; rw [if_neg (by simp), if_neg (by simp)]; rfl
    · have hl := len_pos h2
      obtain ⟨p1, p2, p3⟩ := mayE_0 h1
      rw [eq_f (by omega), cond_false, if_pos ⟨h1, h2⟩, if_pos ⟨h1, by omega⟩, grd_pos _ ⟨by omega, by omega⟩, m_clear F g.ok (by have := g.len; omega) sz p1 (by omega) (by omega), Option.bind_some, grd_pos _ (by unfold App; omega), h1]
      dsimp only
      generalize hz : (if a + (bs.length : Int) > sz then a + (bs.length : Int) else sz) = z
      have hzz : sz ≤ z ∧ z ≤ 4096 := by have := g.n1; rw [← hz]; split <;> omega
      have gc : Gd5 (clr a (a + bs.length) L) z := g.clr (by omega) hzz.1 hzz.2
      have hcl := gc.len
      generalize hC : clr a (a + bs.length) L = C at gc hcl
      cases C with
      | nil => rfl
      | cons x t =>
        have hok := gc.ok
        obtain ⟨q1, q2, q3⟩ := hok x (by simp)
        have q4 := len_pos q1
        dsimp only [lcase, List.nil_append, List.cons_append]
        rw [ins]
        dsimp only
        by_cases h3 : x.at_ < a
        · rw [decide_eq_true h3, cond_true, if_pos h3]
          refine (wr_loop (x0 := ⟨a, bs⟩) (z := z) _ (fun nx cur dn hc => ?_) (fun nx cur dn x t hc hx => ?_) t F x [] hok (by simp at hcl; omega)).trans ?_
          · obtain ⟨c, b⟩ := cur
            obtain ⟨r1, r2, r3⟩ := hc
            have r4 := len_pos r1
            unfold ren at r3
            dsimp only at r1 r2 r3 r4 ⊢
            rw [m_end F r2 (by omega), Option.bind_some, glue1]
            dsimp only
            by_cases h4 : c + (b.length : Int) = a
            · rw [eq_t h4, cond_true, grd_pos _ (by rw [List.take_length]; unfold App; omega), grd_pos _ hl, if_pos (by rw [← h4]; rfl), List.take_length]
            · rw [eq_f h4, cond_false, if_neg (fun e => h4 e.symm), List.append_assoc]; rfl
          · obtain ⟨c, b⟩ := cur
            obtain ⟨r1, r2, r3⟩ := hc
            have r4 := len_pos r1
            obtain ⟨s1, s2, s3⟩ := hx
            have s4 := len_pos s1
            unfold ren at r3 s3
            dsimp only at r1 r2 r3 r4 ⊢
            by_cases h4 : x.at_ < a
            · rw [decide_eq_true h4, cond_true, if_pos h4]
            · rw [decide_eq_false h4, cond_false, if_neg h4, m_end F p1 (by omega), Option.bind_some, m_end F r2 (by omega), glue1]
              simp only [Option.bind_some]
              by_cases h5 : x.at_ = a + (bs.length : Int)
              · rw [eq_t h5, cond_true, grd_pos _ (by unfold App; omega), if_pos (show x.at_ = ren ⟨a, bs⟩ from h5), glue1]
                dsimp only
                by_cases h6 : c + (b.length : Int) = a
                · rw [eq_t h6, cond_true, grd_pos _ (by rw [List.take_length]; unfold App; rw [List.length_append]; omega), grd_pos _ (by rw [List.length_append]; omega), if_pos (show a = ren ⟨c, b⟩ from h6.symm), List.take_length, List.append_assoc]; rfl
                · rw [eq_f h6, cond_false, if_neg (show ¬ a = ren ⟨c, b⟩ from fun e => h6 e.symm)]; simp
              · rw [eq_f h5, cond_false, if_neg (show ¬ x.at_ = ren ⟨a, bs⟩ from h5), glue1]
                dsimp only
                by_cases h6 : c + (b.length : Int) = a
                · rw [eq_t h6, cond_true, grd_pos _ (by rw [List.take_length]; unfold App; omega), grd_pos _ hl, if_pos (show a = ren ⟨c, b⟩ from h6.symm), List.take_length]; simp
                · rw [eq_f h6, cond_false, if_neg (show ¬ a = ren ⟨c, b⟩ from fun e => h6 e.symm)]; simp
          · rw [List.nil_append]
        · unfold ren at q3
          rw [decide_eq_false h3, cond_false, if_neg h3, m_end F p1 (by omega), Option.bind_some, glue1]
          by_cases h5 : x.at_ = a + (bs.length : Int)
          · rw [eq_t h5, cond_true, grd_pos _ (by unfold App; omega), if_pos (show x.at_ = ren ⟨a, bs⟩ from h5)]
          · rw [eq_f h5, cond_false, if_neg (show ¬ x.at_ = ren ⟨a, bs⟩ from h5)]
  · rw [neq_t h1, cond_true, cond_true, if_neg (fun h => h1 h.1), if_neg (fun h => h1 h.1)]

/-- What Zero makes of a map. -/
def zrL (L : List Rn) (a n : Int) : List Rn := if mayE a n = 0 ∧ n ≠ 0 then clr a (a + n) L else L
theorem m_zero (F : Nat) (hF : 4100 < F) {L : List Rn} {sz : Int} (g : Gd5 L sz) (a n : Int) :
    m___extent_Map__Zero F L sz a n = some (mayE a n, zrL L a n, wrZ sz a n) := by
  rw [m___extent_Map__Zero, m_may, Option.bind_some]
  simp only [jn]
  unfold zrL wrZ
  by_cases h1 : mayE a n = 0
  · rw [neq_f h1, cond_false]
    by_cases h2 : n = 0
    · rw [eq_t h2, cond_true, if_neg (fun h => h.2 h2), if_neg (fun h => h.2 h2)]
    · obtain ⟨p1, p2, p3⟩ := mayE_0 h1
      rw [eq_f h2, cond_false, if_pos ⟨h1, h2⟩, if_pos ⟨h1, h2⟩, grd_pos _ ⟨by omega, by omega⟩, m_clear F g.ok (by have := g.len; omega) sz p1 (by omega) (by omega), Option.bind_some, h1]
  · rw [neq_t h1, cond_true, cond_true, if_neg (fun h => h1 h.1), if_neg (fun h => h1 h.1)]
def trL (L : List Rn) (n : Int) : List Rn := if mayE 0 n = 0 then clr n 4097 L else L
def trZ (sz n : Int) : Int := if mayE 0 n = 0 then n else sz
theorem m_trunc (F : Nat) (hF : 4100 < F) {L : List Rn} {sz : Int} (g : Gd5 L sz) (n : Int) :
    m___extent_Map__Truncate F L sz n = some (mayE 0 n, trL L n, trZ sz n) := by
  rw [m___extent_Map__Truncate, m_may, Option.bind_some]
  unfold trL trZ
  by_cases h1 : mayE 0 n = 0
  · obtain ⟨p1, p2, p3⟩ := mayE_0 h1
    rw [neq_f h1, cond_false, if_pos h1, if_pos h1, m_clear F g.ok (by have := g.len; omega) sz p2 (by omega) (by omega), Option.bind_some, h1]
  · rw [neq_t h1, cond_true, if_neg h1, if_neg h1]
theorem clear0_clr {L : List Rn} {a : Int} {bs : List UInt8} (h : bs ≠ []) : clear0 ⟨a, bs⟩ (clr a (a + bs.length) L) := fun r hr => by
  have := len_pos h
  exact (mem_clr (by omega) hr).1
theorem wrZ_le {sz a n : Int} (h : sz ≤ 4096) : sz ≤ wrZ sz a n ∧ wrZ sz a n ≤ 4096 := by
  unfold wrZ
  split
  · rename_i h1; have := mayE_0 h1.1; split <;> omega
  · omega
theorem Gd5.wr {L : List Rn} {sz : Int} (g : Gd5 L sz) (a : Int) (bs : List UInt8) : Gd5 (wrL L a bs) (wrZ sz a bs.length) := by
  have hz := wrZ_le (a := a) (n := bs.length) g.n1
  unfold wrL
  by_cases h : mayE a bs.length = 0 ∧ bs ≠ []
  · rw [if_pos h]
    have := mayE_0 h.1; have hl := len_pos h.2
    refine Gd5.ins (g.clr (by omega) hz.1 hz.2) h.2 this.1 (clear0_clr h.2) ?_ (Int.le_refl _) hz.2
    unfold wrZ; rw [if_pos ⟨h.1, by omega⟩]; unfold ren; dsimp only; split <;> omega
  · rw [if_neg h]; exact ⟨g.s, fun r hr => Int.le_trans (g.b r hr) hz.1, Int.le_trans g.n0 hz.1, hz.2⟩
theorem Gd5.zr {L : List Rn} {sz : Int} (g : Gd5 L sz) (a n : Int) : Gd5 (zrL L a n) (wrZ sz a n) := by
  have hz := wrZ_le (a := a) (n := n) g.n1
  unfold zrL
  by_cases h : mayE a n = 0 ∧ n ≠ 0
  · rw [if_pos h]; have := mayE_0 h.1; exact g.clr (by omega) hz.1 hz.2
  · rw [if_neg h]; exact ⟨g.s, fun r hr => Int.le_trans (g.b r hr) hz.1, Int.le_trans g.n0 hz.1, hz.2⟩
theorem Gd5.tr {L : List Rn} {sz : Int} (g : Gd5 L sz) (n : Int) : Gd5 (trL L n) (trZ sz n) := by
  unfold trL trZ
  by_cases h : mayE 0 n = 0
  · rw [if_pos h, if_pos h]; have := mayE_0 h; exact g.cut this.2.1 (by omega)
  · rw [if_neg h, if_neg h]; exact g

/-! ### Extents, Bytes -/

theorem ext_loop {ρ : Type} (st : (List Rn × List Rn → Option ρ) → List Rn × List Rn → Option ρ) (K : List Rn → Option ρ)
    (h0 : ∀ nx dn, st nx ([], dn) = K dn) (h1 : ∀ nx x t dn, x.b.length ≤ 4096 → dn.length ≤ 5000 → st nx (x :: t, dn) = nx (t, dn ++ [x])) :
    ∀ (l : List Rn) (n : Nat) (dn : List Rn), (∀ r ∈ l, r.b.length ≤ 4096) → l.length < n → dn.length + l.length ≤ 5000 → loopW st n (l, dn) = K (dn ++ l)
  | [], n + 1, dn, _, _, _ => by rw [loopW, h0, List.append_nil]
  | x :: t, n + 1, dn, h, hn, hd => by
    simp only [List.length_cons] at hn hd
    rw [loopW, h1 _ _ _ _ (h x (by simp)) (by omega), ext_loop st K h0 h1 t n _ (fun r hr => h r (by simp [hr])) (by omega) (by rw [List.length_append, List.length_singleton]; omega)]
    simp
  | [], 0, _, _, hn, _ => by simp at hn
  | _ :: _, 0, _, _, hn, _ => by simp at hn
theorem Gd5.blen {L : List Rn} {sz : Int} (g : Gd5 L sz) : ∀ r ∈ L, r.b.length ≤ 4096 := fun r hr => by
  obtain ⟨h1, h2, h3⟩ := g.ok r hr
  unfold ren at h3; omega
theorem m_extents (F : Nat) (hF : 4100 < F) {L : List Rn} {sz : Int} (g : Gd5 L sz) : m___extent_Map__Extents F L sz = some L := by
  rw [m___extent_Map__Extents, m___extent_Map__is, Option.bind_some]
  refine (ext_loop _ some (fun nx dn => rfl) (fun nx x t dn hx hd => ?_) L F [] g.blen (by have := g.len; omega) (by have := g.len; simp; omega))
  dsimp only [lcase]
  rw [grd_pos _ (by unfold App; omega), grd_pos _ (by unfold App; rw [List.length_singleton]; omega)]

/-- The iterator: a loop over the runs. -/
theorem m_iter {Ty : Type} (F : Nat) (ky : Ty → Int × List UInt8 → Option (Bool × Ty)) (s : Ty) {L : List Rn} (hl : L.length ≤ 4096) (hb : ∀ r ∈ L, r.b.length ≤ 4096) (step : Ty → Rn → Ty) (I : Ty → List Rn → Prop)
    (h : ∀ s r t, I s (r :: t) → ky s (r.at_, r.b) = some (true, step s r) ∧ I (step s r) t) (h0 : I s L) : m___extent_Map__Extents_1 F ky s L = some (L.foldl step s) := by
  rw [m___extent_Map__Extents_1, grd_pos _ (by unfold Len; omega)]
  have key : ∀ (l : List Rn) (c : Nat) (s : Ty), (∀ r ∈ l, r.b.length ≤ 4096) → I s l → loopL (fun (nx46 : Ty → Option (Ty)) (v7_1 : Nat) (x31 : S_extent_run) (l1_1 : Ty) => grd (App x31.b.length 1) ((ky l1_1 (x31.at_, x31.b)).bind (fun y38 => (bif !y38.1 then some y38.2 else nx46 y38.2)))) (fun (v7_1 : Nat) (l1_1 : Ty) => some l1_1) l c s = some (l.foldl step s) := by
    intro l
    induction l with
    | nil => intro c s _ _; rfl
    | cons r t ih =>
      intro c s hb hi
      obtain ⟨e, hi2⟩ := h s r t hi
      rw [loopL, grd_pos _ (by have := hb r (by simp); unfold App; omega), e, Option.bind_some]
      exact ih (c + 1) _ (fun x hx => hb x (by simp [hx])) hi2
  exact key L 0 s hb h0

/-- Runs are laid into bytes. -/
def lay1 (d : List UInt8) (r : Rn) : List UInt8 := d.take r.at_.toNat ++ (r.b ++ d.drop (r.at_.toNat + r.b.length))
def lay (d : List UInt8) (L : List Rn) : List UInt8 := L.foldl lay1 d
def okD (n : Nat) (L : List Rn) : Prop := ∀ r ∈ L, r.b ≠ [] ∧ 0 ≤ r.at_ ∧ ren r ≤ n
theorem lay1_len {d : List UInt8} {r : Rn} (h : 0 ≤ r.at_) (h2 : ren r ≤ d.length) : (lay1 d r).length = d.length := by
  unfold ren at h2
  unfold lay1; simp only [List.length_append, List.length_take, List.length_drop]; omega
def bytes5 (L : List Rn) (sz : Int) : List UInt8 := lay (List.replicate sz.toNat 0) L
theorem Gd5.okD {L : List Rn} {sz : Int} (g : Gd5 L sz) : Go.Proofs.Ytmdfkklldbfocaa.okD sz.toNat L := fun r hr => by
  obtain ⟨h1, h2, h3⟩ := g.ok r hr
  have := g.b r hr; have := g.n0
  exact ⟨h1, h2, by omega⟩
theorem m_bytes (F : Nat) (hF : 4100 < F) {L : List Rn} {sz : Int} (g : Gd5 L sz) : m___extent_Map__Bytes F L sz = some (bytes5 L sz) := by
  have h0 := g.n0; have h1 := g.n1
  rw [m___extent_Map__Bytes, m___extent_Map__is, Option.bind_some, grd_pos _ h0, grd_pos _ (by omega), grd_pos _ (by unfold Len; omega), m_extents F hF g, Option.bind_some,
    m_iter F _ _ g.len g.blen lay1 (fun d l => d.length = sz.toNat ∧ okD sz.toNat l) (fun d r t hi => ?_) ⟨List.length_replicate, g.okD⟩]
  · rfl
  · obtain ⟨e, hk⟩ := hi
    obtain ⟨q1, q2, q3⟩ := hk r (by simp)
    have q4 := len_pos q1
    refine ⟨?_, by rw [lay1_len q2 (by omega)]; exact e, fun x hx => hk x (by simp [hx])⟩
    unfold ren at q3
    dsimp only
    rw [grd_pos _ ⟨q2, by omega⟩, grd_pos _ q4, grd_pos _ (by omega)]; rfl
theorem bytes5_len {L : List Rn} {sz : Int} (g : Gd5 L sz) : (bytes5 L sz).length = sz.toNat := by
  have key : ∀ (l : List Rn) (d : List UInt8), d.length = sz.toNat → okD sz.toNat l → (lay d l).length = sz.toNat := by
    intro l
    induction l with
    | nil => intro d h _; exact h
    | cons r t ih =>
      intro d h hk
      obtain ⟨q1, q2, q3⟩ := hk r (by simp)
      exact ih _ (by rw [lay1_len q2 (by omega)]; exact h) fun x hx => hk x (by simp [hx])
  exact key L _ List.length_replicate g.okD
/-- What Read answers. -/
def rdB (L : List Rn) (sz a n : Int) : List UInt8 := if a < 0 ∨ n < 0 then [] else ((bytes5 L sz).drop a.toNat).take n.toNat
theorem m_read (F : Nat) (hF : 4100 < F) {L : List Rn} {sz : Int} (g : Gd5 L sz) (a n : Int) : m___extent_Map__Read F L sz a n = some (rdB L sz a n, if a < 0 ∨ n < 0 then 22 else 0) := by
  have hn := g.n0; have hlen := bytes5_len g
  rw [m___extent_Map__Read, m___extent_Map__is, Option.bind_some]
  simp only [jn]
  unfold rdB
  by_cases h1 : a < 0 ∨ n < 0
  · rw [if_pos h1, if_pos h1]
    by_cases h2 : a < 0
    · rw [decide_eq_true h2]; rfl
    · rw [decide_eq_false h2, cond_false, decide_eq_true (by omega)]; rfl
  · rw [if_neg h1, if_neg h1, decide_eq_false (by omega), cond_false, decide_eq_false (by omega), cond_false]
    by_cases h3 : a ≥ sz
    · rw [decide_eq_true h3, cond_true, List.drop_eq_nil_of_le (by omega)]; simp
    · rw [decide_eq_false h3, cond_false, m_bytes F hF g, Option.bind_some, grd_pos _ ⟨by omega, by omega⟩]
      have e : ((bytes5 L sz).drop a.toNat).take ((bytes5 L sz).length - a.toNat) = (bytes5 L sz).drop a.toNat := take_drop_len _
      rw [e]
      generalize hd : (bytes5 L sz).drop a.toNat = d
      by_cases h4 : (d.length : Int) < n
      · rw [if_pos h4, grd_pos _ ⟨by omega, by omega⟩, Int.toNat_natCast, List.take_length, List.take_of_length_le (by omega)]
      · rw [if_neg h4, grd_pos _ ⟨by omega, by omega⟩]
theorem m_same (F : Nat) (a b : List UInt8) : m_tholeref01_Same F a b = some (decide (a = b)) := by
  rw [m_tholeref01_Same]
  rw [ByteArray.toList_eq, ByteArray.toList_eq]
  dsimp only
  by_cases h : a = b
  · simp [h]
  · simp [h]
end Go.Proofs.Ytmdfkklldbfocaa
