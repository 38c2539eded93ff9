/-
  CHAPTER 20, BackfillWhole: plain facts: what the plan's batches make of a copy; the law.
-/
import Derived.Test.YticlccnajfjdeaaP20ri
set_option linter.unusedVariables false
set_option linter.unusedSimpArgs false
set_option maxRecDepth 100000
namespace Go.Proofs.Yticlccnajfjdeaa
open Go Go.RowKit Sx

theorem rises_ri : ∀ (l : List Itm) (p : Itm), rises nameLt (some p) l = true → Ri kI (p :: l)
  | [], p, _ => List.pairwise_singleton _ _
  | x :: l, p, h => by
    rw [rises, Bool.and_eq_true] at h
    have h2 := rises_ri l x h.2
    have q := List.pairwise_cons.1 h2
    have hpx : Op.bytesLess (kI p) (kI x) = true := h.1
    refine List.pairwise_cons.2 ⟨fun y hy => ?_, h2⟩
    rcases List.mem_cons.1 hy with rfl | hy
    · exact hpx
    · exact bl_trans hpx (q.1 y hy)

theorem check_good (s : Stt) (h : checkF s = 0) : s.items.length ≤ 32 ∧ Ri kI s.items ∧ ∀ x ∈ s.items, goodB x.Name = true := by
  unfold checkF at h
  split at h
  · cases h
  · next h1 =>
    simp only [not_or] at h1
    split at h
    · cases h
    · next v hv =>
      split at h
      · cases h
      · next h2 =>
        simp only [Bool.not_eq_true, Bool.or_eq_false_iff, Bool.not_eq_false'] at h2
        refine ⟨by omega, ?_, fun x hx => ?_⟩
        · have h3 := h2.1.1.2
          revert h3
          cases s.items with
          | nil => intro _; exact List.Pairwise.nil
          | cons p l => intro h3; rw [rises] at h3; exact rises_ri l p (by simpa using h3)
        · have h3 := List.any_eq_false.1 h2.1.1.1 x hx
          unfold badI at h3
          simp only [Bool.not_eq_true, Bool.or_eq_false_iff, Bool.not_eq_false'] at h3
          exact h3.1.1.1

theorem good_pos {n : ByteArray} (h : goodB n = true) : ∃ b r, n.toList = b :: r ∧ b.toNat ≤ 126 := by
  unfold goodB at h
  simp only [Bool.and_eq_true, decide_eq_true_eq] at h
  rw [ByteArray.toList_eq]
  have hsz : n.size = n.data.toList.length := by rw [Array.length_toList]; rfl
  cases hd : n.data.toList with
  | nil => rw [hd, List.length_nil] at hsz; omega
  | cons b r =>
    refine ⟨b, r, rfl, ?_⟩
    have := h.2
    rw [hd, List.all_cons, Bool.and_eq_true] at this
    have := this.1
    unfold okByte at this
    simp only [Bool.and_eq_true, decide_eq_true_eq] at this
    exact this.2
theorem upTo_ff {x : Itm} (h : goodB x.Name = true) : upTo (ByteArray.mk #[255]) x = true := by
  obtain ⟨b, r, e, hb⟩ := good_pos h
  unfold upTo
  rw [e, show (ByteArray.mk #[255]).toList = [255] by rw [ByteArray.toList_eq]]
  have : Op.bytesLess (b :: r) [255] = true := by
    rw [bl_cons, decide_eq_true (show b.toNat < (255 : UInt8).toNat by show b.toNat < 255; omega)]; rfl
  rw [this]; rfl
theorem upTo_no {x : Itm} (h : goodB x.Name = true) : upTo noName x = false := by
  obtain ⟨b, r, e, hb⟩ := good_pos h
  unfold upTo
  rw [e, show noName.toList = [] by rw [ByteArray.toList_eq]]
  rfl

theorem ri_apart {L : List Itm} (h : Ri kI L) : Apart L := h.imp fun {a b} hab e => by unfold kI at hab; rw [e] at hab; exact bl_ne hab rfl

/-! ### The plan -/
theorem mem_P {A B : List Itm} (hA : Ri kI A) (w : Itm) : w ∈ B.flatMap (pPull A) ↔ w ∈ B ∧ w ∉ A := by
  rw [List.mem_flatMap]
  constructor
  · rintro ⟨x, hx, hw⟩
    obtain ⟨h1, rfl⟩ := mem_bif.1 hw
    refine ⟨hx, fun hm => ?_⟩
    rw [findF_mem hA hm] at h1
    simp [(S_api_Item.beq_iff w w).2 rfl] at h1
  · rintro ⟨hB, hn⟩
    refine ⟨w, hB, mem_bif.2 ⟨?_, rfl⟩⟩
    cases h1 : (findF A w.Name).2 with
    | false => rfl
    | true =>
      cases h2 : S_api_Item.beq (findF A w.Name).1 w with
      | false => rfl
      | true =>
        have := (S_api_Item.beq_iff _ _).1 h2
        exact absurd (this ▸ (findF_yes h1).1) hn
theorem mem_D {A B : List Itm} (n : ByteArray) : n ∈ A.flatMap (pDrop B) ↔ (∃ x ∈ A, x.Name = n) ∧ ∀ y ∈ B, y.Name ≠ n := by
  rw [List.mem_flatMap]
  constructor
  · rintro ⟨x, hx, hw⟩
    obtain ⟨h1, rfl⟩ := mem_bif.1 hw
    exact ⟨⟨x, hx, rfl⟩, findF_no (by simpa using h1)⟩
  · rintro ⟨⟨x, hx, rfl⟩, hn⟩
    refine ⟨x, hx, mem_bif.2 ⟨?_, rfl⟩⟩
    cases h1 : (findF B x.Name).2 with
    | false => rfl
    | true => exact absurd (findF_yes h1).2 (hn _ (findF_yes h1).1)
theorem nd_iff (D : List ByteArray) (z : Itm) : nd D z = true ↔ z.Name ∉ D := by
  unfold nd
  rw [Bool.not_eq_true', List.any_eq_false]
  exact ⟨fun h hm => h _ hm (str_tl_self _), fun h d hd e => h ((str_tl _ _).1 e ▸ hd)⟩

/-! ### Apply -/
theorem fold_mem : ∀ (L acc : List Itm), Apart acc → Apart L → Apart (L.foldl addF acc) ∧ ∀ z, z ∈ L.foldl addF acc ↔ z ∈ L ∨ (z ∈ acc ∧ ∀ y ∈ L, z.Name ≠ y.Name)
  | [], acc, ha, _ => ⟨ha, fun z => by simp⟩
  | x :: L, acc, ha, hL => by
    have q := List.pairwise_cons.1 hL
    obtain ⟨h1, h2⟩ := fold_mem L (addF acc x) (addF_apart x acc ha) q.2
    refine ⟨h1, fun z => ?_⟩
    rw [List.foldl_cons, h2, mem_addF x z acc ha, List.mem_cons]
    constructor
    · rintro (h | ⟨rfl | ⟨h, g⟩, k⟩)
      · exact .inl (.inr h)
      · exact .inl (.inl rfl)
      · refine .inr ⟨h, fun y hy => ?_⟩
        rcases List.mem_cons.1 hy with rfl | hy
        · exact g
        · exact k y hy
    · rintro ((rfl | h) | ⟨h, k⟩)
      · exact .inr ⟨.inl rfl, q.1⟩
      · exact .inl h
      · exact .inr ⟨.inr ⟨h, k x (by simp)⟩, fun y hy => k y (by simp [hy])⟩

def appF (items pulled : List Itm) (drops : List ByteArray) : List Itm := isort ltI ((items.filter (nd drops) ++ pulled).foldl addF [])
theorem appF_mem (items pulled : List Itm) (drops : List ByteArray) (h1 : Apart items) (h2 : Apart pulled) :
    Apart (appF items pulled drops) ∧ ∀ z, z ∈ appF items pulled drops ↔ z ∈ pulled ∨ ((z ∈ items ∧ z.Name ∉ drops) ∧ ∀ y ∈ pulled, z.Name ≠ y.Name) := by
  unfold appF
  rw [List.foldl_append]
  obtain ⟨a1, a2⟩ := fold_mem (items.filter (nd drops)) [] List.Pairwise.nil (h1.filter _)
  obtain ⟨b1, b2⟩ := fold_mem pulled _ a1 h2
  refine ⟨isort_apart_names _ _ rfl b1, fun z => ?_⟩
  rw [mem_isort, b2, a2]
  simp only [List.not_mem_nil, false_and, or_false, List.mem_filter, nd_iff]
theorem appF_len (items pulled : List Itm) (drops : List ByteArray) : (appF items pulled drops).length ≤ items.length + pulled.length := by
  unfold appF
  rw [isort_len]
  have h1 := foldl_add_len (items.filter (nd drops) ++ pulled) []
  have h2 := List.length_filter_le (nd drops) items
  rw [List.length_append, List.length_nil] at h1
  omega
theorem appF_is {items pulled L : List Itm} {drops : List ByteArray} (h1 : Apart items) (h2 : Apart pulled) (hL : Ri kI L)
    (h : ∀ z, (z ∈ pulled ∨ ((z ∈ items ∧ z.Name ∉ drops) ∧ ∀ y ∈ pulled, z.Name ≠ y.Name)) ↔ z ∈ L) : appF items pulled drops = L := by
  have hm := (appF_mem items pulled drops h1 h2)
  have hs := isort_same (appF items pulled drops) L hm.1 (ri_apart hL) (fun z => (hm.2 z).trans (h z))
  rw [ri_isort hL] at hs
  rw [← hs]
  unfold appF
  rw [isort_id (isort_up _)]

section
variable {A B : List Itm} (hA : Ri kI A) (hB : Ri kI B)
include hA hB
theorem whole_mem (z : Itm) : (z ∈ B.flatMap (pPull A) ∨ ((z ∈ A ∧ z.Name ∉ A.flatMap (pDrop B)) ∧ ∀ y ∈ B.flatMap (pPull A), z.Name ≠ y.Name)) ↔ z ∈ B := by
  constructor
  · rintro (h | ⟨⟨h1, h2⟩, h3⟩)
    · exact ((mem_P hA z).1 h).1
    · by_cases hy : ∃ y ∈ B, y.Name = z.Name
      · obtain ⟨y, hy1, hy2⟩ := hy
        by_cases hyA : y ∈ A
        · have : y = z := ri_key kI hA hyA h1 (by unfold kI; rw [hy2])
          exact this ▸ hy1
        · exact absurd hy2.symm (h3 y ((mem_P hA y).2 ⟨hy1, hyA⟩))
      · exact absurd ((mem_D z.Name).2 ⟨⟨z, h1, rfl⟩, fun y hy1 e => hy ⟨y, hy1, e⟩⟩) h2
  · intro h
    by_cases hz : z ∈ A
    · refine .inr ⟨⟨hz, fun hD => ((mem_D z.Name).1 hD).2 z h rfl⟩, fun y hy e => ?_⟩
      have hy2 := (mem_P hA y).1 hy
      have : z = y := ri_key kI hB h hy2.1 (by unfold kI; rw [e])
      exact hy2.2 (this ▸ hz)
    · exact .inl ((mem_P hA z).2 ⟨h, hz⟩)
end
theorem P_ri {A B : List Itm} (hB : Ri kI B) : Ri kI (B.flatMap (pPull A)) := ri_flat kI kI (pPull A) (fun x z h => by rw [(mem_bif.1 h).2]) (fun x => bif_len _ _) B hB

/-! ### Batches of what rises -/
theorem next_drop {P Q R : List Itm} (hP : Ri kI P) (he : P = Q ++ R) (n : Nat) (hne : R.take n ≠ []) : aboveB P (endB (R.take n)) = R.drop n := by
  obtain ⟨A, z, e1, e2⟩ := endB_at hne
  rw [e2]
  have e3 : P = (Q ++ A) ++ z :: R.drop n := by
    have e0 : R = A ++ [z] ++ R.drop n := by rw [← e1, List.take_append_drop]
    exact he.trans ((congrArg (Q ++ ·) e0).trans (by simp))
  have hup : P.Pairwise fun a b => ltI a b = true := hP.imp fun {a b} hab => by rw [ltI_is, ← ByteArray.toList_eq, ← ByteArray.toList_eq]; exact hab
  unfold aboveB
  rw [ri_isort hP, e3, List.filter_append]
  rw [e3] at hup
  have hp := List.pairwise_append.1 hup
  have hq := List.pairwise_cons.1 hp.2.1
  have f1 : (Q ++ A).filter (fun x => !upTo z.Name x) = [] := List.filter_eq_nil_iff.2 fun x hx => by
    have := hp.2.2 x hx z (by simp)
    rw [upTo_of (ordI.as _ _ trivial trivial this)]; simp
  have f2 : (z :: R.drop n).filter (fun x => !upTo z.Name x) = R.drop n := by
    rw [List.filter_cons_of_neg (by rw [upTo_of (ltI_irr z)]; simp)]
    refine List.filter_eq_self.2 fun y hy => ?_
    have hzy := hq.1 y hy
    cases hu : upTo z.Name y with
    | false => rfl
    | true =>
      unfold upTo at hu
      rw [ByteArray.toList_eq, ByteArray.toList_eq, Bool.or_eq_true] at hu
      rw [ltI_is] at hzy
      rcases hu with h2 | h2
      · rw [bl_as _ _ hzy] at h2; cases h2
      · rw [beq_iff_eq.1 h2, lex_irrefl] at hzy; cases hzy
  rw [f1, f2, List.nil_append]

theorem bind_inv {Ty ρ : Type} (l : List Itm) (hl : l.length ≤ 1000) (most : Int) {ky : Ty → List Itm → Option (Bool × Ty)} {s0 : Ty} {f : Ty → Option ρ} {r : Option ρ} (Inv : ByteArray → Ty → Prop) (h0 : Inv noName s0)
    (hk : ∀ c t, Inv c t → aboveB l c ≠ [] → ∃ t', ky t ((aboveB l c).take (nB most)) = some (true, t') ∧ Inv (endB ((aboveB l c).take (nB most))) t')
    (hf : ∀ m t, aboveB l m = [] → Inv m t → f t = r) : (m_backfill_Batches_1 3000 ky s0 (isort ltI l) most).bind f = r := by
  have hb := fun c => m_batch 3000 (isort ltI l) c most (by rw [isort_len]; omega) (by omega)
  simp only [m_backfill_Batches_1]
  generalize hst : (fun (nx78 : ByteArray × Ty → Option Ty) (s86 : ByteArray × Ty) => _) = st
  have key : ∀ (G : Nat) (c : ByteArray) (t : Ty), Inv c t → (aboveB l c).length < G → ∃ m t', aboveB l m = [] ∧ Inv m t' ∧ loopW st G (c, t) = some t' := by
    intro G
    induction G with
    | zero => intro c t _ h; omega
    | succ G ih =>
      intro c t hi hc
      rw [loopW, ← hst]
      dsimp only
      rw [hb c, Option.bind_some]
      unfold batF
      rw [aboveB_sort]
      by_cases he : aboveB l c = []
      · refine ⟨c, t, he, hi, ?_⟩
        rw [he, List.take_nil]
        dsimp only [jn]
        rw [show ((((([] : List Itm).length : Nat) : Int) == 0)) = true from rfl, cond_true, cond_true]
      · have hne : ((aboveB l c).take (nB most)) ≠ [] := fun e => by
          rcases List.take_eq_nil_iff.1 e with q | q
          · have := nB_pos most; omega
          · exact he q
        obtain ⟨t1, k1, k2⟩ := hk c t hi he
        have hpos := List.length_pos_iff.2 hne
        have hle : ((aboveB l c).take (nB most)).length ≤ 1000 := Nat.le_trans (List.length_take_le' ..) (Nat.le_trans (aboveB_len l c) hl)
        have hlen : ((((((aboveB l c).take (nB most)).length : Nat) : Int) == 0)) = false := by
          simp only [beq_eq_false_iff_ne]; omega
        by_cases hm : nB most < (aboveB l c).length
        · obtain ⟨m, t2, h1, h2, h3⟩ := ih (endB ((aboveB l c).take (nB most))) t1 k2 (by have := next_less l c (nB most) (nB_pos most) he; omega)
          refine ⟨m, t2, h1, h2, ?_⟩
          rw [← h3, ← hst]
          dsimp only [jn]
          rw [hlen, cond_false, m_clone _ _ hle, Option.bind_some, k1, Option.bind_some, Bool.not_true, cond_false, decide_eq_true hm, Bool.not_true, cond_false]
          rw [grd_pos _ (by unfold I64; omega), grd_pos _ (by unfold Ix; omega)]
          rfl
        · refine ⟨_, t1, next_none l c (nB most) he (by omega), k2, ?_⟩
          dsimp only [jn]
          rw [hlen, cond_false, m_clone _ _ hle, Option.bind_some, k1, Option.bind_some, Bool.not_true, cond_false, decide_eq_false hm, Bool.not_false, cond_true]
  obtain ⟨m, t, h1, h2, h3⟩ := key 3000 noName s0 h0 (by have := aboveB_len l noName; omega)
  rw [h3, Option.bind_some, hf m t h1 h2]

theorem jn_bind {ρ : Type} {x : Option ρ} : (x.bind fun y => some y) = x := by cases x <;> rfl

theorem doneF_ff {A B : List Itm} (hA : ∀ x ∈ A, goodB x.Name = true) (hB : ∀ x ∈ B, goodB x.Name = true) (hr : Ri kI B) : doneF A B (ByteArray.mk #[255]) = B := by
  unfold doneF
  rw [List.filter_eq_self.2 (fun x hx => upTo_ff (hB x hx)), List.filter_eq_nil_iff.2 (fun x hx => by rw [upTo_ff (hA x hx)]; simp), List.append_nil, ri_isort hr]
theorem doneF_no {A B : List Itm} (hA : ∀ x ∈ A, goodB x.Name = true) (hB : ∀ x ∈ B, goodB x.Name = true) (hr : Ri kI A) : doneF A B noName = A := by
  unfold doneF
  rw [List.filter_eq_nil_iff.2 (fun x hx => by rw [upTo_no (hB x hx)]; simp), List.filter_eq_self.2 (fun x hx => by rw [upTo_no (hA x hx)]; rfl), List.nil_append, ri_isort hr]
theorem flat_len' {α β : Type} (f : α → List β) (h : ∀ x, (f x).length ≤ 1) : ∀ l : List α, (l.flatMap f).length ≤ l.length
  | [] => by simp
  | x :: l => by
    have := flat_len' f h l
    have := h x
    rw [List.flatMap_cons, List.length_append, List.length_cons]; omega
theorem P_self {B : List Itm} (h : Ri kI B) : B.flatMap (pPull B) = [] := by
  refine List.eq_nil_iff_forall_not_mem.2 fun z hz => ?_
  have := (mem_P h z).1 hz
  exact this.2 this.1
theorem D_self {B : List Itm} : B.flatMap (pDrop B) = [] := by
  refine List.eq_nil_iff_forall_not_mem.2 fun z hz => ?_
  obtain ⟨⟨x, h1, h2⟩, h3⟩ := (mem_D z).1 hz
  exact h3 x h1 h2

/-- What a copy has, of which the plan's first part Q was carried out. -/
def Half (A Q : List Itm) (t : Nat × Int × List Itm) : Prop :=
  (t = (0, (0, [])) ∧ Q = []) ∨ ∃ h : List Itm, t = (1, ((Q.length : Int), h)) ∧ Apart h ∧ h.length ≤ A.length + Q.length ∧ ∀ z, z ∈ h ↔ z ∈ Q ∨ (z ∈ A ∧ ∀ y ∈ Q, z.Name ≠ y.Name)

theorem half_next {A Q x : List Itm} (hx : Apart (Q ++ x)) {h : List Itm} (h1 : Apart h) (h2 : h.length ≤ A.length + Q.length) (h3 : ∀ z, z ∈ h ↔ z ∈ Q ∨ (z ∈ A ∧ ∀ y ∈ Q, z.Name ≠ y.Name)) :
    Apart (appF h x []) ∧ (appF h x []).length ≤ A.length + (Q ++ x).length ∧ ∀ z, z ∈ appF h x [] ↔ z ∈ Q ++ x ∨ (z ∈ A ∧ ∀ y ∈ Q ++ x, z.Name ≠ y.Name) := by
  have hp := List.pairwise_append.1 hx
  obtain ⟨a1, a2⟩ := appF_mem h x [] h1 hp.2.1
  have := appF_len h x []
  refine ⟨a1, by rw [List.length_append]; omega, fun z => ?_⟩
  rw [a2, h3]
  constructor
  · rintro (g | ⟨⟨g | ⟨g, g2⟩, _⟩, k⟩)
    · exact .inl (List.mem_append.2 (.inr g))
    · exact .inl (List.mem_append.2 (.inl g))
    · refine .inr ⟨g, fun y hy => ?_⟩
      rcases List.mem_append.1 hy with hy | hy
      · exact g2 y hy
      · exact k y hy
  · rintro (g | ⟨g, k⟩)
    · rcases List.mem_append.1 g with g | g
      · exact .inr ⟨⟨.inl g, by simp⟩, fun y hy => hp.2.2 z g y hy⟩
      · exact .inl g
    · exact .inr ⟨⟨.inr ⟨g, fun y hy => k y (List.mem_append.2 (.inl hy))⟩, by simp⟩, fun y hy => k y (List.mem_append.2 (.inr hy))⟩

theorem law_whole (a b : Stt) (most : Int) (ha : a.Small 33554432) (hb : b.Small 33554432) (na : a.Names) (nb : b.Names) :
    m_tholelaw20_BackfillWhole 3000 a.les a.tail a.log a.lasts a.items b.les b.tail b.log b.lasts b.items most = some true := by
  simp only [m_tholelaw20_BackfillWhole, m_tholelaw20_far, Option.bind_some, jn_bind]
  have la := ha.items
  have lb := hb.items
  have hI : I64 (((a.items.length : Nat) : Int) + ((b.items.length : Nat) : Int)) := by unfold I64; omega
  have hca := m_refcheck 3000 a ha na
  have hcb := m_refcheck 3000 b hb nb
  by_cases hf : a.items.length + b.items.length > 400 ∨ checkF a ≠ 0 ∨ checkF b ≠ 0
  · refine (jn_at (s := true) fun J => ?_).trans (by rw [cond_true, awake20r])
    rw [grd_pos _ hI]
    by_cases h1 : a.items.length + b.items.length > 400
    · rw [decide_eq_true (by omega), cond_true]
    · rw [decide_eq_false (by omega), cond_false, hca, Option.bind_some]
      by_cases h2 : checkF a = 0
      · have h3 : checkF b ≠ 0 := by rcases hf with h | h | h; exact absurd h h1; exact absurd h2 h; exact h
        rw [h2, show ((0 : Int) != 0) = false from rfl, cond_false, hcb, Option.bind_some, show (checkF b != 0) = true by simpa using h3]
      · rw [show (checkF a != 0) = true by simpa using h2, cond_true]
  · simp only [not_or, Decidable.not_not] at hf
    obtain ⟨hf1, hf2, hf3⟩ := hf
    refine (jn_at (s := false) fun J => ?_).trans ?_
    · rw [grd_pos _ hI, decide_eq_false (by omega), cond_false, hca, Option.bind_some, hf2, show ((0 : Int) != 0) = false from rfl, cond_false, hcb, Option.bind_some, hf3]; rfl
    · rw [cond_false]
      obtain ⟨ga1, hA, ga2⟩ := check_good a hf2
      obtain ⟨gb1, hB, gb2⟩ := check_good b hf3
      have hself := fun (x : List Itm) (hx : x.length ≤ 400) => m_items_self 3000 x (by omega)
      rw [m_plan2 3000 (by omega) a b (by omega) (by omega) hA hB, Option.bind_some]
      generalize hP : b.items.flatMap (pPull a.items) = P
      generalize hD : a.items.flatMap (pDrop b.items) = D
      have hPr : Ri kI P := hP ▸ P_ri hB
      have hPl : P.length ≤ 32 := by have := flat_len' (pPull a.items) (fun x => bif_len _ _) b.items; rw [hP] at this; omega
      have hDl : D.length ≤ 32 := by have := flat_len' (pDrop b.items) (fun x => bif_len _ _) a.items; rw [hD] at this; omega
      have hw := whole_mem hA hB
      rw [hP, hD] at hw
      have happ := fun (x y : List Itm) (d : List ByteArray) (h1 : x.length ≤ 400) (h2 : y.length ≤ 400) (h3 : d.length ≤ 400) => m_apply 3000 x y d h1 h2 h3 (by omega)
      dsimp only
      rw [happ _ _ _ (by omega) (by omega) (by omega), Option.bind_some, show isort ltI ((a.items.filter (nd D) ++ P).foldl addF []) = b.items from appF_is (ri_apart hA) (ri_apart hPr) hB hw, hself _ (by omega), Option.bind_some, Bool.not_true, cond_false]
      simp only [m_backfill_Batches]
      rw [m_byName 3000 P (by omega) (by omega), Option.bind_some, Option.bind_some]
      dsimp only
      have hPA := ri_apart hPr
      refine bind_inv P (by omega) most (fun c t => ∃ Q, P = Q ++ aboveB P c ∧ Half a.items Q t) ⟨[], ?_, .inl ⟨rfl, rfl⟩⟩ (fun c t hi he => ?_) (fun m t hm hi => ?_)
      · have hgood : ∀ x ∈ P, goodB x.Name = true := fun x hx => gb2 x ((mem_P hA x).1 (hP ▸ hx)).1
        unfold aboveB
        rw [ri_isort hPr, List.nil_append, List.filter_eq_self.2 (fun x hx => by rw [upTo_no (hgood x hx)]; rfl)]
      · obtain ⟨Q, e, hq⟩ := hi
        generalize hR : aboveB P c = R at *
        have hne : R.take (nB most) ≠ [] := fun q => by
          rcases List.take_eq_nil_iff.1 q with q | q
          · have := nB_pos most; omega
          · exact he q
        have hnd := next_drop hPr e (nB most) hne
        have hQR : P = (Q ++ R.take (nB most)) ++ R.drop (nB most) := by rw [List.append_assoc, List.take_append_drop]; exact e
        have hQa : Apart (Q ++ R.take (nB most)) := by have := hPA; rw [hQR] at this; exact (List.pairwise_append.1 this).1
        have hlen : Q.length + (R.take (nB most)).length ≤ 32 := by
          have := congrArg List.length hQR
          rw [List.length_append, List.length_append] at this; omega
        rcases hq with ⟨rfl, rfl⟩ | ⟨h, rfl, h1, h2, h3⟩
        · obtain ⟨n1, n2, n3⟩ := half_next (A := a.items) hQa (h := a.items) (ri_apart hA) (by simp) (fun z => by simp)
          refine ⟨(1, (((R.take (nB most)).length : Int), appF a.items (R.take (nB most)) [])), ?_, R.take (nB most), by rw [hnd]; simpa using hQR, .inr ⟨_, rfl, n1, by simpa using n2, by simpa using n3⟩⟩
          dsimp only
          rw [show ((0 : Nat) == 0) = true from rfl, cond_true, happ _ _ _ (by omega) (by simp at hlen ⊢; omega) (by simp), Option.bind_some, grd_pos _ (by unfold I64; omega), Int.zero_add]
          rfl
        · obtain ⟨n1, n2, n3⟩ := half_next hQa h1 h2 h3
          refine ⟨(1, (((Q ++ R.take (nB most)).length : Int), appF h (R.take (nB most)) [])), ?_, Q ++ R.take (nB most), by rw [hnd]; exact hQR, .inr ⟨_, rfl, n1, n2, n3⟩⟩
          dsimp only
          rw [show ((1 : Nat) == 0) = false from rfl, cond_false, grd_pos _ rfl, happ _ _ _ (by omega) (by omega) (by simp), Option.bind_some, grd_pos _ (by unfold I64; omega), List.length_append]
          rfl
      · obtain ⟨Q, e, hq⟩ := hi
        rw [hm, List.append_nil] at e
        subst e
        have hend : ∀ h : List Itm, Apart h → h.length ≤ a.items.length + P.length → (∀ z, z ∈ h ↔ z ∈ P ∨ (z ∈ a.items ∧ ∀ y ∈ P, z.Name ≠ y.Name)) → m_backfill_Apply 3000 h ([] : List S_api_Item) D = some b.items := fun h h1 h2 h3 => by
          rw [happ _ _ _ (by omega) (by simp) (by omega)]
          refine congrArg some (appF_is h1 List.Pairwise.nil hB fun z => ?_)
          rw [← hw z, h3]
          have hPD : z ∈ P → z.Name ∉ D := fun hz hd => by
            rw [← hD] at hd
            have hzB := ((mem_P hA z).1 (hP ▸ hz)).1
            exact ((mem_D z.Name).1 hd).2 z hzB rfl
          constructor
          · rintro (g | ⟨⟨g | ⟨g, g2⟩, k⟩, _⟩)
            · cases g
            · exact .inl g
            · exact .inr ⟨⟨g, k⟩, g2⟩
          · rintro (g | ⟨⟨g, k⟩, g2⟩)
            · exact .inr ⟨⟨.inl g, hPD g⟩, fun y hy => by cases hy⟩
            · exact .inr ⟨⟨.inr ⟨g, g2⟩, k⟩, fun y hy => by cases hy⟩
        have tail : ∃ h : List Itm, m_backfill_Apply 3000 h ([] : List S_api_Item) D = some b.items ∧ ((t.1 == 0) = true ∧ h = a.items ∧ (0 : Int) = ((P.length : Nat) : Int) ∨ (t.1 == 0) = false ∧ h = t.2.2 ∧ t.2.1 = ((P.length : Nat) : Int)) := by
          rcases hq with ⟨rfl, hq⟩ | ⟨h, rfl, h1, h2, h3⟩
          · refine ⟨a.items, hend a.items (ri_apart hA) (by omega) (fun z => by rw [hq]; simp), .inl ⟨rfl, rfl, by rw [hq]; rfl⟩⟩
          · exact ⟨h, hend h h1 h2 h3, .inr ⟨rfl, rfl, rfl⟩⟩
        obtain ⟨h, hh, ht⟩ := tail
        refine (jn_at (s := (((P.length : Nat) : Int), h)) fun J => ?_).trans ?_
        · rcases ht with ⟨e1, rfl, e2⟩ | ⟨e1, rfl, e2⟩
          · rw [e1, cond_true, e2]
          · rw [e1, cond_false, ← e2]
        · dsimp only
          refine (jn_at (s := false) fun J => ?_).trans ?_
          · rw [show ((((P.length : Nat) : Int)) != ((P.length : Nat) : Int)) = false by simp, cond_false, hh, Option.bind_some, hself _ (by omega), Option.bind_some, Bool.not_true]
          · rw [cond_false, m_plan2 3000 (by omega) b b (by omega) (by omega) hB hB, Option.bind_some, P_self hB, D_self]
            dsimp only
            rw [show (((([] : List Itm).length : Nat) : Int) == 0) = true from rfl, cond_true, show (((([] : List ByteArray).length : Nat) : Int) == 0) = true from rfl, cond_true]
            rw [m_done _ _ _ _ _ _ _ _ _ _ _ _ (by omega) (by omega), Option.bind_some, doneF_ff ga2 gb2 hB, hself _ (by omega), Option.bind_some, cond_true]
            rw [m_done _ _ _ _ _ _ _ _ _ _ _ _ (by omega) (by omega), Option.bind_some]
            rw [show doneF a.items b.items (ByteArray.mk #[]) = a.items from doneF_no ga2 gb2 hA, hself _ (by omega), Option.bind_some, cond_true, awake20r]
end Go.Proofs.Yticlccnajfjdeaa
