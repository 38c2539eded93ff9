/-
  CHAPTER 20, BackfillWhole: plain facts: states, what rises, the plan by catalogues.
-/
import Derived.Test.YticlccnajfjdeaaP20rg
set_option linter.unusedVariables false
set_option linter.unusedSimpArgs false
set_option maxRecDepth 100000
namespace Go.Proofs.Yticlccnajfjdeaa
open Go Go.RowKit Sx

abbrev Ver := S_api_Version
abbrev Ent13 := S_api_Entry
abbrev Lst := S_api_Last

def cmpZ (x y : Int) : Int := if x < y then -1 else if y < x then 1 else 0
def vcmp (a b : Ver) : Int := if cmpZ a.Epoch b.Epoch = 0 then cmpZ a.N b.N else cmpZ a.Epoch b.Epoch
theorem vbeq_self (a : Ver) : S_api_Version.beq a a = true := (S_api_Version.beq_iff a a).2 rfl

theorem m_refcmp (F : Nat) (a b : Ver) : m_tholeref13_Cmp F a b = some (vcmp a b) := by
  simp only [m_tholeref13_Cmp, jn]
  have hb : S_api_Version.beq a b = (decide (a.Epoch = b.Epoch) && decide (a.N = b.N)) := by
    simp [S_api_Version.beq, Bool.beq_eq_decide_eq]
  rw [hb]
  unfold vcmp cmpZ
  by_cases h1 : a.Epoch < b.Epoch
  · simp [h1]
  · by_cases h2 : a.Epoch = b.Epoch
    · by_cases h3 : a.N < b.N
      · simp [h2, h3]
      · by_cases h4 : b.N < a.N
        · have : ¬ a.N = b.N := by omega
          simp [h2, h3, h4, this]
        · have : a.N = b.N := by omega
          simp [h2, this]
    · have h5 : b.Epoch < a.Epoch := by omega
      have h6 : (a.Epoch == b.Epoch) = false := by simpa using h2
      simp [h1, h2, h5, h6]
theorem vcmp_self (a : Ver) : vcmp a a = 0 := by simp [vcmp, cmpZ]
/-- A state. -/
structure Stt where
  les : Int
  tail : Ver
  log : List Ent13
  lasts : List Lst
  items : List S_api_Item

/-- No more of anything than this. -/
structure Stt.Small (s : Stt) (n : Nat) : Prop where
  log : s.log.length ≤ n
  lasts : s.lasts.length ≤ n
  items : s.items.length ≤ n

theorem bl_ne {a b : List UInt8} (h : Op.bytesLess a b = true) : a ≠ b := fun e => by subst e; have := bl_as a a h; rw [h] at this; cases this
theorem bl_of {a b : List UInt8} (h : Op.bytesLess b a = false) (hn : a ≠ b) : Op.bytesLess a b = true := by
  cases hab : Op.bytesLess a b with
  | true => rfl
  | false => exact absurd (bl_tot a b hab h) hn
theorem bl_trans {a b c : List UInt8} (h1 : Op.bytesLess a b = true) (h2 : Op.bytesLess b c = true) : Op.bytesLess a c = true := by
  refine bl_of (bl_tr a b c (bl_as _ _ h1) (bl_as _ _ h2)) (fun e => ?_)
  subst e
  have := bl_as a b h1
  rw [h2] at this; cases this

section
variable {α : Type} (k : α → List UInt8)
/-- Rising by what k says. -/
def Ri (L : List α) : Prop := L.Pairwise fun a b => Op.bytesLess (k a) (k b) = true
theorem ri_same : ∀ {A B : List α}, Ri k A → Ri k B → (∀ z, z ∈ A ↔ z ∈ B) → A = B
  | [], [], _, _, _ => rfl
  | [], b :: B, _, _, h => by have := (h b).2 (by simp); cases this
  | a :: A, [], _, _, h => by have := (h a).1 (by simp); cases this
  | a :: A, b :: B, hA, hB, h => by
    have pA := List.pairwise_cons.1 hA
    have pB := List.pairwise_cons.1 hB
    have irr : ∀ x y : α, Op.bytesLess (k x) (k y) = true → Op.bytesLess (k y) (k x) = true → False := fun x y h1 h2 => by
      rw [bl_as _ _ h1] at h2; cases h2
    have hab : a = b := by
      rcases List.mem_cons.1 ((h a).1 (by simp)) with h1 | h1
      · exact h1
      · rcases List.mem_cons.1 ((h b).2 (by simp)) with h2 | h2
        · exact h2.symm
        · exact (irr _ _ (pB.1 a h1) (pA.1 b h2)).elim
    subst hab
    have self : Op.bytesLess (k a) (k a) = true → False := fun h => irr _ _ h h
    rw [ri_same pA.2 pB.2 (fun z => ⟨fun hz => ?_, fun hz => ?_⟩)]
    · rcases List.mem_cons.1 ((h z).1 (by simp [hz])) with rfl | h1
      · exact (self (pA.1 _ hz)).elim
      · exact h1
    · rcases List.mem_cons.1 ((h z).2 (by simp [hz])) with rfl | h1
      · exact (self (pB.1 _ hz)).elim
      · exact h1
theorem ri_key {L : List α} (h : Ri k L) : ∀ {x y : α}, x ∈ L → y ∈ L → k x = k y → x = y := by
  induction L with
  | nil => intro x y hx; cases hx
  | cons a L ih =>
    have p := List.pairwise_cons.1 h
    intro x y hx hy e
    rcases List.mem_cons.1 hx with h1 | h1 <;> rcases List.mem_cons.1 hy with h2 | h2
    · rw [h1, h2]
    · rw [h1] at e; exact absurd e (bl_ne (p.1 y h2))
    · rw [h2] at e; exact absurd e.symm (bl_ne (p.1 x h1))
    · exact ih p.2 h1 h2 e
end

def findF (items : List S_api_Item) (n : ByteArray) : S_api_Item × Bool := match items.find? fun x => x.Name.toList == n.toList with | some x => (x, true) | none => (dS_api_Item, false)

theorem jn_to {σ ρ : Type} {k : σ → Option ρ} {b : (σ → Option ρ) → Option ρ} (s : σ) (h : ∀ J, b J = J s) : jn k b = k s := h k

def okByte (b : UInt8) : Bool := decide (33 ≤ b.toNat) && decide (b.toNat ≤ 126)

def goodB (s : ByteArray) : Bool := decide (1 ≤ s.size) && decide (s.size ≤ 64) && s.data.toList.all okByte

theorem any_not_all (l : List UInt8) : l.any (fun b => !okByte b) = !l.all okByte := by
  induction l with
  | nil => rfl
  | cons x l ih => simp [ih, Bool.not_and]

theorem ba_getD (s : ByteArray) (i : Nat) : s.data.getD i 0 = s.data.toList.getD i 0 := by
  rw [Array.getD_eq_getD_getElem?, List.getD_eq_getElem?_getD, Array.getElem?_toList]

theorem m_refgood (F : Nat) (s : ByteArray) (h : s.size ≤ 9223372036854775807) : m_tholeref09_Good F s = some (goodB s) := by
  unfold m_tholeref09_Good
  rw [grd_pos _ (by omega)]
  have hsz : s.size = s.data.toList.length := by rw [Array.length_toList]; rfl
  refine (loopC_congr (st' := fun nx c _ => grd (c < s.data.toList.length) (bif !okByte (s.data.toList.getD c 0) then some false else nx ())) fun nx c u => ?_).trans ?_
  · simp only [jn, ← hsz, ba_getD]
    by_cases hc : c < s.size
    · rw [grd_pos _ hc, grd_pos _ hc]
      unfold okByte
      by_cases h1 : (s.data.toList.getD c 0).toNat < 33
      · have h2 : ¬ 33 ≤ (s.data.toList.getD c 0).toNat := by omega
        rw [show decide ((((s.data.toList.getD c 0).toNat : Nat) : Int) < 33) = true from decide_eq_true (by omega), show decide (33 ≤ (s.data.toList.getD c 0).toNat) = false from decide_eq_false h2]
        rfl
      · rw [show decide ((((s.data.toList.getD c 0).toNat : Nat) : Int) < 33) = false from decide_eq_false (by omega), show decide (33 ≤ (s.data.toList.getD c 0).toNat) = true from decide_eq_true (by omega)]
        by_cases h3 : (s.data.toList.getD c 0).toNat ≤ 126
        · rw [show decide ((((s.data.toList.getD c 0).toNat : Nat) : Int) > 126) = false from decide_eq_false (by omega), show decide ((s.data.toList.getD c 0).toNat ≤ 126) = true from decide_eq_true h3]; rfl
        · rw [show decide ((((s.data.toList.getD c 0).toNat : Nat) : Int) > 126) = true from decide_eq_true (by omega), show decide ((s.data.toList.getD c 0).toNat ≤ 126) = false from decide_eq_false h3]; rfl
    · unfold grd; rw [if_neg hc, if_neg hc]
  · rw [show (((s.size : Nat) : Int) - ((0 : Nat) : Int)).toNat = s.data.toList.length by omega]
    refine (loopC_list (fun b => !okByte b) 0 (some false) _ s.data.toList _ 0 (by omega)).trans ?_
    rw [List.drop_zero, any_not_all]
    unfold goodB
    cases s.data.toList.all okByte with
    | false => simp
    | true =>
      simp only [Bool.not_true, cond_false, Bool.and_true]
      by_cases h1 : s.size = 0
      · simp [h1]
      · by_cases h2 : s.size ≤ 64
        · rw [show decide (((s.size : Nat) : Int) ≥ 1) = true from decide_eq_true (by omega), show decide (((s.size : Nat) : Int) ≤ 64) = true from decide_eq_true (by omega), show decide (1 ≤ s.size) = true from decide_eq_true (by omega), show decide (s.size ≤ 64) = true from decide_eq_true h2]; rfl
        · rw [show decide (((s.size : Nat) : Int) ≥ 1) = true from decide_eq_true (by omega), show decide (((s.size : Nat) : Int) ≤ 64) = false from decide_eq_false (by omega), show decide (s.size ≤ 64) = false from decide_eq_false h2]; simp

theorem m_find (F : Nat) (s : Stt) (n : ByteArray) (h : s.items.length ≤ 33554432) : m_pglog_Find F s.les s.tail s.log s.lasts s.items n = some (findF s.items n) := by
  unfold m_pglog_Find findF
  rw [grd_pos _ (Len.of (by omega))]
  refine (Sx.loop_find (fun x : Itm => x.Name.toList == n.toList) (fun x => some (x, true)) _ s.items 0).trans ?_
  cases s.items.find? fun x => x.Name.toList == n.toList <;> rfl

def kI (x : Itm) : List UInt8 := x.Name.toList

def kN (x : ByteArray) : List UInt8 := x.toList

theorem findF_yes {l : List Itm} {n : ByteArray} (h : (findF l n).2 = true) : (findF l n).1 ∈ l ∧ (findF l n).1.Name = n := by
  unfold findF at h ⊢
  cases hf : l.find? fun x => x.Name.toList == n.toList with
  | none => rw [hf] at h; cases h
  | some x =>
    have h1 := List.find?_some hf
    exact ⟨List.mem_of_find?_eq_some hf, (str_tl _ _).1 h1⟩

theorem findF_no {l : List Itm} {n : ByteArray} (h : (findF l n).2 = false) : ∀ x ∈ l, x.Name ≠ n := by
  unfold findF at h
  cases hf : l.find? fun x => x.Name.toList == n.toList with
  | some x => rw [hf] at h; cases h
  | none =>
    intro x hx e
    have := List.find?_eq_none.1 hf x hx
    exact this ((str_tl _ _).2 e)

theorem findF_mem {l : List Itm} (h : Ri kI l) {x : Itm} (hx : x ∈ l) : findF l x.Name = (x, true) := by
  cases h2 : (findF l x.Name).2 with
  | false => exact absurd rfl (findF_no h2 x hx)
  | true =>
    obtain ⟨h3, h4⟩ := findF_yes h2
    have : (findF l x.Name).1 = x := ri_key kI h h3 hx (by unfold kI; rw [h4])
    exact Prod.ext this h2

theorem ri_flat {α β : Type} (k : α → List UInt8) (k' : β → List UInt8) (f : α → List β) (h1 : ∀ x z, z ∈ f x → k' z = k x) (h2 : ∀ x, (f x).length ≤ 1) : ∀ T : List α, Ri k T → Ri k' (T.flatMap f)
  | [], _ => List.Pairwise.nil
  | x :: T, h => by
    have p := List.pairwise_cons.1 h
    rw [List.flatMap_cons]
    refine List.pairwise_append.2 ⟨?_, ri_flat k k' f h1 h2 T p.2, fun a ha b hb => ?_⟩
    · have := h2 x
      match f x, this with
      | [], _ => exact List.Pairwise.nil
      | [a], _ => exact List.pairwise_singleton _ _
    · obtain ⟨y, hy, hb⟩ := List.mem_flatMap.1 hb
      rw [h1 x a ha, h1 y b hb]
      exact p.1 y hy

theorem loop_gather {α β ρ : Type} (f : α → List β) (hf1 : ∀ x, (f x).length ≤ 1) (st : (List β → Option ρ) → Nat → α → List β → Option ρ) (fin : Nat → List β → Option ρ) (R : List β → Option ρ) (I : List β → List α → Prop)
    (hI : ∀ acc x l, I acc (x :: l) → I (acc ++ f x) l) (hs : ∀ nx c x l acc, acc.length ≤ 5000 → I acc (x :: l) → st nx c x acc = nx (acc ++ f x)) (hf : ∀ c acc, fin c acc = R acc) :
    ∀ (l : List α) (c : Nat) (acc : List β), acc.length + l.length ≤ 5000 → I acc l → loopL st fin l c acc = R (acc ++ l.flatMap f)
  | [], c, acc, _, _ => by rw [loopL, hf, List.flatMap_nil, List.append_nil]
  | x :: l, c, acc, h, hi => by
    rw [List.length_cons] at h
    have := hf1 x
    rw [loopL, hs _ _ _ l _ (by omega) hi, loop_gather f hf1 st fin R I hI hs hf l (c + 1) _ (by rw [List.length_append]; omega) (hI _ _ _ hi), List.flatMap_cons, List.append_assoc]

theorem bif_len {α : Type} (b : Bool) (x : α) : (bif b then [x] else []).length ≤ 1 := by cases b <;> simp

theorem mem_bif {α : Type} {b : Bool} {x n : α} : n ∈ (bif b then [x] else []) ↔ b = true ∧ n = x := by cases b <;> simp

def pPull (own : List Itm) (w : Itm) : List Itm := bif !(findF own w.Name).2 || !(S_api_Item.beq (findF own w.Name).1 w) then [w] else []

def pDrop (want : List Itm) (x : Itm) : List ByteArray := bif !(findF want x.Name).2 then [x.Name] else []

theorem ri_isort {L : List Itm} (h : Ri kI L) : isort ltI L = L := by
  refine isort_strict L (h.imp fun {a b} hab => ?_) (h.imp fun {a b} hab e => ?_)
  · rw [ltI_is, ← ByteArray.toList_eq, ← ByteArray.toList_eq]; exact hab
  · unfold kI at hab; rw [e] at hab; exact bl_ne hab rfl

theorem m_plan2 (F : Nat) (hF : 2900 ≤ F) (a b : Stt) (ha : a.items.length ≤ 900) (hb : b.items.length ≤ 900) (hra : Ri kI a.items) (hrb : Ri kI b.items) :
    m_backfill_Plan F a.les a.tail a.log a.lasts a.items b.les b.tail b.log b.lasts b.items = some (b.items.flatMap (pPull a.items), a.items.flatMap (pDrop b.items)) := by
  simp only [m_backfill_Plan]
  rw [m_byName F b.items (by omega) (by omega), Option.bind_some, ri_isort hrb, grd_pos _ (by unfold Len; omega)]
  refine loop_gather (pPull a.items) (fun x => bif_len _ _) _ _ (fun p => some (p, a.items.flatMap (pDrop b.items))) (fun _ _ => True) (fun _ _ _ _ => trivial) (fun nx c x l acc hc _ => ?_) (fun c p => ?_) b.items 0 [] (by simp; omega) trivial
  · rw [m_find F a x.Name (by omega), Option.bind_some]
    unfold pPull
    simp only [jn]
    cases (findF a.items x.Name).2 <;> cases S_api_Item.beq (findF a.items x.Name).1 x <;> simp only [Bool.not_true, Bool.not_false, cond_true, cond_false, Bool.true_and, Bool.false_and, Bool.or_true, Bool.or_false, Bool.true_or, Bool.false_or, List.append_nil] <;> (repeat rw [grd_pos _ (by unfold App; simp only [List.length_cons, List.length_nil]; omega)])
  · rw [m_byName F a.items (by omega) (by omega), Option.bind_some, ri_isort hra, grd_pos _ (by unfold Len; omega)]
    refine loop_gather (pDrop b.items) (fun x => bif_len _ _) _ _ (fun q => some (p, q)) (fun acc l => Ri kI l ∧ ∀ n ∈ acc, ∀ x ∈ l, kN n ≠ kI x) (fun acc x l hi => ?_) (fun nx c x l acc hc hi => ?_) (fun c q => rfl) a.items 0 [] (by simp; omega) ⟨hra, fun n hn => by cases hn⟩
    · have q := List.pairwise_cons.1 hi.1
      refine ⟨q.2, fun n hn y hy => ?_⟩
      rcases List.mem_append.1 hn with h | h
      · exact hi.2 n h y (List.mem_cons_of_mem _ hy)
      · have h := (mem_bif.1 h).2
        subst h; exact bl_ne (q.1 y hy)
    · rw [m_find F b x.Name (by omega), Option.bind_some]
      unfold pDrop
      simp only [jn]
      cases (findF b.items x.Name).2 with
      | true => simp only [Bool.not_true, cond_false, List.append_nil]
      | false =>
        simp only [Bool.not_false, cond_true]
        by_cases h0 : acc = []
        · subst h0
          rw [show (((([] : List ByteArray).length : Nat) : Int) == 0) = true from rfl, cond_true, grd_pos _ (by unfold App; simp only [List.length_cons, List.length_nil]; omega)]
        · have hp : 0 < acc.length := List.length_pos_iff.2 h0
          rw [show (((acc.length : Nat) : Int) == 0) = false by rw [beq_eq_false_iff_ne]; omega, cond_false, grd_pos _ (by unfold I64; omega), grd_pos _ (by unfold Ix; omega), show Int.toNat (((acc.length : Nat) : Int) - 1) = acc.length - 1 by omega]
          have hm : acc.getD (acc.length - 1) (ByteArray.mk #[]) ∈ acc := by
            rw [List.getD, List.getElem?_eq_getElem (by omega), Option.getD_some]; exact List.getElem_mem _
          have hne : ((acc.getD (acc.length - 1) (ByteArray.mk #[])).toList == x.Name.toList) = false := by
            rw [beq_eq_false_iff_ne]; exact hi.2 _ hm x (by simp)
          rw [hne, Bool.not_false, cond_true, grd_pos _ (by unfold App; simp only [List.length_cons, List.length_nil]; omega)]

end Go.Proofs.Yticlccnajfjdeaa
