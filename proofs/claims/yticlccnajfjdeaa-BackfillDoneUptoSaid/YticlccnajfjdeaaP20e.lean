/-
  CHAPTER 20: plain facts on the models: what items make of others fetched and dropped; the law.
-/
import Derived.Test.YticlccnajfjdeaaP20d
set_option linter.unusedVariables false
set_option linter.unusedSimpArgs false
set_option maxRecDepth 100000
namespace Go.Proofs.Yticlccnajfjdeaa
open Go Go.RowKit Sx

theorem awake20 : m_tholelaw20_awake 3000 = some true := by kernel_rfl

theorem loop_same {α β ρ : Type} (f : α → β) (l2 : List β) (d : β) (st : (Unit → Option ρ) → Nat → α → Unit → Option ρ) (fin : Nat → Unit → Option ρ) (r : Option ρ)
    (hs : ∀ nx c x, c < l2.length → l2.getD c d = f x → st nx c x () = nx ()) (hf : ∀ c, fin c () = r) :
    ∀ (l : List α) (c : Nat), l2.drop c = l.map f → loopL st fin l c () = r
  | [], c, h => by rw [loopL, hf]
  | x :: l, c, h => by
    have hc : c < l2.length := by
      by_cases hc : c < l2.length
      · exact hc
      · rw [List.drop_eq_nil_of_le (by omega)] at h; simp at h
    rw [List.drop_eq_getElem_cons hc, List.map_cons] at h
    rw [loopL, hs _ _ _ hc (by rw [List.getD, List.getElem?_eq_getElem hc]; exact (List.cons.inj h).1)]
    exact loop_same f l2 d st fin r hs hf l (c + 1) (List.cons.inj h).2

theorem m_items_self (F : Nat) (l : List Itm) (h : l.length ≤ 1000000) : m_tholelaw20_items F l l = some true := by
  simp only [m_tholelaw20_items]
  rw [show (((l.length : Nat) : Int) != ((l.length : Nat) : Int)) = false by simp, cond_false, grd_pos _ (by unfold Len; omega)]
  refine loop_same id l dS_api_Item _ _ _ (fun nx c x hc hx => ?_) (fun c => rfl) l 0 (by simp)
  rw [grd_pos _ hc, hx, show S_api_Item.beq x (id x) = true from (S_api_Item.beq_iff x x).2 rfl]
  rfl

/-! ### The reference's plan: it is there -/
theorem m_has (F : Nat) (l : List Itm) (n : ByteArray) (h : l.length ≤ 1000000) : ∃ r, m_tholeref20_has F l n = some r := by
  simp only [m_tholeref20_has]
  rw [grd_pos _ (by unfold Len; omega)]
  rw [Sx.loop_find (fun x : Itm => x.Name.toList == n.toList)]
  split <;> exact ⟨_, rfl⟩

theorem m_put (F : Nat) (l : List ByteArray) (x : ByteArray) (h : l.length ≤ 100000) : ∃ r, m_tholeref14_Put F l x = some r ∧ r.length ≤ l.length + 1 := by
  simp only [m_tholeref14_Put]
  rw [grd_pos _ (by unfold Len; omega)]
  have A16 : ∀ {n : Nat}, n ≤ 1000000 → App n 16 := fun h => by unfold App; omega
  have key : ∀ (l : List ByteArray) (c : Nat) (d : Bool) (acc : List ByteArray), acc.length + l.length + (bif d then 0 else 1) ≤ 200000 →
      ∃ r : List ByteArray, loopL (fun (nx91 : Bool × List ByteArray → Option (List ByteArray)) (v11_1 : Nat) (x60 : ByteArray) (s109 : Bool × List ByteArray) => jn (fun (v21_3 : Bool) => jn (fun (s108 : Bool × List ByteArray) => (bif !(x60.toList == x.toList) then grd (App (s108.2.length + [x60].length) 16) (nx91 (s108.1, (s108.2 ++ [x60]))) else nx91 (s108.1, s108.2))) (fun (J73 : Bool × List ByteArray → Option (List ByteArray)) => (bif v21_3 then grd (App (s109.2.length + [x].length) 16) (J73 (true, (s109.2 ++ [x]))) else J73 (s109.1, s109.2)))) (fun (J66 : Bool → Option (List ByteArray)) => (bif !s109.1 then J66 (!(Op.bytesLess x60.toList x.toList)) else J66 false))) (fun (v11_1 : Nat) (s110 : Bool × List ByteArray) => (bif !s110.1 then grd (App (s110.2.length + [x].length) 16) (some (s110.2 ++ [x])) else some s110.2)) l c (d, acc) = some r ∧ r.length ≤ acc.length + l.length + (bif d then 0 else 1) := by
    intro l
    induction l with
    | nil =>
      intro c d acc h
      rw [loopL]
      cases d with
      | true => exact ⟨acc, rfl, by simp⟩
      | false => exact ⟨acc ++ [x], by simp only [Bool.not_false, cond_true]; rw [grd_pos _ (A16 (by simp at h ⊢; omega))], by simp⟩
    | cons y l ih =>
      intro c d acc h
      rw [List.length_cons] at h
      rw [loopL]
      simp only [jn]
      cases d with
      | true =>
        simp only [cond_true] at h
        simp only [Bool.not_true, cond_false]
        cases (y.toList == x.toList) with
        | true => obtain ⟨r, e, hr⟩ := ih (c + 1) true acc (by simp; omega); exact ⟨r, e, by simp at hr ⊢; omega⟩
        | false =>
          obtain ⟨r, e, hr⟩ := ih (c + 1) true (acc ++ [y]) (by simp; omega)
          exact ⟨r, by simp only [Bool.not_false, cond_true]; rw [grd_pos _ (A16 (by simp; omega))]; exact e, by simp at hr ⊢; omega⟩
      | false =>
        simp only [cond_false] at h
        simp only [Bool.not_false, cond_true]
        cases Op.bytesLess y.toList x.toList with
        | true =>
          simp only [Bool.not_true, cond_false]
          cases (y.toList == x.toList) with
          | true => obtain ⟨r, e, hr⟩ := ih (c + 1) false acc (by simp; omega); exact ⟨r, e, by simp at hr ⊢; omega⟩
          | false =>
            obtain ⟨r, e, hr⟩ := ih (c + 1) false (acc ++ [y]) (by simp; omega)
            exact ⟨r, by simp only [Bool.not_false, cond_true]; rw [grd_pos _ (A16 (by simp; omega))]; exact e, by simp at hr ⊢; omega⟩
        | false =>
          simp only [Bool.not_false, cond_true]
          rw [grd_pos _ (A16 (by simp; omega))]
          cases (y.toList == x.toList) with
          | true => obtain ⟨r, e, hr⟩ := ih (c + 1) true (acc ++ [x]) (by simp; omega); exact ⟨r, e, by simp at hr ⊢; omega⟩
          | false =>
            obtain ⟨r, e, hr⟩ := ih (c + 1) true ((acc ++ [x]) ++ [y]) (by simp; omega)
            exact ⟨r, by simp only [Bool.not_false, cond_true]; rw [grd_pos _ (A16 (by simp; omega))]; exact e, by simp at hr ⊢; omega⟩
  obtain ⟨r, e, hr⟩ := key l 0 false [] (by simp; omega)
  exact ⟨r, e, by simpa using hr⟩

theorem loop_some {α σ ρ : Type} (P : Nat → σ → Prop) (Q : ρ → Prop) (N : Nat) (st : (σ → Option ρ) → Nat → α → σ → Option ρ) (fin : Nat → σ → Option ρ)
    (hs : ∀ nx c x s, c < N → P c s → ∃ s', P (c + 1) s' ∧ st nx c x s = nx s') (hf : ∀ c s, c ≤ N → P c s → ∃ r, fin c s = some r ∧ Q r) :
    ∀ (l : List α) (c : Nat) (s : σ), c + l.length = N → P c s → ∃ r, loopL st fin l c s = some r ∧ Q r
  | [], c, s, h, hp => by rw [loopL]; exact hf c s (by simp at h; omega) hp
  | x :: l, c, s, h, hp => by
    rw [List.length_cons] at h
    obtain ⟨s', h1, e⟩ := hs (fun s' => loopL st fin l (c + 1) s') c x s (by omega) hp
    rw [loopL, e]
    exact loop_some P Q N st fin hs hf l (c + 1) s' (by omega) h1

theorem m_plan (F : Nat) (l1 : Int) (t1 : S_api_Version) (g1 : List S_api_Entry) (s1 : List S_api_Last) (own : List Itm) (l2 : Int) (t2 : S_api_Version) (g2 : List S_api_Entry) (s2 : List S_api_Last) (want : List Itm)
    (h : own.length + want.length ≤ 400) (hF : 2000 < F) : ∃ r, m_tholeref20_Plan F l1 t1 g1 s1 own l2 t2 g2 s2 want = some r ∧ (r.1.length ≤ want.length ∧ r.2.length ≤ own.length) := by
  simp only [m_tholeref20_Plan]
  rw [m_sorted F want (by omega) (by omega), Option.bind_some, grd_pos _ (by unfold Len; rw [isort_len]; omega)]
  refine loop_some (fun c (s : List Itm) => s.length ≤ c) _ want.length _ _ (fun nx c x s hc hp => ?_) (fun c s hc hp => ?_) (isort ltI want) 0 [] (by rw [isort_len]; simp) (by simp)
  · obtain ⟨y, ey⟩ := m_has F own x.Name (by omega)
    rw [ey]
    simp only [Option.bind_some, jn]
    have A : ∀ b : Bool, ∃ s', s'.length ≤ c + 1 ∧ (bif b then grd (App (s.length + [x].length) 40) (nx (s ++ [x])) else nx s) = nx s' := fun b => by
      cases b with
      | true => exact ⟨s ++ [x], by simp; omega, by rw [cond_true, grd_pos _ (App40' (by simp; omega))]⟩
      | false => exact ⟨s, by omega, rfl⟩
    cases y.2 with
    | false => exact A true
    | true =>
      simp only [Bool.not_true, cond_false]
      cases S_api_Version.beq y.1.Version x.Version with
      | false => exact A true
      | true => exact A _
  · rw [grd_pos _ (by unfold Len; omega)]
    refine loop_some (fun c (s : List ByteArray) => s.length ≤ c) _ own.length _ _ (fun nx c x s2 hc hp => ?_) (fun c s2 hc2 hp2 => ⟨_, rfl, by show s.length ≤ _; omega, by show s2.length ≤ _; omega⟩) own 0 [] (by simp) (by simp)
    obtain ⟨y, ey⟩ := m_has F want x.Name (by omega)
    rw [ey, Option.bind_some]
    cases y.2 with
    | false =>
      obtain ⟨r, er, hr⟩ := m_put F s2 x.Name (by omega)
      exact ⟨r, by omega, by simp only [Bool.not_false, cond_true]; rw [er, Option.bind_some]⟩
    | true => exact ⟨s2, by omega, rfl⟩

/-! ### Apply -/
def sameN (a b : Itm) : Bool := a.Name.toList == b.Name.toList
theorem sameN_iff {a b : Itm} : sameN a b = true ↔ a.Name = b.Name := str_tl _ _
/-- An item takes the place of the first one of its name, or stands behind all. -/
def addF (l : List Itm) (x : Itm) : List Itm :=
  match l with
  | [] => [x]
  | y :: l => if sameN y x = true then x :: l else y :: addF l x

theorem m_index (F : Nat) (x : Itm) : ∀ (l : List Itm) (c : Nat), ∃ r : Int, loopL (fun (nx38 : Unit → Option (Int)) (v8_1 : Nat) (x26 : S_api_Item) (_ : Unit) => (m_backfill_Apply_1_1 F x26 x).bind (fun y31 => (bif y31 then some ((v8_1 : Nat) : Int) else nx38 ()))) (fun (v8_1 : Nat) (_ : Unit) => some (-1)) l c () = some r ∧
    ((r = -1 ∧ addF l x = l ++ [x]) ∨ ∃ k, k < l.length ∧ r = ((c + k : Nat) : Int) ∧ addF l x = l.set k x)
  | [], c => ⟨-1, rfl, .inl ⟨rfl, rfl⟩⟩
  | y :: l, c => by
    obtain ⟨r, er, hr⟩ := m_index F x l (c + 1)
    rw [loopL]
    dsimp only
    rw [er]
    simp only [m_backfill_Apply_1_1, Option.bind_some]
    cases hy : (y.Name.toList == x.Name.toList) with
    | true =>
      refine ⟨_, rfl, .inr ⟨0, by simp, by simp, ?_⟩⟩
      rw [addF, if_pos (show sameN y x = true from hy)]; rfl
    | false =>
      refine ⟨r, rfl, ?_⟩
      have ha : addF (y :: l) x = y :: addF l x := by rw [addF, if_neg (by unfold sameN; rw [hy]; simp)]
      rcases hr with ⟨h1, h2⟩ | ⟨k, h1, h2, h3⟩
      · exact .inl ⟨h1, by rw [ha, h2]; rfl⟩
      · exact .inr ⟨k + 1, by simpa using h1, by rw [h2]; omega, by rw [ha, h3]; rfl⟩
theorem addF_len (l : List Itm) (x : Itm) : (addF l x).length ≤ l.length + 1 := by
  induction l with
  | nil => simp [addF]
  | cons y l ih => rw [addF]; split <;> simp; exact ih
theorem m_add (F : Nat) (l : List Itm) (x : Itm) (h : l.length ≤ 100000) : m_backfill_Apply_1 F x l = some (addF l x) := by
  simp only [m_backfill_Apply_1, m_slices_IndexFunc___api_Item_api_Item_]
  rw [grd_pos _ (by unfold Len; omega)]
  obtain ⟨r, er, hr⟩ := m_index F x l 0
  rw [er, Option.bind_some]
  rcases hr with ⟨h1, h2⟩ | ⟨k, h1, h2, h3⟩
  · rw [h1, show decide ((-1 : Int) ≥ 0) = false by decide, cond_false, grd_pos _ (App40' (by simp; omega)), h2]
  · rw [Nat.zero_add] at h2
    rw [h2, decide_eq_true (by omega), cond_true, grd_pos _ (by unfold Ix; omega), Int.toNat_natCast, h3]

theorem m_contains (F : Nat) (l : List ByteArray) (n : ByteArray) (h : l.length ≤ 1000000) : m_slices_Contains___string_string_ F l n = some (l.any fun d => n.toList == d.toList) := by
  simp only [m_slices_Contains___string_string_, m_slices_Index___string_string_]
  rw [grd_pos _ (by unfold Len; omega)]
  have key : ∀ (l : List ByteArray) (c : Nat), ∃ r : Int, loopL (fun (nx32 : Unit → Option (Int)) (v8_1 : Nat) (x22 : ByteArray) (_ : Unit) => (bif n.toList == x22.toList then some ((v8_1 : Nat) : Int) else nx32 ())) (fun (v8_1 : Nat) (_ : Unit) => some (-1)) l c () = some r ∧ decide (r ≥ 0) = l.any fun d => n.toList == d.toList := by
    intro l
    induction l with
    | nil => intro c; exact ⟨-1, rfl, rfl⟩
    | cons d l ih =>
      intro c
      obtain ⟨r, er, hr⟩ := ih (c + 1)
      rw [loopL]
      dsimp only
      rw [er, List.any_cons]
      cases (n.toList == d.toList) with
      | true => exact ⟨_, rfl, by simp⟩
      | false => exact ⟨r, rfl, by rw [hr]; simp⟩
  obtain ⟨r, er, hr⟩ := key l 0
  rw [er, Option.bind_some, hr]

def nd (drops : List ByteArray) (x : Itm) : Bool := !(drops.any fun d => x.Name.toList == d.toList)

theorem loop_add {ρ : Type} (N : Nat) (p : Itm → Bool) (st : (List Itm → Option ρ) → Nat → Itm → List Itm → Option ρ) (fin : Nat → List Itm → Option ρ) (R : List Itm → Option ρ)
    (hs : ∀ nx c x acc, acc.length < N → st nx c x acc = if p x = true then nx (addF acc x) else nx acc) (hf : ∀ c acc, acc.length ≤ N → fin c acc = R acc) :
    ∀ (l : List Itm) (c : Nat) (acc : List Itm), acc.length + l.length ≤ N → loopL st fin l c acc = R ((l.filter p).foldl addF acc)
  | [], c, acc, h => by rw [loopL, hf _ _ (by simpa using h)]; rfl
  | x :: l, c, acc, h => by
    rw [List.length_cons] at h
    have := addF_len acc x
    rw [loopL, hs _ _ _ _ (by omega), List.filter_cons]
    split
    · exact loop_add N p st fin R hs hf l (c + 1) _ (by omega)
    · exact loop_add N p st fin R hs hf l (c + 1) _ (by omega)
theorem foldl_add_len (l : List Itm) : ∀ acc : List Itm, (l.foldl addF acc).length ≤ acc.length + l.length := by
  induction l with
  | nil => intro acc; simp
  | cons x l ih => intro acc; have := ih (addF acc x); have := addF_len acc x; simp at *; omega

theorem m_apply (F : Nat) (items pulled : List Itm) (drops : List ByteArray) (h1 : items.length ≤ 400) (h2 : pulled.length ≤ 400) (h3 : drops.length ≤ 400) (hF : 2000 < F) :
    m_backfill_Apply F items pulled drops = some (isort ltI ((items.filter (nd drops) ++ pulled).foldl addF [])) := by
  simp only [m_backfill_Apply]
  rw [grd_pos _ (by unfold Len; omega)]
  have f1 := List.length_filter_le (nd drops) items
  refine (loop_add 400 (nd drops) _ _ (fun acc => some (isort ltI (pulled.foldl addF acc))) (fun nx c x acc ha => ?_) (fun c acc ha => ?_) items 0 [] (by simp; omega)).trans (by rw [← List.foldl_append])
  · rw [m_contains F drops x.Name (by omega), Option.bind_some]
    show _ = if nd drops x = true then _ else _
    unfold nd
    cases (drops.any fun d => x.Name.toList == d.toList) with
    | true => rfl
    | false =>
      simp only [Bool.not_false, cond_true, if_true]
      rw [m_add F acc x (by omega), Option.bind_some]
  · rw [grd_pos _ (by unfold Len; omega)]
    refine (loop_add 800 (fun _ => true) _ _ (fun acc => some (isort ltI acc)) (fun nx c x acc ha => ?_) (fun c acc ha => ?_) pulled 0 acc (by omega)).trans (by rw [List.filter_eq_self.2 (by simp)])
    · rw [m_add F acc x (by omega), Option.bind_some]; rfl
    · rw [m_byName F acc (by omega) (by omega)]; rfl

/-! ### The same, by definition -/
/-- Those behind which none of their name stands. -/
def lastOnly : List Itm → List Itm
  | [] => []
  | x :: r => if (r.all fun y => !sameN y x) = true then x :: lastOnly r else lastOnly r
abbrev Apart (L : List Itm) : Prop := L.Pairwise fun a b => a.Name ≠ b.Name

theorem lastOnly_sub : ∀ (l : List Itm) (x : Itm), x ∈ lastOnly l → x ∈ l
  | [], x, h => h
  | y :: r, x, h => by
    rw [lastOnly] at h
    split at h
    · rcases List.mem_cons.1 h with rfl | h
      · simp
      · simp [lastOnly_sub r x h]
    · simp [lastOnly_sub r x h]
theorem lastOnly_apart : ∀ l : List Itm, Apart (lastOnly l)
  | [] => List.Pairwise.nil
  | x :: r => by
    rw [lastOnly]
    split
    · next h =>
      refine List.pairwise_cons.2 ⟨fun y hy e => ?_, lastOnly_apart r⟩
      have := List.all_eq_true.1 h y (lastOnly_sub r y hy)
      rw [show sameN y x = true from sameN_iff.2 e.symm] at this
      cases this
    · exact lastOnly_apart r
theorem mem_lastOnly_snoc (y z : Itm) : ∀ l : List Itm, z ∈ lastOnly (l ++ [y]) ↔ z = y ∨ (z ∈ lastOnly l ∧ z.Name ≠ y.Name)
  | [] => by simp [lastOnly]
  | x :: l => by
    have ih := mem_lastOnly_snoc y z l
    rw [List.cons_append, lastOnly, lastOnly, List.all_append]
    by_cases hx : sameN y x = true
    · have e : ([y].all fun q => !sameN q x) = false := by simp [hx]
      rw [e, Bool.and_false, if_neg (by simp), ih]
      split
      · constructor
        · rintro (h | ⟨h, g⟩)
          · exact .inl h
          · exact .inr ⟨by simp [h], g⟩
        · rintro (h | ⟨h, g⟩)
          · exact .inl h
          · rcases List.mem_cons.1 h with rfl | h
            · exact absurd (sameN_iff.1 hx).symm g
            · exact .inr ⟨h, g⟩
      · rfl
    · have e : ([y].all fun q => !sameN q x) = true := by simp [hx]
      rw [e, Bool.and_true]
      split
      · rw [List.mem_cons, List.mem_cons, ih]
        have hne : x.Name ≠ y.Name := fun q => hx (sameN_iff.2 q.symm)
        constructor
        · rintro (rfl | h | ⟨h, g⟩)
          · exact .inr ⟨.inl rfl, hne⟩
          · exact .inl h
          · exact .inr ⟨.inr h, g⟩
        · rintro (h | ⟨h | h, g⟩)
          · exact .inr (.inl h)
          · exact .inl h
          · exact .inr (.inr ⟨h, g⟩)
      · exact ih

theorem mem_addF (x z : Itm) : ∀ l : List Itm, Apart l → (z ∈ addF l x ↔ z = x ∨ (z ∈ l ∧ z.Name ≠ x.Name))
  | [], _ => by simp [addF]
  | y :: l, h => by
    have hp := List.pairwise_cons.1 h
    rw [addF]
    split
    · next hy =>
      have hy := sameN_iff.1 hy
      rw [List.mem_cons, List.mem_cons]
      constructor
      · rintro (h | h)
        · exact .inl h
        · exact .inr ⟨.inr h, fun e => hp.1 z h (hy.trans e.symm)⟩
      · rintro (h | ⟨rfl | h, g⟩)
        · exact .inl h
        · exact absurd hy g
        · exact .inr h
    · next hy =>
      have hy : y.Name ≠ x.Name := fun e => hy (sameN_iff.2 e)
      rw [List.mem_cons, List.mem_cons, mem_addF x z l hp.2]
      constructor
      · rintro (rfl | h | ⟨h, g⟩)
        · exact .inr ⟨.inl rfl, hy⟩
        · exact .inl h
        · exact .inr ⟨.inr h, g⟩
      · rintro (h | ⟨h | h, g⟩)
        · exact .inr (.inl h)
        · exact .inl h
        · exact .inr (.inr ⟨h, g⟩)
theorem addF_apart (x : Itm) : ∀ l : List Itm, Apart l → Apart (addF l x)
  | [], _ => by simp [addF]
  | y :: l, h => by
    have hp := List.pairwise_cons.1 h
    rw [addF]
    split
    · next hy =>
      have hy := sameN_iff.1 hy
      exact List.pairwise_cons.2 ⟨fun z hz e => hp.1 z hz (hy.trans e), hp.2⟩
    · next hy =>
      have hy : y.Name ≠ x.Name := fun e => hy (sameN_iff.2 e)
      refine List.pairwise_cons.2 ⟨fun z hz => ?_, addF_apart x l hp.2⟩
      rcases (mem_addF x z l hp.2).1 hz with rfl | ⟨h, _⟩
      · exact hy
      · exact hp.1 z h

theorem fold_last : ∀ (n : Nat) (W : List Itm), W.length = n → Apart (W.foldl addF []) ∧ ∀ z, z ∈ W.foldl addF [] ↔ z ∈ lastOnly W
  | 0, W, h => by rw [List.length_eq_zero_iff.1 h]; exact ⟨List.Pairwise.nil, fun z => Iff.rfl⟩
  | n + 1, W, h => by
    obtain ⟨l, y, rfl⟩ := (List.eq_nil_or_concat W).resolve_left (fun e => by rw [e] at h; cases h)
    rw [List.concat_eq_append] at *
    obtain ⟨h1, h2⟩ := fold_last n l (by simpa using h)
    rw [List.foldl_append]
    refine ⟨addF_apart y _ h1, fun z => ?_⟩
    show z ∈ addF (l.foldl addF []) y ↔ _
    rw [mem_addF y z _ h1, mem_lastOnly_snoc, h2]

/-- Two lists of the same items, no two of one name, sorted: the same. -/
theorem insR_apart (x : Itm) (L : List Itm) (hu : Up L) (h : Apart L) (hx : ∀ z ∈ L, x.Name ≠ z.Name) : Apart (insR ltI x L) := by
  obtain ⟨A, B, rfl, h1, h2⟩ := up_split x L hu
  rw [insR_split x A B h1 h2]
  have hp := List.pairwise_append.1 h
  refine List.pairwise_append.2 ⟨hp.1, List.pairwise_cons.2 ⟨fun z hz => hx z (by simp [hz]), hp.2.1⟩, fun a ha b hb => ?_⟩
  rcases List.mem_cons.1 hb with rfl | hb
  · exact fun e => hx a (by simp [ha]) e.symm
  · exact hp.2.2 a ha b hb
theorem isort_apart_names : ∀ (n : Nat) (l : List Itm), l.length = n → Apart l → Apart (isort ltI l)
  | 0, l, h, _ => by rw [List.length_eq_zero_iff.1 h]; exact List.Pairwise.nil
  | n + 1, W, h, ha => by
    obtain ⟨l, y, rfl⟩ := (List.eq_nil_or_concat W).resolve_left (fun e => by rw [e] at h; cases h)
    rw [List.concat_eq_append] at *
    have hp := List.pairwise_append.1 ha
    rw [isort_snoc]
    exact insR_apart y _ (isort_up l) (isort_apart_names n l (by simpa using h) hp.1) (fun z hz => fun e => hp.2.2 z ((mem_isort ltI z l).1 hz) y (by simp) e.symm)

theorem up_strict {L : List Itm} (hu : Up L) (ha : Apart L) : L.Pairwise fun a b => ltI a b = true := by
  refine (hu.and ha).imp ?_
  rintro a b ⟨h1, h2⟩
  rw [ltI_is] at *
  exact lex_total h1 (fun e => h2 (str_tl_inj (by rw [ByteArray.toList_eq, ByteArray.toList_eq]; exact e.symm)))
theorem strict_eq : ∀ (A B : List Itm), (A.Pairwise fun a b => ltI a b = true) → (B.Pairwise fun a b => ltI a b = true) → (∀ z, z ∈ A ↔ z ∈ B) → A = B
  | [], [], _, _, _ => rfl
  | [], b :: B, _, _, h => by have := (h b).2 (by simp); cases this
  | a :: A, [], _, _, h => by have := (h a).1 (by simp); cases this
  | a :: A, b :: B, hA, hB, h => by
    have pA := List.pairwise_cons.1 hA
    have pB := List.pairwise_cons.1 hB
    have irr : ∀ x y : Itm, ltI x y = true → ltI y x = true → False := fun x y h1 h2 => by
      rw [ordI.as _ _ trivial trivial h1] at h2; cases h2
    have hab : a = b := by
      rcases List.mem_cons.1 ((h a).1 (by simp)) with h1 | h1
      · exact h1
      · rcases List.mem_cons.1 ((h b).2 (by simp)) with h2 | h2
        · exact h2.symm
        · exact (irr _ _ (pB.1 a h1) (pA.1 b h2)).elim
    subst hab
    have self : ltI a a = true → False := fun h => irr _ _ h h
    rw [strict_eq A B pA.2 pB.2 (fun z => ⟨fun hz => ?_, fun hz => ?_⟩)]
    · rcases List.mem_cons.1 ((h z).1 (by simp [hz])) with rfl | h1
      · exact (self (pA.1 _ hz)).elim
      · exact h1
    · rcases List.mem_cons.1 ((h z).2 (by simp [hz])) with rfl | h1
      · exact (self (pB.1 _ hz)).elim
      · exact h1
theorem isort_same (A B : List Itm) (hA : Apart A) (hB : Apart B) (h : ∀ z, z ∈ A ↔ z ∈ B) : isort ltI A = isort ltI B :=
  strict_eq _ _ (up_strict (isort_up A) (isort_apart_names _ A rfl hA)) (up_strict (isort_up B) (isort_apart_names _ B rfl hB)) (fun z => by rw [mem_isort, mem_isort]; exact h z)

/-! ### The reference's Apply -/
def keepF (n : Nat) (drops : List ByteArray) : Nat → List Itm → List Itm
  | _, [] => []
  | c, x :: r => if ((r.all fun y => !sameN y x) && drops.all fun d => !(d.toList == x.Name.toList) || decide (n ≤ c)) = true then x :: keepF n drops (c + 1) r else keepF n drops (c + 1) r

theorem keep_late (n : Nat) (drops : List ByteArray) : ∀ (l : List Itm) (c : Nat), n ≤ c → keepF n drops c l = lastOnly l
  | [], c, h => rfl
  | x :: l, c, h => by
    have e : (drops.all fun d => !(d.toList == x.Name.toList) || decide (n ≤ c)) = true := List.all_eq_true.2 fun d _ => by rw [decide_eq_true h]; simp
    rw [keepF, lastOnly, e, Bool.and_true, keep_late n drops l (c + 1) (by omega)]
theorem nd_all (drops : List ByteArray) (x : Itm) (n c : Nat) (h : c < n) : (drops.all fun d => !(d.toList == x.Name.toList) || decide (n ≤ c)) = nd drops x := by
  unfold nd
  rw [List.not_any_eq_all_not]
  congr 1; funext d
  rw [decide_eq_false (by omega), Bool.or_false]
  congr 1
  rw [Bool.eq_iff_iff, beq_iff_eq, beq_iff_eq]; exact eq_comm
theorem nd_same (drops : List ByteArray) {x y : Itm} (h : x.Name = y.Name) : nd drops x = nd drops y := by unfold nd; rw [h]
theorem keep_is (drops : List ByteArray) (P : List Itm) (n : Nat) : ∀ (I : List Itm) (c : Nat), c + I.length = n → keepF n drops c (I ++ P) = lastOnly (I.filter (nd drops) ++ P)
  | [], c, h => by rw [List.nil_append]; exact keep_late n drops P c (by simp at h; omega)
  | x :: I, c, h => by
    rw [List.length_cons] at h
    have ih := keep_is drops P n I (c + 1) (by omega)
    rw [List.cons_append, keepF, nd_all drops x n c (by omega), ih, List.filter_cons]
    cases hx : nd drops x with
    | false => rw [Bool.and_false, if_neg (by simp), if_neg (by simp)]
    | true =>
      rw [Bool.and_true, if_pos rfl, List.cons_append, lastOnly]
      have e : ((I ++ P).all fun y => !sameN y x) = ((I.filter (nd drops) ++ P).all fun y => !sameN y x) := by
        rw [List.all_append, List.all_append]
        congr 1
        rw [Bool.eq_iff_iff, List.all_eq_true, List.all_eq_true]
        refine ⟨fun h y hy => h y (List.mem_filter.1 hy).1, fun h y hy => ?_⟩
        cases hs : sameN y x with
        | false => rfl
        | true =>
          have := h y (List.mem_filter.2 ⟨hy, (nd_same drops (sameN_iff.1 hs)).trans hx⟩)
          rw [hs] at this
          exact this
      rw [e]

theorem keepF_len (n : Nat) (drops : List ByteArray) : ∀ (l : List Itm) (c : Nat), (keepF n drops c l).length ≤ l.length
  | [], c => by simp [keepF]
  | x :: l, c => by
    have := keepF_len n drops l (c + 1)
    rw [keepF]; split <;> simp <;> omega
theorem loop_keep {ρ : Type} (N n : Nat) (drops : List ByteArray) (all : List Itm) (st : (List Itm → Option ρ) → Nat → Itm → List Itm → Option ρ) (fin : Nat → List Itm → Option ρ) (R : List Itm → Option ρ)
    (hs : ∀ nx c x r acc, acc.length < N → all.drop c = x :: r → st nx c x acc = if ((r.all fun y => !sameN y x) && drops.all fun d => !(d.toList == x.Name.toList) || decide (n ≤ c)) = true then nx (acc ++ [x]) else nx acc) (hf : ∀ c acc, fin c acc = R acc) :
    ∀ (l : List Itm) (c : Nat) (acc : List Itm), acc.length + l.length ≤ N → all.drop c = l → loopL st fin l c acc = R (acc ++ keepF n drops c l)
  | [], c, acc, _, _ => by rw [loopL, hf, keepF, List.append_nil]
  | x :: l, c, acc, h, hd => by
    rw [List.length_cons] at h
    rw [loopL, hs _ _ _ _ _ (by omega) hd, keepF]
    split
    · rw [loop_keep N n drops all st fin R hs hf l (c + 1) _ (by simp; omega) (drop_next hd)]; simp
    · rw [loop_keep N n drops all st fin R hs hf l (c + 1) _ (by omega) (drop_next hd)]

theorem loop_and {α ρ : Type} (p : α → Bool) (st : (Bool → Option ρ) → Nat → α → Bool → Option ρ) (fin : Nat → Bool → Option ρ) (R : Bool → Option ρ)
    (hs : ∀ nx c x b, st nx c x b = nx (b && p x)) (hf : ∀ c b, fin c b = R b) : ∀ (l : List α) (c : Nat) (b : Bool), loopL st fin l c b = R (b && l.all p)
  | [], c, b => by rw [loopL, hf]; simp
  | x :: l, c, b => by rw [loopL, hs, loop_and p st fin R hs hf l (c + 1), List.all_cons, Bool.and_assoc]

theorem m_refapply (F : Nat) (items pulled : List Itm) (drops : List ByteArray) (h1 : items.length ≤ 400) (h2 : pulled.length ≤ 400) (h3 : drops.length ≤ 400) (hF : 2000 < F) :
    m_tholeref20_Apply F items pulled drops = some (isort ltI (keepF items.length drops 0 (items ++ pulled))) := by
  simp only [m_tholeref20_Apply, List.nil_append]
  rw [grd_pos _ (App40' (by simp; omega)), grd_pos _ (App40' (by omega)), grd_pos _ (by unfold Len; rw [List.length_append]; omega)]
  have hl : (items ++ pulled).length ≤ 800 := by rw [List.length_append]; omega
  refine (loop_keep 800 items.length drops (items ++ pulled) _ _ (fun acc => (m_tholeref20_sorted F acc).bind fun y648 => some y648) (fun nx c x r acc ha hd => ?_) (fun c acc => rfl) (items ++ pulled) 0 [] (by simpa using hl) (by simp)).trans ?_
  · have hc := drop_lt hd
    have hr := drop_next hd
    have e : ∀ A : List Itm, A = items ++ pulled → ((A.drop (c + 1)).take (A.length - (c + 1))) = r := by
      rintro A rfl
      rw [hr]
      have : r.length = (items ++ pulled).length - (c + 1) := by rw [← hr, List.length_drop]
      rw [← this, List.take_length]
    have hrl : r.length ≤ 800 := by rw [← hr, List.length_drop]; omega
    rw [grd_pos _ (by first | omega | (simp at hc ⊢; omega)), grd_pos _ (by rw [e _ (by simp)]; unfold Len; omega), e _ (by simp)]
    refine (loop_and (fun y => !sameN y x) _ _ (fun b => loopL _ _ drops 0 b) (fun nx' c' y b => ?_) (fun c' b => by rw [grd_pos _ (by unfold Len; omega)]) r 0 true).trans ?_
    · cases b <;> rfl
    · refine (loop_and (fun d => !(d.toList == x.Name.toList) || decide (items.length ≤ c)) _ _ (fun b => bif b then nx (acc ++ [x]) else nx acc) (fun nx' c' d b => ?_) (fun c' b => ?_) drops 0 _).trans ?_
      · cases b with
        | false => rfl
        | true =>
          cases (d.toList == x.Name.toList) with
          | false => rfl
          | true =>
            show nx' (decide (((c : Nat) : Int) ≥ ((items.length : Nat) : Int))) = nx' (true && (false || decide (items.length ≤ c)))
            rw [Bool.true_and, Bool.false_or]
            congr 1
            exact decide_eq_decide.2 (by omega)
      · cases b with
        | false => rfl
        | true => rw [cond_true, grd_pos _ (App40' (by simp; omega))]; rfl
      · rw [Bool.true_and]
        cases ((r.all fun y => !sameN y x) && drops.all fun d => !(d.toList == x.Name.toList) || decide (items.length ≤ c)) <;> rfl
  · rw [List.nil_append]
    have hk := keepF_len items.length drops (items ++ pulled) 0
    rw [m_sorted F _ (by omega) (by omega)]; rfl

theorem apply_same (items pulled : List Itm) (drops : List ByteArray) : isort ltI ((items.filter (nd drops) ++ pulled).foldl addF []) = isort ltI (keepF items.length drops 0 (items ++ pulled)) := by
  rw [keep_is drops pulled items.length items 0 (by omega)]
  obtain ⟨h1, h2⟩ := fold_last _ (items.filter (nd drops) ++ pulled) rfl
  exact isort_same _ _ h1 (lastOnly_apart _) h2

theorem law_done (l1 : Int) (t1 : S_api_Version) (g1 : List S_api_Entry) (s1 : List S_api_Last) (own : List Itm) (l2 : Int) (t2 : S_api_Version) (g2 : List S_api_Entry) (s2 : List S_api_Last) (want : List Itm) (w : ByteArray)
    (h1 : own.length ≤ 1048576) (h2 : want.length ≤ 1048576) : m_tholelaw20_BackfillDone 3000 l1 t1 g1 s1 own l2 t2 g2 s2 want w = some true := by
  simp only [m_tholelaw20_BackfillDone, m_tholelaw20_far]
  rw [grd_pos _ (by unfold I64; omega), Option.bind_some]
  by_cases h : own.length + want.length ≤ 400
  · rw [decide_eq_false (by omega), cond_false]
    obtain ⟨r, er, r1, r2⟩ := m_plan 3000 l1 t1 g1 s1 own l2 t2 g2 s2 want h (by omega)
    have hd : (doneF own want w).length ≤ 1000000 := by
      have f1 := List.length_filter_le (upTo w) want
      have f2 := List.length_filter_le (fun x => !upTo w x) own
      unfold doneF
      rw [isort_len, List.length_append]; omega
    have hk := fun (P : List Itm) (D : List ByteArray) => keepF_len own.length D (own ++ P) 0
    have k1 := hk r.1 r.2
    have k2 := hk want r.2
    rw [List.length_append] at k1 k2
    rw [er, Option.bind_some, m_done _ _ _ _ _ _ _ _ _ _ _ _ h (by omega), Option.bind_some, m_refdone _ _ _ _ _ _ _ _ _ _ _ _ h (by omega), Option.bind_some, m_items_self _ _ hd, Option.bind_some, cond_true]
    rw [m_apply _ _ _ _ (by omega) (by omega) (by omega) (by omega), Option.bind_some, m_refapply _ _ _ _ (by omega) (by omega) (by omega) (by omega), Option.bind_some, apply_same, m_items_self _ _ (by rw [isort_len]; omega), Option.bind_some, cond_true]
    rw [m_apply _ _ _ _ (by omega) (by omega) (by omega) (by omega), Option.bind_some, m_refapply _ _ _ _ (by omega) (by omega) (by omega) (by omega), Option.bind_some, apply_same, m_items_self _ _ (by rw [isort_len]; omega), Option.bind_some, cond_true]
    rw [awake20, Option.bind_some]
  · rw [decide_eq_true (by omega), cond_true, awake20, Option.bind_some]

end Go.Proofs.Yticlccnajfjdeaa
