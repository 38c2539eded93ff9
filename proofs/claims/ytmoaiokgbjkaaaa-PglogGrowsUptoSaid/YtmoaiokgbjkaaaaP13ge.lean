/-
  CHAPTER 13, PglogGrows: plain facts: what a put makes of a rising list, and of pairs.
-/
import Derived.Test.YtmoaiokgbjkaaaaP13gd
set_option linter.unusedVariables false
set_option linter.unusedSimpArgs false
set_option maxRecDepth 100000
namespace Go.Proofs.Ytmoaiokgbjkaaaa
open Go Go.RowKit Sx

section
variable {α κ : Type} (o : KOrd κ) (k : α → κ)

theorem KOrd.eq_ff {a b : κ} (h : o.eq a b = false) : a ≠ b := fun e => by rw [(o.eqi a b).2 e] at h; cases h

theorem mem_putT (it : α) : ∀ (l : List α) (z : α), z ∈ putG o k it true l ↔ z ∈ l ∧ k z ≠ k it
  | [], z => by simp [putG]
  | x :: r, z => by
    rw [putG, Bool.true_or, List.mem_append, mem_putT it r z, List.mem_cons]
    cases hx : o.eq (k x) (k it) with
    | true =>
      have : k x = k it := (o.eqi _ _).1 hx
      simp only [Bool.not_true, Bool.false_and, cond_false, cond_true, List.nil_append, List.not_mem_nil, false_or]
      constructor
      · exact fun h => ⟨.inr h.1, h.2⟩
      · rintro ⟨rfl | h, h2⟩
        · exact absurd this h2
        · exact ⟨h, h2⟩
    | false =>
      have := o.eq_ff hx
      simp only [Bool.not_true, Bool.false_and, cond_false, List.nil_append, List.mem_singleton]
      constructor
      · rintro (rfl | h)
        · exact ⟨.inl rfl, this⟩
        · exact ⟨.inr h.1, h.2⟩
      · rintro ⟨rfl | h, h2⟩
        · exact .inl rfl
        · exact .inr ⟨h, h2⟩

theorem mem_putF (it : α) : ∀ (l : List α) (z : α), z ∈ putG o k it false l ↔ z = it ∨ (z ∈ l ∧ k z ≠ k it)
  | [], z => by simp [putG]
  | x :: r, z => by
    rw [putG]
    cases hl : o.lt (k x) (k it) with
    | true =>
      have hne := o.lt_ne hl
      rw [o.eq_f hne]
      simp only [Bool.not_true, Bool.and_false, cond_false, List.nil_append, Bool.or_false, List.singleton_append, List.mem_cons]
      rw [mem_putF it r z]
      constructor
      · rintro (rfl | rfl | h)
        · exact .inr ⟨.inl rfl, hne⟩
        · exact .inl rfl
        · exact .inr ⟨.inr h.1, h.2⟩
      · rintro (rfl | ⟨rfl | h, h2⟩)
        · exact .inr (.inl rfl)
        · exact .inl rfl
        · exact .inr (.inr ⟨h, h2⟩)
    | false =>
      simp only [Bool.not_false, Bool.and_true, Bool.or_true, cond_true]
      rw [List.mem_append, List.mem_append, mem_putT o k it r z, List.mem_singleton, List.mem_cons]
      cases hx : o.eq (k x) (k it) with
      | true =>
        have : k x = k it := (o.eqi _ _).1 hx
        simp only [cond_true, List.not_mem_nil, or_false]
        constructor
        · rintro (rfl | h)
          · exact .inl rfl
          · exact .inr ⟨.inr h.1, h.2⟩
        · rintro (rfl | ⟨rfl | h, h2⟩)
          · exact .inl rfl
          · exact absurd this h2
          · exact .inr ⟨h, h2⟩
      | false =>
        have := o.eq_ff hx
        simp only [cond_false, List.mem_singleton]
        constructor
        · rintro ((rfl | rfl) | h)
          · exact .inl rfl
          · exact .inr ⟨.inl rfl, this⟩
          · exact .inr ⟨.inr h.1, h.2⟩
        · rintro (rfl | ⟨rfl | h, h2⟩)
          · exact .inl (.inl rfl)
          · exact .inl (.inr rfl)
          · exact .inr ⟨h, h2⟩

theorem ris_putT (it : α) : ∀ l : List α, Ris o k l → Ris o k (putG o k it true l)
  | [], _ => List.Pairwise.nil
  | x :: r, h => by
    have ih := ris_putT it r h.tail
    rw [putG, Bool.true_or]
    cases o.eq (k x) (k it) with
    | true => exact ih
    | false => exact List.pairwise_cons.2 ⟨fun z hz => h.head z ((mem_putT o k it r z).1 hz).1, ih⟩

theorem ris_putF (it : α) : ∀ l : List α, Ris o k l → Ris o k (putG o k it false l)
  | [], _ => List.pairwise_singleton _ _
  | x :: r, h => by
    rw [putG]
    cases hl : o.lt (k x) (k it) with
    | true =>
      rw [o.eq_f (o.lt_ne hl)]
      refine List.pairwise_cons.2 ⟨fun z hz => ?_, ris_putF it r h.tail⟩
      rcases (mem_putF o k it r z).1 hz with rfl | hz
      · exact hl
      · exact h.head z hz.1
    | false =>
      have ht := ris_putT o k it r h.tail
      cases hx : o.eq (k x) (k it) with
      | true =>
        have hk : k x = k it := (o.eqi _ _).1 hx
        refine List.pairwise_cons.2 ⟨fun z hz => ?_, ht⟩
        rw [← hk]
        exact h.head z ((mem_putT o k it r z).1 hz).1
      | false =>
        have hlt := o.tot _ _ hl (o.eq_ff hx)
        refine List.pairwise_cons.2 ⟨fun z hz => ?_, List.pairwise_cons.2 ⟨fun z hz => h.head z ((mem_putT o k it r z).1 hz).1, ht⟩⟩
        rcases List.mem_cons.1 hz with rfl | hz
        · exact hlt
        · exact o.tr _ _ _ hlt (h.head z ((mem_putT o k it r z).1 hz).1)

theorem ris_inj : ∀ {l : List α}, Ris o k l → ∀ {x y : α}, x ∈ l → y ∈ l → k x = k y → x = y
  | [], _, _, _, h, _, _ => by cases h
  | a :: l, h, x, y, hx, hy, e => by
    rcases List.mem_cons.1 hx with h1 | h1 <;> rcases List.mem_cons.1 hy with h2 | h2
    · rw [h1, h2]
    · rw [h1] at e
      exact absurd e (o.lt_ne (h.head _ h2))
    · rw [h2] at e
      exact absurd e.symm (o.lt_ne (h.head _ h1))
    · exact ris_inj h.tail h1 h2 e

theorem ris_nodup : ∀ {l : List α}, Ris o k l → (l.map k).Nodup
  | [], _ => List.nodup_nil
  | a :: l, h => by
    rw [List.map_cons, List.nodup_cons]
    refine ⟨fun hm => ?_, ris_nodup h.tail⟩
    obtain ⟨b, hb, e⟩ := List.mem_map.1 hm
    exact o.lt_ne (h.head b hb) e.symm

theorem ris_rises (lt : α → α → Bool) (hlt : ∀ x y, lt x y = o.lt (k x) (k y)) : ∀ (l : List α) (p : Option α), Ris o k l → (∀ q, p = some q → ∀ y ∈ l, o.lt (k q) (k y) = true) → rises lt p l = true
  | [], p, _, _ => by cases p <;> rfl
  | x :: l, p, h, hp => by
    have ih := ris_rises lt hlt l (some x) h.tail (fun q e y hy => by cases e; exact h.head y hy)
    cases p with
    | none => exact ih
    | some q => rw [rises, hlt, hp q rfl x (by simp), ih]; rfl
end

/-! ### Pairs -/

abbrev KV := List (ByteArray × Int)
def keysOf (kv : KV) : List ByteArray := kv.map Prod.fst

theorem del_keys : ∀ (kv : KV) (n : ByteArray), (keysOf kv).Nodup → (keysOf (kdel kv n)).Nodup ∧ (∀ m, m ∈ keysOf (kdel kv n) ↔ m ∈ keysOf kv ∧ m ≠ n) ∧ ∀ m, m ≠ n → kget (kdel kv n) m = kget kv m
  | [], n, _ => ⟨List.nodup_nil, fun m => by simp [kdel, keysOf], fun _ _ => rfl⟩
  | p :: r, n, h => by
    have h0 : (p.1 :: keysOf r).Nodup := h
    obtain ⟨hp, hr⟩ := List.nodup_cons.1 h0
    rw [kdel]
    cases he : (n == p.1) with
    | true =>
      have e : n = p.1 := (str_beq _ _).1 he
      rw [cond_true]
      refine ⟨hr, fun m => ?_, fun m hm => ?_⟩
      · show _ ↔ m ∈ p.1 :: keysOf r ∧ _
        rw [List.mem_cons]
        constructor
        · exact fun hm => ⟨.inr hm, fun e2 => hp (by rw [← e, ← e2]; exact hm)⟩
        · rintro ⟨rfl | hm, h2⟩
          · exact absurd e.symm h2
          · exact hm
      · rw [kget, show (m == p.1) = false from by cases hq : (m == p.1) with | false => rfl | true => exact absurd (((str_beq _ _).1 hq).trans e.symm) hm]; rfl
    | false =>
      rw [cond_false]
      obtain ⟨i1, i2, i3⟩ := del_keys r n hr
      have hne : n ≠ p.1 := fun e => by rw [(str_beq _ _).2 e] at he; cases he
      refine ⟨List.nodup_cons.2 ⟨fun hm => hp ((i2 _).1 hm).1, i1⟩, fun m => ?_, fun m hm => ?_⟩
      · show m ∈ p.1 :: keysOf (kdel r n) ↔ m ∈ p.1 :: keysOf r ∧ _
        rw [List.mem_cons, List.mem_cons, i2]
        constructor
        · rintro (rfl | h)
          · exact ⟨.inl rfl, fun e => hne e.symm⟩
          · exact ⟨.inr h.1, h.2⟩
        · rintro ⟨rfl | h, h2⟩
          · exact .inl rfl
          · exact .inr ⟨h, h2⟩
      · rw [kget, kget, i3 m hm]

theorem put_new : ∀ (kv : KV) (n : ByteArray) (v : Int), n ∉ keysOf kv → kput kv n v = kv ++ [(n, v)]
  | [], _, _, _ => rfl
  | p :: r, n, v, h => by
    have h0 : n ∉ p.1 :: keysOf r := h
    rw [List.mem_cons, not_or] at h0
    rw [kput, show (n == p.1) = false from by cases hq : (n == p.1) with | false => rfl | true => exact absurd ((str_beq _ _).1 hq) h0.1, cond_false, put_new r n v h0.2]; rfl
theorem get_app : ∀ (kv : KV) (n m : ByteArray) (v : Int), n ∉ keysOf kv → kget (kv ++ [(n, v)]) m = if m = n then v else kget kv m
  | [], n, m, v, _ => by
    show (bif m == n then v else 0) = if m = n then v else 0
    by_cases h : m = n
    · rw [if_pos h, (str_beq _ _).2 h]; rfl
    · rw [if_neg h, show (m == n) = false from by cases hq : (m == n) with | false => rfl | true => exact absurd ((str_beq _ _).1 hq) h]; rfl
  | p :: r, n, m, v, h => by
    have h0 : n ∉ p.1 :: keysOf r := h
    rw [List.mem_cons, not_or] at h0
    rw [List.cons_append, kget, get_app r n m v h0.2, kget]
    cases hq : (m == p.1) with
    | true =>
      have : m = p.1 := (str_beq _ _).1 hq
      have hmn : ¬ m = n := fun e => h0.1 (by rw [← e, this])
      rw [if_neg hmn, if_neg hmn]
    | false => rfl

/-- The keys are the items' names; what is told of each is its Crc. -/
structure Told (items : List Itm) (kv : KV) : Prop where
  nodup : (keysOf kv).Nodup
  keys : ∀ n, n ∈ keysOf kv ↔ ∃ x ∈ items, x.Name = n
  crc : ∀ x ∈ items, kget kv x.Name = x.Crc

theorem Told.len {items : List Itm} {kv : KV} (h : Told items kv) (hr : Ris oS kI items) : kv.length = items.length := by
  have h1 : (items.map (·.Name)).Nodup := by
    have := ris_nodup oS kI hr
    have h2 : ((items.map (·.Name)).map (fun n : ByteArray => n.toList)).Nodup := by rw [List.map_map]; exact this
    exact (List.pairwise_map.1 h2).imp (fun h e => h (by rw [e]))
  have hp : (keysOf kv).Perm (items.map (·.Name)) := (List.perm_ext_iff_of_nodup h.nodup h1).2 fun n => by
    rw [h.keys, List.mem_map]
  have := hp.length_eq
  simpa [keysOf] using this

theorem name_eq {x y : Itm} : kI x = kI y ↔ x.Name = y.Name := ⟨fun h => str_tl_inj h, fun h => by unfold kI; rw [h]⟩

theorem Told.del {items : List Itm} {kv : KV} (h : Told items kv) (it : Itm) : Told (putG oS kI it true items) (kdel kv it.Name) := by
  obtain ⟨h1, h2, h3⟩ := del_keys kv it.Name h.nodup
  refine ⟨h1, fun n => ?_, fun x hx => ?_⟩
  · rw [h2, h.keys]
    constructor
    · rintro ⟨⟨x, hx, rfl⟩, hn⟩
      exact ⟨x, (mem_putT oS kI it items x).2 ⟨hx, fun e => hn (name_eq.1 e)⟩, rfl⟩
    · rintro ⟨x, hx, rfl⟩
      have := (mem_putT oS kI it items x).1 hx
      exact ⟨⟨x, this.1, rfl⟩, fun e => this.2 (name_eq.2 e)⟩
  · have := (mem_putT oS kI it items x).1 hx
    rw [h3 _ (fun e => this.2 (name_eq.2 e)), h.crc x this.1]

theorem Told.put {items : List Itm} {kv : KV} (h : Told items kv) (it : Itm) : Told (putG oS kI it false items) (kput (kdel kv it.Name) it.Name it.Crc) := by
  obtain ⟨h1, h2, h3⟩ := del_keys kv it.Name h.nodup
  have hn : it.Name ∉ keysOf (kdel kv it.Name) := fun hm => ((h2 _).1 hm).2 rfl
  rw [put_new _ _ _ hn]
  refine ⟨?_, fun n => ?_, fun x hx => ?_⟩
  · show ((kdel kv it.Name ++ [(it.Name, it.Crc)]).map Prod.fst).Nodup
    rw [List.map_append, List.nodup_append]
    exact ⟨h1, by simp, fun a ha b hb => by
      simp only [List.map_cons, List.map_nil, List.mem_singleton] at hb
      subst hb
      exact fun e => hn (by rw [e] at ha; exact ha)⟩
  · show n ∈ (kdel kv it.Name ++ [(it.Name, it.Crc)]).map Prod.fst ↔ _
    rw [List.map_append, List.mem_append, show n ∈ (kdel kv it.Name).map Prod.fst ↔ _ from h2 n, h.keys]
    simp only [List.map_cons, List.map_nil, List.mem_singleton]
    constructor
    · rintro (⟨⟨x, hx, rfl⟩, hn⟩ | rfl)
      · exact ⟨x, (mem_putF oS kI it items x).2 (.inr ⟨hx, fun e => hn (name_eq.1 e)⟩), rfl⟩
      · exact ⟨it, (mem_putF oS kI it items it).2 (.inl rfl), rfl⟩
    · rintro ⟨x, hx, rfl⟩
      rcases (mem_putF oS kI it items x).1 hx with rfl | ⟨hx, hne⟩
      · exact .inr rfl
      · exact .inl ⟨⟨x, hx, rfl⟩, fun e => hne (name_eq.2 e)⟩
  · rw [get_app _ _ _ _ hn]
    rcases (mem_putF oS kI it items x).1 hx with rfl | ⟨hx, hne⟩
    · rw [if_pos rfl]
    · have : x.Name ≠ it.Name := fun e => hne (name_eq.2 e)
      rw [if_neg this, h3 _ this, h.crc x hx]

end Go.Proofs.Ytmoaiokgbjkaaaa
