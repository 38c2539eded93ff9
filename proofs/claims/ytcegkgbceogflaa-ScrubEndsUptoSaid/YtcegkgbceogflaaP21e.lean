/-
  CHAPTER 21: plain facts on the models: who has not answered, Compare comes back, a scrub's steps.
-/
import Derived.Test.YtcegkgbceogflaaM21e
set_option linter.unusedVariables false
set_option linter.unusedSimpArgs false
set_option maxRecDepth 100000
namespace Go.Proofs.Ytcegkgbceogflaa
open Go Go.RowKit Sx

abbrev KV := List (Int × S_scrub_Copy)
abbrev dC : S_scrub_Copy := dS_scrub_Copy

/-- A copy of a size that may be. -/
def okC (x : S_scrub_Copy) : Prop := x.Items.length ≤ 2000000 ∧ x.Bad.length ≤ 2000000
def okKV (kv : KV) : Prop := ∀ p ∈ kv, okC p.2

theorem okC_get {kv : KV} (h : okKV kv) (k : Int) : okC (cget dC kv k) := by
  induction kv with
  | nil => exact ⟨Nat.zero_le _, Nat.zero_le _⟩
  | cons p r ih =>
    rw [cget]
    cases k == p.1 with
    | true => exact h p (.head _)
    | false => exact ih fun q hq => h q (.tail _ hq)
theorem okKV_put {kv : KV} (h : okKV kv) (k : Int) {x : S_scrub_Copy} (hx : okC x) : okKV (cput kv k x) := by
  induction kv with
  | nil => intro p hp; cases List.mem_singleton.1 hp; exact hx
  | cons p r ih =>
    rw [cput]
    cases k == p.1 with
    | true =>
      intro q hq
      rcases List.mem_cons.1 hq with rfl | hq
      · exact hx
      · exact h q (.tail _ hq)
    | false =>
      intro q hq
      rcases List.mem_cons.1 hq with rfl | hq
      · exact h _ (.head _)
      · exact ih (fun q hq => h q (.tail _ hq)) q hq
theorem chas_put {kv : KV} {k : Int} {x : S_scrub_Copy} (j : Int) : chas (cput kv k x) j = (j == k || chas kv j) := by
  induction kv with
  | nil => rw [cput, chas, chas]; cases j == k <;> rfl
  | cons p r ih =>
    rw [cput]
    cases hk : k == p.1 with
    | true =>
      rw [cond_true, chas, chas]
      have := eq_of_beq hk
      subst this
      cases j == p.1 <;> rfl
    | false =>
      rw [cond_false, chas, chas, ih]
      cases j == p.1 <;> cases j == k <;> rfl

/-! ### Who has not answered -/
def lefts (kv : KV) (act : List Int) : List Int := act.filter fun x => !chas kv x

theorem m_left (F : Nat) {a3 a6 a7 a8 a9 a48 a49 a50 : Int} {act : List Int} {a51 : List S_api_Entry} {a52 : List S_api_Last} {a53 : List S_api_Item} {kv : KV} (h : act.length ≤ 2000000) :
    m___scrub_Machine__left F a3 a6 a7 a8 a9 act a48 a49 a50 a51 a52 a53 kv = some (lefts kv act) := by
  unfold m___scrub_Machine__left
  rw [grd_pos _ (by unfold Len; omega)]
  have key : ∀ (l : List Int) (i : Nat) (acc : List Int), acc.length + l.length ≤ 2000000 →
      loopL (fun (nx85 : List Int → Option (List Int)) (v13_1 : Nat) (x63 : Int) (l20000_1 : List Int) => (bif !(chas kv x63) then grd (App (l20000_1.length + [x63].length) 8) (nx85 (l20000_1 ++ [x63])) else nx85 l20000_1)) (fun (v13_1 : Nat) (l20000_1 : List Int) => some l20000_1) l i acc = some (acc ++ lefts kv l) := by
    intro l
    induction l with
    | nil => intro i acc _; simp [loopL, lefts]
    | cons x l ih =>
      intro i acc hl
      rw [List.length_cons] at hl
      rw [loopL]
      dsimp only
      cases hc : chas kv x with
      | true => rw [Bool.not_true, cond_false, ih _ _ (by omega)]; simp [lefts, hc]
      | false =>
        rw [Bool.not_false, cond_true, grd_pos _ (by unfold App; simp only [List.length_singleton]; omega), ih _ _ (by simp; omega)]
        simp [lefts, hc]
  simpa using key act 0 [] (by simpa using h)

theorem m_Done (F : Nat) {a3 a6 a7 a8 a9 a48 a49 a50 : Int} {act : List Int} {a51 : List S_api_Entry} {a52 : List S_api_Last} {a53 : List S_api_Item} {kv : KV} (h : act.length ≤ 2000000) :
    m___scrub_Machine__Done F a3 a6 a7 a8 a9 act a48 a49 a50 a51 a52 a53 kv = some ((((lefts kv act).length : Nat) : Int) == 0) := by
  unfold m___scrub_Machine__Done m___scrub_Machine__is
  rw [Option.bind_some, m_left F h, Option.bind_some]

/-! ### Compare comes back -/
theorem m_IndexI (F : Nat) (a : List S_api_Item) (x : S_api_Item) (h : a.length ≤ 2000000) : ∃ r, m_slices_Index___api_Item_api_Item__3 F a x = some r := by
  unfold m_slices_Index___api_Item_api_Item__3
  rw [grd_pos _ (by unfold Len; omega)]
  generalize 0 = i
  induction a generalizing i with
  | nil => exact ⟨_, rfl⟩
  | cons y l ih =>
    rw [loopL]; dsimp only
    cases S_api_Item.beq x y with
    | true => exact ⟨_, rfl⟩
    | false => exact ih (by simp at h; omega) _
theorem m_IndexS (F : Nat) (a : List ByteArray) (x : ByteArray) (h : a.length ≤ 2000000) : ∃ r, m_slices_Index___string_string__2 F a x = some r := by
  unfold m_slices_Index___string_string__2
  rw [grd_pos _ (by unfold Len; omega)]
  generalize 0 = i
  induction a generalizing i with
  | nil => exact ⟨_, rfl⟩
  | cons y l ih =>
    rw [loopL]; dsimp only
    cases x.toList == y.toList with
    | true => exact ⟨_, rfl⟩
    | false => exact ih (by simp at h; omega) _
theorem m_good (F : Nat) (o : Int) {a : List S_api_Item} {b : List ByteArray} (x : S_api_Item) (ha : a.length ≤ 2000000) (hb : b.length ≤ 2000000) : ∃ r, m__scrub_Copy__good_3 F o a b x = some r := by
  unfold m__scrub_Copy__good_3 m_slices_Contains___api_Item_api_Item__3 m_slices_Contains___string_string__2
  obtain ⟨r, hr⟩ := m_IndexI F a x ha
  obtain ⟨q, hq⟩ := m_IndexS F b x.Name hb
  rw [hr, Option.bind_some, Option.bind_some, hq, Option.bind_some, Option.bind_some]
  cases decide (r ≥ 0) <;> exact ⟨_, rfl⟩
theorem m_IndexF (F : Nat) (a : List S_scrub_Copy) (x : S_api_Item) (h : a.length ≤ 2000000) (ho : ∀ c ∈ a, okC c) : ∃ r, m_slices_IndexFunc___scrub_Copy_scrub_Copy__2 F a x = some r ∧ (r < 0 ∨ Ix r a.length) := by
  unfold m_slices_IndexFunc___scrub_Copy_scrub_Copy__2
  rw [grd_pos _ (by unfold Len; omega)]
  have key : ∀ (l : List S_scrub_Copy) (i : Nat), i + l.length = a.length → (∀ c ∈ l, okC c) → ∃ r, loopL (fun (nx44 : Unit → Option (Int)) (v8_1 : Nat) (x30 : S_scrub_Copy) (_ : Unit) => (m_scrub_Compare_1_2 F x30.Osd x30.Items x30.Bad x).bind (fun y37 => (bif y37 then some ((v8_1 : Nat) : Int) else nx44 ()))) (fun (v8_1 : Nat) (_ : Unit) => some (-1)) l i () = some r ∧ (r < 0 ∨ Ix r a.length) := by
    intro l
    induction l with
    | nil => intro i _ _; exact ⟨_, rfl, .inl (by decide)⟩
    | cons c l ih =>
      intro i hi hc
      rw [List.length_cons] at hi
      rw [loopL]; dsimp only
      obtain ⟨b, hb⟩ := m_good F c.Osd x (hc c (.head _)).1 (hc c (.head _)).2
      rw [show m_scrub_Compare_1_2 F c.Osd c.Items c.Bad x = some b by unfold m_scrub_Compare_1_2; rw [hb]; rfl, Option.bind_some]
      cases b with
      | true => exact ⟨_, rfl, .inr ⟨by omega, by omega⟩⟩
      | false => exact ih (i + 1) (by omega) fun c hm => hc c (.tail _ hm)
  exact key a 0 (by omega) ho

theorem m_Compare (F : Nat) {les : Int} {tl : S_api_Version} {lg : List S_api_Entry} {ls : List S_api_Last} {items : List S_api_Item} {cs : List S_scrub_Copy} (hi : items.length ≤ 1048576) (hc : cs.length ≤ 2000000) (ho : ∀ c ∈ cs, okC c) :
    ∃ y, m_scrub_Compare_2 F les tl lg ls items cs = some y := by
  unfold m_scrub_Compare_2
  rw [grd_pos _ (by unfold Len; omega)]
  have key : ∀ (st : (List S_scrub_Fix × List ByteArray → Option (Nat × List ByteArray)) → Nat → S_api_Item → List S_scrub_Fix × List ByteArray → Option (Nat × List ByteArray)) (fn : Nat → List S_scrub_Fix × List ByteArray → Option (Nat × List ByteArray)),
      (∀ nx i x (a : List S_scrub_Fix) (b : List ByteArray), a.length ≤ 1048575 → b.length ≤ 1048575 → (∀ a' b', a'.length ≤ a.length + 1 → b'.length ≤ b.length + 1 → ∃ y, nx (a', b') = some y) → ∃ y, st nx i x (a, b) = some y) →
      (∀ i (a : List S_scrub_Fix) (b : List ByteArray), a.length ≤ 1048576 → b.length ≤ 1048576 → ∃ y, fn i (a, b) = some y) →
      ∀ (l : List S_api_Item) (i : Nat) (a : List S_scrub_Fix) (b : List ByteArray), a.length + l.length ≤ 1048576 → b.length + l.length ≤ 1048576 → ∃ y, loopL st fn l i (a, b) = some y := by
    intro st fn hs hf l
    induction l with
    | nil => intro i a b h1 h2; exact hf i a b (by simpa using h1) (by simpa using h2)
    | cons x l ih =>
      intro i a b h1 h2
      rw [List.length_cons] at h1 h2
      rw [loopL]
      exact hs _ i x a b (by omega) (by omega) fun a' b' q1 q2 => ih (i + 1) a' b' (by omega) (by omega)
  refine key _ _ (fun nx i x a b h1 h2 hn => ?_) (fun i a b h1 h2 => ?_) items 0 [] [] (by simpa using hi) (by simpa using hi)
  · dsimp only
    obtain ⟨r, hr, hr2⟩ := m_IndexF F cs x hc ho
    rw [hr, Option.bind_some]
    by_cases hneg : r < 0
    · rw [decide_eq_true hneg, cond_true, grd_pos _ (by unfold App; simp only [List.length_singleton]; omega)]
      exact hn _ _ (by omega) (by simp)
    · rw [decide_eq_false hneg, cond_false, grd_pos _ (by unfold Len; omega)]
      have hix := hr2.resolve_left hneg
      have inner : ∀ (l : List S_scrub_Copy) (j : Nat) (acc : List Int), acc.length + l.length ≤ 2000000 → (∀ c ∈ l, okC c) → ∃ y, loopL (fun (nx296 : List Int → Option (Nat × List ByteArray)) (v33_20 : Nat) (x273 : S_scrub_Copy) (l50000_20 : List Int) => (m__scrub_Copy__good_3 F x273.Osd x273.Items x273.Bad x).bind (fun y280 => (bif !y280 then grd (App (l50000_20.length + [x273.Osd].length) 8) (nx296 (l50000_20 ++ [x273.Osd])) else nx296 l50000_20))) (fun (v33_20 : Nat) (l50000_20 : List Int) => (bif decide (((l50000_20.length : Nat) : Int) > 0) then grd (l50000_20.length < 4611686018427387904) (grd (Ix r cs.length) (grd (App (a.length + [(S_scrub_Fix.mk x.Name x.Version ((cs.getD (Int.toNat r) dS_scrub_Copy).Osd) (nsort l50000_20))].length) 64) (nx ((a ++ [(S_scrub_Fix.mk x.Name x.Version ((cs.getD (Int.toNat r) dS_scrub_Copy).Osd) (nsort l50000_20))]), b)))) else nx (a, b))) l j acc = some y := by
        intro l
        induction l with
        | nil =>
          intro j acc hl _
          rw [loopL]
          simp only [List.length_nil, Nat.add_zero] at hl
          cases decide (((acc.length : Nat) : Int) > 0) with
          | true =>
            rw [cond_true, grd_pos _ (by omega), grd_pos _ hix, grd_pos _ (by unfold App; simp only [List.length_singleton]; omega)]
            exact hn _ _ (by simp) (by omega)
          | false => exact hn _ _ (by omega) (by omega)
        | cons c l ih =>
          intro j acc hl hcl
          rw [List.length_cons] at hl
          rw [loopL]; dsimp only
          obtain ⟨g, hg⟩ := m_good F c.Osd x (hcl c (.head _)).1 (hcl c (.head _)).2
          rw [hg, Option.bind_some]
          cases g with
          | true => exact ih (j + 1) acc (by omega) fun c hm => hcl c (.tail _ hm)
          | false =>
            rw [Bool.not_false, cond_true, grd_pos _ (by unfold App; simp only [List.length_singleton]; omega)]
            exact ih (j + 1) _ (by simp; omega) fun c hm => hcl c (.tail _ hm)
      exact inner cs 0 [] (by simpa using hc) ho
  · dsimp only
    rw [grd_pos _ h1, grd_pos _ (by omega)]
    exact ⟨_, rfl⟩

theorem m_end (F : Nat) {a3 a6 a7 a8 a9 a48 a49 a50 : Int} {act : List Int} {a51 : List S_api_Entry} {a52 : List S_api_Last} {a53 : List S_api_Item} {kv : KV} (h : act.length ≤ 2000000) (hi : a53.length ≤ 1048576) (ho : okKV kv) :
    m___scrub_Machine__end F a3 a6 a7 a8 a9 act a48 a49 a50 a51 a52 a53 kv = some () := by
  unfold m___scrub_Machine__end
  rw [m_Done F h, Option.bind_some]
  cases ((((lefts kv act).length : Nat) : Int) == 0) with
  | false => rfl
  | true =>
    rw [Bool.not_true, cond_false, grd_pos _ (by unfold Len; omega)]
    have key : ∀ (l : List Int) (i : Nat) (acc : List S_scrub_Copy), acc.length + l.length ≤ 2000000 → (∀ c ∈ acc, okC c) →
        loopL (fun (nx50 : List S_scrub_Copy → Option (Unit)) (v13_1 : Nat) (x35 : Int) (l20000_1 : List S_scrub_Copy) => grd (App (l20000_1.length + 1) 56) ((some (l20000_1 ++ [(S_scrub_Copy.mk ((cget dS_scrub_Copy kv x35).Osd) ((cget dS_scrub_Copy kv x35).Items) ((cget dS_scrub_Copy kv x35).Bad))])).bind (fun y45 => nx50 y45))) (fun (v13_1 : Nat) (l20000_1 : List S_scrub_Copy) => (m_scrub_Compare_2 F a48 (S_api_Version.mk a49 a50) a51 a52 a53 l20000_1).bind (fun y58 => some ())) l i acc = some () := by
      intro l
      induction l with
      | nil =>
        intro i acc hl hc
        rw [loopL]
        obtain ⟨y, hy⟩ := m_Compare F (les := a48) (tl := S_api_Version.mk a49 a50) (lg := a51) (ls := a52) hi (by simpa using hl) hc
        rw [hy]; rfl
      | cons x l ih =>
        intro i acc hl hc
        rw [List.length_cons] at hl
        rw [loopL]; dsimp only
        rw [grd_pos _ (by unfold App; omega), Option.bind_some]
        refine ih (i + 1) _ (by simp; omega) fun c hm => ?_
        rcases List.mem_append.1 hm with hm | hm
        · exact hc c hm
        · rw [List.mem_singleton.1 hm]; exact okC_get ho x
    exact key act 0 [] (by simpa using h) (fun c hm => by cases hm)

/-! ### The machine's calls -/
def tmsg (a3 a6 a7 a8 a9 x : Int) : S_api_Msg_n := S_api_Msg_n.mk 40 2 a3 2 x a6 a7 a8 a9 0 0 0 0 0 0 0 0 0 0 0 0 0 0 false 0 (ByteArray.mk #[]) 0 0 (ByteArray.mk #[]) 0 0 0 (ByteArray.mk #[]) 0 0 0

theorem lefts_len (kv : KV) (act : List Int) : (lefts kv act).length ≤ act.length := List.length_filter_le ..

theorem m_Tick (F : Nat) {a3 a6 a7 a8 a9 a48 a49 a50 : Int} {act : List Int} {a51 : List S_api_Entry} {a52 : List S_api_Last} {a53 : List S_api_Item} {kv : KV} (h : act.length ≤ 2000000) :
    m___scrub_Machine__Tick F a3 a6 a7 a8 a9 act a48 a49 a50 a51 a52 a53 kv = some ((lefts kv act).map (tmsg a3 a6 a7 a8 a9)) := by
  unfold m___scrub_Machine__Tick m___scrub_Machine__is
  have hl := lefts_len kv act
  rw [Option.bind_some, m_left F h, Option.bind_some, grd_pos _ (by unfold Len; omega)]
  have key : ∀ (l : List Int) (i : Nat) (acc : List S_api_Msg_n), acc.length + l.length ≤ 2000000 →
      loopL (fun (nx54 : List S_api_Msg_n → Option (List S_api_Msg_n)) (v13_1 : Nat) (x43 : Int) (l20000_1 : List S_api_Msg_n) => grd (App (l20000_1.length + [(S_api_Msg_n.mk 40 2 a3 2 x43 a6 a7 a8 a9 0 0 0 0 0 0 0 0 0 0 0 0 0 0 false 0 (ByteArray.mk #[]) 0 0 (ByteArray.mk #[]) 0 0 0 (ByteArray.mk #[]) 0 0 0)].length) 552) (nx54 (l20000_1 ++ [(S_api_Msg_n.mk 40 2 a3 2 x43 a6 a7 a8 a9 0 0 0 0 0 0 0 0 0 0 0 0 0 0 false 0 (ByteArray.mk #[]) 0 0 (ByteArray.mk #[]) 0 0 0 (ByteArray.mk #[]) 0 0 0)]))) (fun (v13_1 : Nat) (l20000_1 : List S_api_Msg_n) => some l20000_1) l i acc = some (acc ++ l.map (tmsg a3 a6 a7 a8 a9)) := by
    intro l
    induction l with
    | nil => intro i acc _; simp [loopL]
    | cons x l ih =>
      intro i acc hl
      rw [List.length_cons] at hl
      rw [loopL]
      dsimp only
      rw [grd_pos _ (by unfold App; simp only [List.length_singleton]; omega), ih _ _ (by simp; omega)]
      simp [tmsg]
  simpa using key (lefts kv act) 0 [] (by simp; omega)

theorem m_has (F : Nat) (l : List Int) (k : Int) (h : l.length ≤ 2000000) : m_slices_Contains___int_int_ F l k = some (l.contains k) := by
  unfold m_slices_Contains___int_int_ m_slices_Index___int_int_
  rw [grd_pos _ (by unfold Len; omega)]
  have key : ∀ (l : List Int) (i : Nat), ∃ r, loopL (fun (nx32 : Unit → Option (Int)) (v8_1 : Nat) (x22 : Int) (_ : Unit) => (bif k == x22 then some ((v8_1 : Nat) : Int) else nx32 ())) (fun (v8_1 : Nat) (_ : Unit) => some (-1)) l i () = some r ∧ decide (r ≥ 0) = l.contains k := by
    intro l
    induction l with
    | nil => intro i; exact ⟨_, rfl, rfl⟩
    | cons x l ih =>
      intro i
      rw [loopL]; dsimp only
      rw [List.contains_cons]
      cases k == x with
      | true => exact ⟨_, rfl, by simp⟩
      | false => simpa using ih (i + 1)
  obtain ⟨r, h1, h2⟩ := key l 0
  rw [h1, Option.bind_some, h2]

theorem m_CloneI (F : Nat) (l : List S_api_Item) (h : l.length ≤ 2000000) : m_slices_Clone___api_Item_api_Item_ F l = some l := by
  unfold m_slices_Clone___api_Item_api_Item_
  rw [grd_pos _ (by unfold App; simp; omega)]; rfl
theorem m_CloneS (F : Nat) (l : List ByteArray) (h : l.length ≤ 2000000) : m_slices_Clone___string_string_ F l = some l := by
  unfold m_slices_Clone___string_string_
  rw [grd_pos _ (by unfold App; simp; omega)]; rfl
theorem m_CloneN (F : Nat) (l : List Int) (h : l.length ≤ 2000000) : m_slices_Clone___int_int_ F l = some l := by
  unfold m_slices_Clone___int_int_
  rw [grd_pos _ (by unfold App; simp; omega)]; rfl

def kv0 (self : Int) (oi : List S_api_Item) (ob : List ByteArray) : KV := [(self, S_scrub_Copy.mk self oi ob)]

theorem m_New (F : Nat) {p0 p1 ep self boot les t0 t1 oo : Int} {act : List Int} {lg : List S_api_Entry} {ls : List S_api_Last} {items : List S_api_Item} {oi : List S_api_Item} {ob : List ByteArray}
    (hA : act.length ≤ 1048576) (hlg : lg.length ≤ 1048576) (hls : ls.length ≤ 1048576) (hit : items.length ≤ 1048576) (hoi : oi.length ≤ 1048576) (hob : ob.length ≤ 1048576) :
    m_scrub_New F p0 p1 ep self boot act les t0 t1 lg ls items oo oi ob = some (act, les, t0, t1, lg, ls, items, kv0 self oi ob, (lefts (kv0 self oi ob) act).map (tmsg self boot ep p0 p1)) := by
  unfold m_scrub_New m_pglog_Copy
  have hk : okKV (cput ([] : KV) self (S_scrub_Copy.mk self oi ob)) := fun p hp => by cases List.mem_singleton.1 hp; exact ⟨by show oi.length ≤ _; omega, by show ob.length ≤ _; omega⟩
  rw [m_CloneN F act (by omega), Option.bind_some, grd_pos _ (by unfold App; omega), grd_pos _ (by unfold App; omega), grd_pos _ (by unfold App; omega), Option.bind_some, m_CloneI F oi (by omega), Option.bind_some, m_CloneS F ob (by omega), Option.bind_some]
  dsimp only
  rw [m_end F (by omega) hit hk, Option.bind_some, m_Tick F (by omega), Option.bind_some]
  rfl

theorem m_StepYes (F : Nat) {a3 a6 a7 a8 a9 a48 a49 a50 k : Int} {act : List Int} {a51 : List S_api_Entry} {a52 : List S_api_Last} {a53 : List S_api_Item} {kv : KV} {ci : List S_api_Item} {cb : List ByteArray}
    (h : act.length ≤ 1048576) (hi : a53.length ≤ 1048576) (ho : okKV kv) (hci : ci.length ≤ 2000000) (hcb : cb.length ≤ 2000000) :
    m___scrub_Machine__Step F a3 a6 a7 a8 a9 act a48 a49 a50 a51 a52 a53 kv 2 k 2 a3 a7 a8 a9 ci cb = some (bif (lefts kv act).contains k then cput kv k (S_scrub_Copy.mk k ci cb) else kv) := by
  unfold m___scrub_Machine__Step m___scrub_Machine__is
  have hl := lefts_len kv act
  have e1 : S_api_Node.beq (S_api_Node.mk 2 a3) (S_api_Node.mk 2 a3) = true := (S_api_Node.beq_iff _ _).2 rfl
  have e2 : S_api_Pg.beq (S_api_Pg.mk a8 a9) (S_api_Pg.mk a8 a9) = true := (S_api_Pg.beq_iff _ _).2 rfl
  dsimp only [jn]
  rw [Option.bind_some, e1, e2, bne_self_eq_false, bne_self_eq_false]
  simp only [Bool.not_true, cond_false]
  rw [m_left F (by omega), Option.bind_some, m_has F _ k (by omega), Option.bind_some]
  cases (lefts kv act).contains k with
  | false => rfl
  | true => rw [cond_true, cond_true, m_CloneI F ci hci, Option.bind_some, m_CloneS F cb hcb, Option.bind_some, m_end F (by omega) hi (okKV_put ho k ⟨hci, hcb⟩), Option.bind_some]

/-! ### The law -/
theorem lives21 (F : Nat) : m_tholelaw21_lives F = some () := rfl

theorem lefts_put {kv : KV} {act r : List Int} {k : Int} {x : S_scrub_Copy} (hn : act.Nodup) (h : lefts kv act = k :: r) : lefts (cput kv k x) act = r := by
  have e : lefts (cput kv k x) act = (lefts kv act).filter fun j => !(j == k) := by
    unfold lefts
    rw [List.filter_filter]
    refine List.filter_congr fun j _ => ?_
    rw [chas_put]
    cases j == k <;> cases chas kv j <;> rfl
  have hnd : (lefts kv act).Nodup := hn.filter _
  rw [e, h]
  rw [h] at hnd
  obtain ⟨h1, h2⟩ := List.nodup_cons.1 hnd
  rw [List.filter_cons]
  simp only [beq_self_eq_true, Bool.not_true, Bool.false_eq_true, if_false]
  refine List.filter_eq_self.2 fun j hj => ?_
  have : j ≠ k := fun q => h1 (q ▸ hj)
  simp [this]

theorem loop_rounds {self boot ep p0 p1 : Int} {act : List Int} {kv1 : KV} {st : (KV → Option Bool) → Nat → S_api_Msg_n → KV → Option Bool} {fn : Nat → KV → Option Bool}
    (hA : act.length ≤ 1048576) (hn : act.Nodup)
    (hs : ∀ (nx : KV → Option Bool) (i : Nat) (k : Int) (kv : KV) (r : List Int), okKV kv → i + r.length + 1 ≤ 1048576 → i + r.length + 1 = (lefts kv1 act).length → lefts kv act = k :: r → (∀ x : S_scrub_Copy, okC x → nx (cput kv k x) = some true) → st nx i (tmsg self boot ep p0 p1 k) kv = some true)
    (hf : ∀ (i : Nat) (kv : KV), okKV kv → lefts kv act = [] → fn i kv = some true) :
    ∀ (r : List Int) (i : Nat) (kv : KV), okKV kv → lefts kv act = r → i + r.length = (lefts kv1 act).length → loopL st fn (r.map (tmsg self boot ep p0 p1)) i kv = some true
  | [], i, kv, ho, hk, _ => by rw [List.map_nil, loopL]; exact hf i kv ho hk
  | k :: r, i, kv, ho, hk, hlen => by
    rw [List.map_cons, loopL]
    rw [List.length_cons] at hlen
    have := lefts_len kv1 act
    exact hs _ i k kv r ho (by omega) (by omega) hk fun x hx => loop_rounds hA hn hs hf r (i + 1) _ (okKV_put ho k hx) (lefts_put hn hk) (by omega)

theorem nodup_of {act : List Int} (h : ∀ p q, q < p → p < act.length → act.getD q 0 ≠ act.getD p 0) : act.Nodup := by
  refine List.pairwise_iff_getElem.2 fun i j hi hj hij => ?_
  have := h j i hij hj
  simpa [List.getD, hi, hj] using this

theorem law_ends (F : Nat) (pg : S_api_Pg) (ep self boot : Int) (act : List Int) (les : Int) (tl : S_api_Version) (lg : List S_api_Entry) (ls : List S_api_Last) (items : List S_api_Item) (oo : Int) (oi : List S_api_Item) (ob : List ByteArray) (a1 : List S_scrub_Copy)
    (hA : act.length ≤ 1048576) (hlg : lg.length ≤ 1048576) (hls : ls.length ≤ 1048576) (hit : items.length ≤ 1048576) (hoi : oi.length ≤ 1048576) (hob : ob.length ≤ 1048576) (ha1 : ∀ c ∈ a1, okC c) :
    m_tholelaw21_ScrubEnds F pg ep self boot act les tl lg ls items oo oi ob a1 = some true := by
  unfold m_tholelaw21_ScrubEnds
  rw [grd_pos _ (by unfold Len; omega)]
  have outer : ∀ (st : (Unit → Option Bool) → Nat → Int → Unit → Option Bool) (fn : Nat → Unit → Option Bool),
      (∀ nx i, i < act.length → ((∀ q, q < i → act.getD q 0 ≠ act.getD i 0) → nx () = some true) → st nx i (act.getD i 0) () = some true) → (∀ i, act.Nodup → fn i () = some true) →
      ∀ (l : List Int) (i : Nat), l = act.drop i → (∀ p q, q < p → p < i → act.getD q 0 ≠ act.getD p 0) → loopL st fn l i () = some true := by
    intro st fn hs hf l
    induction l with
    | nil =>
      intro i hl hp
      have : act.length ≤ i := List.drop_eq_nil_iff.1 hl.symm
      exact hf i (nodup_of fun p q h1 h2 => hp p q h1 (by omega))
    | cons x l ih =>
      intro i hl hp
      have hi : i < act.length := by
        rcases Nat.lt_or_ge i act.length with h | h
        · exact h
        · rw [List.drop_eq_nil_of_le h] at hl; cases hl
      have hx : x = act.getD i 0 := by
        have : act[i]? = some x := by rw [← List.head?_drop, ← hl]; rfl
        rw [List.getD, this]; rfl
      have hl' : l = act.drop (i + 1) := by
        rw [← List.tail_drop, ← hl]; rfl
      rw [loopL, hx]
      refine hs _ i hi fun hq => ih (i + 1) hl' fun p q h1 h2 => ?_
      rcases Nat.lt_or_ge p i with h | h
      · exact hp p q h1 h
      · have : p = i := by omega
        subst this; exact hq q h1
  refine outer _ _ (fun nx i hi hn => ?_) (fun i hnd => ?_) act 0 rfl (fun p q _ h => absurd h (by omega))
  · rw [grd_pos _ (by omega), show Int.toNat (((i : Nat) : Int) - ((0 : Nat) : Int)) = i by omega]
    have inner : ∀ (n j : Nat), j + n = i → (∀ q, q < j → act.getD q 0 ≠ act.getD i 0) → loopC (fun (nx95 : Unit → Option (Bool)) (v7_4 : Nat) (_ : Unit) => grd (v7_4 < act.length) ((bif (act.getD v7_4 0) == (act.getD i 0) then (m_tholelaw21_lives F).bind (fun y90 => some true) else nx95 ()))) (fun (v7_4 : Nat) (_ : Unit) => nx ()) n j () = some true := by
      intro n
      induction n with
      | zero =>
        intro j hj hq
        have : j = i := by omega
        subst this
        exact hn hq
      | succ n ih =>
        intro j hj hq
        rw [loopC]; dsimp only
        rw [grd_pos _ (by omega)]
        cases he : act.getD j 0 == act.getD i 0 with
        | true => rw [cond_true, lives21]; rfl
        | false =>
          refine ih (j + 1) (by omega) fun q h => ?_
          rcases Nat.lt_or_ge q j with h1 | h1
          · exact hq q h1
          · have : q = j := by omega
            subst this
            exact fun e => by rw [e, beq_self_eq_true] at he; cases he
    exact inner i 0 (by omega) fun q h => absurd h (by omega)
  · dsimp only
    rw [m_New F hA hlg hls hit hoi hob, Option.bind_some]
    dsimp only
    have hl0 := lefts_len (kv0 self oi ob) act
    have hko : okKV (kv0 self oi ob) := fun p hp => by cases List.mem_singleton.1 hp; exact ⟨by show oi.length ≤ _; omega, by show ob.length ≤ _; omega⟩
    have hcount : ∀ (st : (Nat → Option Bool) → Nat → Int → Nat → Option Bool) (fn : Nat → Nat → Option Bool), (∀ nx i x s, s < 2000000 → st nx i x s = bif x != self then nx (s + 1) else nx s) →
        ∀ (l : List Int) (i s : Nat), s + l.length ≤ 2000000 → (∀ j, fn j (s + (lefts (kv0 self oi ob) l).length) = some true) → loopL st fn l i s = some true := by
      intro st fn hs l
      induction l with
      | nil => intro i s _ hf; exact hf i
      | cons x l ih =>
        intro i s hl hf
        rw [List.length_cons] at hl
        rw [loopL, hs _ _ _ _ (by omega)]
        have hc : chas (kv0 self oi ob) x = (x == self) := by unfold kv0; rw [chas, chas]; cases x == self <;> rfl
        cases hx : x == self with
        | true =>
          rw [bne, hx, Bool.not_true, cond_false]
          refine ih (i + 1) s (by omega) fun j => ?_
          have := hf j
          rwa [show lefts (kv0 self oi ob) (x :: l) = lefts (kv0 self oi ob) l by simp [lefts, hc, hx]] at this
        | false =>
          rw [bne, hx, Bool.not_false, cond_true]
          refine ih (i + 1) (s + 1) (by omega) fun j => ?_
          have := hf j
          rwa [show lefts (kv0 self oi ob) (x :: l) = x :: lefts (kv0 self oi ob) l by simp [lefts, hc, hx], List.length_cons, show s + ((lefts (kv0 self oi ob) l).length + 1) = s + 1 + (lefts (kv0 self oi ob) l).length by omega] at this
    refine hcount _ _ (fun nx i x s hs => ?_) act 0 0 (by omega) (fun j => ?_)
    · cases x != self with
      | true => rw [cond_true, cond_true, grd_pos _ (by unfold Len; omega)]
      | false => rfl
    dsimp only [jn]
    rw [Nat.zero_add, List.length_map, bne_self_eq_false, cond_false, m_Done F (by omega), Option.bind_some]
    generalize hN : (lefts (kv0 self oi ob) act).length = N at *
    have e0 : (!((((N : Nat) : Int) == 0) == (((N : Nat) : Int) == 0))) = false := by rw [beq_self_eq_true]; rfl
    rw [e0, cond_false, grd_pos _ (by unfold Len; omega)]
    refine loop_rounds (kv1 := kv0 self oi ob) hA hnd (fun nx i k kv r ho hb hlen hk hn => ?_) (fun i kv ho hk => ?_) _ 0 (kv0 self oi ob) hko rfl (by omega)
    · have hL : (lefts kv act).length = r.length + 1 := by rw [hk]; rfl
      have hd : ((((lefts kv act).length : Nat) : Int) == 0) = false := by rw [hL, beq_eq_false_iff_ne]; omega
      rw [m_Done F (by omega), Option.bind_some, hd, cond_false]
      unfold m___scrub_Machine__Fixes m___scrub_Machine__Lost
      rw [m_Done F (by omega), Option.bind_some, hd]
      simp only [Bool.not_false, cond_true, Option.bind_some]
      rw [m_Tick F (by omega), Option.bind_some, grd_pos _ (by unfold I64; omega), List.length_map, hL]
      have e1 : (((r.length + 1 : Nat) : Int) != ((N : Nat) : Int) - ((i : Nat) : Int)) = false := by rw [bne_eq_false_iff_eq]; omega
      rw [e1, cond_false]
      have fin : ∀ (ci : List S_api_Item) (cb : List ByteArray), ci.length ≤ 2000000 → cb.length ≤ 2000000 →
          (m___scrub_Machine__Step F self boot ep pg.Pool pg.Seed act les tl.Epoch tl.N lg ls items kv (tmsg self boot ep pg.Pool pg.Seed k).c3 (tmsg self boot ep pg.Pool pg.Seed k).c4 (tmsg self boot ep pg.Pool pg.Seed k).c1 (tmsg self boot ep pg.Pool pg.Seed k).c2 (tmsg self boot ep pg.Pool pg.Seed k).c6 (tmsg self boot ep pg.Pool pg.Seed k).c7 (tmsg self boot ep pg.Pool pg.Seed k).c8 ci cb).bind (fun y344 => (m___scrub_Machine__Step F self boot ep pg.Pool pg.Seed act les tl.Epoch tl.N lg ls items y344 (tmsg self boot ep pg.Pool pg.Seed k).c3 (tmsg self boot ep pg.Pool pg.Seed k).c4 (tmsg self boot ep pg.Pool pg.Seed k).c1 (tmsg self boot ep pg.Pool pg.Seed k).c2 (tmsg self boot ep pg.Pool pg.Seed k).c6 (tmsg self boot ep pg.Pool pg.Seed k).c7 (tmsg self boot ep pg.Pool pg.Seed k).c8 ci cb).bind (fun y351 => nx y351)) = some true := by
        intro ci cb hci hcb
        show (m___scrub_Machine__Step F self boot ep pg.Pool pg.Seed act les tl.Epoch tl.N lg ls items kv 2 k 2 self ep pg.Pool pg.Seed ci cb).bind (fun y344 => (m___scrub_Machine__Step F self boot ep pg.Pool pg.Seed act les tl.Epoch tl.N lg ls items y344 2 k 2 self ep pg.Pool pg.Seed ci cb).bind (fun y351 => nx y351)) = some true
        have hin : (lefts kv act).contains k = true := by rw [hk]; simp
        have hx : okC (S_scrub_Copy.mk k ci cb) := ⟨hci, hcb⟩
        have hput := lefts_put (x := S_scrub_Copy.mk k ci cb) hnd hk
        have hout : (lefts (cput kv k (S_scrub_Copy.mk k ci cb)) act).contains k = false := by
          rw [hput]
          have := (hnd.filter fun x => !chas kv x)
          rw [show act.filter (fun x => !chas kv x) = k :: r from hk] at this
          simpa using (List.nodup_cons.1 this).1
        rw [m_StepYes F hA hit ho hci hcb, hin, cond_true, Option.bind_some, m_StepYes F hA hit (okKV_put ho k hx) hci hcb, hout, cond_false, Option.bind_some]
        exact hn _ hx
      by_cases hi : (i : Int) < ((a1.length : Nat) : Int)
      · rw [decide_eq_true hi, cond_true, grd_pos _ (by omega)]
        have hm : okC (a1.getD i dS_scrub_Copy) := by
          have h2 : i < a1.length := by omega
          rw [List.getD, List.getElem?_eq_getElem h2]
          exact ha1 _ (List.getElem_mem h2)
        exact fin _ _ hm.1 hm.2
      · rw [decide_eq_false hi, cond_false]
        exact fin [] [] (Nat.zero_le _) (Nat.zero_le _)
    · rw [m_Done F (by omega), Option.bind_some, hk]
      rw [show ((((([] : List Int).length) : Nat) : Int) == 0) = true from rfl, cond_true, m_Tick F (by omega), Option.bind_some, hk, List.map_nil]
      rw [show ((((([] : List S_api_Msg_n).length) : Nat) : Int) == 0) = true from rfl, cond_true, lives21]
      rfl
end Go.Proofs.Ytcegkgbceogflaa
