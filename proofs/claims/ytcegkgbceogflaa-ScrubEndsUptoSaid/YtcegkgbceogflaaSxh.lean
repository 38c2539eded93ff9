/-
  The engine, part 8: reading a call's arguments; contracts over what is owned.
-/
import Derived.Test.YtcegkgbceogflaaSxg
import Derived.ProofKit
import Derived.OpenShut
import Derived.ShutString
import Derived.ChangeOld
import Derived.Below
set_option linter.unusedVariables false
set_option linter.unusedSimpArgs false
namespace Sx
open Go Go.RowKit

theorem Ent.osl_rd {ob : Option Addr} {cap T sz : Nat} {rows : List (List Value)} {w : World} (h : (Ent.osl ob cap T sz rows).ok w) : (Ent.rd ob sz rows).ok w := by
  have hc : rows ≠ [] → cap ≠ 0 := fun hne hc => by
    have := h.1.1
    rw [hc] at this
    exact hne (List.length_eq_zero_iff.1 (by omega))
  refine ⟨fun hne => ?_, fun b hb => h.2 b ⟨hc hb.1, hb.2⟩⟩
  obtain ⟨a, arr, h1, h2, _, _, h3⟩ := h.1.2 (hc hne)
  exact ⟨a, h1, h2, h3⟩

theorem Ent.cells_rd {b T : Nat} {vs : List Value} {w : World} (h : (Ent.cells b T vs).ok w) : (Ent.rd (some ⟨b, 0, none⟩) vs.length [vs]).ok w := by
  refine ⟨fun _ => ⟨⟨b, 0, none⟩, rfl, rfl, fun i r hr => ?_⟩, fun k hk => h.2 k hk.2⟩
  cases i with
  | succ i => simp at hr
  | zero =>
    simp only [List.getElem?_cons_zero, Option.some.injEq] at hr
    subst hr
    refine ⟨rfl, fun c v hv => ?_⟩
    have := RowIn.cell (w := w) (b := b) (arr := vs.toArray) (T := T) h.1 c
    simpa [this] using hv

theorem Ent.rd_nil {ob : Option Addr} {sz : Nat} {w : World} : (Ent.rd ob sz []).ok w := ⟨fun h => absurd rfl h, fun b hb => absurd rfl hb.1⟩
theorem Ent.osl_nil {T sz : Nat} {w : World} : (Ent.osl none 0 T sz []).ok w := ⟨⟨Nat.le_refl _, fun h => absurd rfl h⟩, fun b hb => absurd rfl hb.1⟩

/-- One more entry, that owns nothing. -/
theorem Sat.addNil {w0 : World} {S : Area} {mem mem' : List (Nat × Ent)} {w : World} {k T sz : Nat} (h : Sat w0 S (look mem) w) (hm : mem' = mem ++ [(k, .osl none 0 T sz [])]) : Sat w0 S (look mem') w := by
  subst hm
  have happ : ∀ (l : List (Nat × Ent)) (t : Nat) (e : Ent), look (l ++ [(k, .osl none 0 T sz [])]) t = some e → look l t = some e ∨ e = .osl none 0 T sz [] := by
    intro l
    induction l with
    | nil =>
      intro t e he
      simp only [List.nil_append, look] at he
      split at he
      · exact .inr (Option.some.inj he).symm
      · cases he
    | cons x l ih =>
      intro t e he
      simp only [List.cons_append, look] at he ⊢
      split at he
      · exact .inl he
      · exact ih t e he
  have nof : ∀ b, ¬ (Ent.osl none 0 T sz []).foot b := fun b hb => hb.1 rfl
  refine ⟨h.keep, fun t e he => ?_, fun t e he ho b hb => ?_, fun t t' e e' hne he he' ho b hb hb' => ?_, fun t e he b hb => ?_⟩
  · rcases happ _ _ _ he with h1 | rfl
    · exact h.ok t e h1
    · exact Ent.osl_nil
  · rcases happ _ _ _ he with h1 | rfl
    · exact h.mine t e h1 ho b hb
    · exact absurd hb (nof b)
  · rcases happ _ _ _ he with h1 | rfl
    · rcases happ _ _ _ he' with h2 | rfl
      · exact h.apart t t' e e' hne h1 h2 ho b hb hb'
      · exact nof b hb'
    · exact nof b hb
  · rcases happ _ _ _ he with h1 | rfl
    · exact h.lie t e h1 b hb
    · exact absurd hb (nof b)

/-! ### Arguments -/
section
open Go.ChangeShapes Go.WideShapes Go.ChangeAt
variable {H : Type} {enc : TypeId × Value → H} {P : Program} {w : World} {base : Nat} {spare : Nat → Bool} {held : Bool}

theorem cells?_at {w : World} {base : Nat} {a : Addr} {n : Nat} {l : List Value} (ha : a.spot = none) (h : w.cells? base a n = some l) : l.length = n ∧ ∀ c v, l[c]? = some v → w.cell? ⟨a.block, a.off + c, none⟩ = some v := by
  obtain ⟨_, h2, h3⟩ := World.cells?_some h
  refine ⟨h2, fun c v hc => ?_⟩
  have hcn : c < l.length := (List.getElem?_eq_some_iff.1 hc).1
  have := h3 c (by omega)
  rw [hc] at this
  rw [← this]
  obtain ⟨b, o, s⟩ := a
  simp only at ha
  subst ha
  simp only [Addr.add]
  split
  · rename_i hz; simp [hz]
  · rfl

/-- A slice that came in: its elements' cells lie there, each reads as its type. -/
theorem open_rows {t e : TypeId} {sz : Nat} {fuel : Nat} {cs : List Value} {x : DataW H × List MemPlace} (ht : P.underlying t = some (.slice e)) (hc : P.cellsOf e = sz) (hsz : 1 ≤ sz)
    (h : DataW.trod enc P w base spare held fuel t cs = some x) :
    ∃ (ob : Option Addr) (len cap : Nat) (rows : List (List Value)), cs = [.slice ob len cap] ∧ rows.length = len ∧ len ≤ cap ∧ cap ≤ 9223372036854775807 ∧ (Ent.rd ob sz rows).ok w ∧
      (∀ r ∈ rows, ∃ (n : Nat) (y : DataW H × List MemPlace), DataW.trod enc P w base spare held n e r = some y) ∧ (ob = none → rows = []) ∧
      (x.1 = .nil ∧ rows = [] ∨ ∃ ys zs : List (DataW H), x.1 = .slice ys zs ∧ ys.length = rows.length ∧ ∀ (i : Nat) (r : List Value), rows[i]? = some r → ∃ (n : Nat) (y : DataW H × List MemPlace), DataW.trod enc P w base spare held n e r = some y ∧ ys[i]? = some y.1) := by
  rcases DataW.trod_slice ht h with ⟨rfl, rfl⟩ | ⟨a, len, cap, elems, rest, n, _, rfl, rfl, hb, hl, hm, hlen, hel, hsp, hns⟩
  · exact ⟨none, 0, 0, [], rfl, rfl, Nat.le_refl _, by omega, Ent.rd_nil, by simp, fun _ => rfl, .inl ⟨rfl, rfl⟩⟩
  have each : ∀ i, i < len → ∃ r y, w.cells? base (a.add (i * sz)) sz = some r ∧ DataW.trod enc P w base spare held n e r = some y ∧ elems[i]? = some y := fun i hi => by
    have h1 := hel i hi
    rw [List.getElem?_eq_getElem (by omega), Option.bind_eq_some_iff, hc] at h1
    obtain ⟨r, h2, h3⟩ := h1
    exact ⟨r, _, h2, h3, List.getElem?_eq_getElem (by omega)⟩
  have hex : ∀ m, m ≤ len → ∃ rows : List (List Value), rows.length = m ∧ ∀ (i : Nat) (r : List Value), rows[i]? = some r → w.cells? base (a.add (i * sz)) sz = some r ∧ ∃ y, DataW.trod enc P w base spare held n e r = some y ∧ elems[i]? = some y := by
    intro m
    induction m with
    | zero => exact fun _ => ⟨[], rfl, by simp⟩
    | succ m ih =>
      intro hm'
      obtain ⟨rows, h1, h2⟩ := ih (by omega)
      obtain ⟨r, y, h3, h4, h5⟩ := each m (by omega)
      refine ⟨rows ++ [r], by simp [h1], fun i r' hr => ?_⟩
      rcases Nat.lt_or_ge i m with hi | hi
      · rw [List.getElem?_append_left (by omega)] at hr
        exact h2 i r' hr
      · rw [List.getElem?_append_right (by omega), List.getElem?_singleton] at hr
        split at hr
        · have : i = m := by omega
          subst this
          cases hr
          exact ⟨h3, y, h4, h5⟩
        · cases hr
  obtain ⟨rows, h1, h2⟩ := hex len (Nat.le_refl _)
  have hspot : rows ≠ [] → a.spot = none := fun hne => by
    obtain ⟨r, hr⟩ : ∃ r, rows[0]? = some r := by
      cases rows with
      | nil => exact absurd rfl hne
      | cons r _ => exact ⟨r, rfl⟩
    have h3 := (h2 0 r hr).1
    have h4 := (World.cells?_some h3).2.2 0 (by omega)
    have h5 := (World.cells?_some h3).2.1
    have h6 : ∃ v, r[0]? = some v := ⟨r[0]'(by omega), List.getElem?_eq_getElem _⟩
    obtain ⟨v, hv⟩ := h6
    rw [hv] at h4
    have := World.cell?_spot h4
    obtain ⟨b, o, s⟩ := a
    cases s with
    | none => rfl
    | some _ => simp [Addr.add] at this
  have hat : rows ≠ [] → RowsAt w a sz rows := fun hne i r hr => by
    have hs := hspot hne
    obtain ⟨b, o, s⟩ := a
    simp only at hs
    subst hs
    have h3 := cells?_at (by simp only [Addr.add]; split <;> rfl) (h2 i r hr).1
    refine ⟨h3.1, fun c v hv => ?_⟩
    have := h3.2 c v hv
    rw [← this]; congr 1; simp only [Addr.add]; split <;> simp_all [Nat.add_assoc]
  refine ⟨some a, len, cap, rows, rfl, h1, hl, by simpa [maxLen] using hm, ⟨fun hne => ⟨a, rfl, hspot hne, hat hne⟩, fun b hb => ?_⟩, fun r hr => ?_, (fun h => by cases h), .inr ⟨_, _, rfl, ?_, fun i r hr => ?_⟩⟩
  · obtain ⟨hne, rfl⟩ := hb
    obtain ⟨r, hr⟩ : ∃ r, rows[0]? = some r := by
      cases rows with
      | nil => exact absurd rfl hne
      | cons r _ => exact ⟨r, rfl⟩
    have h3 := hat hne 0 r hr
    have h6 : r[0]? = some (r[0]'(by omega)) := List.getElem?_eq_getElem _
    have := h3.2 0 _ h6
    simp only [World.cell?] at this
    split at this
    · rename_i heq
      exact (Array.getElem?_eq_some_iff.1 heq).1
    · cases this
  · obtain ⟨i, hi⟩ := List.getElem?_of_mem hr
    obtain ⟨_, y, h3, _⟩ := h2 i r hi
    exact ⟨n, y, h3⟩
  · simp [h1, hlen]
  · obtain ⟨_, y, h3, h4⟩ := h2 i r hr
    exact ⟨n, y, h3, by simp [h4]⟩

/-- Rows of numbers. -/
theorem rows_ints {e : Nat} {rows : List (List Value)} (he : P.underlying e = some (.int .i64)) (h : ∀ r ∈ rows, ∃ n, ∃ y : DataW H × List MemPlace, DataW.trod enc P w base spare held n e r = some y) :
    ∃ l : List Int, rows = encI l ∧ ∀ z ∈ l, (Lit.int .i64 z).wf = true := by
  induction rows with
  | nil => exact ⟨[], rfl, by simp⟩
  | cons r rows ih =>
    obtain ⟨l, h1, h2⟩ := ih fun q hq => h q (by simp [hq])
    obtain ⟨n, y, hy⟩ := h r (by simp)
    obtain ⟨m, rfl, rfl, hw⟩ := DataW.trod_int he hy
    refine ⟨m :: l, by rw [h1]; rfl, fun z hz => ?_⟩
    rcases List.mem_cons.1 hz with rfl | hz
    · exact hw
    · exact h2 z hz

theorem open_ints_arg {t e : Nat} {fuel : Nat} {cs : List Value} {x : DataW H × List MemPlace} (ht : P.underlying t = some (.slice e)) (he : P.underlying e = some (.int .i64)) (hc : P.cellsOf e = 1)
    (h : DataW.trod enc P w base spare held fuel t cs = some x) :
    ∃ (ob : Option Addr) (cap : Nat) (l : List Int), cs = [.slice ob l.length cap] ∧ l.length ≤ 9223372036854775807 ∧ (∀ z ∈ l, (Lit.int .i64 z).wf = true) ∧ (Ent.rd ob 1 (encI l)).ok w ∧
      (x.1 = .nil ∧ l = [] ∨ ∃ ys zs, x.1 = .slice ys zs ∧ ys.length = l.length) := by
  obtain ⟨ob, len, cap, rows, h1, h2, h3, h4, h5, h6, _, h7⟩ := open_rows ht hc (Nat.le_refl _) h
  obtain ⟨l, rfl, hl⟩ := rows_ints he h6
  rw [← encI_len] at h2
  subst h2
  refine ⟨ob, cap, l, h1, by omega, hl, h5, ?_⟩
  rcases h7 with ⟨h7, h8⟩ | ⟨ys, zs, h7, h8, _⟩
  · exact .inl ⟨h7, by simpa [encI] using h8⟩
  · exact .inr ⟨ys, zs, h7, by rw [h8, ← encI_len]⟩
end

section
open Go.ChangeShapes Go.WideShapes Go.ChangeAt
variable {H : Type} {enc : TypeId × Value → H} {P : Program} {w : World} {base : Nat} {spare : Nat → Bool} {held : Bool}

/-- A field of what came in. -/
theorem trod_field {t : TypeId} {fs : Array Field} {fuel i off ty sz : Nat} {cs : List Value} {x : DataW H × List MemPlace} (ht : P.underlying t = some (.struct fs))
    (h : DataW.trod enc P w base spare held fuel t cs = some x) (hi : (fs[i]?).map (fun f => (f.type, f.offset)) = some (ty, off)) (hsz : P.cellsOf ty = sz) :
    ∃ (n : Nat) (y : DataW H × List MemPlace), DataW.trod enc P w base spare held n ty ((cs.drop off).take sz) = some y ∧ ∃ parts, x.1 = .agg parts ∧ y.1 ∈ parts := by
  obtain ⟨xs, n, _, hx, _, hl, h2⟩ := DataW.trod_struct ht h
  cases hf : fs[i]? with
  | none => simp [hf] at hi
  | some f =>
    simp only [hf, Option.map_some, Option.some.injEq, Prod.mk.injEq] at hi
    obtain ⟨rfl, rfl⟩ := hi
    have h3 := h2 i f hf
    have hil : i < xs.length := by rw [hl]; exact (Array.getElem?_eq_some_iff.1 hf).1
    rw [List.getElem?_eq_getElem hil, hsz] at h3
    exact ⟨n, _, h3, _, by rw [hx], List.mem_map.2 ⟨_, List.getElem_mem hil, rfl⟩⟩

theorem arr_list {a : Array Value} {n : Nat} (h : a.size = n) : ∃ l : List Value, a = l.toArray ∧ l.length = n := ⟨a.toList, by simp, by simpa using h⟩
end

/-- Rows that are each one's row. -/
theorem rows_dec {α : Type} (row : α → List Value) (Q : α → Prop) {rows : List (List Value)} (h : ∀ r ∈ rows, ∃ x, r = row x ∧ Q x) : ∃ l : List α, rows = l.map row ∧ ∀ x ∈ l, Q x := by
  induction rows with
  | nil => exact ⟨[], rfl, by simp⟩
  | cons r rows ih =>
    obtain ⟨l, h1, h2⟩ := ih fun q hq => h q (by simp [hq])
    obtain ⟨x, h3, h4⟩ := h r (by simp)
    refine ⟨x :: l, by rw [h1, h3]; rfl, fun z hz => ?_⟩
    rcases List.mem_cons.1 hz with rfl | hz
    · exact h4
    · exact h2 z hz

theorem wf_i64 {z : Int} (h : (Lit.int .i64 z).wf = true) : -9223372036854775808 ≤ z ∧ z ≤ 9223372036854775807 := by
  simpa [Lit.wf, IntKind.min, IntKind.max, IntKind.bits, IntKind.signed] using h

theorem wf_u32 {z : Int} (h : (Lit.int .u32 z).wf = true) : 0 ≤ z ∧ z ≤ 4294967295 := by
  simpa [Lit.wf, IntKind.min, IntKind.max, IntKind.bits, IntKind.signed] using h
end Sx
