/-
  The engine, part 3: what symOp says of one operation is so.
-/
import Derived.Test.YtjnbkhnebmlilaaGreatSxb
import Derived.MapKept
import Derived.ChangeKeysEq
set_option linter.unusedVariables false
set_option linter.unusedSimpArgs false
namespace Sx
open Go Go.RowKit

theorem run_sizeT {P : Program} {t : TypeId} {n : Nat} (h : sizeOfT P t = some n) (w : World) : (Go.sizeOf t).run P w = .ok n w := by
  unfold sizeOfT at h
  cases hi : P.info? t with
  | none => simp [hi] at h
  | some i => simp [hi] at h; subst h; simp [Go.sizeOf, typeInfo, hi]

theorem run_aggT {P : Program} {t : TypeId} {b : Bool} (h : aggT P t = some b) (w : World) : (isAgg t).run P w = .ok b w := by
  unfold aggT at h
  cases hu : P.underlying t with
  | none => simp [hu] at h
  | some d =>
    unfold isAgg
    rw [Sem.run_bind, run_underlying hu w]
    cases d <;> simp_all

theorem add_plain (b o n : Nat) : (⟨b, o, none⟩ : Addr).add n = ⟨b, o + n, none⟩ := by
  unfold Addr.add; split <;> simp_all

/-- A variable is read whose first cells are known. -/
theorem run_readVar {P : Program} {t : TypeId} {cs : List Value} {v : Value} (h : readVar P t cs = some v) {w : World} {b off : Nat}
    (hc : ∀ j u, cs[j]? = some u → w.cell? ⟨b, off + j, none⟩ = some u) : (loadVar t ⟨b, off, none⟩).run P w = .ok v w := by
  unfold readVar at h
  cases hs : sizeOfT P t with
  | none => simp [hs] at h
  | some n =>
    cases ha : aggT P t with
    | none => simp [hs, ha] at h
    | some g =>
      cases g with
      | true =>
        simp only [hs, ha] at h
        split at h <;> simp at h
        rename_i hb
        have hle : n ≤ cs.length := Nat.le_of_ble_eq_true hb
        have hl := run_loadCells_list (P := P) w ⟨b, off, none⟩ (cs.take n) (fun j u hj => by
          rw [add_plain]
          refine hc j u ?_
          rw [List.getElem?_take] at hj
          split at hj
          · exact hj
          · simp at hj)
        rw [List.length_take, Nat.min_eq_left hle] at hl
        subst h
        simp [loadVar, Sem.run_bind, run_aggT ha, run_sizeT hs, hl]
      | false =>
        simp only [hs, ha] at h
        have h0 : cs[0]? = some v := by rw [← h]; simp [List.head?_eq_getElem?]
        have := hc 0 v h0
        simp only [Nat.add_zero] at this
        simp [loadVar, Sem.run_bind, run_aggT ha, this]

theorem RowsAt.cellAt {w : World} {a : Addr} {sz : Nat} {rows : List (List Value)} (h : RowsAt w a sz rows) {i : Nat} {r : List Value} (hi : rows[i]? = some r) (c : Nat) :
    ∀ j u, (r.drop c)[j]? = some u → w.cell? ⟨a.block, a.off + (i * sz + c) + j, none⟩ = some u := by
  intro j u hj
  rw [List.getElem?_drop] at hj
  have := (h i r hi).2 _ _ hj
  rw [show a.off + (i * sz + c) + j = a.off + (i * sz + (c + j)) by omega]
  exact this

theorem opLoad_sound {P : Program} {t : TypeId} {x : Value} {e : Option Ent} {i c : Nat} {r : List Value} {v : Value} {os : List Prop}
    (h : opLoad P t x e i c r = some (v, os)) (ho : All os) {w : World} (he : ∀ E, e = some E → E.ok w) : (Instr.loadAt t x).run P w = .ok v w := by
  unfold opLoad at h
  split at h <;> try (simp at h; done)
  · rename_i b off b' T vs
    cases hr : readVar P t (vs.drop off) with
    | none => simp [hr] at h
    | some v' =>
      simp [hr] at h
      obtain ⟨rfl, rfl⟩ := h
      simp only [All, and_true] at ho
      subst ho
      have hk : RowIn w b vs.toArray T := (he _ rfl).1
      refine run_readVar (b := b) (off := off) (by exact hr) (fun j u hj => ?_)
      rw [List.getElem?_drop] at hj
      rw [hk.cell]
      simpa using hj
  · rename_i b off ob sz rows
    cases hr : readVar P t (r.drop c) with
    | none => simp [hr] at h
    | some v' =>
      simp [hr] at h
      obtain ⟨rfl, rfl⟩ := h
      simp only [All, and_true] at ho
      obtain ⟨rfl, rfl, hi⟩ := ho
      obtain ⟨a, rfl, hs, hR⟩ := (he _ rfl).1 (by intro hn; rw [hn] at hi; simp at hi)
      exact run_readVar hr (hR.cellAt hi c)
  · rename_i b off ob cap T sz rows
    cases hr : readVar P t (r.drop c) with
    | none => simp [hr] at h
    | some v' =>
      simp [hr] at h
      obtain ⟨rfl, rfl⟩ := h
      simp only [All, and_true] at ho
      obtain ⟨rfl, rfl, hi⟩ := ho
      have hok := (he _ rfl).1
      have hlt : i < rows.length := by
        rcases Nat.lt_or_ge i rows.length with h' | h'
        · exact h'
        · rw [List.getElem?_eq_none h'] at hi; simp at hi
      obtain ⟨a, arr, rfl, hs, _, _, hR⟩ := hok.2 (by have := hok.1; omega)
      exact run_readVar hr (hR.cellAt hi c)

theorem splice_length {vs new : List Value} {c : Nat} (h : c + new.length ≤ vs.length) : (splice vs c new).length = vs.length := by
  simp [splice]; omega

theorem splice_at {vs new : List Value} {c : Nat} (h : c + new.length ≤ vs.length) (j : Nat) :
    (splice vs c new)[j]? = if j < c then vs[j]? else if j < c + new.length then new[j - c]? else vs[j]? := by
  unfold splice
  rw [List.append_assoc, List.getElem?_append, List.length_take, Nat.min_eq_left (by omega)]
  by_cases h1 : j < c
  · simp [h1, List.getElem?_take]
  · simp only [h1, if_false]
    rw [List.getElem?_append]
    by_cases h2 : j < c + new.length
    · rw [if_pos (by omega), if_pos h2]
    · rw [if_neg (by omega), if_neg h2, List.getElem?_drop]
      congr 1
      omega

theorem setRow_keep {w : World} {g : Nat} {cs : Array Value} : Keep (fun b => b = g) w (w.setRow g cs) :=
  ⟨rfl, rfl, rfl, by simp, fun b _ hn => setRow_other w g b cs hn⟩

theorem RowIn.setRow {w : World} {b : Nat} {arr arr' : Array Value} {T : TypeId} (h : RowIn w b arr T) (hs : arr'.size = arr.size) : RowIn (w.setRow b arr') b arr' T := by
  obtain ⟨lo, hi, h1, h2⟩ := h
  exact ⟨lo, hi, setRow_heap w b arr arr' T (lo, hi) h1, hs ▸ h2⟩

theorem splice_nil (vs : List Value) (c : Nat) : splice vs c [] = vs := by simp [splice]

theorem splice_cons {vs : List Value} {c : Nat} {v : Value} {r : List Value} (h : c + (r.length + 1) ≤ vs.length) : splice (vs.set c v) (c + 1) r = splice vs c (v :: r) := by
  apply List.ext_getElem?
  intro j
  rw [splice_at (by simp; omega), splice_at (by simp; omega)]
  simp only [List.length_cons]
  by_cases h1 : j < c
  · have : ¬ c = j := by omega
    rw [if_pos (by omega), if_pos h1, List.getElem?_set]
    simp [this]
  · rw [if_neg h1]
    by_cases h2 : j = c
    · subst h2
      rw [if_pos (by omega), if_pos (by omega), List.getElem?_set]
      have : j < vs.length := by omega
      simp [this]
    · rw [if_neg (by omega)]
      by_cases h3 : j < c + 1 + r.length
      · rw [if_pos h3, if_pos (by omega), show j - c = (j - (c + 1)) + 1 by omega, List.getElem?_cons_succ]
      · have : ¬ c = j := by omega
        rw [if_neg h3, if_neg (by omega), List.getElem?_set]
        simp [this]

/-- Cells are written one by one into a row. -/
theorem run_storeCells_in (P : Program) (b o : Nat) (T : TypeId) : ∀ (vs : List Value) (i : Nat) (cur : Array Value) (w : World), RowIn w b cur T → o + i + vs.length ≤ cur.size → (∀ v ∈ vs, v.oneCell' = true) →
    (storeCells ⟨b, o, none⟩ vs i).run P w = .ok () (w.setRow b (splice cur.toList (o + i) vs).toArray)
  | [], i, cur, w, hg, _, _ => by
    obtain ⟨lo, hi, h1, _⟩ := hg
    simp only [storeCells, splice_nil, Array.toArray_toList]
    rw [setRow_self w b cur T (lo, hi) h1]
    rfl
  | v :: rest, i, cur, w, hg, hl, h1 => by
    simp only [List.length_cons] at hl
    have hi : o + i < cur.size := by omega
    have hcell : w.cell? ⟨b, o + i, none⟩ = some cur[o + i] := by rw [hg.cell]; simp [hi]
    obtain ⟨lo, hi', g1, g2⟩ := hg
    have hfro : w.frozen? ⟨b, o + i, none⟩ = false := by
      have := g2.2.1 (o + i) hi
      simp only [World.frozen?, g1]
      simpa using this
    have hst : (store ((⟨b, o, none⟩ : Addr).add i) v).run P w = .ok () (w.setRow b (cur.setIfInBounds (o + i) v)) := by
      rw [add_plain, run_store P w _ v _ (h1 v (by simp)), hcell]
      simp [hfro, setCell_eq_setRow w b (o + i) cur T (lo, hi') v g1]
    have ih := run_storeCells_in P b o T rest (i + 1) (cur.setIfInBounds (o + i) v) (w.setRow b (cur.setIfInBounds (o + i) v))
      (RowIn.setRow ⟨lo, hi', g1, g2⟩ (by simp)) (by simp; omega) (fun x hx => h1 x (by simp [hx]))
    simp only [storeCells, Sem.run_bind, hst, Result.andThen_ok, ih, setRow_setRow, Array.toList_setIfInBounds]
    rw [show o + (i + 1) = o + i + 1 by omega, splice_cons (by simp; omega)]

theorem run_storeVar_at {P : Program} {t : TypeId} {v : Value} {n : Nat} (hs : sizeOfT P t = some n) (hn : v.cells.toList.length = n) {w : World} {b off : Nat} {T : TypeId} {cur : Array Value}
    (hb : RowIn w b cur T) (hfit : off + n ≤ cur.size) (h1 : v.cells.toList.all Value.oneCell' = true) :
    (storeVar t ⟨b, off, none⟩ v).run P w = .ok () (w.setRow b (splice cur.toList off v.cells.toList).toArray) := by
  have hst := run_storeCells_in P b off T v.cells.toList 0 cur w hb (by omega) (fun u hu => List.all_eq_true.1 h1 u hu)
  have hsz : v.cells.size = n := by simpa using hn
  simp only [Nat.add_zero] at hst
  simp [storeVar, run_sizeT hs, hsz, hst]

theorem opStore_sound {P : Program} {t : TypeId} {x v : Value} {e e' : Option Ent} {i c : Nat} {r : List Value} {os : List Prop}
    (h : opStore P t x v e i c r = some (e', os)) (ho : All os) {w : World} (he : ∀ E, e = some E → E.ok w) :
    ∃ w', (Instr.storeAt t x v).run P w = .ok () w' ∧ Eff e e' w w' := by
  unfold opStore at h
  cases hs : sizeOfT P t with
  | none => simp [hs] at h
  | some n =>
    simp only [hs] at h
    split at h <;> try (simp at h; done)
    rename_i hbeq
    have hn : v.cells.toList.length = n := Nat.eq_of_beq_eq_true hbeq
    split at h <;> try (simp at h; done)
    · rename_i b off b' T vs
      split at h <;> simp at h
      rename_i hble
      have hfit : off + n ≤ vs.length := Nat.le_of_ble_eq_true hble
      obtain ⟨rfl, rfl⟩ := h
      simp only [All, and_true] at ho
      obtain ⟨rfl, h1⟩ := ho
      have hk : RowIn w b vs.toArray T := (he _ rfl).1
      refine ⟨_, by simp only [Instr.storeAt, Instr.sureAddr, Sem.run_bind, Sem.run_pure, Result.andThen_ok]; exact run_storeVar_at hs hn hk (by simpa using hfit) (by simpa using h1), ?_, ?_, ?_⟩
      · exact setRow_keep.mono fun k _ hkb => ⟨_, rfl, rfl, hkb⟩
      · intro E hE
        cases hE
        refine ⟨hk.setRow (by simp only [List.size_toArray]; exact splice_length (by omega)), fun k hkb => ?_⟩
        simpa using (he _ rfl).2 k hkb
      · intro E hE k hkb
        cases hE
        exact .inr ⟨_, rfl, hkb, id⟩
    · rename_i b off ob cap T sz rows
      split at h <;> simp at h
      rename_i hble
      have hfit : c + n ≤ r.length := Nat.le_of_ble_eq_true hble
      obtain ⟨rfl, rfl⟩ := h
      simp only [All, and_true] at ho
      obtain ⟨rfl, rfl, hi, h1⟩ := ho
      have hok := (he _ rfl).1
      have hlt : i < rows.length := by
        rcases Nat.lt_or_ge i rows.length with h' | h'
        · exact h'
        · rw [List.getElem?_eq_none h'] at hi; simp at hi
      have hcap : cap ≠ 0 := by have := hok.1; omega
      obtain ⟨a, arr, rfl, hsp, hb, hroom, hR⟩ := hok.2 hcap
      have hrl : r.length = sz := (hR i r hi).1
      have hmul : i * sz + sz ≤ cap * sz := by
        have : (i + 1) * sz ≤ cap * sz := Nat.mul_le_mul_right _ (by have := hok.1; omega)
        rw [Nat.add_mul, Nat.one_mul] at this
        exact this
      have eo : offs (some a) = a.off := rfl
      have hal : arr.toList.length = arr.size := by simp
      have hb' : RowIn w (blk (some a)) arr T := hb
      have hroom' : offs (some a) + (i * sz + c) + n ≤ arr.size := by omega
      refine ⟨_, by simp only [Instr.storeAt, Instr.sureAddr, Sem.run_bind, Sem.run_pure, Result.andThen_ok]; exact run_storeVar_at hs hn hb' hroom' (by simpa using h1), ?_, ?_, ?_⟩
      · exact setRow_keep.mono fun k _ hkb => ⟨_, rfl, rfl, hcap, hkb⟩
      · intro E hE
        cases hE
        refine ⟨⟨by simpa using hok.1, fun _ => ⟨a, _, rfl, hsp, hb.setRow (by simp only [List.size_toArray]; rw [splice_length (by omega)]; exact hal), ?_, ?_⟩⟩, fun k hkb => by simpa using (he _ rfl).2 k hkb⟩
        · simp only [List.size_toArray]
          rw [splice_length (by omega)]
          simpa using hroom
        · intro i' r' hi'
          rw [List.getElem?_set] at hi'
          have hcell : ∀ q, (w.setRow (blk (some a)) (splice arr.toList (offs (some a) + (i * sz + c)) v.cells.toList).toArray).cell? ⟨a.block, q, none⟩ = (splice arr.toList (offs (some a) + (i * sz + c)) v.cells.toList)[q]? := fun q => by
            have := (hb.setRow (arr' := (splice arr.toList (offs (some a) + (i * sz + c)) v.cells.toList).toArray) (by simp only [List.size_toArray]; rw [splice_length (by omega)]; exact hal)).cell q
            rw [List.getElem?_toArray] at this
            exact this
          have hold : ∀ q u, w.cell? ⟨a.block, q, none⟩ = some u → arr.toList[q]? = some u := fun q u hq => by
            rw [hb.cell] at hq
            simpa using hq
          by_cases hii : i = i'
          · subst hii
            simp [hlt] at hi'
            subst hi'
            refine ⟨by rw [splice_length (by omega)]; exact hrl, fun q u hq => ?_⟩
            rw [hcell, splice_at (by omega)]
            rw [splice_at (by omega)] at hq
            by_cases g1 : q < c
            · simp only [g1, if_true] at hq
              rw [if_pos (by omega)]
              exact hold _ _ ((hR i r hi).2 _ _ hq)
            · simp only [g1, if_false] at hq
              rw [if_neg (by omega)]
              by_cases g2 : q < c + v.cells.toList.length
              · simp only [g2, if_true] at hq
                rw [if_pos (by omega)]
                rw [← hq]; congr 1; omega
              · simp only [g2, if_false] at hq
                rw [if_neg (by omega)]
                exact hold _ _ ((hR i r hi).2 _ _ hq)
          · simp [hii] at hi'
            refine ⟨(hR i' r' hi').1, fun q u hq => ?_⟩
            rw [hcell, splice_at (by omega)]
            have hq' := hold _ _ ((hR i' r' hi').2 _ _ hq)
            have hql : q < sz := by
              have h3 := (hR i' r' hi').1
              rcases Nat.lt_or_ge q r'.length with h' | h'
              · omega
              · rw [List.getElem?_eq_none h'] at hq; simp at hq
            rcases Nat.lt_or_gt_of_ne hii with hlt' | hgt'
            · have : i * sz + sz ≤ i' * sz := by
                have := Nat.mul_le_mul_right sz (show i + 1 ≤ i' by omega)
                rw [Nat.add_mul, Nat.one_mul] at this
                exact this
              rw [if_neg (by omega), if_neg (by omega)]
              exact hq'
            · have : i' * sz + sz ≤ i * sz := by
                have := Nat.mul_le_mul_right sz (show i' + 1 ≤ i by omega)
                rw [Nat.add_mul, Nat.one_mul] at this
                exact this
              rw [if_pos (by omega)]
              exact hq'
      · intro E hE k hkb
        cases hE
        exact .inr ⟨_, rfl, hkb, id⟩

theorem alloc_keep (S : Nat → Prop) (w : World) (o : Obj) : Keep S w { w with heap := w.heap.push o } :=
  ⟨rfl, rfl, rfl, by simp, fun b hb _ => by
    show (w.heap.push o)[b]? = _
    rw [Array.getElem?_push, if_neg (by omega)]⟩

theorem alloc_row (w : World) (c : Array Value) (T : TypeId) : RowIn { w with heap := w.heap.push (.cells c T (0, 0)) } w.heap.size c T :=
  ⟨0, 0, by show (w.heap.push _)[w.heap.size]? = _; simp, Nat.le_refl _, (fun i _ h => by omega), .inl rfl⟩

theorem chunks_length (sz n : Nat) (l : List Value) : (chunks sz n l).length = n := by
  induction n generalizing l with
  | zero => rfl
  | succ n ih => simp [chunks, ih]

theorem chunks_at {sz n : Nat} {l : List Value} (hl : l.length = n * sz) : ∀ i r, (chunks sz n l)[i]? = some r → r.length = sz ∧ ∀ c v, r[c]? = some v → l[i * sz + c]? = some v := by
  induction n generalizing l with
  | zero => intro i r h; simp [chunks] at h
  | succ n ih =>
    intro i r h
    rw [Nat.add_mul, Nat.one_mul] at hl
    cases i with
    | zero =>
      simp [chunks] at h
      subst h
      refine ⟨by simp; omega, fun c v hc => ?_⟩
      rw [List.getElem?_take] at hc
      split at hc
      · simpa using hc
      · simp at hc
    | succ i =>
      simp only [chunks, List.getElem?_cons_succ] at h
      have := ih (l := l.drop sz) (by simp; omega) i r h
      refine ⟨this.1, fun c v hc => ?_⟩
      have h2 := this.2 c v hc
      rw [List.getElem?_drop] at h2
      rw [← h2]; congr 1
      rw [Nat.add_mul, Nat.one_mul]; omega

/-- An operation that lays one new block. -/
theorem opNew_sound {P : Program} {f : Form} {m : Sem Next} {v : Value} {e' : Option Ent} {os : List Prop} {w : World} (h : opNew P f w.heap.size m = some (v, e', os)) :
    ∃ w', m.run P w = .ok (.value v) w' ∧ Eff none e' w w' := by
  unfold opNew at h
  split at h <;> try (simp at h; done)
  rename_i v' c T hr
  have hrun := runNew_sound m w hr
  have hlt : w.heap.size < ({ w with heap := w.heap.push (.cells c T (0, 0)) } : World).heap.size := by simp
  split at h
  · simp at h
    obtain ⟨rfl, rfl, rfl⟩ := h
    refine ⟨_, hrun, alloc_keep _ _ _, fun E hE => ?_, fun E hE k hk => ?_⟩
    · cases hE
      refine ⟨by simpa [Ent.holds] using alloc_row w c T, fun k hk => ?_⟩
      have : k = w.heap.size := hk
      omega
    · cases hE
      exact .inl (Nat.le_of_eq (Eq.symm hk))
  · rename_i n sz
    split at h <;> simp at h
    rename_i hb
    have hl : c.toList.length = n * sz := Nat.eq_of_beq_eq_true hb
    obtain ⟨rfl, rfl, rfl⟩ := h
    refine ⟨_, hrun, alloc_keep _ _ _, fun E hE => ?_, fun E hE k hk => ?_⟩
    · cases hE
      refine ⟨⟨by rw [chunks_length]; exact Nat.le_refl _, fun _ => ⟨_, c, rfl, rfl, alloc_row w c T, by simp at hl; simp; omega, ?_⟩⟩, fun k hk => ?_⟩
      · intro i r hi
        have := chunks_at hl i r hi
        refine ⟨this.1, fun q u hq => ?_⟩
        have h2 := this.2 q u hq
        simp only [Array.getElem?_toList] at h2
        simp only [Nat.zero_add]
        rw [(alloc_row w c T).cell]
        exact h2
      · have : k = w.heap.size := hk.2
        omega
    · cases hE
      exact .inl (Nat.le_of_eq (Eq.symm hk.2))

theorem opIdx_sound {P : Program} {t : TypeId} {x ix : Value} {e : Option Ent} {j : Nat} {v : Value} {os : List Prop}
    (h : opIdx P t x ix e j = some (v, os)) (ho : All os) {w : World} (he : ∀ E, e = some E → E.ok w) : (Instr.indexAt t x ix).run P w = .ok v w := by
  have key : ∀ (elem : TypeId) (a : Addr) (n cap s : Nat) (k : IntKind), P.underlying t = some (.slice elem) → sizeOfT P elem = some s → a.spot = none → j < n →
      (Instr.indexAt t (.slice (some a) n cap) (.int k (j : Int))).run P w = .ok (.pointer (some ⟨blk (some a), offs (some a) + j * s, none⟩)) w := by
    intro elem a n cap s k hu hs hsp hj
    have hadd : a.add (j * s) = ⟨blk (some a), offs (some a) + j * s, none⟩ := by
      obtain ⟨b, o, sp⟩ := a
      simp only at hsp
      subst hsp
      exact add_plain b o _
    have hin : (0 : Int) ≤ (j : Int) ∧ (j : Int) < (n : Int) := ⟨by omega, by omega⟩
    simp only [Instr.indexAt, asIntOf, Sem.run_bind, Sem.run_pure, Result.andThen_ok, run_underlying hu w, hin, and_self, if_true, run_sizeT hs, Int.toNat_natCast, hadd]
  unfold opIdx at h
  split at h <;> try (simp at h; done)
  rename_i elem ob n cap k i hu
  split at h <;> try (simp at h; done)
  · rename_i s ob' sz rows hs
    split at h <;> simp at h
    rename_i hb
    have := Nat.eq_of_beq_eq_true hb
    subst this
    obtain ⟨rfl, rfl⟩ := h
    simp only [All, and_true] at ho
    obtain ⟨rfl, rfl, rfl, hj⟩ := ho
    obtain ⟨a, rfl, hsp, _⟩ := (he _ rfl).1 (by intro hn; rw [hn] at hj; simp at hj)
    exact key elem a _ cap s k hu hs hsp hj
  · rename_i s ob' cap' T sz rows hs
    split at h <;> simp at h
    rename_i hb
    have := Nat.eq_of_beq_eq_true hb
    subst this
    obtain ⟨rfl, rfl⟩ := h
    simp only [All, and_true] at ho
    obtain ⟨rfl, rfl, rfl, hj⟩ := ho
    have hok := (he _ rfl).1
    obtain ⟨a, arr, rfl, hsp, _⟩ := hok.2 (by have := hok.1; omega)
    exact key elem a _ cap s k hu hs hsp hj

theorem opArr_sound {P : Program} {t : TypeId} {x ix : Value} {j : Nat} {v : Value} {os : List Prop}
    (h : opArr P t x ix j = some (v, os)) (ho : All os) {w : World} : (Instr.indexAt t x ix).run P w = .ok v w := by
  unfold opArr at h
  split at h <;> try (simp at h; done)
  rename_i len elem b off k i hu
  cases hs : sizeOfT P elem with
  | none => simp [hs] at h
  | some sz =>
    simp [hs] at h
    obtain ⟨rfl, rfl⟩ := h
    simp only [All, and_true] at ho
    obtain ⟨rfl, hj⟩ := ho
    have hin : (0 : Int) ≤ (j : Int) ∧ (j : Int) < (len : Int) := ⟨by omega, by omega⟩
    simp only [Instr.indexAt, asIntOf, Instr.sureAddr, Sem.run_bind, Sem.run_pure, Result.andThen_ok, run_underlying hu w, hin, and_self, if_true, run_sizeT hs, Int.toNat_natCast, add_plain]

theorem opDiv_sound {P : Program} {op : BinOp} {t : TypeId} {x y : Value} {v : Value} {os : List Prop}
    (h : opDiv op x y = some (v, os)) (ho : All os) {w : World} : (binOp op t x y).run P w = .ok v w ∧ (∃ k a b, x = .int k a ∧ y = .int k b) := by
  unfold opDiv at h
  split at h <;> try (simp at h; done)
  · rename_i k a k' b
    split at h <;> simp at h
    rename_i hk
    have := of_decide_eq_true hk
    subst this
    obtain ⟨rfl, rfl⟩ := h
    simp only [All, and_true] at ho
    exact ⟨by simp [binOp, Op.intDiv, ho], _, _, _, rfl, rfl⟩
  · rename_i k a k' b
    split at h <;> simp at h
    rename_i hk
    have := of_decide_eq_true hk
    subst this
    obtain ⟨rfl, rfl⟩ := h
    simp only [All, and_true] at ho
    exact ⟨by simp [binOp, Op.intDiv, ho], _, _, _, rfl, rfl⟩

theorem opShift_sound {P : Program} {op : BinOp} {t : TypeId} {x y : Value} {v : Value} {os : List Prop}
    (h : opShift op x y = some (v, os)) (ho : All os) {w : World} : (binOp op t x y).run P w = .ok v w ∧ (∃ k a k' b, x = .int k a ∧ y = .int k' b) := by
  unfold opShift at h
  split at h <;> try (simp at h; done)
  · simp at h
    obtain ⟨rfl, rfl⟩ := h
    simp only [All, and_true] at ho
    exact ⟨by simp [binOp, Op.shift, Int.not_lt.2 ho], _, _, _, _, rfl, rfl⟩
  · simp at h
    obtain ⟨rfl, rfl⟩ := h
    simp only [All, and_true] at ho
    exact ⟨by simp [binOp, Op.shift, Int.not_lt.2 ho], _, _, _, _, rfl, rfl⟩

/-! ### Elements, parts, new slices, append, copy, text -/

theorem opElt_sound {P : Program} {t : TypeId} {x ix : Value} {j : Nat} {v : Value} {os : List Prop}
    (h : opElt P t x ix j = some (v, os)) (ho : All os) {w : World} : (Instr.index t x ix).run P w = .ok v w := by
  unfold opElt at h
  split at h <;> try (simp at h; done)
  · rename_i s k i hu
    simp only [Option.some.injEq, Prod.mk.injEq] at h
    obtain ⟨rfl, rfl⟩ := h
    simp only [All, and_true] at ho
    obtain ⟨rfl, hj⟩ := ho
    have h0 : (0 : Int) ≤ (j : Int) := by omega
    have hg : s[j]? = some (s.data.getD j 0) := by
      have hj' : j < s.data.size := hj
      rw [getElem?_pos s j hj]
      have : s.data.getD j 0 = s.data[j] := by rw [Array.getD, dif_pos hj']; rfl
      rw [this]; rfl
    simp only [Instr.index, asIntOf, Sem.run_bind, Sem.run_pure, Result.andThen_ok, run_underlying hu w, h0, if_true, Int.toNat_natCast, hg]
  · rename_i len elem cs k i hu
    split at h <;> try (simp at h; done)
    · rename_i sz hs ha
      simp only [Option.some.injEq, Prod.mk.injEq] at h
      obtain ⟨rfl, rfl⟩ := h
      simp only [All, and_true] at ho
      obtain ⟨rfl, hj⟩ := ho
      have hin : (0 : Int) ≤ (j : Int) ∧ (j : Int) < (len : Int) := ⟨by omega, by omega⟩
      simp only [Instr.index, asIntOf, Sem.run_bind, Sem.run_pure, Result.andThen_ok, run_underlying hu w, hin, and_self, if_true, run_sizeT hs, Int.toNat_natCast, part, run_aggT ha]
    · rename_i sz hs ha
      simp only [Option.some.injEq, Prod.mk.injEq] at h
      obtain ⟨rfl, rfl⟩ := h
      simp only [All, and_true] at ho
      obtain ⟨rfl, hj, hl⟩ := ho
      have hin : (0 : Int) ≤ (j : Int) ∧ (j : Int) < (len : Int) := ⟨by omega, by omega⟩
      have hc : cs[j * sz]? = some (cs.getD (j * sz) undef) := by rw [Array.getD, dif_pos hl, Array.getElem?_eq_getElem hl]; rfl
      simp only [Instr.index, asIntOf, Sem.run_bind, Sem.run_pure, Result.andThen_ok, run_underlying hu w, hin, and_self, if_true, run_sizeT hs, Int.toNat_natCast, part, run_aggT ha, hc, Bool.false_eq_true, if_false]

theorem boundIs_some {σ : Operand → Value} {x : Operand} {j d : Nat} {p : Prop} (h : boundIs σ (some x) j d = some p) (hp : p) : ∃ k, σ x = .int k (j : Int) := by
  unfold boundIs at h
  simp only at h
  split at h <;> try (simp at h; done)
  rename_i k i hx
  simp only [Option.some.injEq] at h
  subst h
  exact ⟨k, by rw [hx, hp]⟩

theorem boundIs_none {σ : Operand → Value} {j d : Nat} {p : Prop} (h : boundIs σ none j d = some p) (hp : p) : j = d := by
  simp only [boundIs, Option.some.injEq] at h
  subst h
  exact hp

theorem run_sliceBound {P : Program} {w : World} {k : IntKind} {j y : Nat} {code : BoundsCode} (h : j ≤ y) : (Instr.sliceBound (.int k (j : Int)) y code).run P w = .ok j w := by
  have hin : (0 : Int) ≤ (j : Int) ∧ (j : Int) ≤ (y : Int) := ⟨by omega, by omega⟩
  simp only [Instr.sliceBound, asIntOf, Sem.run_bind, Sem.run_pure, Result.andThen_ok, hin, and_self, if_true, Int.toNat_natCast]

theorem run_sliceBounds {P : Program} {w : World} {σ : Operand → Value} {isS : Bool} {len cap l h m : Nat} {lo hi mx : Option Operand} {p q r : Prop}
    (hp : boundIs σ lo l 0 = some p) (hq : boundIs σ hi h len = some q) (hr : boundIs σ mx m cap = some r) (op : p) (oq : q) (or_ : r)
    (h1 : l ≤ h) (h2 : h ≤ m) (h3 : m ≤ cap) (h4 : hi = none → mx = none) :
    (Instr.sliceBounds isS len cap (lo.map σ) (hi.map σ) (mx.map σ)).run P w = .ok (l, h, m) w := by
  cases hi with
  | none =>
    have hmx := h4 rfl
    subst hmx
    have e1 := boundIs_none hq oq
    have e2 := boundIs_none hr or_
    subst e1; subst e2
    cases lo with
    | none => have e3 := boundIs_none hp op; subst e3; simp [Instr.sliceBounds]
    | some a => obtain ⟨k, hk⟩ := boundIs_some hp op; simp [Instr.sliceBounds, hk, run_sliceBound h1]
  | some c =>
    obtain ⟨kh, hkh⟩ := boundIs_some hq oq
    cases mx with
    | none =>
      have e2 := boundIs_none hr or_
      subst e2
      cases lo with
      | none => have e3 := boundIs_none hp op; subst e3; simp [Instr.sliceBounds, hkh, run_sliceBound h2]
      | some a => obtain ⟨k, hk⟩ := boundIs_some hp op; simp [Instr.sliceBounds, hk, hkh, run_sliceBound h1, run_sliceBound h2]
    | some d =>
      obtain ⟨km, hkm⟩ := boundIs_some hr or_
      cases lo with
      | none => have e3 := boundIs_none hp op; subst e3; simp [Instr.sliceBounds, hkh, hkm, run_sliceBound h2, run_sliceBound h3]
      | some a => obtain ⟨k, hk⟩ := boundIs_some hp op; simp [Instr.sliceBounds, hk, hkh, hkm, run_sliceBound h1, run_sliceBound h2, run_sliceBound h3]

theorem opCut_sound {P : Program} {σ : Operand → Value} {t : TypeId} {x : Value} {lo hi mx : Option Operand} {l hh m : Nat} {v : Value} {os : List Prop}
    (h : opCut P σ t x lo hi mx l hh m = some (v, os)) (ho : All os) {w : World} : (Instr.sliceAt t x (lo.map σ) (hi.map σ) (mx.map σ)).run P w = .ok v w := by
  unfold opCut at h
  split at h <;> try (simp at h; done)
  · rename_i s hu
    split at h <;> simp at h
    rename_i p q hp hq
    obtain ⟨rfl, rfl⟩ := h
    simp only [All, and_true] at ho
    obtain ⟨op, oq, h1, h2⟩ := ho
    have := run_sliceBounds (P := P) (w := w) (isS := false) (mx := none) (m := s.size) (r := s.size = s.size) hp hq rfl op oq rfl h1 h2 (Nat.le_refl _) (fun _ => rfl)
    simp only [Option.map_none] at this
    simp [Instr.sliceAt, Instr.slice, run_underlying hu, this]
  · rename_i elem ob n cap hu
    split at h <;> simp at h
    rename_i sz p q r hs hp hq hr
    obtain ⟨rfl, rfl⟩ := h
    simp only [All, and_true] at ho
    obtain ⟨op, oq, or_, h1, h2, h3, h4⟩ := ho
    have := run_sliceBounds (P := P) (w := w) (isS := true) hp hq hr op oq or_ h1 h2 h3 h4
    simp [Instr.sliceAt, Instr.slice, run_underlying hu, this, run_sizeT hs]
  · rename_i n elem a hu
    split at h <;> simp at h
    rename_i sz p q r hs hp hq hr
    obtain ⟨rfl, rfl⟩ := h
    simp only [All, and_true] at ho
    obtain ⟨op, oq, or_, h1, h2, h3, h4⟩ := ho
    have := run_sliceBounds (P := P) (w := w) (isS := false) hp hq hr op oq or_ h1 h2 h3 h4
    simp [Instr.sliceAt, run_underlying hu, Instr.sureAddr, this, run_sizeT hs]

theorem run_zeroT {P : Program} {t : TypeId} {z : List Value} (h : zeroT P t = some z) (w : World) : ∃ v, (zeroValue t).run P w = .ok v w ∧ v.cells.toList = z := by
  unfold zeroT at h
  split at h <;> simp at h
  rename_i i hi
  obtain ⟨v, hv, rfl⟩ := h
  exact ⟨v, by simp [zeroValue, typeInfo, hi, hv], rfl⟩

theorem run_bytesT {P : Program} {t : TypeId} {n : Nat} (h : bytesT P t = some n) (w : World) : ∃ i, (typeInfo t).run P w = .ok i w ∧ i.bytes = n := by
  unfold bytesT at h
  cases hi : P.info? t with
  | none => simp [hi] at h
  | some i => simp [hi] at h; exact ⟨i, by simp [typeInfo, hi], h⟩

/-- Rows that lie one behind the other in a row of cells. -/
theorem RowsAt.of_flat {w : World} {a : Addr} {sz : Nat} (hsp : a.spot = none) : ∀ {rows : List (List Value)}, (∀ r ∈ rows, r.length = sz) →
    (∀ j u, rows.flatten[j]? = some u → w.cell? ⟨a.block, a.off + j, none⟩ = some u) → RowsAt w a sz rows := by
  intro rows hl hc i r hi
  refine ⟨hl r (List.mem_of_getElem? hi), fun c v hv => hc (i * sz + c) v ?_⟩
  clear hc
  induction rows generalizing i with
  | nil => simp at hi
  | cons r0 rows ih =>
    have h0 : r0.length = sz := hl r0 (by simp)
    cases i with
    | zero =>
      simp at hi
      subst hi
      have : c < r0.length := by
        rcases Nat.lt_or_ge c r0.length with h' | h'
        · exact h'
        · rw [List.getElem?_eq_none h'] at hv; cases hv
      rw [List.flatten_cons, List.getElem?_append_left (by simpa using this)]
      simpa using hv
    | succ i =>
      simp at hi
      have := ih (fun r hr => hl r (by simp [hr])) i hi
      rw [List.flatten_cons, List.getElem?_append_right (by rw [Nat.add_mul]; omega)]
      rw [← this]; congr 1
      rw [Nat.add_mul]; omega

theorem RowsAt.flat {w : World} {a : Addr} {sz : Nat} {rows : List (List Value)} (h : RowsAt w a sz rows) : ∀ j u, rows.flatten[j]? = some u → w.cell? ⟨a.block, a.off + j, none⟩ = some u := by
  induction rows generalizing a with
  | nil => intro j u h; simp at h
  | cons r rows ih =>
    intro j u hj
    have h0 := h 0 r (by simp)
    have htail : RowsAt w ⟨a.block, a.off + sz, a.spot⟩ sz rows := by
      intro i r' hi
      have := h (i + 1) r' (by simpa using hi)
      refine ⟨this.1, fun c v hv => ?_⟩
      have h2 := this.2 c v hv
      rw [Nat.add_mul, Nat.one_mul] at h2
      rw [← h2]; congr 2; show a.off + sz + (i * sz + c) = a.off + (i * sz + sz + c); omega
    rw [List.flatten_cons] at hj
    by_cases hlt : j < r.length
    · rw [List.getElem?_append_left hlt] at hj
      have := h0.2 j u hj
      simpa using this
    · rw [List.getElem?_append_right (by omega)] at hj
      have := ih htail (j - r.length) u hj
      rw [← this]; congr 2
      show a.off + j = a.off + sz + (j - r.length)
      have := h0.1
      omega

theorem RowsAt.lens {w : World} {a : Addr} {sz : Nat} {rows : List (List Value)} (h : RowsAt w a sz rows) : ∀ r ∈ rows, r.length = sz := fun r hr => by
  obtain ⟨i, hi⟩ := List.getElem?_of_mem hr
  exact (h i r hi).1

theorem flatten_len {sz : Nat} : ∀ {rows : List (List Value)}, (∀ r ∈ rows, r.length = sz) → rows.flatten.length = rows.length * sz
  | [], _ => by simp
  | r :: rows, h => by
    have h1 := h r (by simp)
    have h2 := flatten_len (rows := rows) fun r hr => h r (by simp [hr])
    rw [List.flatten_cons, List.length_append, h1, h2, List.length_cons, Nat.add_mul]
    omega

theorem take_flatten {sz : Nat} : ∀ {rows : List (List Value)} (m : Nat), (∀ r ∈ rows, r.length = sz) → (rows.take m).flatten = rows.flatten.take (m * sz)
  | [], m, _ => by simp
  | r :: rows, 0, _ => by simp
  | r :: rows, m + 1, h => by
    have h1 := h r (by simp)
    have h2 := take_flatten (rows := rows) m fun r hr => h r (by simp [hr])
    rw [List.take_succ_cons, List.flatten_cons, List.flatten_cons, h2, Nat.add_mul, Nat.one_mul, List.take_append, h1]
    rw [List.take_of_length_le (l := r) (by omega)]
    congr 2
    omega

theorem flatten_map_one {α : Type} (f : α → Value) (l : List α) : (l.map fun b => [f b]).flatten = l.map f := by
  induction l with
  | nil => rfl
  | cons a l ih => simp [ih]

/-- The source of an append or a copy, as it is read. -/
theorem srcRows_run {P : Program} {y : Value} {e2 : Option Ent} {sz : Nat} {src : List (List Value)} {os : List Prop} (h : srcRows y e2 sz = some (src, os)) (ho : All os) {w : World}
    (he : ∀ E, e2 = some E → E.ok w) : (∀ w', w'.heap = w.heap → (Builtin.lenOf y).run P w' = .ok src.length w') ∧
      (∀ m, m ≤ src.length → ∀ w', w'.heap = w.heap → (Builtin.firstCells sz m y).run P w' = .ok (src.take m).flatten.toArray w') ∧ (∀ r ∈ src, r.length = sz) := by
  have key : ∀ (a : Addr) (n c : Nat) (rows : List (List Value)), a.spot = none → n = rows.length → RowsAt w a sz rows →
      (∀ w', w'.heap = w.heap → (Builtin.lenOf (.slice (some a) n c)).run P w' = .ok rows.length w') ∧
      (∀ m, m ≤ rows.length → ∀ w', w'.heap = w.heap → (Builtin.firstCells sz m (.slice (some a) n c)).run P w' = .ok (rows.take m).flatten.toArray w') ∧ (∀ r ∈ rows, r.length = sz) := by
    intro a n c rows hsp hn hR
    refine ⟨fun w' hw => by simp [Builtin.lenOf, hn], fun m hm w' hw => ?_, hR.lens⟩
    have hl := run_loadCells_list (P := P) w' a (rows.take m).flatten (fun j u hj => by
      rw [take_flatten m hR.lens, List.getElem?_take] at hj
      split at hj
      · have := hR.flat j u hj
        obtain ⟨b, o, sp⟩ := a
        simp only at hsp
        subst hsp
        rw [add_plain]
        simp only [World.cell?, hw] at this ⊢
        exact this
      · cases hj)
    have hlen : (rows.take m).flatten.length = m * sz := by
      rw [flatten_len (sz := sz) fun r hr => hR.lens r (List.mem_of_mem_take hr), List.length_take, Nat.min_eq_left hm]
    rw [hlen] at hl
    simp [Builtin.firstCells, hl]
  unfold srcRows at h
  split at h <;> try (simp at h; done)
  · rename_i ob n cap
    simp at h
    obtain ⟨rfl, rfl⟩ := h
    simp only [All, and_true] at ho
    obtain ⟨rfl, rfl⟩ := ho
    exact ⟨fun w' _ => by simp [Builtin.lenOf], fun m _ w' _ => by simp [Builtin.firstCells], by simp⟩
  · rename_i ob n cap ob' sz' rows
    split at h <;> simp at h
    rename_i hb
    have := Nat.eq_of_beq_eq_true hb
    subst this
    obtain ⟨rfl, rfl⟩ := h
    simp only [All, and_true] at ho
    obtain ⟨rfl, hn⟩ := ho
    by_cases hne : rows = []
    · subst hne
      refine ⟨fun w' hw => by simp [Builtin.lenOf, hn], fun m hm w' hw => ?_, by simp⟩
      have : m = 0 := by simpa using hm
      subst this
      cases ob <;> simp [Builtin.firstCells, loadCells, loadCellsFrom]
    · obtain ⟨a, rfl, hsp, hR⟩ := (he _ rfl).1 hne
      exact key a n cap rows hsp hn hR
  · rename_i ob n cap ob' cap' T sz' rows
    split at h <;> simp at h
    rename_i hb
    have := Nat.eq_of_beq_eq_true hb
    subst this
    obtain ⟨rfl, rfl⟩ := h
    simp only [All, and_true] at ho
    obtain ⟨rfl, hn⟩ := ho
    by_cases hne : rows = []
    · subst hne
      refine ⟨fun w' hw => by simp [Builtin.lenOf, hn], fun m hm w' hw => ?_, by simp⟩
      have : m = 0 := by simpa using hm
      subst this
      cases ob <;> simp [Builtin.firstCells, loadCells, loadCellsFrom]
    · have hok := (he _ rfl).1
      have hpos : 0 < rows.length := by cases rows with | nil => exact absurd rfl hne | cons => simp
      obtain ⟨a, arr, rfl, hsp, _, _, hR⟩ := hok.2 (by have := hok.1; omega)
      exact key a n cap rows hsp hn hR
  · rename_i s
    split at h <;> simp at h
    rename_i hb
    have := Nat.eq_of_beq_eq_true hb
    subst this
    obtain ⟨rfl, rfl⟩ := h
    have hsz : s.data.toList.length = s.size := rfl
    refine ⟨fun w' _ => by simp [Builtin.lenOf, encB], fun m hm w' _ => ?_, fun r hr => ?_⟩
    · have hm' : m ≤ s.size := by simpa [encB] using hm
      simp only [Builtin.firstCells, Sem.run_pure]
      congr 1
      apply Array.ext'
      simp only [Array.toList_map, encB]
      rw [← List.map_take, flatten_map_one]
      congr 1
      simp [ByteArray.data_extract]
    · obtain ⟨b, _, rfl⟩ := List.mem_map.1 hr
      rfl

theorem opMake_sound {P : Program} {t : TypeId} {ln cp : Value} {n c : Nat} {v : Value} {e' : Option Ent} {os : List Prop} {w : World}
    (h : opMake P t w.heap.size ln cp n c = some (v, e', os)) (ho : All os) : ∃ w', (Instr.makeSlice t ln cp).run P w = .ok v w' ∧ Eff none e' w w' := by
  unfold opMake at h
  split at h <;> try (simp at h; done)
  rename_i elem k i k' i' hu
  split at h <;> try (simp at h; done)
  rename_i sz by_ z hs hb hz
  split at h <;> simp at h
  rename_i hzl hsz1
  have hzl := Nat.eq_of_beq_eq_true hzl
  have hsz1 := Nat.le_of_ble_eq_true hsz1
  obtain ⟨rfl, rfl, rfl⟩ := h
  simp only [All, and_true] at ho
  obtain ⟨rfl, rfl, hnc, hroom, hmax⟩ := ho
  obtain ⟨zv, hzv, hzc⟩ := run_zeroT hz w
  obtain ⟨inf, hinf, hby⟩ := run_bytesT hb w
  have hw1 : IntKind.i64.wrap (n : Int) = n := by
    unfold IntKind.wrap; simp [IntKind.bits, IntKind.signed]; omega
  have hw2 : IntKind.i64.wrap (c : Int) = c := by
    unfold IntKind.wrap; simp [IntKind.bits, IntKind.signed]; omega
  have hbc : (by_ : Int) * (c : Int) ≤ 281474976710656 := by
    rw [← Int.natCast_mul, Nat.mul_comm]
    omega
  have hcond : ((decide ((c : Int) < 0) || decide ((inf.bytes : Int) * (c : Int) > 2 ^ 48)) || decide ((n : Int) < 0) || decide ((n : Int) > (c : Int))) = false := by
    rw [hby]
    have e1 : ¬ ((c : Int) < 0) := by omega
    have e2 : ¬ ((by_ : Int) * (c : Int) > 2 ^ 48) := by
      have : (2 : Int) ^ 48 = 281474976710656 := by decide
      omega
    have e3 : ¬ ((n : Int) < 0) := by omega
    have e4 : ¬ ((n : Int) > (c : Int)) := by omega
    simp only [decide_eq_false e1, decide_eq_false e2, decide_eq_false e3, decide_eq_false e4, Bool.or_false]
  let cells : Array Value := if c * sz = 0 then #[] else ((Array.range (c * sz)).map (zv.cells[· % zv.cells.size]!))
  have hzs : zv.cells.size = sz := by rw [← hzl, ← hzc]; simp
  have hcells : cells.toList = (List.replicate c z).flatten := by
    have hzz : zv.cells = z.toArray := by rw [← hzc]
    show (if c * sz = 0 then #[] else ((Array.range (c * sz)).map (zv.cells[· % zv.cells.size]!)) : Array Value).toList = _
    apply List.ext_getElem?
    intro j
    have hfl : ∀ (c j : Nat), (List.replicate c z).flatten[j]? = if j < c * sz then z[j % sz]? else none := by
      intro c
      induction c with
      | zero => intro j; simp
      | succ c ih =>
        intro j
        rw [List.replicate_succ, List.flatten_cons, List.getElem?_append, hzl, ih, Nat.add_mul, Nat.one_mul]
        by_cases hj : j < sz
        · rw [if_pos hj, if_pos (by omega), Nat.mod_eq_of_lt hj]
        · rw [if_neg hj]
          have : j % sz = (j - sz) % sz := by rw [Nat.mod_eq_sub_mod (by omega)]
          rw [this]
          by_cases h2 : j - sz < c * sz
          · rw [if_pos h2, if_pos (by omega)]
          · rw [if_neg h2, if_neg (by omega)]
    rw [hfl]
    split
    · rename_i h0
      rw [if_neg (by omega)]
      simp
    · rename_i h0
      by_cases hj : j < c * sz
      · rw [if_pos hj]
        have hm : j % sz < z.length := by rw [hzl]; exact Nat.mod_lt _ (by omega)
        simp [hj, hzz, hzl, hm, Array.getElem?_toList]
        rw [List.getElem?_eq_getElem hm]; rfl
      · rw [if_neg hj]
        simp [hj]
  have hrun : (Instr.makeSlice t (.int k (n : Int)) (.int k' (c : Int))).run P w = .ok (.slice (some ⟨w.heap.size, 0, none⟩) n c) { w with heap := w.heap.push (.cells cells elem (0, 0)) } := by
    simp only [Instr.makeSlice, run_underlying hu, asInt, asIntOf, Sem.run_bind, Sem.run_pure, Result.andThen_ok, hinf, hw1, hw2, Int.toNat_natCast, run_askRoom, run_sizeT hs]
    simp only [hcond, Bool.false_eq_true, if_false]
    by_cases h0 : c * sz = 0
    · have e0 : ∀ f : Nat → Value, (Array.range 0).map f = #[] := fun f => by simp
      simp only [run_sizeT hs, Result.andThen_ok, h0, if_true, Sem.run_pure, newRow, Sem.run_bind, run_newObj, cells, run_askRoom, e0]
    · simp [h0, newRow, cells, hzv, run_sizeT hs]
  refine ⟨_, hrun, alloc_keep _ _ _, fun E hE => ?_, fun E hE b hb => ?_⟩
  · cases hE
    have hlen : cells.size = c * sz := by
      have : cells.toList.length = c * sz := by
        rw [hcells, flatten_len (sz := sz) (fun r hr => by rw [List.eq_of_mem_replicate hr]; exact hzl)]
        simp
      simpa using this
    refine ⟨⟨by simpa using hnc, fun _ => ⟨_, cells, rfl, rfl, alloc_row w cells elem, by simp [hlen], ?_⟩⟩, fun b hb => ?_⟩
    · refine RowsAt.of_flat rfl (fun r hr => by rw [List.eq_of_mem_replicate hr]; exact hzl) fun j u hj => ?_
      have hj' : cells.toList[j]? = some u := by
        rw [hcells]
        have : (List.replicate n z) = (List.replicate c z).take n := by rw [List.take_replicate, Nat.min_eq_left hnc]
        rw [this, take_flatten (sz := sz) n (fun r hr => by rw [List.eq_of_mem_replicate hr]; exact hzl), List.getElem?_take] at hj
        split at hj
        · exact hj
        · cases hj
      rw [(alloc_row w cells elem).cell]
      simpa using hj'
    · have : b = w.heap.size := hb.2
      subst this
      simp
  · cases hE
    exact .inl (Nat.le_of_eq (Eq.symm hb.2))

theorem growBy_le (need : Nat) : ∀ (rounds c : Nat), c ≤ 2 * need + 200 → Builtin.growBy need rounds c ≤ 2 * need + 200
  | 0, c, h => h
  | rounds + 1, c, h => by
    unfold Builtin.growBy
    split
    · exact h
    · exact growBy_le need rounds _ (by omega)

theorem nextslicecap_le (need cap : Nat) (h : cap < need) : Builtin.nextslicecap need cap ≤ 2 * need + 200 := by
  unfold Builtin.nextslicecap
  split
  · omega
  · split
    · omega
    · exact growBy_le need 4 cap (by omega)

def isI : TypeDesc → Bool | .int _ => true | _ => false
theorem runApp1 {P : Program} {st yt ty elem : TypeId} {d : TypeDesc} {ob : Option Addr} {n cap m sz : Nat} {y : Value} {w : World}
    (hu : P.underlying st = some (.slice elem)) (hd : P.underlying yt = some d) (hdi : isI d = false) (hs : (Go.sizeOf elem).run P w = .ok sz w)
    (hlen : (Builtin.lenOf y).run P w = .ok m w) (new : Array Value)
    (hfit : n + m ≤ cap) (hnew : (Builtin.firstCells sz m y).run P w = .ok new w) :
    (Builtin.append_ #[st, yt] ty #[.slice ob n cap, y]).run P w = ((match ob with | some a => storeCells (a.add (n * sz)) new.toList | none => pure ()).run P w).andThen fun _ w' => .ok (.slice ob (n + m) cap) w' := by
  unfold Builtin.append_
  simp only [List.getElem?_toArray, List.getElem?_cons_zero, List.getElem?_cons_succ, Sem.run_bind, run_underlying hu, run_underlying hd, Result.andThen_ok, hs, Sem.run_pure]
  cases d <;> (try (simp [isI] at hdi; done)) <;> (simp only [Bool.false_eq_true, if_false, Sem.run_bind, hlen, Result.andThen_ok, hfit, if_true, Bool.not_false, hnew]; cases ob <;> simp only [Sem.run_bind, Sem.run_pure, Result.andThen_ok])

theorem runApp2 {P : Program} {st yt ty elem : TypeId} {d : TypeDesc} {ob : Option Addr} {n cap m sz nc : Nat} {y zv : Value} {w : World} {inf : TypeInfo}
    (hu : P.underlying st = some (.slice elem)) (hd : P.underlying yt = some d) (hdi : isI d = false) (hs : ∀ w, (Go.sizeOf elem).run P w = .ok sz w)
    (hlen : (Builtin.lenOf y).run P w = .ok m w) (hinf : ∀ w, (typeInfo elem).run P w = .ok inf w)
    (hfit : ¬ n + m ≤ cap) (hmax : ¬ (((n + m : Nat) : Int) > IntKind.i64.max)) (hlim : ¬ (Builtin.nextslicecap (n + m) cap * inf.bytes > 2 ^ 48))
    (hq : (choose (.appendCap (n + m) cap elem)).run P w = .ok nc { w with drawn := w.drawn + 1 }) (old new : Array Value)
    (hold : (Builtin.firstCells sz n (.slice ob n cap)).run P { w with drawn := w.drawn + 1 } = .ok old { w with drawn := w.drawn + 1 })
    (hnew : (Builtin.firstCells sz m y).run P { w with drawn := w.drawn + 1 } = .ok new { w with drawn := w.drawn + 1 })
    (hz : (zeroValue elem).run P { w with drawn := w.drawn + 1 } = .ok zv { w with drawn := w.drawn + 1 }) :
    (Builtin.append_ #[st, yt] ty #[.slice ob n cap, y]).run P w = .ok (.slice (some ⟨w.heap.size, 0, none⟩) (n + m) nc)
      { w with drawn := w.drawn + 1, heap := w.heap.push (.cells (old ++ new ++ Builtin.zeroCells zv.cells (nc - (n + m))) elem (0, 0)) } := by
  unfold Builtin.append_
  simp only [List.getElem?_toArray, List.getElem?_cons_zero, List.getElem?_cons_succ, Sem.run_bind, run_underlying hu, run_underlying hd, Result.andThen_ok, hs, Sem.run_pure]
  cases d <;> (try (simp [isI] at hdi; done)) <;>
    (simp only [Bool.false_eq_true, if_false, Sem.run_bind, hlen, Result.andThen_ok, hfit, hmax, false_and, hinf, hlim, hq, run_askRoom, hold, hnew, hz, if_true, Bool.not_false, newRow, run_newObj, Sem.run_pure])

/-- What append does, of a slice that is the call's own or has no room at all. -/
theorem run_append {P : Program} {st yt ty elem : TypeId} {ob : Option Addr} {cap : Nat} {y : Value} {rows src : List (List Value)} {sz by_ : Nat} {z : List Value} {w : World}
    (hu : P.underlying st = some (.slice elem)) (hyt : notIntT P yt = true) (hs : sizeOfT P elem = some sz) (hb : bytesT P elem = some by_) (hz : zeroT P elem = some z) (hzl : z.length = sz) (hsz1 : 1 ≤ sz) (hby : by_ ≤ 1000000)
    (hlen : (∀ w', w'.heap = w.heap → (Builtin.lenOf y).run P w' = .ok src.length w'))
    (hfirst : ∀ m, m ≤ src.length → ∀ w', w'.heap = w.heap → (Builtin.firstCells sz m y).run P w' = .ok (src.take m).flatten.toArray w') (hsl : ∀ r ∈ src, r.length = sz)
    (hrc : rows.length ≤ cap) (hmine : cap ≠ 0 → ∃ a arr, ob = some a ∧ a.spot = none ∧ RowIn w a.block arr elem ∧ a.off + cap * sz ≤ arr.size ∧ RowsAt w a sz rows)
    (hone : cap ≠ 0 → src.flatten.all Value.oneCell' = true) (hroom : (rows.length + src.length) * (by_ + 1) ≤ 70368744177664) :
    ∃ (ob' : Option Addr) (cap' : Nat) (w' : World), (Builtin.append_ #[st, yt] ty #[.slice ob rows.length cap, y]).run P w = .ok (.slice ob' (rows.length + src.length) cap') w' ∧
      Eff (some (.osl ob cap elem sz rows)) (some (.osl ob' cap' elem sz (rows ++ src))) w w' ∧ (rows.length + src.length ≤ cap → ob' = ob ∧ cap' = cap) := by
  obtain ⟨d, hd, hdi⟩ : ∃ d, P.underlying yt = some d ∧ isI d = false := by
    unfold notIntT at hyt
    split at hyt
    · cases hyt
    · cases hyt
    · rename_i h1 h2
      cases hd : P.underlying yt with
      | none => exact absurd hd h2
      | some d => exact ⟨d, rfl, by cases d <;> first | rfl | exact absurd hd (h1 _)⟩
  have hzeros : (underlying yt).run P w = .ok d w := run_underlying hd w
  obtain ⟨inf, hinf, hib⟩ := run_bytesT hb w
  have hneed : rows.length + src.length ≤ 70368744177664 := by
    have := Nat.le_mul_of_pos_right (rows.length + src.length) (show 0 < by_ + 1 by omega)
    omega
  have hrl : cap ≠ 0 → ∀ r ∈ rows, r.length = sz := fun hc r hr => by
    obtain ⟨a, arr, _, _, _, _, hR⟩ := hmine hc
    exact hR.lens r hr
  have hrows0 : cap = 0 → rows = [] := fun hc => by
    cases rows with
    | nil => rfl
    | cons => simp at hrc; omega
  by_cases hfit : rows.length + src.length ≤ cap
  · by_cases hc : cap = 0
    · have h1 := hrows0 hc
      subst h1
      have h2 : src = [] := by
        cases src with
        | nil => rfl
        | cons => simp at hfit; omega
      subst h2
      subst hc
      refine ⟨ob, 0, w, ?_, ?_, fun _ => ⟨rfl, rfl⟩⟩
      · have h0 := hfirst 0 (by simp) w rfl
        have h00 := hlen w rfl
        simp only [List.length_nil] at h00
        simp only [List.take_nil, List.flatten_nil] at h0
        have := runApp1 (ty := ty) (ob := ob) (n := 0) (cap := 0) (m := 0) hu hd hdi (run_sizeT hs w) h00 #[] (by omega) h0
        simp only [List.length_nil, Nat.add_zero]
        rw [this]
        cases ob <;> simp [storeCells]
      · exact ⟨Keep.refl _ _, fun E hE => by cases hE; exact ⟨⟨by simp, fun h => absurd rfl h⟩, fun b hb => absurd rfl hb.1⟩, fun E hE b hb => by cases hE; exact absurd rfl hb.1⟩
    · obtain ⟨a, arr, rfl, hsp, hrow, hsize, hR⟩ := hmine hc
      obtain ⟨ab, ao, asp⟩ := a
      simp only at hsp hrow hsize
      subst hsp
      have hfl : src.flatten.length = src.length * sz := flatten_len hsl
      have hbound : ao + rows.length * sz + src.flatten.length ≤ arr.size := by
        have : (rows.length + src.length) * sz ≤ cap * sz := Nat.mul_le_mul_right _ hfit
        rw [Nat.add_mul] at this
        omega
      have hst := run_storeCells_in P ab (ao + rows.length * sz) elem src.flatten 0 arr w hrow (by omega) (fun u hu => List.all_eq_true.1 (hone hc) u hu)
      simp only [Nat.add_zero] at hst
      have hal : arr.toList.length = arr.size := by simp
      refine ⟨some ⟨ab, ao, none⟩, cap, w.setRow ab (splice arr.toList (ao + rows.length * sz) src.flatten).toArray, ?_, ⟨?_, ?_, ?_⟩, fun _ => ⟨rfl, rfl⟩⟩
      · have h0 := hfirst src.length (Nat.le_refl _) w rfl
        have h00 := hlen w rfl
        simp only [List.take_length] at h0
        rw [runApp1 (ty := ty) hu hd hdi (run_sizeT hs w) h00 _ hfit h0]
        simp only [add_plain, hst, Result.andThen_ok]
      · exact setRow_keep.mono fun k _ hk => ⟨_, rfl, rfl, hc, hk⟩
      · intro E hE
        cases hE
        have hrow' := hrow.setRow (arr' := (splice arr.toList (ao + rows.length * sz) src.flatten).toArray) (by simp only [List.size_toArray]; rw [splice_length (by omega)]; exact hal)
        refine ⟨⟨by simp only [List.length_append]; exact hfit, fun _ => ⟨_, _, rfl, rfl, hrow', ?_, ?_⟩⟩, fun b hb => ?_⟩
        · simp only [List.size_toArray]; rw [splice_length (by omega)]; simpa using hsize
        · refine RowsAt.of_flat rfl (fun r hr => ?_) fun j u hj => ?_
          · rcases List.mem_append.1 hr with h | h
            · exact hrl hc r h
            · exact hsl r h
          · rw [hrow'.cell]
            rw [List.flatten_append] at hj
            have hrfl : rows.flatten.length = rows.length * sz := flatten_len (hrl hc)
            show (splice arr.toList (ao + rows.length * sz) src.flatten).toArray[ao + j]? = some u
            rw [List.getElem?_toArray, splice_at (by omega)]
            by_cases hj1 : j < rows.flatten.length
            · rw [List.getElem?_append_left hj1] at hj
              have := hR.flat j u hj
              rw [hrow.cell] at this
              rw [if_pos (by omega)]
              simpa using this
            · rw [List.getElem?_append_right (by omega)] at hj
              have hj2 : j - rows.flatten.length < src.flatten.length := by
                rcases Nat.lt_or_ge (j - rows.flatten.length) src.flatten.length with h | h
                · exact h
                · rw [List.getElem?_eq_none h] at hj; cases hj
              rw [if_neg (by omega), if_pos (by omega), ← hj]
              congr 1
              omega
        · have : b = ab := hb.2
          subst this
          simpa using hrow.lt
      · intro E hE b hb
        cases hE
        exact .inr ⟨_, rfl, ⟨hc, hb.2⟩, id⟩
  · have hcap : ¬ rows.length + src.length ≤ cap := hfit
    have hns := nextslicecap_le (rows.length + src.length) cap (by omega)
    have hlim : ¬ (Builtin.nextslicecap (rows.length + src.length) cap * inf.bytes > 2 ^ 48) := by
      rw [hib]
      have h1 : Builtin.nextslicecap (rows.length + src.length) cap * by_ ≤ (2 * (rows.length + src.length) + 200) * by_ := Nat.mul_le_mul_right _ hns
      have h2 : (2 * (rows.length + src.length) + 200) * by_ = 2 * ((rows.length + src.length) * by_) + 200 * by_ := by rw [Nat.add_mul, Nat.mul_assoc]
      have h3 : (rows.length + src.length) * by_ ≤ (rows.length + src.length) * (by_ + 1) := Nat.mul_le_mul_left _ (by omega)
      have : (2 : Nat) ^ 48 = 281474976710656 := by decide
      omega
    have hmax : ¬ (((rows.length + src.length : Nat) : Int) > IntKind.i64.max) := by
      have : IntKind.i64.max = 9223372036854775807 := by decide
      omega
    have _hmax2 : ¬ (IntKind.i64.max < (rows.length : Int) + (src.length : Int)) := by
      have : IntKind.i64.max = 9223372036854775807 := by decide
      omega
    obtain ⟨zv, hzv, hzc⟩ := run_zeroT hz { w with drawn := w.drawn + 1 }
    have hzs : zv.cells.size = sz := by rw [← hzl, ← hzc]; simp
    let q : Question := .appendCap (rows.length + src.length) cap elem
    let nc := q.cut (w.tape w.drawn q)
    have hnc : rows.length + src.length ≤ nc := by
      show rows.length + src.length ≤ (rows.length + src.length) + _
      omega
    have hold : (Builtin.firstCells sz rows.length (.slice ob rows.length cap)).run P { w with drawn := w.drawn + 1 } = .ok rows.flatten.toArray { w with drawn := w.drawn + 1 } := by
      by_cases hc : cap = 0
      · rw [hrows0 hc]
        cases ob <;> simp [Builtin.firstCells, loadCells, loadCellsFrom]
      · obtain ⟨a, arr, rfl, hsp, hrow, hsize, hR⟩ := hmine hc
        have hl := run_loadCells_list (P := P) { w with drawn := w.drawn + 1 } a rows.flatten (fun j u hj => by
          have := hR.flat j u hj
          obtain ⟨b, o, sp⟩ := a
          simp only at hsp
          subst hsp
          rw [add_plain]
          exact this)
        rw [flatten_len (hrl hc)] at hl
        simp only [Builtin.firstCells]
        exact hl
    have hnew := hfirst src.length (Nat.le_refl _) { w with drawn := w.drawn + 1 } rfl
    simp only [List.take_length] at hnew
    let rest := Builtin.zeroCells zv.cells (nc - (rows.length + src.length))
    let arr := rows.flatten.toArray ++ src.flatten.toArray ++ rest
    have hrest : rest.size = (nc - (rows.length + src.length)) * sz := by simp [rest, Builtin.zeroCells, hzs]
    have hrfl : rows.flatten.length = rows.length * sz := by
      by_cases hc : cap = 0
      · rw [hrows0 hc]; simp
      · exact flatten_len (hrl hc)
    have hsfl : src.flatten.length = src.length * sz := flatten_len hsl
    have harr : arr.size = nc * sz := by
      have e : nc = rows.length + src.length + (nc - (rows.length + src.length)) := by omega
      have : nc * sz = rows.length * sz + src.length * sz + (nc - (rows.length + src.length)) * sz := by
        rw [← Nat.add_mul, ← Nat.add_mul, ← e]
      simp only [arr, Array.size_append, hrest, List.size_toArray, hrfl, hsfl]
      omega
    refine ⟨some ⟨w.heap.size, 0, none⟩, nc, { w with drawn := w.drawn + 1, heap := w.heap.push (.cells arr elem (0, 0)) }, ?_, ⟨?_, ?_, ?_⟩, fun h => absurd h hfit⟩
    · have h00 := hlen w rfl
      have hq : (choose (.appendCap (rows.length + src.length) cap elem)).run P w = .ok nc { w with drawn := w.drawn + 1 } := by
        simp [choose, Sem.run, Question.forced, nc, q]
      have hinf' : ∀ w, (typeInfo elem).run P w = .ok inf w := fun w => by
        obtain ⟨inf', hinf', _⟩ := run_bytesT hb w
        cases hi : P.info? elem with
        | none => simp [bytesT, hi] at hb
        | some i =>
          have h1 : (typeInfo elem).run P w = .ok i w := by simp [typeInfo, hi]
          have h2 : ∀ w0 : World, (typeInfo elem).run P w0 = .ok i w0 := fun w0 => by simp [typeInfo, hi]
          have h3 := hinf
          rw [h2] at h3
          simp only [Result.ok.injEq, and_true] at h3
          subst h3
          exact h1
      rw [runApp2 (ty := ty) hu hd hdi (run_sizeT hs) h00 hinf' hcap hmax hlim hq _ _ hold hnew hzv]
    · refine ⟨rfl, rfl, rfl, ?_, fun b hb _ => ?_⟩
      · show w.heap.size ≤ (w.heap.push _).size
        simp
      · show (w.heap.push _)[b]? = _
        rw [Array.getElem?_push, if_neg (by omega)]
    · intro E hE
      cases hE
      have hrow : RowIn { w with drawn := w.drawn + 1, heap := w.heap.push (.cells arr elem (0, 0)) } w.heap.size arr elem :=
        ⟨0, 0, by show (w.heap.push _)[w.heap.size]? = _; simp, Nat.le_refl _, (fun i _ h => by omega), .inl rfl⟩
      refine ⟨⟨by simp only [List.length_append]; exact hnc, fun _ => ⟨_, arr, rfl, rfl, hrow, by simp [harr], ?_⟩⟩, fun b hb => ?_⟩
      · refine RowsAt.of_flat rfl (fun r hr => ?_) fun j u hj => ?_
        · rcases List.mem_append.1 hr with h | h
          · by_cases hc : cap = 0
            · rw [hrows0 hc] at h; cases h
            · exact hrl hc r h
          · exact hsl r h
        · rw [hrow.cell]
          rw [List.flatten_append] at hj
          have hjl : j < (rows.flatten ++ src.flatten).length := by
            rcases Nat.lt_or_ge j (rows.flatten ++ src.flatten).length with h | h
            · exact h
            · rw [List.getElem?_eq_none h] at hj; cases hj
          simp only [Nat.zero_add]
          have e : arr.toList = (rows.flatten ++ src.flatten) ++ rest.toList := by simp [arr]
          rw [← Array.getElem?_toList, e, List.getElem?_append_left hjl]
          exact hj
      · have : b = w.heap.size := hb.2
        subst this
        show w.heap.size < (w.heap.push _).size
        simp
    · intro E hE b hb
      cases hE
      exact .inl (Nat.le_of_eq (Eq.symm hb.2))

theorem opApp_sound {P : Program} {ats : Array TypeId} {ty : TypeId} {s y : Value} {e e2 : Option Ent} {w : World} (he : ∀ E, e = some E → E.ok w) (he2 : ∀ E, e2 = some E → E.ok w) :
    ∃ f : Fr, ∀ v e' os, opApp P ats s y f e e2 = some (v, e', os) → All os → ∃ w', (Builtin.append_ ats ty #[s, y]).run P w = .ok v w' ∧ Eff e e' w w' := by
  by_cases hex : ∃ v e' os, opApp P ats s y ⟨0, none, 0, [], fun _ _ => (none, 0)⟩ e e2 = some (v, e', os) ∧ All os
  case neg =>
    refine ⟨⟨0, none, 0, [], fun _ _ => (none, 0)⟩, fun v e' os h ho => absurd ⟨v, e', os, h, ho⟩ hex⟩
  case pos =>
    obtain ⟨v0, e0, os0, h0, ho0⟩ := hex
    unfold opApp at h0 ⊢
    split at h0 <;> try (simp at h0; done)
    rename_i st yt ob n cap hats
    split at h0 <;> try (simp at h0; done)
    rename_i elem hu hyt
    split at h0 <;> try (simp at h0; done)
    rename_i sz by_ z hs hb hz
    split at h0 <;> try (simp at h0; done)
    rename_i src osrc hchk hsrc
    simp only [Bool.and_eq_true] at hchk
    obtain ⟨⟨hzl, hsz1⟩, hby⟩ := hchk
    have hzl := Nat.eq_of_beq_eq_true hzl
    have hsz1 := Nat.le_of_ble_eq_true hsz1
    have hby := Nat.le_of_ble_eq_true hby
    have hats' : ats = #[st, yt] := by
      cases ats; simp at hats; simp [hats]
    subst hats'
    split at h0 <;> try (simp at h0; done)
    · rename_i ob' cap' T sz' rows
      split at h0 <;> try (simp at h0; done)
      rename_i hT
      simp only [Bool.and_eq_true] at hT
      have hT1 := Nat.eq_of_beq_eq_true hT.1
      have hT2 := Nat.eq_of_beq_eq_true hT.2
      subst hT1; subst hT2
      simp only [Option.some.injEq, Prod.mk.injEq] at h0
      obtain ⟨_, _, rfl⟩ := h0
      obtain ⟨hosrc, ho1⟩ := All.append.1 ho0
      simp only [All, and_true] at ho1
      obtain ⟨rfl, rfl, rfl, hroom, hone⟩ := ho1
      obtain ⟨g1, g2, g3⟩ := srcRows_run (P := P) hsrc hosrc he2
      have hok := (he _ rfl).1
      obtain ⟨ob1, cap1, w', hrun, hE, hfit1⟩ := run_append (ty := ty) (w := w) (ob := ob) (cap := cap) (y := y) (rows := rows) hu hyt hs hb hz hzl hsz1 hby g1 g2 g3 hok.1 hok.2 (fun _ => hone) hroom
      refine ⟨⟨0, ob1, cap1, [], fun _ _ => (none, 0)⟩, fun v e' os h ho => ?_⟩
      simp only [hT.1, hT.2, Bool.and_self, Option.some.injEq, Prod.mk.injEq] at h
      obtain ⟨rfl, rfl, rfl⟩ := h
      exact ⟨w', hrun, hE⟩
    · simp only [Option.some.injEq, Prod.mk.injEq] at h0
      obtain ⟨_, _, rfl⟩ := h0
      obtain ⟨hosrc, ho1⟩ := All.append.1 ho0
      simp only [All, and_true] at ho1
      obtain ⟨rfl, rfl, hroom⟩ := ho1
      obtain ⟨g1, g2, g3⟩ := srcRows_run (P := P) hsrc hosrc he2
      obtain ⟨ob1, cap1, w', hrun, hE, hfit1⟩ := run_append (ty := ty) (w := w) (ob := ob) (cap := 0) (y := y) (rows := []) hu hyt hs hb hz hzl hsz1 hby g1 g2 g3 (Nat.le_refl _) (fun h => absurd rfl h) (fun h => absurd rfl h) (by simpa using hroom)
      refine ⟨⟨0, ob1, cap1, [], fun _ _ => (none, 0)⟩, fun v e' os h ho => ?_⟩
      simp only [Option.some.injEq, Prod.mk.injEq] at h
      obtain ⟨rfl, rfl, rfl⟩ := h
      simp only [List.length_nil, List.nil_append] at hrun hE
      refine ⟨w', by simpa using hrun, hE.keep.mono fun b _ ⟨E, h1, h2, h3⟩ => ?_, hE.ok, fun E h1 b hb => ?_⟩
      · cases h1; exact absurd rfl h3.1
      · rcases hE.foot E h1 b hb with h2 | ⟨E0, h2, h3, _⟩
        · exact .inl h2
        · cases h2; exact absurd rfl h3.1

/-- Append to a slice that has no room: a new array is made, whatever the old one is. -/
theorem run_appendC {P : Program} {st yt ty elem : TypeId} {ob : Option Addr} {cap : Nat} {y : Value} {rows src : List (List Value)} {sz by_ : Nat} {z : List Value} {w : World}
    (hu : P.underlying st = some (.slice elem)) (hyt : notIntT P yt = true) (hs : sizeOfT P elem = some sz) (hb : bytesT P elem = some by_) (hz : zeroT P elem = some z) (hzl : z.length = sz) (hsz1 : 1 ≤ sz) (hby : by_ ≤ 1000000)
    (hlen : (∀ w', w'.heap = w.heap → (Builtin.lenOf y).run P w' = .ok src.length w'))
    (hfirst : ∀ m, m ≤ src.length → ∀ w', w'.heap = w.heap → (Builtin.firstCells sz m y).run P w' = .ok (src.take m).flatten.toArray w') (hsl : ∀ r ∈ src, r.length = sz)
    (hrc : rows.length = cap) (hmine : cap ≠ 0 → ∃ a, ob = some a ∧ a.spot = none ∧ RowsAt w a sz rows) (hsrc : 1 ≤ src.length) (hroom : (rows.length + src.length) * (by_ + 1) ≤ 70368744177664) :
    ∃ (ob' : Option Addr) (cap' : Nat) (w' : World), (Builtin.append_ #[st, yt] ty #[.slice ob rows.length cap, y]).run P w = .ok (.slice ob' (rows.length + src.length) cap') w' ∧
      Eff none (some (.osl ob' cap' elem sz (rows ++ src))) w w' := by
  obtain ⟨d, hd, hdi⟩ : ∃ d, P.underlying yt = some d ∧ isI d = false := by
    unfold notIntT at hyt
    split at hyt
    · cases hyt
    · cases hyt
    · rename_i h1 h2
      cases hd : P.underlying yt with
      | none => exact absurd hd h2
      | some d => exact ⟨d, rfl, by cases d <;> first | rfl | exact absurd hd (h1 _)⟩
  have hzeros : (underlying yt).run P w = .ok d w := run_underlying hd w
  obtain ⟨inf, hinf, hib⟩ := run_bytesT hb w
  have hneed : rows.length + src.length ≤ 70368744177664 := by
    have := Nat.le_mul_of_pos_right (rows.length + src.length) (show 0 < by_ + 1 by omega)
    omega
  have hrl : cap ≠ 0 → ∀ r ∈ rows, r.length = sz := fun hc r hr => by
    obtain ⟨a, _, _, hR⟩ := hmine hc
    exact hR.lens r hr
  have hrows0 : cap = 0 → rows = [] := fun hc => by
    cases rows with
    | nil => rfl
    | cons => simp at hrc; omega
  have hfit : ¬ rows.length + src.length ≤ cap := by omega
  have hcap : ¬ rows.length + src.length ≤ cap := hfit
  have hns := nextslicecap_le (rows.length + src.length) cap (by omega)
  have hlim : ¬ (Builtin.nextslicecap (rows.length + src.length) cap * inf.bytes > 2 ^ 48) := by
    rw [hib]
    have h1 : Builtin.nextslicecap (rows.length + src.length) cap * by_ ≤ (2 * (rows.length + src.length) + 200) * by_ := Nat.mul_le_mul_right _ hns
    have h2 : (2 * (rows.length + src.length) + 200) * by_ = 2 * ((rows.length + src.length) * by_) + 200 * by_ := by rw [Nat.add_mul, Nat.mul_assoc]
    have h3 : (rows.length + src.length) * by_ ≤ (rows.length + src.length) * (by_ + 1) := Nat.mul_le_mul_left _ (by omega)
    have : (2 : Nat) ^ 48 = 281474976710656 := by decide
    omega
  have hmax : ¬ (((rows.length + src.length : Nat) : Int) > IntKind.i64.max) := by
    have : IntKind.i64.max = 9223372036854775807 := by decide
    omega
  have _hmax2 : ¬ (IntKind.i64.max < (rows.length : Int) + (src.length : Int)) := by
    have : IntKind.i64.max = 9223372036854775807 := by decide
    omega
  obtain ⟨zv, hzv, hzc⟩ := run_zeroT hz { w with drawn := w.drawn + 1 }
  have hzs : zv.cells.size = sz := by rw [← hzl, ← hzc]; simp
  let q : Question := .appendCap (rows.length + src.length) cap elem
  let nc := q.cut (w.tape w.drawn q)
  have hnc : rows.length + src.length ≤ nc := by
    show rows.length + src.length ≤ (rows.length + src.length) + _
    omega
  have hold : (Builtin.firstCells sz rows.length (.slice ob rows.length cap)).run P { w with drawn := w.drawn + 1 } = .ok rows.flatten.toArray { w with drawn := w.drawn + 1 } := by
    by_cases hc : cap = 0
    · rw [hrows0 hc]
      cases ob <;> simp [Builtin.firstCells, loadCells, loadCellsFrom]
    · obtain ⟨a, rfl, hsp, hR⟩ := hmine hc
      have hl := run_loadCells_list (P := P) { w with drawn := w.drawn + 1 } a rows.flatten (fun j u hj => by
        have := hR.flat j u hj
        obtain ⟨b, o, sp⟩ := a
        simp only at hsp
        subst hsp
        rw [add_plain]
        exact this)
      rw [flatten_len (hrl hc)] at hl
      simp only [Builtin.firstCells]
      exact hl
  have hnew := hfirst src.length (Nat.le_refl _) { w with drawn := w.drawn + 1 } rfl
  simp only [List.take_length] at hnew
  let rest := Builtin.zeroCells zv.cells (nc - (rows.length + src.length))
  let arr := rows.flatten.toArray ++ src.flatten.toArray ++ rest
  have hrest : rest.size = (nc - (rows.length + src.length)) * sz := by simp [rest, Builtin.zeroCells, hzs]
  have hrfl : rows.flatten.length = rows.length * sz := by
    by_cases hc : cap = 0
    · rw [hrows0 hc]; simp
    · exact flatten_len (hrl hc)
  have hsfl : src.flatten.length = src.length * sz := flatten_len hsl
  have harr : arr.size = nc * sz := by
    have e : nc = rows.length + src.length + (nc - (rows.length + src.length)) := by omega
    have : nc * sz = rows.length * sz + src.length * sz + (nc - (rows.length + src.length)) * sz := by
      rw [← Nat.add_mul, ← Nat.add_mul, ← e]
    simp only [arr, Array.size_append, hrest, List.size_toArray, hrfl, hsfl]
    omega
  refine ⟨some ⟨w.heap.size, 0, none⟩, nc, { w with drawn := w.drawn + 1, heap := w.heap.push (.cells arr elem (0, 0)) }, ?_, ⟨?_, ?_, ?_⟩⟩
  · have h00 := hlen w rfl
    have hq : (choose (.appendCap (rows.length + src.length) cap elem)).run P w = .ok nc { w with drawn := w.drawn + 1 } := by
      simp [choose, Sem.run, Question.forced, nc, q]
    have hinf' : ∀ w, (typeInfo elem).run P w = .ok inf w := fun w => by
      obtain ⟨inf', hinf', _⟩ := run_bytesT hb w
      cases hi : P.info? elem with
      | none => simp [bytesT, hi] at hb
      | some i =>
        have h1 : (typeInfo elem).run P w = .ok i w := by simp [typeInfo, hi]
        have h2 : ∀ w0 : World, (typeInfo elem).run P w0 = .ok i w0 := fun w0 => by simp [typeInfo, hi]
        have h3 := hinf
        rw [h2] at h3
        simp only [Result.ok.injEq, and_true] at h3
        subst h3
        exact h1
    rw [runApp2 (ty := ty) hu hd hdi (run_sizeT hs) h00 hinf' hcap hmax hlim hq _ _ hold hnew hzv]
  · refine ⟨rfl, rfl, rfl, ?_, fun b hb _ => ?_⟩
    · show w.heap.size ≤ (w.heap.push _).size
      simp
    · show (w.heap.push _)[b]? = _
      rw [Array.getElem?_push, if_neg (by omega)]
  · intro E hE
    cases hE
    have hrow : RowIn { w with drawn := w.drawn + 1, heap := w.heap.push (.cells arr elem (0, 0)) } w.heap.size arr elem :=
      ⟨0, 0, by show (w.heap.push _)[w.heap.size]? = _; simp, Nat.le_refl _, (fun i _ h => by omega), .inl rfl⟩
    refine ⟨⟨by simp only [List.length_append]; exact hnc, fun _ => ⟨_, arr, rfl, rfl, hrow, by simp [harr], ?_⟩⟩, fun b hb => ?_⟩
    · refine RowsAt.of_flat rfl (fun r hr => ?_) fun j u hj => ?_
      · rcases List.mem_append.1 hr with h | h
        · by_cases hc : cap = 0
          · rw [hrows0 hc] at h; cases h
          · exact hrl hc r h
        · exact hsl r h
      · rw [hrow.cell]
        rw [List.flatten_append] at hj
        have hjl : j < (rows.flatten ++ src.flatten).length := by
          rcases Nat.lt_or_ge j (rows.flatten ++ src.flatten).length with h | h
          · exact h
          · rw [List.getElem?_eq_none h] at hj; cases hj
        simp only [Nat.zero_add]
        have e : arr.toList = (rows.flatten ++ src.flatten) ++ rest.toList := by simp [arr]
        rw [← Array.getElem?_toList, e, List.getElem?_append_left hjl]
        exact hj
    · have : b = w.heap.size := hb.2
      subst this
      show w.heap.size < (w.heap.push _).size
      simp
  · intro E hE b hb
    cases hE
    exact .inl (Nat.le_of_eq (Eq.symm hb.2))

theorem opAppC_sound {P : Program} {ats : Array TypeId} {ty : TypeId} {s y : Value} {e1 e2 : Option Ent} {w : World} (he : ∀ E, e1 = some E → E.ok w) (he2 : ∀ E, e2 = some E → E.ok w) :
    ∃ f : Fr, ∀ v e' os, opAppC P ats s y f e1 e2 = some (v, e', os) → All os → ∃ w', (Builtin.append_ ats ty #[s, y]).run P w = .ok v w' ∧ Eff none e' w w' := by
  by_cases hex : ∃ v e' os, opAppC P ats s y ⟨0, none, 0, [], fun _ _ => (none, 0)⟩ e1 e2 = some (v, e', os) ∧ All os
  case neg =>
    refine ⟨⟨0, none, 0, [], fun _ _ => (none, 0)⟩, fun v e' os h ho => absurd ⟨v, e', os, h, ho⟩ hex⟩
  case pos =>
    obtain ⟨v0, e0, os0, h0, ho0⟩ := hex
    unfold opAppC at h0 ⊢
    split at h0 <;> try (simp at h0; done)
    rename_i st yt ob n cap hats
    split at h0 <;> try (simp at h0; done)
    rename_i elem hu hyt
    split at h0 <;> try (simp at h0; done)
    rename_i sz by_ z hs hb hz
    split at h0 <;> try (simp at h0; done)
    rename_i src osrc hchk hsrc
    simp only [Bool.and_eq_true] at hchk
    obtain ⟨⟨hzl, hsz1⟩, hby⟩ := hchk
    have hzl := Nat.eq_of_beq_eq_true hzl
    have hsz1 := Nat.le_of_ble_eq_true hsz1
    have hby := Nat.le_of_ble_eq_true hby
    have hats' : ats = #[st, yt] := by
      cases ats; simp at hats; simp [hats]
    subst hats'
    split at h0 <;> try (simp at h0; done)
    rename_i ob' sz' rows
    split at h0 <;> try (simp at h0; done)
    rename_i hT
    have hT2 := Nat.eq_of_beq_eq_true hT
    subst hT2
    simp only [Option.some.injEq, Prod.mk.injEq] at h0
    obtain ⟨_, _, rfl⟩ := h0
    obtain ⟨hosrc, ho1⟩ := All.append.1 ho0
    simp only [All, and_true] at ho1
    obtain ⟨rfl, rfl, rfl, hne, hroom⟩ := ho1
    obtain ⟨g1, g2, g3⟩ := srcRows_run (P := P) hsrc hosrc he2
    have hok := (he _ rfl).1
    obtain ⟨ob1, cap1, w', hrun, hE⟩ := run_appendC (ty := ty) (w := w) (ob := ob) (y := y) (rows := rows) hu hyt hs hb hz hzl hsz1 hby g1 g2 g3 rfl (fun hc => hok (fun e => hc (by rw [e]; rfl))) hne hroom
    refine ⟨⟨0, ob1, cap1, [], fun _ _ => (none, 0)⟩, fun v e' os h ho => ?_⟩
    simp only [hT, Option.some.injEq, Prod.mk.injEq] at h
    obtain ⟨rfl, rfl, rfl⟩ := h
    exact ⟨w', hrun, hE⟩

theorem RowsAt.cut {w : World} {b o l n sz : Nat} {rows : List (List Value)} (h : RowsAt w ⟨b, o, none⟩ sz rows) : RowsAt w ⟨b, o + l * sz, none⟩ sz ((rows.drop l).take n) := by
  intro i r hr
  have hr' : rows[l + i]? = some r := by
    rw [List.getElem?_take] at hr
    split at hr
    · rw [List.getElem?_drop] at hr; exact hr
    · cases hr
  obtain ⟨h1, h2⟩ := h (l + i) r hr'
  refine ⟨h1, fun c v hc => ?_⟩
  rw [← h2 c v hc]
  simp only
  rw [Nat.add_mul, Nat.add_assoc, Nat.add_assoc]

theorem add_none {a : Addr} (h : a.spot = none) (n : Nat) : a.add n = ⟨a.block, a.off + n, none⟩ := by
  obtain ⟨b, o, s⟩ := a
  simp only at h
  subst h
  exact add_plain b o n

theorem osl_cut {ob : Option Addr} {cap T sz j m : Nat} {rows : List (List Value)} {w : World} (h : (Ent.osl ob cap T sz rows).ok w) (h1 : rows.length ≤ m) (h2 : j ≤ rows.length) : (Ent.rd (cutOb ob j m sz) sz (rows.drop j)).ok w := by
  have hne : rows.drop j ≠ [] → rows ≠ [] ∧ m ≠ j := fun hn => by
    refine ⟨fun e => hn (by rw [e]; simp), fun e => hn ?_⟩
    exact List.drop_of_length_le (by omega)
  have hcap : rows ≠ [] → cap ≠ 0 := fun hn hc => by
    have := h.1.1
    rw [hc] at this
    exact hn (List.length_eq_zero_iff.1 (by omega))
  refine ⟨fun hn => ?_, fun b hb => ?_⟩
  · obtain ⟨a, arr, ha, hs, _, _, hr⟩ := h.1.2 (hcap (hne hn).1)
    refine ⟨⟨a.block, a.off + j * sz, none⟩, by unfold cutOb; rw [if_neg (hne hn).2, ha, Option.map_some, add_none hs], rfl, ?_⟩
    have : a = ⟨a.block, a.off, none⟩ := by obtain ⟨x, y, z⟩ := a; simp only at hs; subst hs; rfl
    rw [this] at hr
    have := hr.cut (l := j) (n := rows.length)
    rwa [List.take_of_length_le (by rw [List.length_drop]; omega)] at this
  · have h3 := hb.2
    unfold cutOb at h3
    rw [if_neg (hne hb.1).2] at h3
    refine h.2 b ⟨hcap (hne hb.1).1, ?_⟩
    rw [h3]
    cases ob with
    | none => rfl
    | some a => obtain ⟨x, y, z⟩ := a; simp [blk, Addr.add]; split <;> rfl

theorem opAppSelf_sound {P : Program} {ats : Array TypeId} {ty : TypeId} {s y : Value} {e : Option Ent} {l j m : Nat} {w : World} (he : ∀ E, e = some E → E.ok w) :
    ∃ f : Fr, ∀ v e' os, opAppSelf P ats s y f e l j m = some (v, e', os) → All os → ∃ w', (Builtin.append_ ats ty #[s, y]).run P w = .ok v w' ∧ Eff e e' w w' := by
  by_cases hex : ∃ v e' os, opAppSelf P ats s y ⟨0, none, 0, [], fun _ _ => (none, 0)⟩ e l j m = some (v, e', os) ∧ All os
  case neg => exact ⟨⟨0, none, 0, [], fun _ _ => (none, 0)⟩, fun v e' os h ho => absurd ⟨v, e', os, h, ho⟩ hex⟩
  case pos =>
    obtain ⟨v0, e0, os0, h0, ho0⟩ := hex
    unfold opAppSelf at h0 ⊢
    split at h0 <;> try (simp at h0; done)
    rename_i st yt ob n cap ob2 n2 c2 ob' cap' T sz' rows hats
    split at h0 <;> try (simp at h0; done)
    rename_i elem hu hyt
    split at h0 <;> try (simp at h0; done)
    rename_i sz by_ z hs hb hz
    split at h0 <;> try (simp at h0; done)
    rename_i hchk
    have hchk' := hchk
    simp only [Bool.and_eq_true] at hchk'
    obtain ⟨⟨⟨⟨hzl, hsz1⟩, hby⟩, hT⟩, hss⟩ := hchk'
    have hzl := Nat.eq_of_beq_eq_true hzl
    have hsz1 := Nat.le_of_ble_eq_true hsz1
    have hby := Nat.le_of_ble_eq_true hby
    have hT := Nat.eq_of_beq_eq_true hT
    have hss := Nat.eq_of_beq_eq_true hss
    subst hT; subst hss
    have hats' : ats = #[st, yt] := by
      cases ats; simp at hats; simp [hats]
    subst hats'
    simp only [Option.some.injEq, Prod.mk.injEq] at h0
    obtain ⟨_, _, rfl⟩ := h0
    simp only [All, and_true] at ho0
    obtain ⟨rfl, rfl, rfl, hl, hj, hm, rfl, rfl, hroom, hone, hfits⟩ := ho0
    have hok := he _ rfl
    have hcut := osl_cut hok hm hj
    have hsrc : srcRows (.slice (cutOb ob j m sz') (rows.length - j) c2) (some (.rd (cutOb ob j m sz') sz' (rows.drop j))) sz' = some (rows.drop j, [cutOb ob j m sz' = cutOb ob j m sz', rows.length - j = (rows.drop j).length]) := by
      simp [srcRows]
    obtain ⟨g1, g2, g3⟩ := srcRows_run (P := P) hsrc ⟨rfl, by simp, trivial⟩ (w := w) (fun E hE => by cases hE; exact hcut)
    have hlt : (rows.take n).length = n := by rw [List.length_take]; omega
    have hld : (rows.drop j).length = rows.length - j := List.length_drop
    have hmine : cap ≠ 0 → ∃ a arr, ob = some a ∧ a.spot = none ∧ RowIn w a.block arr T ∧ a.off + cap * sz' ≤ arr.size ∧ RowsAt w a sz' (rows.take n) := fun hc => by
      obtain ⟨a, arr, q1, q2, q3, q4, q5⟩ := hok.1.2 hc
      refine ⟨a, arr, q1, q2, q3, q4, fun i r hr => q5 i r ?_⟩
      rw [List.getElem?_take] at hr
      split at hr
      · exact hr
      · cases hr
    have hone' : cap ≠ 0 → (rows.drop j).flatten.all Value.oneCell' = true := fun _ => by
      rw [List.all_eq_true] at hone ⊢
      intro x hx
      obtain ⟨r, hr, hxr⟩ := List.mem_flatten.1 hx
      exact hone x (List.mem_flatten.2 ⟨r, List.mem_of_mem_drop hr, hxr⟩)
    obtain ⟨ob1, cap1, w', hrun, hE, hfit1⟩ := run_append (ty := ty) (w := w) (ob := ob) (cap := cap) (y := .slice (cutOb ob j m sz') (rows.length - j) c2) (rows := rows.take n) hu hyt hs hb hz hzl hsz1 hby g1 g2 g3 (by rw [hlt]; have := hok.1.1; omega) hmine hone' (by rw [hlt, hld]; exact hroom)
    rw [hlt, hld] at hrun hfit1
    obtain ⟨rfl, rfl⟩ := hfit1 hfits
    refine ⟨⟨0, none, 0, [], fun _ _ => (none, 0)⟩, fun v e' os h ho => ?_⟩
    simp only [hchk, Option.some.injEq, Prod.mk.injEq] at h
    obtain ⟨rfl, rfl, rfl⟩ := h
    refine ⟨w', hrun, hE.keep.mono fun b _ ⟨E, h1, h2, h3⟩ => ?_, hE.ok, fun E h1 b hb => ?_⟩
    · cases h1; exact ⟨_, rfl, rfl, h3⟩
    · rcases hE.foot E h1 b hb with h2 | ⟨E0, h2, h3, h4⟩
      · exact .inl h2
      · cases h2; exact .inr ⟨_, rfl, h3, fun _ => rfl⟩

theorem opClear_sound {P : Program} {ats : Array TypeId} {ty : TypeId} {s : Value} {e : Option Ent} {l m : Nat} {v : Value} {os : List Prop} {w : World} (h : opClear P ats s e l m = some (v, os)) (ho : All os)
    (he : ∀ E, e = some E → E.ok w) : ∃ w', (Builtin.clear_ ats ty #[s]).run P w = .ok v w' ∧ Eff e e w w' := by
  unfold opClear at h
  split at h <;> try (simp at h; done)
  rename_i st ob2 k c2 ob cap T sz rows hats
  split at h <;> try (simp at h; done)
  rename_i elem hu
  split at h <;> try (simp at h; done)
  rename_i sz' z hs hz
  split at h <;> try (simp at h; done)
  rename_i hchk
  simp only [Bool.and_eq_true] at hchk
  obtain ⟨⟨hzl, hss⟩, hone⟩ := hchk
  have hzl := Nat.eq_of_beq_eq_true hzl
  have hss := Nat.eq_of_beq_eq_true hss
  subst hss
  simp only [Option.some.injEq, Prod.mk.injEq] at h
  obtain ⟨rfl, rfl⟩ := h
  simp only [All, and_true] at ho
  obtain ⟨rfl, hrl, hlm, hmc⟩ := ho
  have hats' : ats = #[st] := by cases ats; simp at hats; simp [hats]
  subst hats'
  have hok := he _ rfl
  by_cases hk : k = 0
  · subst hk
    refine ⟨w, ?_, Eff.refl he⟩
    cases hc : cutOb ob l m sz' <;> simp [Builtin.clear_, run_underlying hu]
  · obtain ⟨a, arr, rfl, hsp, hrow, hsize, hR⟩ := hok.1.2 (by omega)
    have hcut : cutOb (some a) l m sz' = some ⟨a.block, a.off + l * sz', none⟩ := by
      unfold cutOb
      rw [if_neg (by omega), Option.map_some, add_none hsp]
    obtain ⟨zv, hzv, hzc⟩ := run_zeroT hz w
    have hzs : zv.cells.size = sz' := by rw [← hzl, ← hzc]; simp
    have hlen : (Builtin.zeroCells zv.cells k).toList.length = k * sz' := by simp [Builtin.zeroCells, hzs]
    have hle : (l + k) * sz' ≤ cap * sz' := Nat.mul_le_mul_right _ (by omega)
    rw [Nat.add_mul] at hle
    have hst := run_storeCells_in P a.block (a.off + l * sz') T (Builtin.zeroCells zv.cells k).toList 0 arr w hrow (by rw [hlen]; omega) (fun u hu => by
      simp only [Builtin.zeroCells, Array.toList_map, Array.toList_range, List.mem_map] at hu
      obtain ⟨i, hi, rfl⟩ := hu
      have hi' : i % zv.cells.size < zv.cells.size := by
        rcases Nat.eq_zero_or_pos zv.cells.size with h0 | h0
        · simp [h0] at hi
        · exact Nat.mod_lt _ h0
      refine List.all_eq_true.1 hone _ ?_
      rw [← hzc, getElem!_pos zv.cells (i % zv.cells.size) hi']
      simp)
    simp only [Nat.add_zero] at hst
    have hal : arr.toList.length = arr.size := by simp
    refine ⟨w.setRow a.block (splice arr.toList (a.off + l * sz') (Builtin.zeroCells zv.cells k).toList).toArray, ?_, setRow_keep.mono fun b _ hb => ⟨_, rfl, rfl, (by omega), hb⟩, fun E hE => ?_, fun E hE b hb => .inr ⟨_, hE, hb, id⟩⟩
    · rw [hcut]
      obtain ⟨k', rfl⟩ := Nat.exists_eq_succ_of_ne_zero hk
      simp [Builtin.clear_, run_underlying hu, hzv, hst]
    · cases hE
      have hrow' := hrow.setRow (arr' := (splice arr.toList (a.off + l * sz') (Builtin.zeroCells zv.cells k).toList).toArray) (by simp only [List.size_toArray]; rw [splice_length (by rw [hlen]; omega)]; exact hal)
      refine ⟨⟨hok.1.1, fun _ => ⟨a, _, rfl, hsp, hrow', by simp only [List.size_toArray]; rw [splice_length (by rw [hlen]; omega)]; simpa using hsize, ?_⟩⟩, fun b hb => by simpa using hok.2 b hb⟩
      intro i r hr
      obtain ⟨q1, q2⟩ := hR i r hr
      refine ⟨q1, fun c v hc => ?_⟩
      have := q2 c v hc
      rw [hrow.cell] at this
      rw [hrow'.cell]
      have hcs : c < sz' := by rw [← q1]; exact (List.getElem?_eq_some_iff.1 hc).1
      have hil : i < rows.length := (List.getElem?_eq_some_iff.1 hr).1
      have h5 : (i + 1) * sz' ≤ l * sz' := Nat.mul_le_mul_right _ (by omega)
      rw [Nat.add_mul] at h5
      rw [List.getElem?_toArray, splice_at (by rw [hlen]; omega), if_pos (by omega)]
      simpa using this

theorem opCopy_sound {P : Program} {ats : Array TypeId} {ty : TypeId} {s y : Value} {e e2 e' : Option Ent} {v : Value} {os : List Prop} {w : World} (h : opCopy P ats s y e e2 = some (v, e', os)) (ho : All os)
    (he : ∀ E, e = some E → E.ok w) (he2 : ∀ E, e2 = some E → E.ok w) : ∃ w', (Builtin.copy_ ats ty #[s, y]).run P w = .ok v w' ∧ Eff e e' w w' := by
  unfold opCopy at h
  split at h <;> try (simp at h; done)
  rename_i st ats' ob n cap0 ob' cap T sz rows hats
  split at h <;> try (simp at h; done)
  rename_i elem hu
  split at h <;> try (simp at h; done)
  rename_i sz' hs
  split at h <;> try (simp at h; done)
  rename_i src osrc hb hsrc
  have := Nat.eq_of_beq_eq_true hb
  subst this
  simp only [Option.some.injEq, Prod.mk.injEq] at h
  obtain ⟨rfl, rfl, rfl⟩ := h
  obtain ⟨hosrc, ho1⟩ := All.append.1 ho
  simp only [All, and_true] at ho1
  obtain ⟨rfl, rfl, hone⟩ := ho1
  obtain ⟨g1, g2, g3⟩ := srcRows_run (P := P) hsrc hosrc he2
  have hat0 : ats[0]? = some st := by
    cases ats; simp at hats; simp [hats]
  have hmin : Nat.min src.length rows.length ≤ src.length := Nat.min_le_left _ _
  have hfirst := g2 _ hmin w rfl
  have htk : src.take (Nat.min src.length rows.length) = src.take rows.length := by
    rcases Nat.le_total src.length rows.length with h' | h'
    · rw [show Nat.min src.length rows.length = src.length from Nat.min_eq_left h', List.take_length, List.take_of_length_le h']
    · rw [show Nat.min src.length rows.length = rows.length from Nat.min_eq_right h']
  rw [htk] at hfirst
  have hlen := g1 w rfl
  by_cases hr0 : rows = []
  · subst hr0
    simp only [List.length_nil, List.take_zero, List.flatten_nil] at hfirst
    have hm0 : Nat.min src.length 0 = 0 := Nat.min_zero _
    simp only [List.length_nil, hm0] at hfirst
    refine ⟨w, ?_, ?_⟩
    · cases ob <;> simp [Builtin.copy_, hat0, run_underlying hu, hlen, run_sizeT hs, hm0, hfirst, goInt, storeCells]
    · simpa using Eff.refl he
  · have hok := (he _ rfl).1
    have hpos : 0 < rows.length := by cases rows with | nil => exact absurd rfl hr0 | cons => simp
    have hcap : cap ≠ 0 := by have := hok.1; omega
    obtain ⟨a, arr, rfl, hsp, hrow, hsize, hR⟩ := hok.2 hcap
    obtain ⟨ab, ao, asp⟩ := a
    simp only at hsp hrow hsize
    subst hsp
    have hfl : (src.take rows.length).flatten.length = (src.take rows.length).length * sz := flatten_len fun r hr => g3 r (List.mem_of_mem_take hr)
    have htl : (src.take rows.length).length ≤ rows.length := by rw [List.length_take]; exact Nat.min_le_left _ _
    have hmul : (src.take rows.length).length * sz ≤ cap * sz := Nat.mul_le_mul_right _ (Nat.le_trans htl hok.1)
    have hst := run_storeCells_in P ab ao T (src.take rows.length).flatten 0 arr w hrow (by omega) (fun u hu => List.all_eq_true.1 hone u (by
      rw [take_flatten _ g3] at hu; exact List.mem_of_mem_take hu))
    simp only [Nat.add_zero] at hst
    have hal : arr.toList.length = arr.size := by simp
    have hrow' := hrow.setRow (arr' := (splice arr.toList ao (src.take rows.length).flatten).toArray) (by simp only [List.size_toArray]; rw [splice_length (by omega)]; exact hal)
    refine ⟨w.setRow ab (splice arr.toList ao (src.take rows.length).flatten).toArray, ?_, ?_, ?_, ?_⟩
    · simp [Builtin.copy_, hat0, run_underlying hu, hlen, run_sizeT hs, hfirst, hst, goInt]
    · exact setRow_keep.mono fun k _ hk => ⟨_, rfl, rfl, hcap, hk⟩
    · intro E hE
      cases hE
      have hlens : ∀ r ∈ src.take rows.length ++ rows.drop src.length, r.length = sz := fun r hr => by
        rcases List.mem_append.1 hr with h' | h'
        · exact g3 r (List.mem_of_mem_take h')
        · exact hR.lens r (List.mem_of_mem_drop h')
      have htot : (src.take rows.length ++ rows.drop src.length).length = rows.length := by simp; omega
      refine ⟨⟨by rw [htot]; exact hok.1, fun _ => ⟨_, _, rfl, rfl, hrow', by simp only [List.size_toArray]; rw [splice_length (by omega)]; simpa using hsize, ?_⟩⟩, fun b hb => by simpa using (he _ rfl).2 b hb⟩
      refine RowsAt.of_flat rfl hlens fun j u hj => ?_
      rw [hrow'.cell]
      show (splice arr.toList ao (src.take rows.length).flatten).toArray[ao + j]? = some u
      rw [List.getElem?_toArray, splice_at (by omega)]
      rw [List.flatten_append] at hj
      rw [if_neg (by omega)]
      by_cases hj1 : j < (src.take rows.length).flatten.length
      · rw [List.getElem?_append_left hj1] at hj
        rw [if_pos (by omega), ← hj]
        congr 1
        omega
      · rw [List.getElem?_append_right (by omega)] at hj
        rw [if_neg (by omega)]
        have hdrop : (rows.drop src.length).flatten = rows.flatten.drop (src.length * sz) := by
          have h1 : rows.flatten = (rows.take src.length).flatten ++ (rows.drop src.length).flatten := by rw [← List.flatten_append, List.take_append_drop]
          have h2 : (rows.take src.length).flatten.length = (rows.take src.length).length * sz := flatten_len fun r hr => hR.lens r (List.mem_of_mem_take hr)
          rcases Nat.le_total src.length rows.length with h' | h'
          · rw [List.length_take, Nat.min_eq_left h'] at h2
            have h3 : ((rows.take src.length).flatten ++ (rows.drop src.length).flatten).drop (src.length * sz) = (rows.drop src.length).flatten := by
              rw [← h2]; exact List.drop_left
            rw [h1, h3]
          · have : rows.flatten.length = rows.length * sz := flatten_len hR.lens
            have h3 : rows.length * sz ≤ src.length * sz := Nat.mul_le_mul_right _ h'
            rw [List.drop_of_length_le h', List.drop_of_length_le (by omega)]
            rfl
        rw [hdrop, List.getElem?_drop, hfl] at hj
        have h4 : (src.take rows.length).length * sz ≤ src.length * sz := Nat.mul_le_mul_right _ (by rw [List.length_take]; exact Nat.min_le_right _ _)
        have hlt : src.length * sz + (j - (src.take rows.length).length * sz) < rows.flatten.length := by
          rcases Nat.lt_or_ge (src.length * sz + (j - (src.take rows.length).length * sz)) rows.flatten.length with h' | h'
          · exact h'
          · rw [List.getElem?_eq_none h'] at hj; cases hj
        have hle : src.length ≤ rows.length := by
          rcases Nat.le_total src.length rows.length with h' | h'
          · exact h'
          · have h5 : rows.flatten.length = rows.length * sz := flatten_len hR.lens
            have h6 : rows.length * sz ≤ src.length * sz := Nat.mul_le_mul_right _ h'
            omega
        have hlen2 : (src.take rows.length).length = src.length := by rw [List.length_take, Nat.min_eq_right hle]
        have := hR.flat _ u hj
        rw [hrow.cell] at this
        rw [hlen2] at this hfl
        have e : ao + (src.length * sz + (j - src.length * sz)) = ao + j := by omega
        simp only [e] at this
        simpa using this
    · intro E hE b hb
      cases hE
      exact .inr ⟨_, rfl, hb, id⟩

theorem frozen_other (w : World) (a : Addr) (n b : Nat) (h : b ≠ a.block) : (w.freeze a n).heap[b]? = w.heap[b]? := by
  unfold World.freeze
  split
  · rfl
  · simp only [Array.getElem?_modify]
    rw [if_neg (fun e => h e.symm)]

theorem opBytes_sound {P : Program} {t : TypeId} {x : Value} {w : World} :
    ∃ f : Fr, ∀ src v e' os, opBytes P t x f = some (v, e', os) → (∃ d, P.underlying src = some d) → ∃ w', (convert src t x).run P w = .ok v w' ∧ Eff none e' w w' := by
  by_cases hex : ∃ s, x = .string s
  case neg =>
    refine ⟨⟨0, none, 0, [], fun _ _ => (none, 0)⟩, fun src v e' os h => ?_⟩
    unfold opBytes at h
    split at h <;> try (simp at h; done)
    exact absurd ⟨_, rfl⟩ hex
  case pos =>
    obtain ⟨s, rfl⟩ := hex
    unfold opBytes
    cases hu : P.underlying t with
    | none => exact ⟨⟨0, none, 0, [], fun _ _ => (none, 0)⟩, fun src v e' os h => by simp at h⟩
    | some dt =>
      cases dt with
      | slice elem =>
        let q : Question := .appendCap s.size 0 elem
        let nc := q.cut (w.tape w.drawn q)
        have hnc : s.size ≤ nc := by show s.size ≤ s.size + _; omega
        refine ⟨⟨w.heap.size, none, nc, [], fun _ _ => (none, 0)⟩, fun src v e' os h ⟨d, hd⟩ => ?_⟩
        simp only at h
        cases hue : P.underlying elem with
        | none => simp [hue] at h
        | some de =>
          rw [hue] at h
          split at h <;> try (simp at h; done)
          rename_i hde hbt
          cases hde
          simp only [Option.some.injEq, Prod.mk.injEq] at h
          obtain ⟨rfl, rfl, rfl⟩ := h
          let arr : Array Value := s.data.map (fun b => Value.int .u8 (b.toNat : Int)) ++ Array.replicate (nc - s.size) (.int .u8 0)
          have hsd : s.data.size = s.size := rfl
          have harr : arr.size = nc := by simp [arr, hsd]; omega
          let w1 : World := { w with drawn := w.drawn + 1, heap := w.heap.push (.cells arr elem (0, 0)) }
          have hq : (choose (.appendCap s.size 0 elem)).run P w = .ok nc { w with drawn := w.drawn + 1 } := by
            simp [choose, Sem.run, Question.forced, nc, q]
          have hshape : w1.shape? w.heap.size = some (elem, arr.size) := by
            show (match (w.heap.push (.cells arr elem (0, 0)))[w.heap.size]? with | some (.cells c elem _) => some (elem, c.size) | _ => none) = _
            simp
          refine ⟨w1.freeze ⟨w.heap.size, arr.size, none⟩ 1, ?_, ?_, ?_, ?_⟩
          · clear hbt
            have : (Conv.stringToBytes elem s).run P w = .ok (.slice (some ⟨w.heap.size, 0, none⟩) s.size nc) (w1.freeze ⟨w.heap.size, arr.size, none⟩ 1) := by
              simp only [Conv.stringToBytes, Sem.run_bind, hq, Result.andThen_ok, newRow, run_newObj, markStringish, run_shape, Sem.run_pure]
              show ((match w1.shape? w.heap.size with | some (_, n) => freeze { block := w.heap.size, off := n } 1 | x => pure ()).run P w1).andThen _ = _
              rw [hshape]
              rfl
            cases d <;> simp_all [convert, run_underlying hu, run_underlying hd, run_underlying hue]
          · refine ⟨?_, ?_, ?_, ?_, fun b hb _ => ?_⟩
            · unfold World.freeze; split <;> rfl
            · unfold World.freeze; split <;> rfl
            · unfold World.freeze; split <;> rfl
            · unfold World.freeze
              split
              · show w.heap.size ≤ (w.heap.push _).size; simp
              · show w.heap.size ≤ ((w.heap.push _).modify _ _).size; simp
            · rw [frozen_other _ _ _ _ (by show b ≠ w.heap.size; omega)]
              show (w.heap.push _)[b]? = _
              rw [Array.getElem?_push, if_neg (by omega)]
          · intro E hE
            cases hE
            have hrow : RowIn (w1.freeze ⟨w.heap.size, arr.size, none⟩ 1) w.heap.size arr elem := by
              refine ⟨arr.size, arr.size + 1, ?_, by omega, (fun i hi h => by omega), .inr (Nat.eq_of_beq_eq_true hbt)⟩
              unfold World.freeze
              simp only [Nat.one_ne_zero, if_false, Array.getElem?_modify]
              show Option.map _ ((w.heap.push (.cells arr elem (0, 0)))[w.heap.size]?) = _
              simp
            refine ⟨⟨by simp [encB, hsd]; exact hnc, fun _ => ⟨_, arr, rfl, rfl, hrow, by simp [harr], ?_⟩⟩, fun b hb => ?_⟩
            · refine RowsAt.of_flat rfl (fun r hr => by obtain ⟨b, _, rfl⟩ := List.mem_map.1 hr; rfl) fun j u hj => ?_
              rw [hrow.cell]
              simp only [Nat.zero_add]
              rw [encB, flatten_map_one] at hj
              rw [← Array.getElem?_toList]
              have e : arr.toList = s.data.toList.map (fun b => Value.int .u8 (b.toNat : Int)) ++ List.replicate (nc - s.size) (.int .u8 0) := by simp [arr]
              have hjl : j < (s.data.toList.map (fun b => Value.int .u8 (b.toNat : Int))).length := by
                rcases Nat.lt_or_ge j (s.data.toList.map (fun b => Value.int .u8 (b.toNat : Int))).length with h | h
                · exact h
                · rw [List.getElem?_eq_none h] at hj; cases hj
              rw [e, List.getElem?_append_left hjl]
              exact hj
            · have : b = w.heap.size := hb.2
              subst this
              exact hrow.lt
          · intro E hE b hb
            cases hE
            exact .inl (Nat.le_of_eq (Eq.symm hb.2))
      | _ => exact ⟨⟨0, none, 0, [], fun _ _ => (none, 0)⟩, fun src v e' os h => by simp at h⟩

theorem foldl_push_bytes (bs : List UInt8) : ∀ (r : ByteArray), (bs.map fun b => (b.toNat : Int)).foldl (fun (r : ByteArray) (n : Int) => r.push (UInt8.ofNat n.toNat)) r = ⟨r.data ++ bs.toArray⟩ := by
  induction bs with
  | nil => intro r; simp
  | cons b bs ih =>
    intro r
    simp only [List.map_cons, List.foldl_cons, Int.toNat_natCast]
    rw [ih]
    have : UInt8.ofNat b.toNat = b := by simp
    rw [this]
    simp [ByteArray.push]

theorem opText_sound {P : Program} {st dt : TypeId} {x : Value} {e : Option Ent} {bs : List UInt8} {v : Value} {os : List Prop} (h : opText P st dt x e bs = some (v, os)) (ho : All os) {w : World}
    (he : ∀ E, e = some E → E.ok w) : (convert st dt x).run P w = .ok v w := by
  have key : ∀ (ob : Option Addr) (n cap : Nat) (elem : TypeId), P.underlying st = some (.slice elem) → P.underlying elem = some (.int .u8) → P.underlying dt = some .string → n = bs.length →
      (bs ≠ [] → ∃ a, ob = some a ∧ a.spot = none ∧ RowsAt w a 1 (encB bs)) → (convert st dt (.slice ob n cap)).run P w = .ok (.string ⟨bs.toArray⟩) w := by
    intro ob n cap elem hu hue hud hn hR
    rw [run_convert_bytes_string w st dt elem ob n cap hu hue hud]
    cases ob with
    | none =>
      have : bs = [] := Classical.byContradiction fun hb => by obtain ⟨a, h, _⟩ := hR hb; cases h
      subst this
      simp [Conv.bytesToString]
      rfl
    | some a =>
      have hl : (loadCells a n).run P w = .ok ((bs.map fun b => (b.toNat : Int)).map (Value.int .u8)).toArray w := by
        have := run_loadCells_list (P := P) w a ((bs.map fun b => (b.toNat : Int)).map (Value.int .u8)) (fun j u hj => by
          by_cases hb : bs = []
          · subst hb; simp at hj
          · obtain ⟨a', ha, hsp, hR'⟩ := hR hb
            cases ha
            obtain ⟨b, o, sp⟩ := a
            simp only at hsp
            subst hsp
            rw [add_plain]
            refine hR'.flat j u ?_
            rw [encB, flatten_map_one]
            simpa using hj)
        simp only [List.length_map] at this
        rw [hn]
        exact this
      rw [run_bytesToString w a n cap _ hl, foldl_push_bytes]
      simp
  unfold opText at h
  split at h <;> try (simp at h; done)
  rename_i elem hu hud
  split at h <;> try (simp at h; done)
  · rename_i ob n cap ob' rows hue
    simp only [Option.some.injEq, Prod.mk.injEq] at h
    obtain ⟨rfl, rfl⟩ := h
    simp only [All, and_true] at ho
    obtain ⟨rfl, rfl, rfl⟩ := ho
    refine key ob _ cap elem hu hue hud (by simp [encB]) fun hb => ?_
    obtain ⟨a, h1, h2, h3⟩ := (he _ rfl).1 (by simp [encB, hb])
    exact ⟨a, h1, h2, h3⟩
  · rename_i ob n cap ob' cap' T rows hue
    simp only [Option.some.injEq, Prod.mk.injEq] at h
    obtain ⟨rfl, rfl⟩ := h
    simp only [All, and_true] at ho
    obtain ⟨rfl, rfl, rfl⟩ := ho
    refine key ob _ cap elem hu hue hud (by simp [encB]) fun hb => ?_
    have hok := (he _ rfl).1
    have hpos : 0 < (encB bs).length := by simp [encB]; cases bs with | nil => exact absurd rfl hb | cons => simp
    obtain ⟨a, arr, h1, h2, _, _, h3⟩ := hok.2 (by have := hok.1; omega)
    exact ⟨a, h1, h2, h3⟩

theorem RowsAt.drop_ {w : World} {a : Addr} {sz : Nat} {rows : List (List Value)} (h : RowsAt w a sz rows) (l n : Nat) : RowsAt w ⟨a.block, a.off + l * sz, none⟩ sz ((rows.drop l).take n) := by
  intro i r hr
  rw [List.getElem?_take] at hr
  split at hr
  · rw [List.getElem?_drop] at hr
    have := h (l + i) r hr
    refine ⟨this.1, fun c v hv => ?_⟩
    have := this.2 c v hv
    rwa [show a.off + ((l + i) * sz + c) = (a.off + l * sz) + (i * sz + c) by rw [Nat.add_mul]; omega] at this
  · cases hr
theorem opTextC_sound {P : Program} {st dt : TypeId} {x : Value} {e : Option Ent} {l hh m : Nat} {bs : List UInt8} {v : Value} {os : List Prop} (h : opTextC P st dt x e l hh m bs = some (v, os)) (ho : All os) {w : World}
    (he : ∀ E, e = some E → E.ok w) : (convert st dt x).run P w = .ok v w := by
  have key : ∀ (ob : Option Addr) (rows : List (List Value)) (n cap : Nat) (elem : TypeId), P.underlying st = some (.slice elem) → P.underlying elem = some (.int .u8) → P.underlying dt = some .string →
      (rows ≠ [] → ∃ a, ob = some a ∧ a.spot = none ∧ RowsAt w a 1 rows ∧ a.block < w.heap.size) → n = bs.length → l ≤ hh → hh ≤ m → (rows.drop l).take (hh - l) = encB bs →
      (convert st dt (.slice (cutOb ob l m 1) n cap)).run P w = .ok (.string ⟨bs.toArray⟩) w := by
    intro ob rows n cap elem hu hue hud hR hn h1 h2 hb
    have hE : (Ent.rd (cutOb ob l m 1) 1 ((rows.drop l).take (hh - l))).ok w := by
      have both : (rows.drop l).take (hh - l) ≠ [] → ∃ a, ob = some a ∧ RowsAt w a 1 rows ∧ a.block < w.heap.size ∧ cutOb ob l m 1 = some ⟨a.block, a.off + l * 1, none⟩ := fun hne => by
        obtain ⟨a, rfl, hs, hr, hlt⟩ := hR (fun e => hne (by rw [e]; simp))
        refine ⟨a, rfl, hr, hlt, ?_⟩
        have hlm : ¬ m = l := fun e => hne (by rw [show hh - l = 0 by omega]; simp)
        unfold cutOb
        rw [if_neg hlm, Option.map_some]
        obtain ⟨b, o, sp⟩ := a
        simp only at hs
        subst hs
        rw [add_plain]
      refine ⟨fun hne => ?_, fun b hbf => ?_⟩
      · obtain ⟨a, rfl, hr, _, hc⟩ := both hne
        exact ⟨_, hc, rfl, hr.drop_ l (hh - l)⟩
      · obtain ⟨a, rfl, _, hlt, hc⟩ := both hbf.1
        rw [hbf.2, hc]
        exact hlt
    refine opText_sound (e := some (.rd (cutOb ob l m 1) 1 ((rows.drop l).take (hh - l)))) (bs := bs) (os := [cutOb ob l m 1 = cutOb ob l m 1, n = ((rows.drop l).take (hh - l)).length, (rows.drop l).take (hh - l) = encB bs]) ?_ ⟨rfl, ?_, hb, trivial⟩ (fun E hEq => by cases hEq; exact hE)
    · unfold opText
      simp only [hu, hud, hue]
    · rw [hb, hn]; simp [encB]
  unfold opTextC at h
  split at h <;> try (simp at h; done)
  rename_i elem hu hud
  split at h <;> try (simp at h; done)
  · rename_i ob2 n cap ob rows hue
    simp only [Option.some.injEq, Prod.mk.injEq] at h
    obtain ⟨rfl, rfl⟩ := h
    simp only [All, and_true] at ho
    obtain ⟨rfl, h1, h2, h3, h4⟩ := ho
    refine key ob rows n cap elem hu hue hud (fun hne => ?_) h1 h2 h3 h4
    have hok := he _ rfl
    obtain ⟨a, ha, hs, hr⟩ := hok.1 hne
    exact ⟨a, ha, hs, hr, hok.2 a.block ⟨hne, by rw [ha]; rfl⟩⟩
  · rename_i ob2 n cap ob cap' T rows hue
    simp only [Option.some.injEq, Prod.mk.injEq] at h
    obtain ⟨rfl, rfl⟩ := h
    simp only [All, and_true] at ho
    obtain ⟨rfl, h1, h2, h3, h4⟩ := ho
    refine key ob rows n cap elem hu hue hud (fun hne => ?_) h1 h2 h3 h4
    have hok := he _ rfl
    have hc : cap' ≠ 0 := fun hc => by
      have := hok.1.1
      rw [hc] at this
      exact hne (List.length_eq_zero_iff.1 (by omega))
    obtain ⟨a, arr, ha, hs, _, _, hr⟩ := hok.1.2 hc
    exact ⟨a, ha, hs, hr, hok.2 a.block ⟨hc, by rw [ha]; rfl⟩⟩

theorem partV_run {P : Program} {t : TypeId} {cs : Array Value} {off : Nat} {v : Value} (h : partV P t cs off = some v) (w : World) : (part t cs off).run P w = .ok v w := by
  unfold partV at h
  split at h <;> try (simp at h; done)
  · rename_i ha
    cases hs : sizeOfT P t with
    | none => simp [hs] at h
    | some n =>
      simp [hs] at h
      subst h
      simp [part, run_aggT ha, run_sizeT hs]
  · rename_i ha
    simp [part, run_aggT ha, h]

theorem eqV_run {P : Program} : ∀ (d : Nat) (t : TypeId) (x y : Value) (b : Bool), eqV P d t x y = some b → ∀ (d' : Nat) (w : World), d ≤ d' → (Op.equalIn d' t x y).run P w = .ok b w
  | 0, _, _, _, _, h => by simp [eqV] at h
  | d + 1, t, x, y, b, h => by
    intro d' w hd
    obtain ⟨d', rfl⟩ : ∃ k, d' = k + 1 := ⟨d' - 1, by omega⟩
    unfold eqV at h
    split at h <;> try (simp at h; done)
    · rename_i a b' hu; simp at h; subst h; simp [Op.equalIn, run_underlying hu]
    · rename_i kk k a k' b' hu
      split at h <;> simp at h
      rename_i hk
      have := of_decide_eq_true hk
      subst this
      subst h
      simp [Op.equalIn, run_underlying hu]
    · rename_i a b' hu; simp at h; subst h; simp [Op.equalIn, run_underlying hu]
    · rename_i fs xs ys hu
      split at h <;> try (simp at h; done)
      rename_i hst
      have hfs : P.fieldsOf t = fs := by simp [Program.fieldsOf, hu]
      rw [run_equalIn_struct w d' t xs ys (by rw [hfs]; exact hu) hst, hfs]
      clear hu hfs hst
      generalize fs.toList = l at *
      clear fs
      induction l generalizing b with
      | nil => simp at h; subst h; simp [Op.eqFields]
      | cons f l ih =>
        simp only [List.foldr_cons] at h
        split at h <;> try (simp at h; done)
        rename_i c hc
        have ihc := ih c hc
        split at h
        · rename_i hn
          simp only [Option.some.injEq] at h
          subst h
          have := of_decide_eq_true hn
          simp only [Op.eqFields, this, ne_eq, not_true_eq_false, if_false]
          exact ihc
        · rename_i hn
          have hne := of_decide_eq_false hn
          split at h <;> try (simp at h; done)
          rename_i va vb hpa hpb
          split at h <;> simp at h
          rename_i q hq
          subst h
          have := eqV_run d f.type va vb q hq d' w (by omega)
          simp only [Op.eqFields, ne_eq, hne, not_false_eq_true, if_true, Sem.run_bind, partV_run hpa, partV_run hpb, Result.andThen_ok, this]
          cases q with
          | true => simpa using ihc
          | false => simp

theorem opEq_sound {P : Program} {op : BinOp} {t : TypeId} {x y : Value} {v : Value} (h : opEq P op t x y = some v) (w : World) (ox oy : Operand) :
    ((do eqGuard op t ox oy x y; binOp op t x y : Sem Value)).run P w = .ok v w := by
  unfold opEq at h
  split at h <;> try (simp at h; done)
  · rename_i xs ys
    split at h <;> try (simp at h; done)
    rename_i hg
    cases he : eqV P 20 t (.agg xs) (.agg ys) with
    | none => simp [he] at h
    | some b =>
      simp [he] at h
      subst h
      simp only [Sem.run_bind, run_eqGuard_agg w .eql t ox oy xs ys hg, Result.andThen_ok, run_eql_struct, eqV_run 20 t _ _ b he 10000 w (by omega)]
  · rename_i xs ys
    split at h <;> try (simp at h; done)
    rename_i hg
    cases he : eqV P 20 t (.agg xs) (.agg ys) with
    | none => simp [he] at h
    | some b =>
      simp [he] at h
      subst h
      simp only [Sem.run_bind, run_eqGuard_agg w .neq t ox oy xs ys hg, Result.andThen_ok, run_neq_struct, eqV_run 20 t _ _ b he 10000 w (by omega)]

theorem run_eqGuard_int {P : Program} (op : BinOp) (t : TypeId) (x y : Operand) {a b : Value} (ha : ∃ k n, a = .int k n) (w : World) : (eqGuard op t x y a b).run P w = .ok () w := by
  obtain ⟨k, n, rfl⟩ := ha
  unfold eqGuard
  cases op <;> rfl

/-- What carrying the operation out asks of what follows. -/
theorem run_nilq {P : Program} {op : BinOp} {t el : TypeId} (hu : P.underlying t = some (.slice el)) (ob : Option Addr) (n c : Nat) (w : World) (ox oy : Operand) :
    ((do eqGuard .eql t ox oy (.slice ob n c) (.slice none 0 0); binOp .eql t (.slice ob n c) (.slice none 0 0) : Sem Value)).run P w = .ok (.bool ob.isNone) w := by
  have hg : (eqGuard .eql t ox oy (.slice ob n c) (.slice none 0 0)).run P w = .ok () w := rfl
  have hb : (binOp .eql t (.slice ob n c) (.slice none 0 0)).run P w = .ok (.bool ob.isNone) w := by
    have he : ∀ d : Nat, (Op.equalIn (d + 1) t (.slice ob n c) (.slice none 0 0)).run P w = .ok ob.isNone w := fun d => by
      cases ob <;> simp [Op.equalIn, run_underlying hu]
    have h1 := he 9999
    simp only [binOp]
    simp [Op.equal, Op.maxDepth, h1]
  simp only [Sem.run_bind, hg, Result.andThen_ok, hb]

theorem readVar_all {P : Program} {t : TypeId} {cs : List Value} {n : Nat} (hs : sizeOfT P t = some n) (ha : aggT P t = some true) (hn : cs.length = n) : readVar P t cs = some (.agg cs.toArray) := by
  unfold readVar
  rw [hs, ha]
  have : Nat.ble n cs.length = true := Nat.ble_eq_true_of_le (by omega)
  simp only [this]
  rw [← hn, List.take_length]
theorem readVar_one {P : Program} {t : TypeId} {v : Value} {n : Nat} (hs : sizeOfT P t = some n) (ha : aggT P t = some false) : readVar P t [v] = some v := by
  unfold readVar
  rw [hs, ha]
  rfl
theorem drop_take_at {vs cs : List Value} {off n : Nat} (h : (vs.drop off).take n = cs) {j : Nat} {u : Value} (hj : cs[j]? = some u) : vs[off + j]? = some u := by
  subst h
  rw [List.getElem?_take] at hj
  split at hj
  · rwa [List.getElem?_drop] at hj
  · cases hj

theorem opLoadC_sound {P : Program} {t : TypeId} {x : Value} {e : Option Ent} {cs : List Value} {v : Value} {os : List Prop}
    (h : opLoadC P t x e cs = some (v, os)) (ho : All os) {w : World} (he : ∀ E, e = some E → E.ok w) : (Instr.loadAt t x).run P w = .ok v w := by
  unfold opLoadC at h
  split at h <;> try (simp at h; done)
  · rename_i b off b' T vs n hs ha
    simp only [Option.some.injEq, Prod.mk.injEq] at h
    obtain ⟨rfl, rfl⟩ := h
    simp only [All, and_true] at ho
    obtain ⟨rfl, h1, h2⟩ := ho
    have hk : RowIn w b vs.toArray T := (he _ rfl).1
    refine run_readVar (b := b) (off := off) (readVar_all hs ha h1) (fun j u hj => ?_)
    rw [hk.cell]
    simpa using drop_take_at h2 hj
  · rename_i b off b' T vs n hs ha
    split at h <;> try (simp at h; done)
    rename_i v'
    simp only [Option.some.injEq, Prod.mk.injEq] at h
    obtain ⟨rfl, rfl⟩ := h
    simp only [All, and_true] at ho
    obtain ⟨rfl, h1⟩ := ho
    have hk : RowIn w b vs.toArray T := (he _ rfl).1
    refine run_readVar (b := b) (off := off) (readVar_one hs ha) (fun j u hj => ?_)
    rw [hk.cell]
    cases j with
    | zero => simp at hj; subst hj; simpa using h1
    | succ j => simp at hj
  · rename_i b off ob sz vs n hs ha
    simp only [Option.some.injEq, Prod.mk.injEq] at h
    obtain ⟨rfl, rfl⟩ := h
    simp only [All, and_true] at ho
    obtain ⟨rfl, h0, h1, h2⟩ := ho
    obtain ⟨a, rfl, hsp, hR⟩ := (he _ rfl).1 (by simp)
    refine run_readVar (b := blk (some a)) (off := off) (readVar_all hs ha h1) (fun j u hj => ?_)
    have := (hR 0 vs rfl).2 _ _ (drop_take_at h2 hj)
    rw [show a.off + (0 * sz + (off - offs (some a) + j)) = off + j by show a.off + (0 * sz + (off - a.off + j)) = off + j; have : a.off ≤ off := h0; omega] at this
    exact this
  · rename_i b off ob sz vs n hs ha
    split at h <;> try (simp at h; done)
    rename_i v'
    simp only [Option.some.injEq, Prod.mk.injEq] at h
    obtain ⟨rfl, rfl⟩ := h
    simp only [All, and_true] at ho
    obtain ⟨rfl, h0, h1⟩ := ho
    obtain ⟨a, rfl, hsp, hR⟩ := (he _ rfl).1 (by simp)
    refine run_readVar (b := blk (some a)) (off := off) (readVar_one hs ha) (fun j u hj => ?_)
    cases j with
    | zero =>
      simp at hj; subst hj
      have := (hR 0 vs rfl).2 _ _ h1
      rw [show a.off + (0 * sz + (off - offs (some a))) = off + 0 by show a.off + (0 * sz + (off - a.off)) = off + 0; have : a.off ≤ off := h0; omega] at this
      exact this
    | succ j => simp at hj

theorem opStoreC_sound {P : Program} {t : TypeId} {x v : Value} {e e' : Option Ent} {os : List Prop}
    (h : opStoreC P t x v e = some (e', os)) (ho : All os) {w : World} (he : ∀ E, e = some E → E.ok w) :
    ∃ w', (Instr.storeAt t x v).run P w = .ok () w' ∧ Eff e e' w w' := by
  unfold opStoreC at h
  split at h <;> try (simp at h; done)
  rename_i n b off b' T vs hs
  simp only [Option.some.injEq, Prod.mk.injEq] at h
  obtain ⟨rfl, rfl⟩ := h
  simp only [All, and_true] at ho
  obtain ⟨rfl, hn, hfit, h1⟩ := ho
  have hk : RowIn w b vs.toArray T := (he _ rfl).1
  refine ⟨_, by simp only [Instr.storeAt, Instr.sureAddr, Sem.run_bind, Sem.run_pure, Result.andThen_ok]; exact run_storeVar_at hs hn hk (by simpa using hfit) (by simpa using h1), ?_, ?_, ?_⟩
  · exact setRow_keep.mono fun k _ hkb => ⟨_, rfl, rfl, hkb⟩
  · intro E hE
    cases hE
    refine ⟨hk.setRow (by simp only [List.size_toArray]; exact splice_length (by omega)), fun k hkb => ?_⟩
    simpa using (he _ rfl).2 k hkb
  · intro E hE k hkb
    cases hE
    exact .inr ⟨_, rfl, hkb, id⟩

theorem eqItems_int {P : Program} {e : TypeId} {k : IntKind} (hu : P.underlying e = some (.int k)) (l1 l2 : List Int) (d : Nat) (w : World) : ∀ is : List Nat, (∀ i ∈ is, i < l1.length ∧ i < l2.length) →
    (Op.eqItems (d + 1) e 1 (l1.map (Value.int k)).toArray (l2.map (Value.int k)).toArray is).run P w = .ok (is.all fun i => l1.getD i 0 == l2.getD i 0) w
  | [], _ => by simp [Op.eqItems]
  | i :: is, h => by
    have ih := eqItems_int hu l1 l2 d w is (fun j hj => h j (by simp [hj]))
    obtain ⟨h1, h2⟩ := h i (by simp)
    have ha : aggT P e = some false := by unfold aggT; rw [hu]
    have p1 : (part e (l1.map (Value.int k)).toArray (i * 1)).run P w = .ok (.int k (l1.getD i 0)) w := partV_run (by unfold partV; rw [ha]; simp [List.getD, h1]) w
    have p2 : (part e (l2.map (Value.int k)).toArray (i * 1)).run P w = .ok (.int k (l2.getD i 0)) w := partV_run (by unfold partV; rw [ha]; simp [List.getD, h2]) w
    simp only [Op.eqItems, Sem.run_bind, p1, p2, Result.andThen_ok, run_equalIn_int w d e k k _ _ hu, List.all_cons]
    cases (l1.getD i 0 == l2.getD i 0) with
    | true => simpa using ih
    | false => simp
theorem opEqA_sound {P : Program} {t : TypeId} {x y : Value} {l1 l2 : List Int} {v : Value} {os : List Prop} (h : opEqA P t x y l1 l2 = some (v, os)) (ho : All os) (w : World) (ox oy : Operand) :
    ((do eqGuard .eql t ox oy x y; binOp .eql t x y : Sem Value)).run P w = .ok v w := by
  unfold opEqA at h
  split at h <;> try (simp at h; done)
  rename_i n elem xs ys hu
  split at h <;> try (simp at h; done)
  rename_i k hue hs hg
  simp only [Option.some.injEq, Prod.mk.injEq] at h
  obtain ⟨rfl, rfl⟩ := h
  simp only [All, and_true] at ho
  obtain ⟨rfl, rfl, h1, h2⟩ := ho
  obtain ⟨i, hi⟩ : ∃ i, P.info? elem = some i := by
    unfold sizeOfT at hs
    cases hi : P.info? elem with
    | none => rw [hi] at hs; cases hs
    | some i => exact ⟨i, rfl⟩
  have hc : P.cellsOf elem = 1 := by unfold sizeOfT at hs; unfold Program.cellsOf; rw [hs]; rfl
  have key := eqItems_int hue l1 l2 9998 w (List.range n) (fun i hi => by have := List.mem_range.1 hi; omega)
  have hall : ((List.range n).all fun i => l1.getD i 0 == l2.getD i 0) = (l1 == l2) := by
    rw [Bool.eq_iff_iff, List.all_eq_true, beq_iff_eq]
    constructor
    · intro h
      apply List.ext_getElem (by omega)
      intro i hi1 hi2
      have := h i (List.mem_range.2 (by omega))
      simpa [List.getD, hi1, hi2] using this
    · rintro rfl i _; simp
  rw [hall] at key
  simp only [Sem.run_bind, run_eqGuard_agg w .eql t ox oy _ _ hg, Result.andThen_ok, run_eql_struct, show (10000 : Nat) = 9999 + 1 from rfl, run_equalIn_array w 9999 _ _ hu hi, hc, key]

theorem opMark_sound {P : Program} {s t : TypeId} {x v : Value} {e e' : Option Ent} {os : List Prop} (h : opMark P s t x e = some (v, e', os)) (ho : All os) {w : World} (he : ∀ E, e = some E → E.ok w) :
    ∃ w', (convert s t x).run P w = .ok v w' ∧ Eff e e' w w' := by
  unfold opMark at h
  split at h <;> try (simp at h; done)
  rename_i elem a n c ob cap T sz rows hst hu
  split at h <;> try (simp at h; done)
  rename_i hue hbt
  have hst := of_decide_eq_true hst
  subst hst
  simp only [Option.some.injEq, Prod.mk.injEq] at h
  obtain ⟨rfl, rfl, rfl⟩ := h
  simp only [All, and_true] at ho
  obtain ⟨rfl, hc⟩ := ho
  have hok := he _ rfl
  obtain ⟨a', arr, ha, hs, hb, hroom, hR⟩ := hok.1.2 hc
  cases ha
  obtain ⟨lo, hi, g1, g2, g3⟩ := hb
  have hsh : w.shape? a.block = some (T, arr.size) := by unfold World.shape?; rw [g1]
  have hrow : RowIn (w.freeze ⟨a.block, arr.size, none⟩ 1) a.block arr T := by
    have hm : (w.freeze ⟨a.block, arr.size, none⟩ 1).heap[a.block]? = some (.cells arr T (if lo == hi then (arr.size, arr.size + 1) else (min lo arr.size, max hi (arr.size + 1)))) := by
      unfold World.freeze
      simp only [Nat.one_ne_zero, if_false, Array.getElem?_modify]
      rw [if_pos trivial, g1]
      rfl
    by_cases hl : lo = hi
    · rw [if_pos (by simpa using hl)] at hm
      exact ⟨_, _, hm, by omega, (fun i hi' h => by omega), .inr (Nat.eq_of_beq_eq_true hbt)⟩
    · rw [if_neg (by simpa using hl)] at hm
      have hge : arr.size ≤ lo := by
        rcases Nat.lt_or_ge lo arr.size with h' | h'
        · exact absurd ⟨Nat.le_refl _, by omega⟩ (g3.1 lo h')
        · exact h'
      exact ⟨_, _, hm, by omega, (fun i hi' h => by omega), .inr (Nat.eq_of_beq_eq_true hbt)⟩
  refine ⟨w.freeze ⟨a.block, arr.size, none⟩ 1, ?_, ?_, ?_, ?_⟩
  · simp [convert, run_underlying hu, run_underlying hue, markStringish, hsh]
  · refine ⟨?_, ?_, ?_, ?_, fun b hb hn => frozen_other _ _ _ _ (fun e => hn ⟨_, rfl, rfl, hc, e⟩)⟩
    · unfold World.freeze; split <;> rfl
    · unfold World.freeze; split <;> rfl
    · unfold World.freeze; split <;> rfl
    · unfold World.freeze
      split
      · exact Nat.le_refl _
      · show w.heap.size ≤ (w.heap.modify _ _).size; simp
  · intro E hE
    cases hE
    refine ⟨⟨hok.1.1, fun _ => ⟨a, arr, rfl, hs, hrow, hroom, ?_⟩⟩, fun b hb => ?_⟩
    · intro i r hr
      refine ⟨(hR i r hr).1, fun c v hv => ?_⟩
      rw [← (hR i r hr).2 c v hv, hrow.cell, RowIn.cell ⟨lo, hi, g1, g2, g3⟩]
    · have := hok.2 b hb
      unfold World.freeze
      split
      · exact this
      · show b < (w.heap.modify _ _).size; simpa using this
  · intro E hE b hb
    cases hE
    exact .inr ⟨_, rfl, hb, id⟩

def StepOK (P : Program) (o : Oper) (a : Act) (e e' : Option Ent) (v : Value) (w : World) (Q : Exit → Act → World → Prop) : Prop :=
  ∀ K : Act → World → Prop, (∀ w', Eff e e' w w' → K (a.put o.dst v) w') → o.wp P a w K Q

theorem StepOK.value {P : Program} {o : Oper} {a : Act} {e e' : Option Ent} {v : Value} {w w' : World} {Q : Exit → Act → World → Prop}
    (hr : (execOp a.eval o).run P w = .ok (.value v) w') (he : Eff e e' w w') : StepOK P o a e e' v w Q := by
  intro K hK
  unfold Oper.wp
  rw [hr, Oper.upon_value]
  exact hK _ he

theorem opCopyAt_sound {P : Program} {ats : Array TypeId} {ty : TypeId} {s y : Value} {e e2 e' : Option Ent} {v : Value} {os : List Prop} {w : World} {l : Nat} (h : opCopyAt P ats s y e e2 l = some (v, e', os)) (ho : All os)
    (he : ∀ E, e = some E → E.ok w) (he2 : ∀ E, e2 = some E → E.ok w) : ∃ w', (Builtin.copy_ ats ty #[s, y]).run P w = .ok v w' ∧ Eff e e' w w' := by
  unfold opCopyAt at h
  split at h <;> try (simp at h; done)
  rename_i st ats' ob n cap0 ob' cap T sz rows hats
  split at h <;> try (simp at h; done)
  rename_i elem hu
  split at h <;> try (simp at h; done)
  rename_i sz' hs
  split at h <;> try (simp at h; done)
  rename_i src osrc hb hsrc
  have := Nat.eq_of_beq_eq_true hb
  subst this
  simp only [Option.some.injEq, Prod.mk.injEq] at h
  obtain ⟨rfl, rfl, rfl⟩ := h
  obtain ⟨hosrc, ho1⟩ := All.append.1 ho
  simp only [All, and_true] at ho1
  obtain ⟨rfl, rfl, hne, hfit, hone⟩ := ho1
  obtain ⟨g1, g2, g3⟩ := srcRows_run (P := P) hsrc hosrc he2
  have hat0 : ats[0]? = some st := by
    cases ats; simp at hats; simp [hats]
  have hmin : Nat.min src.length (rows.length - l) = src.length := Nat.min_eq_left (by omega)
  have hfirst := g2 _ (Nat.le_refl _) w rfl
  rw [List.take_length] at hfirst
  have hlen := g1 w rfl
  have hok := (he _ rfl).1
  have hcap : cap ≠ 0 := by have := hok.1; omega
  obtain ⟨a, arr, rfl, hsp, hrow, hsize, hR⟩ := hok.2 hcap
  obtain ⟨ab, ao, asp⟩ := a
  simp only at hsp hrow hsize
  subst hsp
  have hcl : cap ≠ l := by have := hok.1; omega
  have hcut : cutOb (some ⟨ab, ao, none⟩) l cap sz = some ⟨ab, ao + l * sz, none⟩ := by unfold cutOb; rw [if_neg hcl, Option.map_some, add_plain]
  have hfl : src.flatten.length = src.length * sz := flatten_len g3
  have hmul : (l + src.length) * sz ≤ cap * sz := Nat.mul_le_mul_right _ (Nat.le_trans hfit hok.1)
  rw [Nat.add_mul] at hmul
  have hst := run_storeCells_in P ab (ao + l * sz) T src.flatten 0 arr w hrow (by omega) (fun u hu => List.all_eq_true.1 hone u hu)
  simp only [Nat.add_zero] at hst
  have hal : arr.toList.length = arr.size := by simp
  have hrow' := hrow.setRow (arr' := (splice arr.toList (ao + l * sz) src.flatten).toArray) (by simp only [List.size_toArray]; rw [splice_length (by omega)]; exact hal)
  refine ⟨w.setRow ab (splice arr.toList (ao + l * sz) src.flatten).toArray, ?_, ?_, ?_, ?_⟩
  · rw [hcut]
    simp [Builtin.copy_, hat0, run_underlying hu, hlen, run_sizeT hs, hmin, hfirst, hst, goInt]
  · exact setRow_keep.mono fun k _ hk => ⟨_, rfl, rfl, hcap, hk⟩
  · intro E hE
    cases hE
    have hlens : ∀ r ∈ rows.take l ++ (src ++ rows.drop (l + src.length)), r.length = sz := fun r hr => by
      rcases List.mem_append.1 hr with h' | h'
      · exact hR.lens r (List.mem_of_mem_take h')
      · rcases List.mem_append.1 h' with h' | h'
        · exact g3 r h'
        · exact hR.lens r (List.mem_of_mem_drop h')
    have htot : (rows.take l ++ (src ++ rows.drop (l + src.length))).length = rows.length := by simp; omega
    refine ⟨⟨by rw [htot]; exact hok.1, fun _ => ⟨_, _, rfl, rfl, hrow', by simp only [List.size_toArray]; rw [splice_length (by omega)]; simpa using hsize, ?_⟩⟩, fun b hb => by simpa using (he _ rfl).2 b hb⟩
    refine RowsAt.of_flat rfl hlens fun j u hj => ?_
    rw [hrow'.cell]
    show (splice arr.toList (ao + l * sz) src.flatten).toArray[ao + j]? = some u
    rw [List.getElem?_toArray, splice_at (by omega)]
    have hA : rows.flatten.length = rows.length * sz := flatten_len hR.lens
    have htk : (rows.take l).flatten.length = l * sz := by
      have := flatten_len (sz := sz) (fun r hr => hR.lens r (List.mem_of_mem_take (i := l) hr))
      rw [this, List.length_take, Nat.min_eq_left (by omega)]
    have hold : ∀ i u, rows.flatten[i]? = some u → arr.toList[ao + i]? = some u := fun i u hi => by
      have := hR.flat i u hi
      rw [hrow.cell] at this
      simpa using this
    rw [List.flatten_append, List.flatten_append] at hj
    by_cases h1 : j < l * sz
    · rw [List.getElem?_append_left (by omega)] at hj
      rw [if_pos (by omega)]
      refine hold j u ?_
      have e : rows.flatten = (rows.take l).flatten ++ (rows.drop l).flatten := by rw [← List.flatten_append, List.take_append_drop]
      rw [e, List.getElem?_append_left (by omega)]; exact hj
    · rw [List.getElem?_append_right (by omega), htk] at hj
      rw [if_neg (by omega)]
      by_cases h2 : j - l * sz < src.flatten.length
      · rw [List.getElem?_append_left h2] at hj
        rw [if_pos (by omega), ← hj]
        congr 1
        omega
      · rw [List.getElem?_append_right (by omega)] at hj
        rw [if_neg (by omega)]
        refine hold j u ?_
        have e : rows.flatten = (rows.take (l + src.length)).flatten ++ (rows.drop (l + src.length)).flatten := by rw [← List.flatten_append, List.take_append_drop]
        have htk2 : (rows.take (l + src.length)).flatten.length = (l + src.length) * sz := by
          have := flatten_len (sz := sz) (fun r hr => hR.lens r (List.mem_of_mem_take (i := l + src.length) hr))
          rw [this, List.length_take, Nat.min_eq_left (by omega)]
        rw [Nat.add_mul] at htk2
        rw [e, List.getElem?_append_right (by omega), ← hj]
        congr 1
        omega
  · intro E hE b hb
    cases hE
    exact .inr ⟨_, rfl, hb, id⟩
theorem StepOK.skip {P : Program} {o : Oper} {a : Act} {e e' : Option Ent} {w w' : World} {Q : Exit → Act → World → Prop}
    (hr : (execOp a.eval o).run P w = .ok .skip w') (he : Eff e e' w w') : StepOK P o a e e' undef w Q := by
  intro K hK
  unfold Oper.wp
  rw [hr, Oper.upon_skip]
  exact hK _ he

/-! ### Maps -/

theorem ba_of_beq {a b : ByteArray} (h : (a == b) = true) : a = b := by
  obtain ⟨⟨x⟩⟩ := a
  obtain ⟨⟨y⟩⟩ := b
  have h : ((⟨x⟩ : Array UInt8) == ⟨y⟩) = true := h
  have : x = y := by simpa using h
  rw [this]
theorem ba_beq_self (a : ByteArray) : (a == a) = true := by
  obtain ⟨⟨x⟩⟩ := a
  show ((⟨x⟩ : Array UInt8) == ⟨x⟩) = true
  simp
theorem map_eraseIdx' {α β : Type} (f : α → β) : ∀ (l : List α) (i : Nat), (l.eraseIdx i).map f = (l.map f).eraseIdx i
  | [], _ => rfl
  | _ :: _, 0 => rfl
  | a :: l, i + 1 => by simp [map_eraseIdx' f l i]

theorem mapT_spec {P : Program} {t : TypeId} {k : IntKind} (h : mapT P t = some k) : ∃ kt et, P.underlying t = some (.map kt et) ∧ P.underlying kt = some .string ∧ zeroV P et = some (.int k 0) := by
  unfold mapT at h
  split at h <;> try (simp at h; done)
  rename_i kt et hu
  split at h <;> try (simp at h; done)
  rename_i k0 hk he
  split at h <;> try (simp at h; done)
  rename_i k' z hz
  split at h <;> try (simp at h; done)
  rename_i hd
  simp only [Bool.and_eq_true, decide_eq_true_eq] at hd
  obtain ⟨rfl, rfl⟩ := hd
  simp only [Option.some.injEq] at h
  subst h
  exact ⟨kt, et, hu, hk, hz⟩

def kfind (k : IntKind) : List (ByteArray × Int) → ByteArray → Nat → Option (Nat × Value)
  | [], _, _ => none
  | p :: r, s, i => bif s == p.1 then some (i, .int k p.2) else kfind k r s (i + 1)

theorem findNow_kv (k : IntKind) (s : ByteArray) : ∀ (es : List MapEntry) (kv : List (ByteArray × Int)) (i : Nat), es.map (fun e => (e.key, e.val)) = kv.map (fun p => (Value.string p.1, Value.int k p.2)) → Instr.findNow .string (.string s) es i = some (kfind k kv s i)
  | [], [], _, _ => rfl
  | [], _ :: _, _, h => by simp at h
  | _ :: _, [], _, h => by simp at h
  | e :: es, p :: kv, i, h => by
    simp only [List.map_cons, List.cons.injEq, Prod.mk.injEq] at h
    obtain ⟨⟨h1, h2⟩, h3⟩ := h
    rw [Instr.findNow, h1, h2]
    simp only [Instr.sameNow]
    rw [kfind]
    cases hk : (s == p.1) with
    | true => simp
    | false => simpa using findNow_kv k s es kv (i + 1) h3

theorem kfind_none {k : IntKind} : ∀ (kv : List (ByteArray × Int)) (s : ByteArray) (i : Nat), kfind k kv s i = none → (∀ v, kput kv s v = kv ++ [(s, v)]) ∧ kdel kv s = kv ∧ kget kv s = 0
  | [], _, _, _ => ⟨fun _ => rfl, rfl, rfl⟩
  | p :: r, s, i, h => by
    rw [kfind] at h
    cases hk : (s == p.1) with
    | true => rw [hk] at h; cases h
    | false =>
      rw [hk] at h
      obtain ⟨h1, h2, h3⟩ := kfind_none r s (i + 1) h
      exact ⟨fun v => by rw [kput, hk, h1 v]; rfl, by rw [kdel, hk, h2]; rfl, by rw [kget, hk, h3]; rfl⟩
theorem kfind_some {k : IntKind} : ∀ (kv : List (ByteArray × Int)) (s : ByteArray) (i j : Nat) (v0 : Value), kfind k kv s i = some (j, v0) → i ≤ j ∧ (∃ z, kv[j - i]? = some (z, kget kv s) ∧ (s == z) = true) ∧ (∀ v, kput kv s v = kv.modify (j - i) (fun _ => (s, v))) ∧ kdel kv s = kv.eraseIdx (j - i) ∧ v0 = .int k (kget kv s)
  | [], _, _, _, _, h => by cases h
  | p :: r, s, i, j, v0, h => by
    rw [kfind] at h
    cases hk : (s == p.1) with
    | true =>
      rw [hk] at h
      simp only [cond_true, Option.some.injEq, Prod.mk.injEq] at h
      obtain ⟨rfl, rfl⟩ := h
      rw [Nat.sub_self]
      exact ⟨Nat.le_refl _, ⟨p.1, by rw [kget, hk]; rfl, hk⟩, fun v => by rw [kput, hk]; rfl, by rw [kdel, hk]; rfl, by rw [kget, hk]; rfl⟩
    | false =>
      rw [hk] at h
      obtain ⟨h1, ⟨z, h2, h2'⟩, h3, h4, h5⟩ := kfind_some r s (i + 1) j v0 h
      have e : j - i = (j - (i + 1)) + 1 := by omega
      rw [e]
      exact ⟨by omega, ⟨z, by rw [kget, hk]; exact h2, h2'⟩, fun v => by rw [kput, hk, h3 v]; rfl, by rw [kdel, hk, h4]; rfl, by rw [kget, hk]; exact h5⟩

theorem run_findKey_kv {P : Program} {kt : TypeId} {k : IntKind} (hk : P.underlying kt = some .string) (s : ByteArray) {es : List MapEntry} {kv : List (ByteArray × Int)} (h : es.map (fun e => (e.key, e.val)) = kv.map (fun p => (Value.string p.1, Value.int k p.2))) (w : World) :
    (Instr.findKey kt (.string s) es).run P w = .ok (kfind k kv s 0) w := by
  simp [Instr.findKey, run_underlying hk, findNow_kv k s es kv 0 h]

theorem run_checkKey_str {P : Program} {kt : TypeId} (hk : P.underlying kt = some .string) (s : ByteArray) (e : Bool) (w : World) : (Instr.checkKey e 10000 kt (.string s)).run P w = .ok () w := by
  rw [show (10000 : Nat) = 9999 + 1 from rfl, Instr.checkKey]
  simp [run_underlying hk]

theorem run_getMap {P : Program} {w : World} {b : Nat} {es : Array MapEntry} {c : Nat} (h : w.heap[b]? = some (.map es c)) : (getObj b).run P w = .ok (.map es c) w := by
  simp [getObj, Sem.run, h]
theorem map_turn {b : Nat} {k : IntKind} {kv kv' : List (ByteArray × Int)} {w : World} (h : (Ent.map b k kv).ok w) (es : Array MapEntry) (c : Nat) (he : es.toList.map (fun e => (e.key, e.val)) = kv'.map (fun p => (Value.string p.1, Value.int k p.2))) :
    Eff (some (.map b k kv)) (some (.map b k kv')) w { w with heap := w.heap.setIfInBounds b (.map es c) } := by
  have hb : b < w.heap.size := h.2 b rfl
  refine ⟨⟨rfl, rfl, rfl, by show _ ≤ (w.heap.setIfInBounds b _).size; simp, fun j hj hn => ?_⟩, fun E hE => ?_, fun E hE j hj => ?_⟩
  · show (w.heap.setIfInBounds b _)[j]? = _
    rw [Array.getElem?_setIfInBounds_ne]
    exact fun e => hn ⟨_, rfl, rfl, e.symm⟩
  · cases hE
    refine ⟨⟨es, c, ?_, he⟩, fun j hj => ?_⟩
    · show (w.heap.setIfInBounds b _)[b]? = _
      simp [hb]
    · show j < (w.heap.setIfInBounds b _).size
      have : j = b := hj
      subst this
      simpa using hb
  · cases hE
    exact .inr ⟨_, rfl, hj, id⟩

theorem run_makeMap {P : Program} {t : TypeId} {k : IntKind} {w : World} : (Instr.makeMap t none).run P w = .ok (.map (some w.heap.size)) { w with heap := w.heap.push (.map #[] 0) } ∧ Eff none (some (.map w.heap.size k [])) w { w with heap := w.heap.push (.map #[] 0) } := by
  refine ⟨by simp [Instr.makeMap, run_newObj], ⟨⟨rfl, rfl, rfl, by show _ ≤ (w.heap.push _).size; simp, fun j hj _ => ?_⟩, fun E hE => ?_, fun E hE j hj => ?_⟩⟩
  · show (w.heap.push _)[j]? = _
    rw [Array.getElem?_push, if_neg (by omega)]
  · cases hE
    refine ⟨⟨#[], 0, by show (w.heap.push _)[w.heap.size]? = _; simp, rfl⟩, fun j hj => ?_⟩
    have : j = w.heap.size := hj
    subst this
    show _ < (w.heap.push _).size
    simp
  · cases hE
    exact .inl (Nat.le_of_eq (Eq.symm hj))

theorem opMapLen_sound {P : Program} {ats : Array TypeId} {ty : TypeId} {x v : Value} {e : Option Ent} {os : List Prop} {w : World} (h : opMapLen P ats x e = some (v, os)) (ho : All os) (he : ∀ E, e = some E → E.ok w) :
    (Builtin.len_ ats ty #[x]).run P w = .ok v w := by
  unfold opMapLen at h
  split at h <;> try (simp at h; done)
  rename_i t b b' k kv hats
  split at h <;> try (simp at h; done)
  rename_i k' hT
  simp only [Option.some.injEq, Prod.mk.injEq] at h
  obtain ⟨rfl, rfl⟩ := h
  simp only [All, and_true] at ho
  obtain ⟨rfl, rfl⟩ := ho
  obtain ⟨kt, et, hu, hk, hz⟩ := mapT_spec hT
  obtain ⟨es, c, h1, h2⟩ := (he _ rfl).1
  have hl : es.size = kv.length := by have := congrArg List.length h2; simpa using this
  have hats' : ats = #[t] := by cases ats; simp at hats; simp [hats]
  subst hats'
  simp [Builtin.len_, run_underlying hu, run_getMap h1, goInt, hl]

theorem opMapGet_sound {P : Program} {t : TypeId} {x ix v : Value} {e : Option Ent} {os : List Prop} {w : World} (h : opMapGet P t x ix e = some (v, os)) (ho : All os) (he : ∀ E, e = some E → E.ok w) :
    (Instr.lookup t x ix false).run P w = .ok v w := by
  unfold opMapGet at h
  split at h <;> try (simp at h; done)
  rename_i b s b' k kv
  split at h <;> try (simp at h; done)
  rename_i k' hT
  simp only [Option.some.injEq, Prod.mk.injEq] at h
  obtain ⟨rfl, rfl⟩ := h
  simp only [All, and_true] at ho
  obtain ⟨rfl, rfl⟩ := ho
  obtain ⟨kt, et, hu, hk, hz⟩ := mapT_spec hT
  obtain ⟨es, c, h1, h2⟩ := (he _ rfl).1
  have hzv : (zeroValue et).run P w = .ok (.int k 0) w := by
    unfold zeroV at hz
    cases hi : P.info? et with
    | none => simp [hi] at hz
    | some i => simp [hi] at hz; simp [zeroValue, typeInfo, hi, hz]
  have hf := run_findKey_kv hk s h2 w
  cases hq : kfind k kv s 0 with
  | none =>
    rw [hq] at hf
    obtain ⟨_, _, h3⟩ := kfind_none kv s 0 hq
    simp [Instr.lookup, run_underlying hu, run_getMap h1, run_checkKey_str hk, hf, hzv, h3]
  | some p =>
    obtain ⟨j, v0⟩ := p
    rw [hq] at hf
    obtain ⟨_, _, _, _, h3⟩ := kfind_some kv s 0 j v0 hq
    simp [Instr.lookup, run_underlying hu, run_getMap h1, run_checkKey_str hk, hf, h3]

theorem opMapPut_sound {P : Program} {t : TypeId} {x ix v : Value} {e e' : Option Ent} {os : List Prop} {w : World} (h : opMapPut P t x ix v e = some (e', os)) (ho : All os) (he : ∀ E, e = some E → E.ok w) :
    ∃ w', (Instr.mapUpdate t x ix v).run P w = .ok () w' ∧ Eff e e' w w' := by
  unfold opMapPut at h
  split at h <;> try (simp at h; done)
  rename_i b s kz z b' k kv
  split at h <;> try (simp at h; done)
  rename_i k' hT
  simp only [Option.some.injEq, Prod.mk.injEq] at h
  obtain ⟨rfl, rfl⟩ := h
  simp only [All, and_true] at ho
  obtain ⟨rfl, rfl, rfl⟩ := ho
  obtain ⟨kt, et, hu, hk, hz⟩ := mapT_spec hT
  have hok := he _ rfl
  obtain ⟨es, c, h1, h2⟩ := hok.1
  have hf := run_findKey_kv hk s h2 w
  cases hq : kfind kz kv s 0 with
  | none =>
    rw [hq] at hf
    obtain ⟨h3, _, _⟩ := kfind_none kv s 0 hq
    refine ⟨_, ?_, map_turn hok (es.push { key := .string s, val := .int kz z, born := c }) (c + 1) (by rw [h3]; simp [h2])⟩
    simp [Instr.mapUpdate, run_underlying hu, run_getMap h1, run_checkKey_str hk, hf, MapKept.run_setObj_map _ h1]
  | some p =>
    obtain ⟨j, v0⟩ := p
    rw [hq] at hf
    obtain ⟨_, ⟨z0, h4, h5⟩, h3, _, _⟩ := kfind_some kv s 0 j v0 hq
    rw [Nat.sub_zero] at h4 h3
    have hkey : ((es[j]?).map (·.key)).getD (.string s) = .string s := by
      have := congrArg (fun l => l[j]?) h2
      simp only [List.getElem?_map, Array.getElem?_toList, h4, Option.map_some] at this
      cases hj : es[j]? with
      | none => rfl
      | some q =>
        rw [hj] at this
        simp only [Option.map_some, Option.some.injEq, Prod.mk.injEq] at this
        simp only [Option.map_some, Option.getD_some, this.1]
        rw [ba_of_beq h5]
    refine ⟨_, ?_, map_turn hok (es.modify j fun e => { e with key := .string s, val := .int kz z }) c ?_⟩
    · simp [Instr.mapUpdate, run_underlying hu, run_getMap h1, run_checkKey_str hk, hf, hkey, Instr.keyThatStays, Instr.sameBits, ba_beq_self, MapKept.run_setObj_map _ h1]
    · rw [h3, Array.toList_modify]
      refine List.ext_getElem? fun i => ?_
      have h7 := congrArg (fun l => l[i]?) h2
      simp only [List.getElem?_map] at h7 ⊢
      rw [List.getElem?_modify, List.getElem?_modify]
      by_cases hij : j = i
      · subst hij
        simp only [if_true]
        rw [h4] at h7 ⊢
        simp only [Option.map_some] at h7 ⊢
        cases hj : es.toList[j]? with
        | none => rw [hj] at h7; cases h7
        | some q => simp
      · simp only [if_neg hij]
        simpa using h7

theorem opMapDel_sound {P : Program} {ats : Array TypeId} {ty : TypeId} {x ix v : Value} {e e' : Option Ent} {os : List Prop} {w : World} (h : opMapDel P ats x ix e = some (v, e', os)) (ho : All os) (he : ∀ E, e = some E → E.ok w) :
    ∃ w', (Builtin.delete_ ats ty #[x, ix]).run P w = .ok v w' ∧ Eff e e' w w' := by
  unfold opMapDel at h
  split at h <;> try (simp at h; done)
  rename_i t t2 b s b' k kv hats
  split at h <;> try (simp at h; done)
  rename_i k' hT
  simp only [Option.some.injEq, Prod.mk.injEq] at h
  obtain ⟨rfl, rfl, rfl⟩ := h
  simp only [All, and_true] at ho
  obtain ⟨rfl, rfl⟩ := ho
  obtain ⟨kt, et, hu, hk, hz⟩ := mapT_spec hT
  have hok := he _ rfl
  obtain ⟨es, c, h1, h2⟩ := hok.1
  have hats' : ats = #[t, t2] := by cases ats; simp at hats; simp [hats]
  subst hats'
  have hf := run_findKey_kv hk s h2 w
  cases hq : kfind k kv s 0 with
  | none =>
    rw [hq] at hf
    obtain ⟨_, h3, _⟩ := kfind_none kv s 0 hq
    refine ⟨_, ?_, map_turn hok es c (by rw [h3]; exact h2)⟩
    simp [Builtin.delete_, run_underlying hu, run_getMap h1, run_checkKey_str hk, hf, MapKept.run_setObj_map _ h1]
  | some p =>
    obtain ⟨j, v0⟩ := p
    rw [hq] at hf
    obtain ⟨_, _, _, h3, _⟩ := kfind_some kv s 0 j v0 hq
    rw [Nat.sub_zero] at h3
    refine ⟨_, ?_, map_turn hok (es.eraseIdxIfInBounds j) c ?_⟩
    · simp [Builtin.delete_, run_underlying hu, run_getMap h1, run_checkKey_str hk, hf, MapKept.run_setObj_map _ h1]
    · rw [h3, Array.toList_eraseIdxIfInBounds, map_eraseIdx', h2, map_eraseIdx']

theorem symAct_sound {P : Program} {d : Do} {σ : Operand → Value} {o : Oper} {a : Act} {e : Option Ent} {rd : Nat → Option Ent} {w : World} {Q : Exit → Act → World → Prop}
    (hnn : ∀ ks v e', d ≠ .calln ks v e') (hno : ∀ ks v e', d ≠ .callo ks v e') (hna : ∀ ks v e', d ≠ .calla ks v e') (hσ : execOp a.eval o = execOp σ o) (he : ∀ E, e = some E → E.ok w) (hrd : ∀ k E, rd k = some E → E.ok w) :
    ∃ f, ∀ v e' os, symAct P d f σ o e rd = some (v, e', os) → All os → StepOK P o a e e' v w Q := by
  have noent : ∀ (l : Option (Value × List Prop)) v e' os, noEnt l e = some (v, e', os) → l = some (v, os) ∧ e' = e := fun l v e' os h => by
    cases l with
    | none => simp [noEnt] at h
    | some p =>
      obtain ⟨u, os1⟩ := p
      simp only [noEnt, Option.map_some, Option.some.injEq, Prod.mk.injEq] at h
      obtain ⟨rfl, rfl, rfl⟩ := h
      exact ⟨rfl, rfl⟩
  have hkrd : ∀ (k2 : Option Nat) E, k2.bind rd = some E → E.ok w := fun k2 E h => by
    cases k2 with
    | none => simp at h
    | some k => exact hrd k E (by simpa using h)
  by_cases happ : ∃ k2 args ats s y, d = .app k2 ∧ o.op = .call ⟨.builtin .append, args, ats⟩ ∧ args.toList = [s, y]
  · obtain ⟨k2, args, ats, s, y, rfl, hop, hargs⟩ := happ
    obtain ⟨f, hf⟩ := opApp_sound (P := P) (ats := ats) (ty := o.type) (s := σ s) (y := σ y) he (hkrd k2)
    refine ⟨f, fun v e' os h ho => ?_⟩
    simp only [symAct, hop, hargs] at h
    obtain ⟨w', hw', hE⟩ := hf v e' os h ho
    have hargs' : args = #[s, y] := by cases args; simp at hargs; simp [hargs]
    subst hargs'
    exact .value (by rw [hσ]; simp [execOp, hop, resolve, invoke, builtin, hw']) hE
  by_cases happC : ∃ k1 k2 args ats s y, d = .appC k1 k2 ∧ o.op = .call ⟨.builtin .append, args, ats⟩ ∧ e = none ∧ args.toList = [s, y]
  · obtain ⟨k1, k2, args, ats, s, y, rfl, hop, rfl, hargs⟩ := happC
    obtain ⟨f, hf⟩ := opAppC_sound (P := P) (ats := ats) (ty := o.type) (s := σ s) (y := σ y) (fun E h => hrd k1 E h) (hkrd k2)
    refine ⟨f, fun v e' os h ho => ?_⟩
    simp only [symAct, hop, hargs] at h
    obtain ⟨w', hw', hE⟩ := hf v e' os h ho
    have hargs' : args = #[s, y] := by cases args; simp at hargs; simp [hargs]
    subst hargs'
    exact .value (by rw [hσ]; simp [execOp, hop, resolve, invoke, builtin, hw']) hE
  by_cases hbyt : d = .bytes
  · subst hbyt
    cases hopc : o.op with
    | convert src t x =>
      obtain ⟨f, hf⟩ := opBytes_sound (P := P) (t := t) (x := σ x) (w := w)
      refine ⟨f, fun v e' os h ho => ?_⟩
      simp only [symAct, hopc] at h
      split at h
      · rename_i d hd
        obtain ⟨w', hw', hE⟩ := hf src v e' os h ⟨d, hd⟩
        exact .value (by rw [hσ]; simp [execOp, hopc, hw']) hE
      · cases h
    | _ => exact ⟨⟨0, none, 0, [], fun _ _ => (none, 0)⟩, fun v e' os h => by simp [symAct, hopc] at h⟩
  by_cases hself : ∃ l j m args ats s y, d = .appSelf l j m ∧ o.op = .call ⟨.builtin .append, args, ats⟩ ∧ args.toList = [s, y]
  · obtain ⟨l, j, m, args, ats, s, y, rfl, hop, hargs⟩ := hself
    obtain ⟨f, hf⟩ := opAppSelf_sound (P := P) (ats := ats) (ty := o.type) (s := σ s) (y := σ y) (l := l) (j := j) (m := m) he
    refine ⟨f, fun v e' os h ho => ?_⟩
    simp only [symAct, hop, hargs] at h
    obtain ⟨w', hw', hE⟩ := hf v e' os h ho
    have hargs' : args = #[s, y] := by cases args; simp at hargs; simp [hargs]
    subst hargs'
    exact .value (by rw [hσ]; simp [execOp, hop, resolve, invoke, builtin, hw']) hE
  refine ⟨⟨w.heap.size, none, 0, [], fun _ _ => (none, 0)⟩, fun v e' os h ho => ?_⟩
  unfold symAct at h
  split at h
  · split at h <;> try (simp at h; done)
    · rename_i u hu
      simp only [Option.some.injEq, Prod.mk.injEq] at h
      obtain ⟨rfl, rfl, rfl⟩ := h
      exact .value (by rw [hσ]; exact runPure_sound _ hu w) (Eff.refl he)
    · rename_i hu
      simp only [Option.some.injEq, Prod.mk.injEq] at h
      obtain ⟨rfl, rfl, rfl⟩ := h
      exact .skip (by rw [hσ]; exact runPure_sound _ hu w) (Eff.refl he)
  · rename_i k i c r t x hop
    obtain ⟨hl, rfl⟩ := noent _ _ _ _ h
    have := opLoad_sound hl ho (hrd k)
    exact .value (by rw [hσ]; simp [execOp, hop, this]) (Eff.refl he)
  · rename_i i c r t x y hop
    cases hl : opStore P t (σ x) (σ y) e i c r with
    | none => simp [hl] at h
    | some p =>
      obtain ⟨u, os'⟩ := p
      simp only [hl, Option.map_some, Option.some.injEq, Prod.mk.injEq] at h
      obtain ⟨rfl, rfl, rfl⟩ := h
      obtain ⟨w', hw', hE⟩ := opStore_sound hl ho he
      exact .skip (by rw [hσ]; simp [execOp, hop, hw']) hE
  · split at h
    · obtain ⟨w', hw', hE⟩ := opNew_sound h
      exact .value (by rw [hσ]; exact hw') hE
    · simp at h
  · rename_i k j t x ix hop
    obtain ⟨hl, rfl⟩ := noent _ _ _ _ h
    have := opIdx_sound hl ho (hrd k)
    exact .value (by rw [hσ]; simp [execOp, hop, this]) (Eff.refl he)
  · rename_i j t x ix hop
    obtain ⟨hl, rfl⟩ := noent _ _ _ _ h
    have := opArr_sound hl ho (w := w)
    exact .value (by rw [hσ]; simp [execOp, hop, this]) (Eff.refl he)
  · rename_i op t x y yt hop
    obtain ⟨hl, rfl⟩ := noent _ _ _ _ h
    obtain ⟨h1, k, m, n, hx, hy⟩ := opDiv_sound (t := t) hl ho (w := w) (P := P)
    exact .value (by rw [hσ]; simp [execOp, hop, run_eqGuard_int op t x y ⟨k, m, hx⟩, h1]) (Eff.refl he)
  · rename_i op t x y yt hop
    obtain ⟨hl, rfl⟩ := noent _ _ _ _ h
    obtain ⟨h1, k, m, k', n, hx, hy⟩ := opShift_sound (t := t) hl ho (w := w) (P := P)
    exact .value (by rw [hσ]; simp [execOp, hop, run_eqGuard_int op t x y ⟨k, m, hx⟩, h1]) (Eff.refl he)
  · rename_i j t x ix hop
    obtain ⟨hl, rfl⟩ := noent _ _ _ _ h
    have := opElt_sound hl ho (w := w)
    exact .value (by rw [hσ]; simp [execOp, hop, this]) (Eff.refl he)
  · rename_i l hh m t x lo hi mx hop
    obtain ⟨hl, rfl⟩ := noent _ _ _ _ h
    have := opCut_sound hl ho (w := w)
    exact .value (by rw [hσ]; simp [execOp, hop, this]) (Eff.refl he)
  · rename_i n c t ln cp hop
    split at h
    · obtain ⟨w', hw', hE⟩ := opMake_sound h ho
      exact .value (by rw [hσ]; simp [execOp, hop, hw']) hE
    · cases h
  · rename_i k2 args ats hop
    split at h
    · rename_i s y hargs
      exact absurd ⟨k2, args, ats, s, y, rfl, hop, hargs⟩ happ
    · cases h
  · rename_i k1 k2 args ats hop
    split at h
    · rename_i s y hargs
      exact absurd ⟨k1, k2, args, ats, s, y, rfl, hop, rfl, hargs⟩ happC
    · cases h
  · rename_i l j m args ats hop
    split at h
    · rename_i s y hargs
      exact absurd ⟨l, j, m, args, ats, s, y, rfl, hop, hargs⟩ hself
    · cases h
  · rename_i l m args ats hop
    split at h
    · rename_i s hargs
      obtain ⟨hl, rfl⟩ := noent _ _ _ _ h
      obtain ⟨w', hw', hE⟩ := opClear_sound (ty := o.type) hl ho he
      have hargs' : args = #[s] := by cases args; simp at hargs; simp [hargs]
      subst hargs'
      exact .value (by rw [hσ]; simp [execOp, hop, resolve, invoke, builtin, hw']) hE
    · cases h
  · rename_i k2 args ats hop
    split at h
    · rename_i s y hargs
      obtain ⟨w', hw', hE⟩ := opCopy_sound (ty := o.type) h ho he (hkrd k2)
      have hargs' : args = #[s, y] := by cases args; simp at hargs; simp [hargs]
      subst hargs'
      exact .value (by rw [hσ]; simp [execOp, hop, resolve, invoke, builtin, hw']) hE
    · cases h
  · rename_i l k2 args ats hop
    split at h
    · rename_i s y hargs
      obtain ⟨w', hw', hE⟩ := opCopyAt_sound (ty := o.type) h ho he (hkrd k2)
      have hargs' : args = #[s, y] := by cases args; simp at hargs; simp [hargs]
      subst hargs'
      exact .value (by rw [hσ]; simp [execOp, hop, resolve, invoke, builtin, hw']) hE
    · cases h
  · exact absurd rfl hbyt
  · rename_i k bs s t x hop
    obtain ⟨hl, rfl⟩ := noent _ _ _ _ h
    have := opText_sound hl ho (hrd k)
    exact .value (by rw [hσ]; simp [execOp, hop, this]) (Eff.refl he)
  · rename_i t x y yt hop
    split at h <;> try (simp at h; done)
    rename_i s1 s2 hx hy
    simp only [Option.some.injEq, Prod.mk.injEq] at h
    obtain ⟨rfl, rfl, rfl⟩ := h
    simp only [All, and_true] at ho
    have hno : ¬ (((s1.size + s2.size : Nat) : Int) > IntKind.i64.max) := by
      have : IntKind.i64.max = 9223372036854775807 := by decide
      omega
    have hg : (eqGuard .add t x y (.string s1) (.string s2)).run P w = .ok () w := rfl
    have hr : (binOp .add t (.string s1) (.string s2)).run P w = .ok (.string (s1 ++ s2)) w := by
      simp only [binOp_string_add, Op.stringOp, hno, if_false, Sem.run_pure]
    exact .value (by rw [hσ]; simp [execOp, hop, hx, hy, hg, hr]) (Eff.refl he)
  · rename_i op t x y yt hop
    cases hl : opEq P op t (σ x) (σ y) with
    | none => simp [hl] at h
    | some u =>
      simp only [hl, Option.map_some, Option.some.injEq, Prod.mk.injEq] at h
      obtain ⟨rfl, rfl, rfl⟩ := h
      have := opEq_sound hl w x y
      exact .value (by
        rw [hσ]
        simp only [execOp, hop]
        simp only [Sem.run_bind] at this ⊢
        rw [this]
        rfl) (Eff.refl he)
  · rename_i t x y yt hop
    split at h <;> try (simp at h; done)
    rename_i el ob n1 c1 hu hx hy
    simp only [Option.some.injEq, Prod.mk.injEq] at h
    obtain ⟨rfl, rfl, rfl⟩ := h
    have hr := run_nilq (op := BinOp.eql) hu ob n1 c1 w x y
    exact .value (by
      rw [hσ]
      simp only [execOp, hop, hx, hy]
      simp only [Sem.run_bind] at hr ⊢
      rw [hr]
      rfl) (Eff.refl he)
  · rename_i ks u cl hop
    split at h <;> try (simp at h; done)
    rename_i g args hu
    simp only [Option.some.injEq, Prod.mk.injEq] at h
    obtain ⟨rfl, rfl, rfl⟩ := h
    simp only [All, and_true] at ho
    intro K hK
    unfold Oper.wp
    rw [hσ, runPure_sound _ hu w, Oper.upon_enter]
    refine (ho w (fun E hE => ?_)).mono fun en w' ⟨hen, hk⟩ => ?_
    · obtain ⟨k, _, hk⟩ := List.mem_map.1 hE
      exact hrd k E hk
    · subst hen
      refine hK w' ⟨hk.mono fun _ _ f => f.elim, fun E hE => Ent.ok_of_keep hk (fun _ _ f => f) (he E hE), fun E hE b hb => .inr ⟨E, hE, hb, id⟩⟩
  · rename_i ks u cl hop
    split at h <;> try (simp at h; done)
    rename_i g args hu
    simp only [Option.some.injEq, Prod.mk.injEq] at h
    obtain ⟨rfl, rfl, rfl⟩ := h
    simp only [All, and_true] at ho
    intro K hK
    unfold Oper.wp
    rw [hσ, runPure_sound _ hu w, Oper.upon_enter]
    refine (ho w (fun E hE => ?_)).mono fun en w' ⟨hen, hk⟩ => ?_
    · obtain ⟨k, _, hk⟩ := List.mem_map.1 hE
      exact hrd k E hk
    · subst hen
      refine hK w' ⟨hk.mono fun _ _ f => f.elim, fun E hE => Ent.ok_of_keep hk (fun _ _ f => f) (he E hE), fun E hE b hb => .inr ⟨E, hE, hb, id⟩⟩
  · rename_i ks v1 e1 cl hop
    exact absurd rfl (hnn ks v1 e1)
  · rename_i ks v1 e1 cl hop
    exact absurd rfl (hna ks v1 e1)
  · rename_i ks v1 e1 cl hop
    exact absurd rfl (hno ks v1 e1)
  · rename_i k cs t x hop
    obtain ⟨hl, rfl⟩ := noent _ _ _ _ h
    have := opLoadC_sound hl ho (hrd k)
    exact .value (by rw [hσ]; simp [execOp, hop, this]) (Eff.refl he)
  · rename_i t x y hop
    cases hl : opStoreC P t (σ x) (σ y) e with
    | none => simp [hl] at h
    | some p =>
      obtain ⟨u, os'⟩ := p
      simp only [hl, Option.map_some, Option.some.injEq, Prod.mk.injEq] at h
      obtain ⟨rfl, rfl, rfl⟩ := h
      obtain ⟨w', hw', hE⟩ := opStoreC_sound hl ho he
      exact .skip (by rw [hσ]; simp [execOp, hop, hw']) hE
  · rename_i l1 l2 t x y yt hop
    obtain ⟨hl, rfl⟩ := noent _ _ _ _ h
    have := opEqA_sound hl ho w x y
    exact .value (by
      rw [hσ]
      simp only [execOp, hop]
      simp only [Sem.run_bind] at this ⊢
      rw [this]
      rfl) (Eff.refl he)
  · rename_i k l hh m bs s t x hop
    obtain ⟨hl, rfl⟩ := noent _ _ _ _ h
    have := opTextC_sound hl ho (hrd k)
    exact .value (by rw [hσ]; simp [execOp, hop, this]) (Eff.refl he)
  · rename_i s t x hop
    obtain ⟨w', hw', hE⟩ := opMark_sound h ho he
    exact .value (by rw [hσ]; simp [execOp, hop, hw']) hE
  · rename_i k t hop
    split at h <;> try (simp at h; done)
    simp only [Option.some.injEq, Prod.mk.injEq] at h
    obtain ⟨rfl, rfl, rfl⟩ := h
    exact .value (by rw [hσ]; simp [execOp, hop, (run_makeMap (P := P) (t := t) (k := k) (w := w)).1]) (run_makeMap (P := P) (t := t) (k := k) (w := w)).2
  · rename_i k args ats hop
    split at h
    · rename_i m hargs
      obtain ⟨hl, rfl⟩ := noent _ _ _ _ h
      have hr := opMapLen_sound (ty := o.type) hl ho (hrd k)
      have hargs' : args = #[m] := by cases args; simp at hargs; simp [hargs]
      subst hargs'
      exact .value (by rw [hσ]; simp [execOp, hop, resolve, invoke, builtin, hr]) (Eff.refl he)
    · cases h
  · rename_i k t x ix hop
    obtain ⟨hl, rfl⟩ := noent _ _ _ _ h
    have hr := opMapGet_sound hl ho (hrd k)
    exact .value (by rw [hσ]; simp [execOp, hop, hr]) (Eff.refl he)
  · rename_i t m k v hop
    cases hl : opMapPut P t (σ m) (σ k) (σ v) e with
    | none => simp [hl] at h
    | some p =>
      obtain ⟨u, os'⟩ := p
      simp only [hl, Option.map_some, Option.some.injEq, Prod.mk.injEq] at h
      obtain ⟨rfl, rfl, rfl⟩ := h
      obtain ⟨w', hw', hE⟩ := opMapPut_sound hl ho he
      exact .skip (by rw [hσ]; simp [execOp, hop, hw']) hE
  · rename_i args ats hop
    split at h
    · rename_i m k hargs
      obtain ⟨w', hw', hE⟩ := opMapDel_sound (ty := o.type) h ho he
      have hargs' : args = #[m, k] := by cases args; simp at hargs; simp [hargs]
      subst hargs'
      exact .value (by rw [hσ]; simp [execOp, hop, resolve, invoke, builtin, hw']) hE
    · cases h
  · rename_i mk t m k x hop
    simp only [Option.some.injEq, Prod.mk.injEq] at h
    obtain ⟨rfl, rfl, rfl⟩ := h
    obtain ⟨w', hw', hE⟩ := ho.1 w he
    exact .skip (by rw [hσ]; simp [execOp, hop, hw']) hE
  · rename_i mk t m k x hop
    simp only [Option.some.injEq, Prod.mk.injEq] at h
    obtain ⟨rfl, rfl, rfl⟩ := h
    obtain ⟨w', hw', hE⟩ := ho.1 w he
    exact .skip (by rw [hσ]; simp [execOp, hop, hw']) hE
  · simp at h

/-- What an operation makes of its entry, where a new one may lie where an entry lies that it reads. -/
structure EffR (rd : Nat → Option Ent) (e e' : Option Ent) (w w' : World) : Prop where
  keep : Keep (ownFoot e) w w'
  ok : ∀ E, e' = some E → E.ok w'
  foot : ∀ E, e' = some E → ∀ b, E.foot b → w.heap.size ≤ b ∨ (∃ E0, e = some E0 ∧ E0.foot b ∧ (E.own = true → E0.own = true)) ∨ (E.own = false ∧ ∃ k E0, rd k = some E0 ∧ E0.own = false ∧ E0.foot b)
theorem Eff.toR {e e' : Option Ent} {w w' : World} (h : Eff e e' w w') (rd : Nat → Option Ent) : EffR rd e e' w w' :=
  ⟨h.keep, h.ok, fun E hE b hb => (h.foot E hE b hb).elim .inl fun h => .inr (.inl h)⟩
theorem Sat.stepR {w0 : World} {S : Area} {m : Mem} {w w' : World} (h : Sat w0 S m w) {k : Nat} {e' : Option Ent} {rd : Nat → Option Ent} (hrd : ∀ q E, rd q = some E → m q = some E) (he : EffR rd (m k) e' w w') : Sat w0 S (upd m k e') w' := by
  have hmine : ∀ b, ownFoot (m k) b → w0.heap.size ≤ b ∨ S.turn b := fun b ⟨E, hE, ho, hb⟩ => h.mine k E hE ho b hb
  refine ⟨h.keep.trans he.keep (fun b hb hS => ?_), fun j e hj => ?_, fun j e hj ho b hb => ?_, fun j j' e e2 hne hj hj' ho b hb hb' => ?_, fun j e hj b hb => ?_⟩
  · rcases hmine b hS with h1 | h1
    · omega
    · exact h1
  · by_cases hkj : k = j
    · subst hkj; rw [upd_same] at hj; exact he.ok e hj
    · rw [upd_other _ _ hkj] at hj
      exact Ent.ok_of_keep he.keep (fun b hb ⟨E, hE, ho, hb'⟩ => h.apart k j E e hkj hE hj ho b hb' hb) (h.ok j e hj)
  · by_cases hkj : k = j
    · subst hkj; rw [upd_same] at hj
      rcases he.foot e hj b hb with h1 | ⟨E0, hE0, hf, hoo⟩ | ⟨hno, _⟩
      · exact .inl (Nat.le_trans h.keep.size h1)
      · exact h.mine k E0 hE0 (hoo ho) b hf
      · rw [hno] at ho; cases ho
    · rw [upd_other _ _ hkj] at hj
      exact h.mine j e hj ho b hb
  · by_cases hkj : k = j
    · subst hkj
      rw [upd_same] at hj
      rw [upd_other _ _ hne] at hj'
      rcases he.foot e hj b hb with h1 | ⟨E0, hE0, hf, hoo⟩ | ⟨hno, _⟩
      · have := (h.ok j' e2 hj').2 b hb'; omega
      · exact h.apart k j' E0 e2 hne hE0 hj' (hoo ho) b hf hb'
      · rw [hno] at ho; cases ho
    · rw [upd_other _ _ hkj] at hj
      by_cases hkj' : k = j'
      · subst hkj'
        rw [upd_same] at hj'
        rcases he.foot e2 hj' b hb' with h1 | ⟨E0, hE0, hf, _⟩ | ⟨_, q, E0, hq, hq2, hf⟩
        · have := (h.ok j e hj).2 b hb; omega
        · exact h.apart j k e E0 hne hj hE0 ho b hb hf
        · refine h.apart j q e E0 (fun hjq => ?_) hj (hrd q E0 hq) ho b hb hf
          subst hjq
          rw [hrd j E0 hq] at hj
          cases hj
          rw [hq2] at ho; cases ho
      · rw [upd_other _ _ hkj'] at hj'
        exact h.apart j j' e e2 hne hj hj' ho b hb hb'
  · by_cases hkj : k = j
    · subst hkj; rw [upd_same] at hj
      rcases he.foot e hj b hb with h1 | ⟨E0, hE0, hf, _⟩ | ⟨_, q, E0, hq, _, hf⟩
      · exact .inl (Nat.le_trans h.keep.size h1)
      · exact h.lie k E0 hE0 b hf
      · exact h.lie q E0 (hrd q E0 hq) b hf
    · rw [upd_other _ _ hkj] at hj
      exact h.lie j e hj b hb

theorem symOp_sound {P : Program} {hn : Hint} {σ : Operand → Value} {o : Oper} {a : Act} {e : Option Ent} {rd : Nat → Option Ent} {w : World} {Q : Exit → Act → World → Prop}
    (hσ : execOp a.eval o = execOp σ o) (he : ∀ E, e = some E → E.ok w) (hrd : ∀ k E, rd k = some E → E.ok w)
    (hap : keyOK hn = true → ∀ ks v e', hn.act = .callo ks v e' → ∀ E, e = some E → E.own = true → ∀ k ∈ ks, ∀ E', rd k = some E' → ∀ b, E.foot b → ¬ E'.foot b) (K : Act → World → Prop)
    (hall : ∀ f, ∃ v e' os, symOp P hn f σ o e rd = some (v, e', os) ∧ All os ∧ ∀ w', EffR rd e e' w w' → K (a.put o.dst v) w') : o.wp P a w K Q := by
  have hsp : ∀ f v e' os, symOp P hn f σ o e rd = some (v, e', os) → All os → ∃ os', symAct P hn.act f σ o e rd = some (v, e', os') ∧ All os' := fun f v e' os h ho => by
    unfold symOp at h
    split at h
    · cases h
    split at h
    · rename_i v1 e1 os1 v2 h1 h2
      simp at h
      obtain ⟨rfl, rfl, rfl⟩ := h
      obtain ⟨ho1, ho2⟩ := All.append.1 ho
      simp only [All, and_true] at ho2
      subst ho2
      exact ⟨_, h1, ho1⟩
    · exact ⟨_, h, ho⟩
  by_cases hc : ∃ ks v e', hn.act = .calln ks v e'
  · obtain ⟨ks, v0, e0, hact⟩ := hc
    obtain ⟨v1, e1, os1, h1, ho1, _⟩ := hall ⟨0, none, 0, [], fun _ _ => (none, 0)⟩
    obtain ⟨os2, h2, ho2⟩ := hsp _ _ _ _ h1 ho1
    rw [hact] at h2
    obtain ⟨cl, hop⟩ : ∃ c, o.op = .call c := by
      cases hop : o.op <;> first | exact ⟨_, rfl⟩ | (simp [symAct, hop] at h2; done)
    simp only [symAct, hop] at h2
    cases e with
    | some E => simp at h2
    | none =>
    simp only [] at h2
    split at h2 <;> try (simp at h2; done)
    rename_i g args hu
    simp only [Option.some.injEq, Prod.mk.injEq] at h2
    obtain ⟨_, _, rfl⟩ := h2
    simp only [All, and_true] at ho2
    unfold Oper.wp
    rw [hσ, runPure_sound _ hu w, Oper.upon_enter]
    refine (ho2 w (fun E hE => ?_)).mono fun en w' ⟨f, hen, hk, hok, hft⟩ => ?_
    · obtain ⟨k, _, hk⟩ := List.mem_map.1 hE
      exact hrd k E hk
    · subst hen
      obtain ⟨v3, e3, os3, h3, ho3, hK⟩ := hall f
      obtain ⟨os4, h4, _⟩ := hsp _ _ _ _ h3 ho3
      rw [hact] at h4
      simp only [symAct, hop, hu] at h4
      simp only [Option.some.injEq, Prod.mk.injEq] at h4
      obtain ⟨rfl, rfl, _⟩ := h4
      refine hK w' (Eff.toR ⟨hk.mono fun _ _ f => f.elim, fun E hE => ?_, fun E hE b hb => ?_⟩ rd)
      · cases hE; exact hok
      · cases hE; exact .inl (hft b hb)
  by_cases hc3 : ∃ ks v e', hn.act = .calla ks v e'
  · obtain ⟨ks, v0, e0, hact⟩ := hc3
    obtain ⟨v1, e1, os1, h1, ho1, _⟩ := hall ⟨0, none, 0, [], fun _ _ => (none, 0)⟩
    obtain ⟨os2, h2, ho2⟩ := hsp _ _ _ _ h1 ho1
    rw [hact] at h2
    obtain ⟨cl, hop⟩ : ∃ c, o.op = .call c := by
      cases hop : o.op <;> first | exact ⟨_, rfl⟩ | (simp [symAct, hop] at h2; done)
    simp only [symAct, hop] at h2
    cases e with
    | some E => simp at h2
    | none =>
    simp only [] at h2
    split at h2 <;> try (simp at h2; done)
    rename_i g args hu
    simp only [Option.some.injEq, Prod.mk.injEq] at h2
    obtain ⟨_, _, rfl⟩ := h2
    simp only [All, and_true] at ho2
    obtain ⟨hno1, hno2, ho2⟩ := ho2
    unfold Oper.wp
    rw [hσ, runPure_sound _ hu w, Oper.upon_enter]
    refine (ho2 w (fun E hE => ?_)).mono fun en w' ⟨f, hen, hk, hok, hft⟩ => ?_
    · obtain ⟨k, _, hk⟩ := List.mem_map.1 hE
      exact hrd k E hk
    · subst hen
      obtain ⟨v3, e3, os3, h3, ho3, hK⟩ := hall f
      obtain ⟨os4, h4, _⟩ := hsp _ _ _ _ h3 ho3
      rw [hact] at h4
      simp only [symAct, hop, hu] at h4
      simp only [Option.some.injEq, Prod.mk.injEq] at h4
      obtain ⟨rfl, rfl, _⟩ := h4
      refine hK w' ⟨hk.mono fun _ _ f => f.elim, fun E hE => ?_, fun E hE b hb => ?_⟩
      · cases hE; exact hok
      · cases hE
        rcases hft b hb with h5 | ⟨E, h5, h6⟩
        · exact .inl h5
        · obtain ⟨k, _, hk⟩ := List.mem_map.1 h5
          exact .inr (.inr ⟨hno1 f, k, E, hk, hno2 E h5, h6⟩)
  by_cases hc2 : ∃ ks v e', hn.act = .callo ks v e'
  · obtain ⟨ks, v0, e0, hact⟩ := hc2
    obtain ⟨v1, e1, os1, h1, ho1, _⟩ := hall ⟨0, none, 0, [], fun _ _ => (none, 0)⟩
    have hkey : keyOK hn = true := by
      unfold symOp at h1
      cases hq : keyOK hn with
      | true => rfl
      | false => rw [hq] at h1; cases h1
    obtain ⟨os2, h2, ho2⟩ := hsp _ _ _ _ h1 ho1
    rw [hact] at h2
    obtain ⟨cl, hop⟩ : ∃ c, o.op = .call c := by
      cases hop : o.op <;> first | exact ⟨_, rfl⟩ | (simp [symAct, hop] at h2; done)
    simp only [symAct, hop] at h2
    cases e with
    | none => simp at h2
    | some E =>
    simp only [] at h2
    split at h2 <;> try (simp at h2; done)
    rename_i g args hu
    simp only [Option.some.injEq, Prod.mk.injEq] at h2
    obtain ⟨_, _, rfl⟩ := h2
    simp only [All, and_true] at ho2
    obtain ⟨hown, ho2⟩ := ho2
    unfold Oper.wp
    rw [hσ, runPure_sound _ hu w, Oper.upon_enter]
    refine (ho2 w (he E rfl) (fun E' hE => ?_)).mono fun en w' ⟨f, hen, hk, hok, hft⟩ => ?_
    · obtain ⟨k, hkm, hk⟩ := List.mem_map.1 hE
      exact ⟨hrd k E' hk, hap hkey ks v0 e0 hact E rfl hown k hkm E' hk⟩
    · subst hen
      obtain ⟨v3, e3, os3, h3, ho3, hK⟩ := hall f
      obtain ⟨os4, h4, _⟩ := hsp _ _ _ _ h3 ho3
      rw [hact] at h4
      simp only [symAct, hop, hu] at h4
      simp only [Option.some.injEq, Prod.mk.injEq] at h4
      obtain ⟨rfl, rfl, _⟩ := h4
      refine hK w' (Eff.toR ⟨hk.mono fun b _ hb => ⟨E, rfl, hown, hb⟩, fun E1 hE => ?_, fun E1 hE b hb => ?_⟩ rd)
      · cases hE; exact hok
      · cases hE
        rcases hft b hb with h5 | h5
        · exact .inl h5
        · exact .inr ⟨E, rfl, h5, fun _ => hown⟩
  · obtain ⟨f, hf⟩ := symAct_sound (P := P) (d := hn.act) (Q := Q) (fun ks v e' h => hc ⟨ks, v, e', h⟩) (fun ks v e' h => hc2 ⟨ks, v, e', h⟩) (fun ks v e' h => hc3 ⟨ks, v, e', h⟩) hσ he hrd
    obtain ⟨v, e', os, h1, ho1, hK⟩ := hall f
    obtain ⟨os2, h2, ho2⟩ := hsp _ _ _ _ h1 ho1
    exact hf _ _ _ h2 ho2 K fun w' hE => hK w' (hE.toR rd)

end Sx
