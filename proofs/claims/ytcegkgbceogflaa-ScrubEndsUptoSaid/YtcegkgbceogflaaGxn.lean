/-
  The engine, part 20: a map from numbers to elements that hold slices, as ONE entry; the blocks of these slices are the bits of a number.
-/
import Derived.Test.YtcegkgbceogflaaGxm
set_option linter.unusedVariables false
set_option linter.unusedSimpArgs false
namespace Sx
open Go Go.RowKit

section
variable {α : Type}

def cget (d : α) : List (Int × α) → Int → α
  | [], _ => d
  | p :: r, k => bif k == p.1 then p.2 else cget d r k
def chas : List (Int × α) → Int → Bool
  | [], _ => false
  | p :: r, k => bif k == p.1 then true else chas r k
def cput : List (Int × α) → Int → α → List (Int × α)
  | [], k, v => [(k, v)]
  | p :: r, k, v => bif k == p.1 then (k, v) :: r else p :: cput r k v

variable (R : Hd → α → List Value) (J : Hd → α → List Ent)

/-- What is known of an element's slices. -/
def mcJ (c : Nat) (w : World) (g : Hd) (x : α) : Prop := ∀ E ∈ J g x, E.holds w ∧ ∀ k, E.foot k → c.testBit k = true
def mcE (c : Nat) (w : World) (e : MapEntry) (p : Int × α) : Prop := e.key = .int .i64 p.1 ∧ ∃ g, e.val = .agg (R g p.2).toArray ∧ mcJ J c w g p.2
def mcL (c : Nat) (w : World) : List MapEntry → List (Int × α) → Prop
  | [], [] => True
  | e :: es, p :: kv => mcE R J c w e p ∧ mcL c w es kv
  | _, _ => False
def mcP (b c : Nat) (kv : List (Int × α)) (w : World) : Prop := c.testBit b = false ∧ ∃ es t, w.heap[b]? = some (.map es t) ∧ mcL R J c w es.toList kv
def mcF (b c : Nat) : Nat → Prop := fun k => k = b ∨ c.testBit k = true

variable {R J}

theorem mcJ.mono {c c' : Nat} {w w' : World} {g : Hd} {x : α} (h : mcJ J c w g x) (hc : ∀ k, c.testBit k = true → c'.testBit k = true) (hw : ∀ k, c.testBit k = true → w'.heap[k]? = w.heap[k]?) : mcJ J c' w' g x :=
  fun E hE => ⟨Ent.holds_of_same (fun b hb => hw b ((h E hE).2 b hb)) (h E hE).1, fun k hk => hc k ((h E hE).2 k hk)⟩
theorem mcL.mono {c c' : Nat} {w w' : World} (hc : ∀ k, c.testBit k = true → c'.testBit k = true) (hw : ∀ k, c.testBit k = true → w'.heap[k]? = w.heap[k]?) : ∀ {es : List MapEntry} {kv : List (Int × α)}, mcL R J c w es kv → mcL R J c' w' es kv
  | [], [], _ => trivial
  | e :: es, p :: kv, ⟨⟨h1, g, h2, h3⟩, h4⟩ => ⟨⟨h1, g, h2, h3.mono hc hw⟩, mcL.mono hc hw h4⟩

variable (R J)
theorem mcS (b c : Nat) (kv : List (Int × α)) : Stable (mcF b c) (mcP R J b c kv) := by
  intro w w' h ⟨h0, es, t, h1, h2⟩
  exact ⟨h0, es, t, by rw [h b (.inl rfl)]; exact h1, h2.mono (fun _ h => h) fun k hk => h k (.inr hk)⟩
@[reducible] def mC (own : Bool) (b c : Nat) (kv : List (Int × α)) : Ent := .say own (mcF b c) (mcP R J b c kv) (mcS R J b c kv)
variable {R J}

theorem mC_cov {b c : Nat} {kv : List (Int × α)} : Cov (mC R J true b c kv) (mC R J false b c kv) := ⟨fun w h => h, fun w _ k hk => hk⟩

theorem mc_find {c : Nat} {w : World} (d : α) (k : Int) : ∀ {es : List MapEntry} {kv : List (Int × α)} (i : Nat), mcL R J c w es kv →
    (chas kv k = false ∧ cget d kv k = d ∧ Instr.findNow (.int .i64) (.int .i64 k) es i = some none ∧ (∀ c' w' (e : MapEntry) (x : α), mcL R J c' w' es kv → mcE R J c' w' e (k, x) → mcL R J c' w' (es ++ [e]) (cput kv k x))) ∨
    (chas kv k = true ∧ ∃ j e g, Instr.findNow (.int .i64) (.int .i64 k) es i = some (some (i + j, e.val)) ∧ es[j]? = some e ∧ e.key = .int .i64 k ∧ e.val = .agg (R g (cget d kv k)).toArray ∧ mcJ J c w g (cget d kv k) ∧
      (∀ c' w' (f : MapEntry → MapEntry) (x : α), mcL R J c' w' es kv → mcE R J c' w' (f e) (k, x) → mcL R J c' w' (es.modify j f) (cput kv k x)))
  | [], [], i, _ => .inl ⟨rfl, rfl, rfl, fun c' w' e x _ h => ⟨h, trivial⟩⟩
  | e :: es, p :: kv, i, ⟨⟨h1, g, h2, h3⟩, h4⟩ => by
    rw [Instr.findNow, h1]
    simp only [Instr.sameNow, if_true]
    rw [chas, cget]
    cases hk : (k == p.1) with
    | true =>
      refine .inr ⟨rfl, 0, e, g, by simp, rfl, ?_, h2, h3, fun c' w' f x hl he => ?_⟩
      · rw [h1, eq_of_beq hk]
      · rw [cput, hk]; exact ⟨he, hl.2⟩
    | false =>
      rcases mc_find d k (i + 1) h4 with ⟨a1, a2, a3, a4⟩ | ⟨a1, j, e', g', a2, a3, a4, a5, a6, a7⟩
      · refine .inl ⟨a1, a2, by simpa using a3, fun c' w' e x hl he => ?_⟩
        rw [cput, hk]; exact ⟨hl.1, a4 c' w' e x hl.2 he⟩
      · refine .inr ⟨a1, j + 1, e', g', by rw [show i + (j + 1) = i + 1 + j by omega]; simpa using a2, by simpa using a3, a4, a5, a6, fun c' w' f x hl he => ?_⟩
        rw [cput, hk]; exact ⟨hl.1, a7 c' w' f x hl.2 he⟩

/-- The type of such a map. -/
def mcT (P : Program) (t et : TypeId) : Bool := match P.underlying t with
  | some (.map kt e) => decide (e = et) && (match P.underlying kt with | some (.int .i64) => true | _ => false)
  | _ => false
theorem mcT_spec {P : Program} {t et : TypeId} (h : mcT P t et = true) : ∃ kt, P.underlying t = some (.map kt et) ∧ P.underlying kt = some (.int .i64) := by
  unfold mcT at h
  split at h
  · rename_i kt e hu
    simp only [Bool.and_eq_true, decide_eq_true_eq] at h
    obtain ⟨rfl, h2⟩ := h
    refine ⟨kt, hu, ?_⟩
    split at h2
    · assumption
    · cases h2
  · cases h

theorem run_checkKeyI {P : Program} {kt : TypeId} (hk : P.underlying kt = some (.int .i64)) (k : Int) (e : Bool) (w : World) : (Instr.checkKey e 10000 kt (.int .i64 k)).run P w = .ok () w :=
  MapKept.run_checkKey hk (show MapKept.IsKey (.int .i64) (.int .i64 k) from rfl) e 9999

theorem run_zeroV {P : Program} {et : TypeId} {v : Value} (h : zeroV P et = some v) (w : World) : (zeroValue et).run P w = .ok v w := by
  unfold zeroV at h
  cases hi : P.info? et with
  | none => simp [hi] at h
  | some i => simp [hi] at h; simp [zeroValue, typeInfo, hi, h]

theorem mc_get {P : Program} {t et : TypeId} {b c : Nat} {kv : List (Int × α)} {w : World} (d : α) (k : Int) (ok : Bool) (hT : mcT P t et = true) (hz : zeroV P et = some (.agg (R nilH d).toArray)) (hJ : ∀ e ∈ J nilH d, ∀ w, e.holds w ∧ ∀ b, ¬ e.foot b)
    (h : mcP R J b c kv w) : ∃ g, (Instr.lookup t (.map (some b)) (.int .i64 k) ok).run P w = .ok (bif ok then .tuple #[.agg (R g (cget d kv k)).toArray, .bool (chas kv k)] else .agg (R g (cget d kv k)).toArray) w ∧ mcJ J c w g (cget d kv k) := by
  obtain ⟨kt, hu, hk⟩ := mcT_spec hT
  obtain ⟨h0, es, tt, h1, h2⟩ := h
  rcases mc_find d k 0 h2 with ⟨a1, a2, a3, _⟩ | ⟨a1, j, e, g, a2, _, _, a5, a6, _⟩
  · refine ⟨nilH, ?_, by rw [a2]; exact fun E hE => ⟨(hJ E hE w).1, fun k hk => absurd hk ((hJ E hE w).2 k)⟩⟩
    have hf := MapKept.run_findKey (w := w) hk a3
    cases ok <;> simp [Instr.lookup, run_underlying hu, run_getMap h1, run_checkKeyI hk, hf, run_zeroV hz, a1, a2]
  · refine ⟨g, ?_, a6⟩
    have hf := MapKept.run_findKey (w := w) hk a2
    cases ok <;> simp [Instr.lookup, run_underlying hu, run_getMap h1, run_checkKeyI hk, hf, a1, a5]

/-- The blocks of some entries, as bits. -/
theorem bits_of : ∀ (c : Nat) (es : List Ent), (∀ e ∈ es, ∃ N, ∀ k, e.foot k → k = N) → ∃ c' : Nat, ∀ k, c'.testBit k = true ↔ c.testBit k = true ∨ ∃ e ∈ es, e.foot k
  | c, [], _ => ⟨c, fun k => by simp⟩
  | c, e :: es, h => by
    obtain ⟨c1, h1⟩ := bits_of c es fun e' he => h e' (.tail _ he)
    obtain ⟨N, hN⟩ := h e (.head _)
    by_cases hf : e.foot N
    · refine ⟨c1 ||| 2 ^ N, fun k => ?_⟩
      rw [Nat.testBit_or, Bool.or_eq_true, h1, Nat.testBit_two_pow, decide_eq_true_eq]
      constructor
      · rintro ((h2 | ⟨e', h3, h4⟩) | rfl)
        · exact .inl h2
        · exact .inr ⟨e', .tail _ h3, h4⟩
        · exact .inr ⟨e, .head _, hf⟩
      · rintro (h2 | ⟨e', h3, h4⟩)
        · exact .inl (.inl h2)
        · rcases List.mem_cons.1 h3 with rfl | h3
          · exact .inr (hN k h4).symm
          · exact .inl (.inr ⟨e', h3, h4⟩)
    · refine ⟨c1, fun k => ?_⟩
      rw [h1]
      constructor
      · rintro (h2 | ⟨e', h3, h4⟩)
        · exact .inl h2
        · exact .inr ⟨e', .tail _ h3, h4⟩
      · rintro (h2 | ⟨e', h3, h4⟩)
        · exact .inl h2
        · rcases List.mem_cons.1 h3 with rfl | h3
          · exact absurd (hN k h4 ▸ h4) hf
          · exact .inr ⟨e', h3, h4⟩

theorem osl_one {ob : Option Addr} {cap T sz : Nat} {rows : List (List Value)} : ∃ N, ∀ k, (Ent.osl ob cap T sz rows).foot k → k = N := ⟨blk ob, fun k hk => hk.2⟩

theorem cov_mapNew {b : Nat} {k : IntKind} : Cov (.map b k []) (mC R J true b 0 []) := by
  refine ⟨fun w h => ?_, fun w _ j hj => hj.resolve_right (by simp)⟩
  obtain ⟨⟨es, c, h1, h2⟩, h3⟩ := h
  refine ⟨⟨by simp, es, c, h1, ?_⟩, fun j hj => h3 j (hj.resolve_right (by simp))⟩
  have : es.toList = [] := by simpa using h2
  rw [this]; trivial

/-! ### A map with a new element, of whose slices nothing is said -/
variable (R J)
def mxP (b c : Nat) (kv : List (Int × α)) (k : Int) (v : Value) (w : World) : Prop := c.testBit b = false ∧ ∃ es t, w.heap[b]? = some (.map es t) ∧
  ∀ (c' : Nat) (w' : World) (g : Hd) (x : α), (∀ j, c.testBit j = true → c'.testBit j = true) → (∀ j, c.testBit j = true → w'.heap[j]? = w.heap[j]?) → v = .agg (R g x).toArray → mcJ J c' w' g x → mcL R J c' w' es.toList (cput kv k x)
theorem mxS (b c : Nat) (kv : List (Int × α)) (k : Int) (v : Value) : Stable (mcF b c) (mxP R J b c kv k v) := by
  intro w w' h ⟨h0, es, t, h1, h2⟩
  exact ⟨h0, es, t, by rw [h b (.inl rfl)]; exact h1, fun c' w2 g x hc hw hv hj => h2 c' w2 g x hc (fun j hj => by rw [hw j hj, h j (.inr hj)]) hv hj⟩
@[reducible] def mX (b c : Nat) (kv : List (Int × α)) (k : Int) (v : Value) : Ent := .say true (mcF b c) (mxP R J b c kv k v) (mxS R J b c kv k v)
@[reducible] def insNew (e : Option Ent) (k v : Value) : Ent := match e, k with
  | some (.map b _ _), .int _ z => mX R J b 0 [] z v
  | _, _ => .obj 0 (.map #[] 0)
@[reducible] def insPut (b c : Nat) (kv : List (Int × α)) (_ : Option Ent) (k v : Value) : Ent := match k with
  | .int _ z => mX R J b c kv z v
  | _ => .obj 0 (.map #[] 0)
variable {R J}

theorem tell_put {P : Program} {t et : TypeId} {b c : Nat} {kv : List (Int × α)} (d : α) (k : Int) (v : Value) (hT : mcT P t et = true) : TellIns P t (.map (some b)) (.int .i64 k) v (some (mC R J true b c kv)) (mX R J b c kv k v) := by
  intro w he
  have hok := he _ rfl
  obtain ⟨kt, hu, hk⟩ := mcT_spec hT
  obtain ⟨⟨h0, es, tt, h1, h2⟩, h3⟩ := hok
  have hbs : b < w.heap.size := (Array.getElem?_eq_some_iff.1 h1).1
  have hsame : ∀ o, ∀ j, c.testBit j = true → ({ w with heap := w.heap.setIfInBounds b o } : World).heap[j]? = w.heap[j]? := fun o j hj => by
    show (w.heap.setIfInBounds b o)[j]? = _
    rw [Array.getElem?_setIfInBounds_ne]
    intro e; subst e; rw [h0] at hj; cases hj
  have hat : ∀ o, ({ w with heap := w.heap.setIfInBounds b o } : World).heap[b]? = some o := fun o => by
    show (w.heap.setIfInBounds b o)[b]? = _
    simp [hbs]
  have heff : ∀ o, mxP R J b c kv k v { w with heap := w.heap.setIfInBounds b o } → Eff (some (mC R J true b c kv)) (some (mX R J b c kv k v)) w { w with heap := w.heap.setIfInBounds b o } := fun o ho => by
    refine ⟨⟨rfl, rfl, rfl, by show _ ≤ (w.heap.setIfInBounds b _).size; simp, fun j hj hn => ?_⟩, fun E hE => ?_, fun E hE j hj => ?_⟩
    · show (w.heap.setIfInBounds b _)[j]? = _
      rw [Array.getElem?_setIfInBounds_ne]
      exact fun e => hn ⟨_, rfl, rfl, .inl e.symm⟩
    · cases hE
      refine ⟨ho, fun j hj => ?_⟩
      show j < (w.heap.setIfInBounds b _).size
      simpa using h3 j hj
    · cases hE
      exact .inr ⟨_, rfl, hj, id⟩
  rcases mc_find d k 0 h2 with ⟨_, _, a3, a4⟩ | ⟨_, j, e, _, a2, a3, a4, _, _, a7⟩
  · have hf := MapKept.run_findKey (w := w) hk a3
    refine ⟨_, ?_, heff (.map (es.push { key := .int .i64 k, val := v, born := tt }) (tt + 1)) ⟨h0, _, _, hat _, fun c' w' g x hc hw hv hj => ?_⟩⟩
    · simp [Instr.mapUpdate, run_underlying hu, run_getMap h1, run_checkKeyI hk, hf, MapKept.run_setObj_map _ h1]
    · rw [Array.toList_push]
      exact a4 _ _ _ _ (h2.mono hc fun j hj => (hw j hj).trans (hsame _ j hj)) ⟨rfl, g, hv, hj⟩
  · have hf := MapKept.run_findKey (w := w) hk a2
    have hj : es[j]? = some e := by simpa using a3
    refine ⟨_, ?_, heff (.map (es.modify j fun e => { e with key := .int .i64 k, val := v }) tt) ⟨h0, _, _, hat _, fun c' w' g x hc hw hv hj => ?_⟩⟩
    · simp [Instr.mapUpdate, run_underlying hu, run_getMap h1, run_checkKeyI hk, hf, hj, a4, Instr.keyThatStays, Instr.sameBits, MapKept.run_setObj_map _ h1]
    · rw [Array.toList_modify]
      exact a7 _ _ _ _ (h2.mono hc fun j hj => (hw j hj).trans (hsame _ j hj)) ⟨rfl, g, hv, hj⟩

theorem tell_new {P : Program} {t et : TypeId} {b : Nat} {ki : IntKind} (d : α) (k : Int) (v : Value) (hT : mcT P t et = true) : TellIns P t (.map (some b)) (.int .i64 k) v (some (.map b ki [])) (mX R J b 0 [] k v) := by
  intro w he
  have hok := he _ rfl
  have hc := (cov_mapNew (R := R) (J := J)).1 w hok
  obtain ⟨w', hr, hE⟩ := tell_put (P := P) (t := t) (et := et) d k v hT w (fun E h => by cases h; exact hc)
  refine ⟨w', hr, hE.keep.mono fun j _ ⟨E, h1, h2, h3⟩ => ?_, hE.ok, fun E h j hj => ?_⟩
  · cases h1
    exact ⟨_, rfl, rfl, h3.resolve_right (by simp)⟩
  · rcases hE.foot E h j hj with h1 | ⟨E0, h1, h2, h3⟩
    · exact .inl h1
    · cases h1
      exact .inr ⟨_, rfl, h2.resolve_right (by simp), fun _ => rfl⟩

/-- The new element's slices go into the map's own. -/
theorem mx_join {b c K : Nat} {kv : List (Int × α)} {I : Hd → α → List Ent} {w0 w : World} {S : Area} {mem : List (Nat × Ent)} {nk : List Nat} {k : Int} {v : Value} (g : Hd) (x : α)
    (hw : Sat w0 S (look mem) w) (hk : look mem K = some (mX R J b c kv k v)) (hv : v = .agg (R g x).toArray) (hIJ : ∀ e' ∈ J g x, ∃ e ∈ I g x, Cov e e') (hfin : ∀ e ∈ I g x, ∃ N, ∀ k, e.foot k → k = N)
    (hm : nk.map (look mem) = (I g x).map some) (hown : (I g x).all Ent.own = true) (hnd : nodupB (K :: nk) = true)
    (keys : List Nat) {mem' : Nat → List (Nat × Ent)} (hmem : ∀ c', memOut keys (upd (dropKs (look mem) (K :: nk)) K (some (mC R J true b c' (cput kv k x)))) = some (mem' c')) :
    ∃ c', Sat w0 S (look (mem' c')) w := by
  obtain ⟨c', hc'⟩ := bits_of c (I g x) hfin
  have q := List.nodup_cons.1 (nodupB_spec hnd)
  have hat : ∀ e ∈ I g x, ∃ k, k ∈ nk ∧ look mem k = some e := fun e he => by
    obtain ⟨i, hi⟩ := List.getElem?_of_mem he
    have h1 : (nk.map (look mem))[i]? = some (some e) := by rw [hm]; simp [hi]
    rw [List.getElem?_map] at h1
    cases hk : nk[i]? with
    | none => simp [hk] at h1
    | some k => simp [hk] at h1; exact ⟨k, List.mem_of_getElem? hk, h1⟩
  have hok := hw.ok K _ hk
  have hap : ∀ e ∈ I g x, ∀ j, mcF b c j → ¬ e.foot j := fun e he j hj hf => by
    obtain ⟨k', h1, h2⟩ := hat e he
    exact hw.apart K k' _ e (fun eq => q.1 (eq ▸ h1)) hk h2 rfl j hj hf
  have hall : ∀ e ∈ I g x, e.ok w := fun e he => (hat e he).elim fun k' h => hw.ok k' e h.2
  have hb : c'.testBit b = false := by
    cases hq : c'.testBit b with
    | false => rfl
    | true =>
      rcases (hc' b).1 hq with h1 | ⟨e, h1, h2⟩
      · rw [hok.1.1] at h1; cases h1
      · exact absurd h2 (hap e h1 b (.inl rfl))
  have hx : mcJ J c' w g x := fun E hE => by
    obtain ⟨e, he, hcv⟩ := hIJ E hE
    exact ⟨(hcv.1 w (hall e he)).1, fun j hj => (hc' j).2 (.inr ⟨e, he, hcv.2 w (hall e he) j hj⟩)⟩
  obtain ⟨_, es, t, h1, h2⟩ := hok.1
  refine ⟨c', (hw.join (K := K) (e1 := mC R J true b c' (cput kv k x)) (es := mX R J b c kv k v :: I g x) (ks := K :: nk) (by rw [List.map_cons, List.map_cons, hk, hm]) (by rw [List.all_cons, hown]; rfl)
    ⟨⟨hb, es, t, h1, h2 c' w g x (fun j hj => (hc' j).2 (.inl hj)) (fun _ _ => rfl) hv hx⟩, fun j hj => ?_⟩ (fun j hj => ?_)).less (memOut_look keys (hmem c'))⟩
  · rcases hj with rfl | hj
    · exact hok.2 j (.inl rfl)
    · rcases (hc' j).1 hj with h1 | ⟨e, h1, h2⟩
      · exact hok.2 j (.inr h1)
      · exact (hall e h1).2 j h2
  · rcases hj with rfl | hj
    · exact ⟨_, .head _, .inl rfl⟩
    · rcases (hc' j).1 hj with h1 | ⟨e, h1, h2⟩
      · exact ⟨_, .head _, .inr h1⟩
      · exact ⟨e, .tail _ h1, h2⟩

theorem Sat.addAt {w0 : World} {S : Area} {mem mem' : List (Nat × Ent)} {w : World} {k k0 : Nat} {E e : Ent} (h : Sat w0 S (look mem) w) (hk : look mem k0 = some E) (hE : E.own = false) (ho : e.own = false) (h1 : e.ok w) (h2 : ∀ b, e.foot b → E.foot b)
    (hm : mem' = mem ++ [(k, e)]) : Sat w0 S (look mem') w := by
  subst hm
  refine ⟨h.keep, fun t x he => ?_, fun t x he ho' b hb => ?_, fun t t' x x' hn he he' ho' b hb hb' => ?_, fun t x he b hb => ?_⟩
  · rcases look_append he with h3 | rfl
    · exact h.ok t x h3
    · exact h1
  · rcases look_append he with h3 | rfl
    · exact h.mine t x h3 ho' b hb
    · rw [ho] at ho'; cases ho'
  · rcases look_append he with h3 | rfl
    · rcases look_append he' with h4 | rfl
      · exact h.apart t t' x x' hn h3 h4 ho' b hb hb'
      · by_cases htk : t = k0
        · subst htk; rw [hk] at h3; cases h3; rw [hE] at ho'; cases ho'
        · exact h.apart t k0 x _ htk h3 hk ho' b hb (h2 b hb')
    · rw [ho] at ho'; cases ho'
  · rcases look_append he with h3 | rfl
    · exact h.lie t x h3 b hb
    · exact h.lie k0 _ hk b (h2 b hb)

/-- A key's element is read: where its slices lie is told, and what they hold. -/
theorem mc_look {P : Program} {t et : TypeId} {b c K k1 : Nat} {kv : List (Int × α)} {w0 w : World} {S : Area} {mem : List (Nat × Ent)} {mem' : Hd → List (Nat × Ent)} (d : α) (k : Int) (ok : Bool)
    (hw : Sat w0 S (look mem) w) (hk : look mem K = some (mC R J false b c kv)) (hT : mcT P t et = true) (hz : zeroV P et = some (.agg (R nilH d).toArray)) (hJ : ∀ e ∈ J nilH d, ∀ w, e.holds w ∧ ∀ b, ¬ e.foot b)
    (hmem : ∀ g, mem' g = mem ++ [(k1, Ent.all (J g (cget d kv k)))]) :
    ∃ g w', (Instr.lookup t (.map (some b)) (.int .i64 k) ok).run P w = .ok (bif ok then .tuple #[.agg (R g (cget d kv k)).toArray, .bool (chas kv k)] else .agg (R g (cget d kv k)).toArray) w' ∧ Sat w0 S (look (mem' g)) w' := by
  have hok := hw.ok K _ hk
  obtain ⟨g, hr, hj⟩ := mc_get d k ok hT hz hJ hok.1
  refine ⟨g, w, hr, hw.addAt hk rfl rfl (Ent.all_ok fun e he => ⟨(hj e he).1, fun j hf => hok.2 j (.inr ((hj e he).2 j hf))⟩) (fun j ⟨e, he, hf⟩ => .inr ((hj e he).2 j hf)) (hmem g)⟩

/-- A key is asked for alone. -/
theorem mc_has {P : Program} {t et : TypeId} {b c K : Nat} {kv : List (Int × α)} {w0 w : World} {S : Area} {mem : List (Nat × Ent)} {own : Bool} (d : α) (k : Int)
    (hw : Sat w0 S (look mem) w) (hk : look mem K = some (mC R J own b c kv)) (hT : mcT P t et = true) (hz : zeroV P et = some (.agg (R nilH d).toArray)) (hJ : ∀ e ∈ J nilH d, ∀ w, e.holds w ∧ ∀ b, ¬ e.foot b) :
    ∃ g w', (Instr.lookup t (.map (some b)) (.int .i64 k) true).run P w = .ok (.tuple #[.agg (R g (cget d kv k)).toArray, .bool (chas kv k)]) w' ∧ Sat w0 S (look mem) w' := by
  obtain ⟨g, hr, _⟩ := mc_get d k true hT hz hJ (hw.ok K _ hk).1
  exact ⟨g, w, hr, hw⟩
end

theorem exec_lookup {P : Program} {σ : Operand → Value} {o : Oper} {t : TypeId} {x ix : Operand} {ok : Bool} {v : Value} {w w' : World} (hop : o.op = .lookup t x ix ok) (hr : (Instr.lookup t (σ x) (σ ix) ok).run P w = .ok v w') : (execOp σ o).run P w = .ok (.value v) w' := by
  simp [execOp, hop, hr]
section
variable {P : Program} {b : Frame} {n : Nat} {w0 : World} {S : Area} {R : Ending → World → Prop} {k : List Item} {env : List (Nat × Value)} {mem : List (Nat × Ent)} {ops : Array Oper}
end

end Sx
