/-
  Models, part 2: calls by such contracts; entries under other keys, less owned, cut.
-/
import Derived.Test.YtjnbkhnebmlilaaGreatGxa
set_option linter.unusedVariables false
set_option linter.unusedSimpArgs false
namespace Sx
open Go Go.RowKit

/-- The entries that a call reads: where each comes from. 'al': what comes back may lie in them. -/
def RoAll (m : Mem) (ks : List Nat) (al : Bool) : List Ent → Prop
  | [] => True
  | e :: r => ((∃ k E, m k = some E ∧ ks.contains k = false ∧ Cov E e ∧ (al = true → E.own = false)) ∨ NilE e) ∧ RoAll m ks al r

theorem RoAll.mem {m : Mem} {ks : List Nat} {al : Bool} : ∀ {ro : List Ent}, RoAll m ks al ro → ∀ e ∈ ro, (∃ k E, m k = some E ∧ ks.contains k = false ∧ Cov E e ∧ (al = true → E.own = false)) ∨ NilE e
  | [], _, e, he => by cases he
  | a :: r, h, e, he => by
    rcases List.mem_cons.1 he with rfl | he
    · exact h.1
    · exact RoAll.mem h.2 e he

def dropKs (m : Mem) (ks : List Nat) : Mem := fun t => match ks.contains t with | true => none | false => m t

theorem Sat.turnsG {w0 : World} {S : Area} {m : Mem} {w w' : World} (h : Sat w0 S m w) {ks nk : List Nat} {al : Bool} {own ro es' : List Ent} (hnd : nk.Nodup) (hm : ks.map m = own.map some)
    (ho : own.all Ent.own = true) (hlen : nk.length = es'.length) (hr : RoAll m ks al ro) (hal : al = false → es'.all Ent.own = true) (ht : TurnsG own ro es' w w') :
    Sat w0 S (setAll (dropKs m ks) nk es') w' := by
  have hold : ∀ e0 ∈ own, ∃ k ∈ ks, m k = some e0 ∧ e0.own = true := fun e0 he => by
    obtain ⟨i, hi⟩ := List.getElem?_of_mem he
    have h1 : (ks.map m)[i]? = some (some e0) := by rw [hm]; simp [hi]
    rw [List.getElem?_map] at h1
    cases hk : ks[i]? with
    | none => simp [hk] at h1
    | some k => simp [hk] at h1; exact ⟨k, List.mem_of_getElem? hk, h1, List.all_eq_true.1 ho e0 he⟩
  have hdrop : ∀ t E, dropKs m ks t = some E → m t = some E ∧ ks.contains t = false := fun t E hE => by
    unfold dropKs at hE
    split at hE
    · cases hE
    · rename_i hc; exact ⟨hE, hc⟩
  have hne : ∀ k t, k ∈ ks → ks.contains t = false → k ≠ t := fun k t hk hc e => by
    subst e
    rw [List.contains_iff_mem.2 hk] at hc
    cases hc
  refine ⟨h.keep.trans ht.keep (fun b hb ⟨e, he, hf⟩ => ?_), fun t E hE => ?_, fun t E hE hoE b hb => ?_, fun t t' E E' htt hE hE' hoE b hb hb' => ?_, fun t E hE b hb => ?_⟩
  · obtain ⟨k, _, hk, hok⟩ := hold e he
    rcases h.mine k e hk hok b hf with h1 | h1
    · omega
    · exact h1
  · rcases setAll_at _ _ _ t E hlen hnd hE with ⟨i, h1, h2⟩ | ⟨h1, h2⟩
    · exact ht.ok E (List.mem_of_getElem? h2)
    · obtain ⟨g1, g2⟩ := hdrop t E h2
      refine Ent.ok_of_keep ht.keep (fun b hb ⟨e, he, hf⟩ => ?_) (h.ok t E g1)
      obtain ⟨k, hk1, hk, hok⟩ := hold e he
      exact h.apart k t e E (hne k t hk1 g2) hk g1 hok b hf hb
  · rcases setAll_at _ _ _ t E hlen hnd hE with ⟨i, h1, h2⟩ | ⟨h1, h2⟩
    · rcases ht.foot E (List.mem_of_getElem? h2) b hb with h3 | ⟨e0, h3 | ⟨h3, _⟩, h4⟩
      · exact .inl (Nat.le_trans h.keep.size h3)
      · obtain ⟨k, _, hk, hok⟩ := hold e0 h3
        exact h.mine k e0 hk hok b h4
      · rw [h3] at hoE; cases hoE
    · exact h.mine t E (hdrop t E h2).1 hoE b hb
  · rcases setAll_at _ _ _ t E hlen hnd hE with ⟨i, h1, h2⟩ | ⟨h1, h2⟩
    · rcases setAll_at _ _ _ t' E' hlen hnd hE' with ⟨j, g1, g2⟩ | ⟨g1, g2⟩
      · have hij : i ≠ j := fun e => by subst e; rw [h1] at g1; cases g1; exact htt rfl
        exact ht.apart i j E E' hij h2 g2 hoE b hb hb'
      · obtain ⟨q1, q2⟩ := hdrop t' E' g2
        rcases ht.foot E (List.mem_of_getElem? h2) b hb with h3 | ⟨e0, h3 | ⟨h3, _⟩, h4⟩
        · have := (h.ok t' E' q1).2 b hb'; omega
        · obtain ⟨k, hk1, hk, hok⟩ := hold e0 h3
          exact h.apart k t' e0 E' (hne k t' hk1 q2) hk q1 hok b h4 hb'
        · rw [h3] at hoE; cases hoE
    · obtain ⟨p1, p2⟩ := hdrop t E h2
      rcases setAll_at _ _ _ t' E' hlen hnd hE' with ⟨j, g1, g2⟩ | ⟨g1, g2⟩
      · rcases ht.foot E' (List.mem_of_getElem? g2) b hb' with h3 | ⟨e0, h3 | ⟨h3, h5⟩, h4⟩
        · have := (h.ok t E p1).2 b hb; omega
        · obtain ⟨k, hk1, hk, hok⟩ := hold e0 h3
          exact h.apart k t e0 E (hne k t hk1 p2) hk p1 hok b h4 hb
        · cases al with
          | false =>
            have := List.all_eq_true.1 (hal rfl) E' (List.mem_of_getElem? g2)
            rw [h3] at this; cases this
          | true =>
            rcases hr.mem e0 h5 with ⟨k, E0, hk, _, hc, hE0⟩ | hn
            · by_cases hkt : k = t
              · subst hkt
                rw [hk] at p1; cases p1
                rw [hE0 rfl] at hoE; cases hoE
              · exact h.apart t k E E0 (Ne.symm hkt) p1 hk hoE b hb (hc.2 w (h.ok k E0 hk) b h4)
            · exact hn.2 b h4
      · exact h.apart t t' E E' htt p1 (hdrop t' E' g2).1 hoE b hb hb'
  · rcases setAll_at _ _ _ t E hlen hnd hE with ⟨i, h1, h2⟩ | ⟨h1, h2⟩
    · rcases ht.foot E (List.mem_of_getElem? h2) b hb with h3 | ⟨e0, h3 | ⟨_, h3⟩, h4⟩
      · exact .inl (Nat.le_trans h.keep.size h3)
      · obtain ⟨k, _, hk, _⟩ := hold e0 h3
        exact h.lie k e0 hk b h4
      · rcases hr.mem e0 h3 with ⟨k, E0, hk, _, hc, _⟩ | hn
        · exact h.lie k E0 hk b (hc.2 w (h.ok k E0 hk) b h4)
        · exact absurd h4 (hn.2 b)
    · exact h.lie t E (hdrop t E h2).1 b hb

theorem Sat.goodG {w0 : World} {S : Area} {m : Mem} {w : World} (h : Sat w0 S m w) {ks : List Nat} {al : Bool} {own ro : List Ent} (hnd : ks.Nodup) (hm : ks.map m = own.map some)
    (ho : own.all Ent.own = true) (hr : RoAll m ks al ro) : GoodG own ro w := by
  have hat : ∀ (i : Nat) (e : Ent), own[i]? = some e → ∃ k, ks[i]? = some k ∧ m k = some e := fun i e hi => by
    have h1 : (ks.map m)[i]? = some (some e) := by rw [hm]; simp [hi]
    rw [List.getElem?_map] at h1
    cases hk : ks[i]? with
    | none => simp [hk] at h1
    | some k => simp [hk] at h1; exact ⟨k, rfl, h1⟩
  refine ⟨fun e he => ?_, fun e he => ?_, fun i j e e' hne hi hj b hb => ?_, fun e he e' he' b hb hb' => ?_⟩
  · obtain ⟨i, hi⟩ := List.getElem?_of_mem he
    obtain ⟨k, _, hk⟩ := hat i e hi
    exact h.ok k e hk
  · rcases hr.mem e he with ⟨k, E, hk, _, hc, _⟩ | hn
    · exact hc.1 w (h.ok k E hk)
    · exact hn.1 w
  · obtain ⟨k, hki, hk⟩ := hat i e hi
    obtain ⟨k', hkj, hk'⟩ := hat j e' hj
    have hkk : k ≠ k' := fun heq => by
      subst heq
      have hil : i < ks.length := (List.getElem?_eq_some_iff.1 hki).1
      exact hne ((List.getElem?_inj hil hnd).1 (hki.trans hkj.symm))
    exact h.apart k k' e e' hkk hk hk' (List.all_eq_true.1 ho e (List.mem_of_getElem? hi)) b hb
  · obtain ⟨i, hi⟩ := List.getElem?_of_mem he
    obtain ⟨k, hki, hk⟩ := hat i e hi
    rcases hr.mem e' he' with ⟨k', E, hk', hc', hc, _⟩ | hn
    · have hkk : k ≠ k' := fun heq => by
        subst heq
        rw [List.contains_iff_mem.2 (List.mem_of_getElem? hki)] at hc'
        cases hc'
      exact h.apart k k' e E hkk hk hk' (List.all_eq_true.1 ho e he) b hb (hc.2 w (h.ok k' E hk') b hb')
    · exact hn.2 b hb'

/-- A call in the middle of a region, by such a contract. -/
theorem GR.callG {P : Program} {b : Frame} {n : Nat} {w0 : World} {S : Area} {R : Ending → World → Prop} {k : List Item} {env : List (Nat × Value)} {mem : List (Nat × Ent)} {ops : Array Oper}
    {X : Type} {i : Nat} {g : FuncId} {args : Array Value} {v : X → Value} {mem' : X → List (Nat × Ent)} {env' : X → List (Nat × Value)} {own ro : List Ent} {es' : X → List Ent} (ks nk live keys : List Nat) (al : Bool)
    (hi : Nat.blt i ops.size = true)
    (hloc : (dstIn n (ops.getD i default).dst && notSelect (ops.getD i default).op && ((ops.getD i default).op.operands.toList.all (knows (look env))) && (match wantedS ops (look env) (ops.getD i default) with | some b => b | none => false)) = true)
    (hex : runPure P (execOp (val (look env)) (ops.getD i default)) = some (.enter g args))
    (hnd : (nodupB ks && nodupB nk && own.all Ent.own) = true) (hm : ks.map (look mem) = own.map some) (hlen : ∀ x, nk.length = (es' x).length)
    (hal : al = false → ∀ x, (es' x).all Ent.own = true)
    (hr : RoAll (look mem) ks al ro)
    (hmem : ∀ x, memOut keys (setAll (dropKs (look mem) ks) nk (es' x)) = some (mem' x))
    (henv : ∀ x, envOut live (put (look env) (ops.getD i default).dst (v x)) = some (env' x))
    (hc : CallG P g args v own ro es')
    (h : ∀ x, GR P b n w0 S R ops (i + 1) k (env' x) (mem' x)) : GR P b n w0 S R ops i k env mem := by
  simp only [Bool.and_eq_true] at hloc hnd
  obtain ⟨⟨⟨h1, h2⟩, h3⟩, h4⟩ := hloc
  obtain ⟨⟨n1, n2⟩, n3⟩ := hnd
  have hlt : i < ops.size := by simpa [Nat.blt_eq] using hi
  have ho : ops[i]? = some (ops.getD i default) := by
    rw [Array.getD, dif_pos hlt, Array.getElem?_eq_getElem hlt]; rfl
  have hwt : wantedS ops (look env) (ops.getD i default) = some true := by
    cases hw : wantedS ops (look env) (ops.getD i default) with
    | none => rw [hw] at h4; simp at h4
    | some b => rw [hw] at h4; simp at h4; rw [h4]
  refine GR.call (X := X) (v := v) (mem' := mem') (env' := env') ho ⟨h1, h2, hwt, h3⟩ hex (fun w hw => ?_) (fun x => envOut_look live (henv x)) h
  have hg : GoodG own ro w := hw.goodG (nodupB_spec n1) hm n3 hr
  refine (hc w hg).mono fun e w' ⟨x, he, ht⟩ => ⟨x, he, ?_⟩
  have := hw.turnsG (nodupB_spec n2) hm n3 (hlen x) hr (fun ha => hal ha x) ht
  exact this.less (memOut_look keys (hmem x))

/-- The entries that a quiet call reads, where they come from. -/
def RoFor (es : List (Option Ent)) : List Ent → Prop
  | [] => True
  | e :: r => ((∃ E, some E ∈ es ∧ Cov E e) ∨ NilE e) ∧ RoFor es r

theorem CallG.ok {P : Program} {g : FuncId} {args : Array Value} {v : Value} {ro : List Ent} {es : List (Option Ent)} (h : CallG P g args (fun _ : Unit => v) [] ro (fun _ => [])) (hr : RoFor es ro) : CallOK P g args v es := by
  intro w hes
  have hro : ∀ ro, RoFor es ro → ∀ e ∈ ro, e.ok w := by
    intro ro
    induction ro with
    | nil => intro _ e he; cases he
    | cons a r ih =>
      intro hq e he
      rcases List.mem_cons.1 he with rfl | he
      · rcases hq.1 with ⟨E, h1, h2⟩ | hn
        · exact h2.1 w (hes E h1)
        · exact hn.1 w
      · exact ih hq.2 e he
  refine (h w ⟨(fun e he => by cases he), hro ro hr, (fun i j e e' _ hi => by simp at hi), (fun e he => by cases he)⟩).mono fun e w' ⟨_, he, ht⟩ => ⟨he, ht.keep.mono fun b _ ⟨e, h1, _⟩ => by cases h1⟩

/-! ### Entries anew -/

/-- Entries under other keys. -/
theorem Sat.rekey {w0 : World} {S : Area} {m m' : Mem} {w : World} (h : Sat w0 S m w) (pairs : List (Nat × Nat)) (hnd : nodupB (pairs.map Prod.snd) = true)
    (hm : ∀ k e, m' k = some e → ∃ old, look pairs k = some old ∧ m old = some e) : Sat w0 S m' w := by
  have hnd := nodupB_spec hnd
  have hin : ∀ (l : List (Nat × Nat)) k o, look l k = some o → (k, o) ∈ l := by
    intro l
    induction l with
    | nil => intro k o h; simp [look] at h
    | cons p l ih =>
      obtain ⟨i, x⟩ := p
      intro k o h
      simp only [look] at h
      split at h
      · rename_i hb
        have := Nat.eq_of_beq_eq_true hb
        subst this
        cases h
        simp
      · exact List.mem_cons_of_mem _ (ih k o h)
  have hinj : ∀ (l : List (Nat × Nat)), (l.map Prod.snd).Nodup → ∀ k k' o, (k, o) ∈ l → (k', o) ∈ l → k = k' := by
    intro l
    induction l with
    | nil => intro _ k k' o h; cases h
    | cons p l ih =>
      intro hn k k' o h h'
      rw [List.map_cons, List.nodup_cons] at hn
      rcases List.mem_cons.1 h with e | e
      · rcases List.mem_cons.1 h' with e' | e'
        · rw [← e] at e'; cases e'; rfl
        · exact absurd (List.mem_map.2 ⟨_, e', by rw [← e]⟩) hn.1
      · rcases List.mem_cons.1 h' with e' | e'
        · exact absurd (List.mem_map.2 ⟨_, e, by rw [← e']⟩) hn.1
        · exact ih hn.2 k k' o e e'
  refine ⟨h.keep, fun k e he => ?_, fun k e he => ?_, fun k k' e e' hne he he' => ?_, fun k e he => ?_⟩
  · obtain ⟨o, h1, h2⟩ := hm k e he
    exact h.ok o e h2
  · obtain ⟨o, h1, h2⟩ := hm k e he
    exact h.mine o e h2
  · obtain ⟨o, h1, h2⟩ := hm k e he
    obtain ⟨o', h3, h4⟩ := hm k' e' he'
    exact h.apart o o' e e' (fun hoo => hne (by subst hoo; exact hinj pairs hnd k k' o (hin _ _ _ h1) (hin _ _ _ h3))) h2 h4
  · obtain ⟨o, h1, h2⟩ := hm k e he
    exact h.lie o e h2

/-- What the new list of entries is, by the keys of the old one. -/
def memBy (pairs : List (Nat × Nat)) (m : Mem) : Option (List (Nat × Ent)) :=
  match pairs with
  | [] => some []
  | (k, o) :: r => match m o, memBy r m with
    | some e, some l => some ((k, e) :: l)
    | _, _ => none

theorem memBy_look : ∀ (pairs : List (Nat × Nat)) {m : Mem} {l : List (Nat × Ent)}, memBy pairs m = some l → ∀ k e, look l k = some e → ∃ o, look pairs k = some o ∧ m o = some e
  | [], m, l, h, k, e, he => by simp [memBy] at h; subst h; simp [look] at he
  | (i, o) :: r, m, l, h, k, e, he => by
    unfold memBy at h
    split at h <;> simp at h
    rename_i e0 l0 h0 hl
    subst h
    simp only [look] at he ⊢
    split at he
    · exact ⟨o, rfl, by rw [h0]; exact he⟩
    · exact memBy_look r hl k e he

section
variable {P : Program} {b : Frame} {n : Nat} {w0 : World} {S : Area} {R : Ending → World → Prop} {k : List Item} {env : List (Nat × Value)} {mem : List (Nat × Ent)}

/-- Less slots, entries under other keys. -/
theorem GS.rekey {env' : List (Nat × Value)} {mem' : List (Nat × Ent)} (live : List Nat) (pairs : List (Nat × Nat)) (he : envOut live (look env) = some env') (hm : memBy pairs (look mem) = some mem') (hnd : nodupB (pairs.map Prod.snd) = true)
    (h : GS P b n w0 S R k env' mem') : GS P b n w0 S R k env mem :=
  GS.less (envOut_look live he) (fun _ hs => hs.rekey pairs hnd (memBy_look pairs hm)) h
end

theorem Sat.down {w0 : World} {S : Area} {m : Mem} {w : World} (h : Sat w0 S m w) {k : Nat} {E e : Ent} (hk : m k = some E) (hc : Cov E e) (ho : e.own = false) : Sat w0 S (upd m k (some e)) w := by
  refine ⟨h.keep, fun j e' hj => ?_, fun j e' hj hoj b hb => ?_, fun j j' e1 e2 hne hj hj' ho1 b hb hb' => ?_, fun j e' hj b hb => ?_⟩
  · by_cases hkj : k = j
    · subst hkj; rw [upd_same] at hj; cases hj; exact hc.1 w (h.ok k E hk)
    · rw [upd_other _ _ hkj] at hj; exact h.ok j e' hj
  · by_cases hkj : k = j
    · subst hkj; rw [upd_same] at hj; cases hj; rw [ho] at hoj; cases hoj
    · rw [upd_other _ _ hkj] at hj; exact h.mine j e' hj hoj b hb
  · by_cases hkj : k = j
    · subst hkj; rw [upd_same] at hj; cases hj; rw [ho] at ho1; cases ho1
    · rw [upd_other _ _ hkj] at hj
      by_cases hkj' : k = j'
      · subst hkj'; rw [upd_same] at hj'; cases hj'
        exact h.apart j k e1 E hne hj hk ho1 b hb (hc.2 w (h.ok k E hk) b hb')
      · rw [upd_other _ _ hkj'] at hj'
        exact h.apart j j' e1 e2 hne hj hj' ho1 b hb hb'
  · by_cases hkj : k = j
    · subst hkj; rw [upd_same] at hj; cases hj
      exact h.lie k E hk b (hc.2 w (h.ok k E hk) b hb)
    · rw [upd_other _ _ hkj] at hj
      exact h.lie j e' hj b hb

/-- The same list with one entry another. -/
def setEnt : List (Nat × Ent) → Nat → Ent → List (Nat × Ent)
  | [], _, _ => []
  | (i, x) :: r, k, e => match Nat.beq i k with | true => (i, e) :: setEnt r k e | false => (i, x) :: setEnt r k e

theorem look_setEnt : ∀ (l : List (Nat × Ent)) (k : Nat) (e : Ent) (t : Nat), look (setEnt l k e) t = (match look l t with | none => none | some x => if k = t then some e else some x)
  | [], k, e, t => rfl
  | (i, x) :: r, k, e, t => by
    simp only [setEnt]
    cases hb : Nat.beq i k with
    | true =>
      have := Nat.eq_of_beq_eq_true hb
      subst this
      simp only [look]
      cases hc : Nat.beq i t with
      | true => have := Nat.eq_of_beq_eq_true hc; simp [this]
      | false => simp only []; exact look_setEnt r i e t
    | false =>
      simp only [look]
      cases hc : Nat.beq i t with
      | true =>
        have := Nat.eq_of_beq_eq_true hc
        subst this
        have hne : k ≠ i := fun h => by subst h; simp at hb
        simp [hne]
      | false => simp only []; exact look_setEnt r k e t

theorem Sat.downAt {w0 : World} {S : Area} {mem : List (Nat × Ent)} {w : World} (h : Sat w0 S (look mem) w) {k : Nat} {E e : Ent} (hk : look mem k = some E) (hc : Cov E e) (ho : e.own = false) {mem' : List (Nat × Ent)} (hm : mem' = setEnt mem k e) : Sat w0 S (look mem') w := by
  subst hm
  refine (h.down hk hc ho).less fun t x hx => ?_
  rw [look_setEnt] at hx
  by_cases hkt : k = t
  · subst hkt
    rw [hk] at hx
    simp at hx
    subst hx
    exact upd_same _ _ _
  · rw [upd_other _ _ hkt]
    cases hl : look mem t with
    | none => rw [hl] at hx; cases hx
    | some y => rw [hl] at hx; simpa [hkt] using hx

/-! ### Cuts -/

theorem rd_cut {ob : Option Addr} {sz l hh m : Nat} {rows : List (List Value)} (h1 : l ≤ hh) (h2 : hh ≤ m) : Cov (.rd ob sz rows) (.rd (cutOb ob l m sz) sz ((rows.drop l).take (hh - l))) := by
  have hne : (rows.drop l).take (hh - l) ≠ [] → rows ≠ [] ∧ l ≠ m := fun hn => by
    refine ⟨fun e => hn (by rw [e]; simp), fun e => hn ?_⟩
    have : hh - l = 0 := by omega
    rw [this]; simp
  have hblk : (rows.drop l).take (hh - l) ≠ [] → ∀ a, ob = some a → a.spot = none → cutOb ob l m sz = some ⟨a.block, a.off + l * sz, none⟩ := fun hn a ha hs => by
    unfold cutOb
    rw [if_neg (Ne.symm (hne hn).2), ha, Option.map_some, add_none hs]
  refine ⟨fun w hw => ⟨fun hn => ?_, fun b hb => ?_⟩, fun w hw b hb => ?_⟩
  · obtain ⟨a, ha, hs, hr⟩ := hw.1 (hne hn).1
    refine ⟨_, hblk hn a ha hs, rfl, ?_⟩
    have : a = ⟨a.block, a.off, none⟩ := by obtain ⟨x, y, z⟩ := a; simp only at hs; subst hs; rfl
    rw [this] at hr
    exact hr.cut
  · obtain ⟨a, ha, hs, hr⟩ := hw.1 (hne hb.1).1
    have h3 := hb.2
    rw [hblk hb.1 a ha hs] at h3
    exact hw.2 b ⟨(hne hb.1).1, by rw [h3, ha]; rfl⟩
  · refine ⟨(hne hb.1).1, ?_⟩
    have h3 := hb.2
    unfold cutOb at h3
    rw [if_neg (Ne.symm (hne hb.1).2)] at h3
    rw [h3]
    cases ob with
    | none => rfl
    | some a => obtain ⟨x, y, z⟩ := a; simp [blk, Addr.add]; split <;> rfl

/-- One entry more, that lies in one that is read. -/
theorem Sat.addCov {w0 : World} {S : Area} {mem mem' : List (Nat × Ent)} {w : World} {k k0 : Nat} {E e : Ent} (h : Sat w0 S (look mem) w) (hk : look mem k0 = some E) (hE : E.own = false) (ho : e.own = false) (hc : Cov E e)
    (hm : mem' = mem ++ [(k, e)]) : Sat w0 S (look mem') w := by
  subst hm
  refine ⟨h.keep, fun t x he => ?_, fun t x he ho' b hb => ?_, fun t t' x x' hn he he' ho' b hb hb' => ?_, fun t x he b hb => ?_⟩
  · rcases look_append he with h1 | rfl
    · exact h.ok t x h1
    · exact hc.1 w (h.ok k0 _ hk)
  · rcases look_append he with h1 | rfl
    · exact h.mine t x h1 ho' b hb
    · rw [ho] at ho'; cases ho'
  · rcases look_append he with h1 | rfl
    · rcases look_append he' with h2 | rfl
      · exact h.apart t t' x x' hn h1 h2 ho' b hb hb'
      · by_cases htk : t = k0
        · subst htk; rw [hk] at h1; cases h1; rw [hE] at ho'; cases ho'
        · exact h.apart t k0 x _ htk h1 hk ho' b hb (hc.2 w (h.ok k0 _ hk) b hb')
    · rw [ho] at ho'; cases ho'
  · rcases look_append he with h1 | rfl
    · exact h.lie t x h1 b hb
    · exact h.lie k0 _ hk b (hc.2 w (h.ok k0 _ hk) b hb)

/-- A call that makes one new slice. -/
theorem CallG.toN {P : Program} {g : FuncId} {args : Array Value} {v : Option Addr × Nat → Value} {ro : List Ent} {e1 : Option Addr × Nat → Ent} {vf : Fr → Value} {ef : Fr → Ent} {es : List (Option Ent)}
    (h : CallG P g args v [] ro (fun x => [e1 x])) (hr : RoFor es ro) (hv : ∀ x : Option Addr × Nat, v x = vf ⟨0, x.1, x.2, [], fun _ _ => (none, 0)⟩ := by intro _; rfl) (he : ∀ x : Option Addr × Nat, e1 x = ef ⟨0, x.1, x.2, [], fun _ _ => (none, 0)⟩ := by intro _; rfl)
    (ho : ∀ x, (e1 x).own = true := by intro _; rfl) : CallN P g args vf ef es := by
  intro w hes
  have hro : ∀ ro, RoFor es ro → ∀ e ∈ ro, e.ok w := by
    intro ro
    induction ro with
    | nil => intro _ e he; cases he
    | cons a r ih =>
      intro hq e he
      rcases List.mem_cons.1 he with rfl | he
      · rcases hq.1 with ⟨E, h1, h2⟩ | hn
        · exact h2.1 w (hes E h1)
        · exact hn.1 w
      · exact ih hq.2 e he
  refine (h w ⟨(fun e he => by cases he), hro ro hr, (fun i j e e' _ hi => by simp at hi), (fun e he => by cases he)⟩).mono fun e w' ⟨x, hx, ht⟩ => ⟨⟨0, x.1, x.2, [], fun _ _ => (none, 0)⟩, by rw [hx, hv], ht.keep.mono (fun b _ ⟨e, h1, _⟩ => by cases h1), ?_, ?_⟩
  · rw [← he]; exact ht.ok _ (by simp)
  · intro b hb
    rw [← he] at hb
    rcases ht.foot _ (List.mem_singleton.2 rfl) b hb with h1 | ⟨e0, h1 | ⟨h1, _⟩, _⟩
    · exact h1
    · cases h1
    · rw [ho] at h1; cases h1

theorem CallG.toO {P : Program} {g : FuncId} {args : Array Value} {X : Type} {v : X → Value} {E : Ent} {ro : List Ent} {e1 : X → Ent} {vf : Fr → Value} {ef : Fr → Ent} {es : List (Option Ent)}
    (h : CallG P g args v [E] ro (fun x => [e1 x])) (hr : RoFor es ro) (φ : X → Fr) (hv : ∀ x, v x = vf (φ x)) (he : ∀ x, e1 x = ef (φ x))
    (hE : E.own = true) (ho : ∀ x, (e1 x).own = true := by intro _; rfl) : CallO P g args vf ef E es := by
  refine ⟨hE, fun w hok hes => ?_⟩
  have hro : ∀ ro, RoFor es ro → ∀ e ∈ ro, e.ok w ∧ ∀ b, E.foot b → ¬ e.foot b := by
    intro ro
    induction ro with
    | nil => intro _ e he; cases he
    | cons a r ih =>
      intro hq e he
      rcases List.mem_cons.1 he with rfl | he
      · rcases hq.1 with ⟨E1, h1, h2⟩ | hn
        · exact ⟨h2.1 w (hes E1 h1).1, fun b hb hb2 => (hes E1 h1).2 b hb (h2.2 w (hes E1 h1).1 b hb2)⟩
        · exact ⟨hn.1 w, fun b _ hb2 => hn.2 b hb2⟩
      · exact ih hq.2 e he
  refine (h w ⟨(fun e he => by rcases List.mem_singleton.1 he with rfl; exact hok), (fun e he => (hro ro hr e he).1), (fun i j e e' hne hi hj => ?_), (fun e he e' he' => by rcases List.mem_singleton.1 he with rfl; exact (hro ro hr e' he').2)⟩).mono fun e w' ⟨x, hx, ht⟩ => ⟨φ x, by rw [hx, hv], ht.keep.mono (fun b _ ⟨e, h1, h2⟩ => ?_), ?_, ?_⟩
  · have h1 : i < 1 := by have := (List.getElem?_eq_some_iff.1 hi).1; simpa using this
    have h2 : j < 1 := by have := (List.getElem?_eq_some_iff.1 hj).1; simpa using this
    omega
  · rcases List.mem_singleton.1 h1 with rfl
    exact h2
  · rw [← he]; exact ht.ok _ (by simp)
  · intro b hb
    rw [← he] at hb
    rcases ht.foot _ (List.mem_singleton.2 rfl) b hb with h1 | ⟨e0, h1 | ⟨h1, _⟩, h2⟩
    · exact .inl h1
    · rcases List.mem_singleton.1 h1 with rfl
      exact .inr h2
    · rw [ho] at h1; cases h1

/-- Entries, all of them as one. -/
@[reducible] def Ent.all (es : List Ent) : Ent := .say false (fun b => ∃ e ∈ es, e.foot b) (fun w => ∀ e ∈ es, e.holds w) (fun _ _ h hw e he => Ent.holds_of_same (fun b hb => h b ⟨e, he, hb⟩) (hw e he))
theorem Ent.all_ok {es : List Ent} {w : World} (h : ∀ e ∈ es, e.ok w) : (Ent.all es).ok w := ⟨fun e he => (h e he).1, fun b ⟨e, he, hb⟩ => (h e he).2 b hb⟩
theorem Cov.all_mem {es : List Ent} {e : Ent} (h : e ∈ es) : Cov (Ent.all es) e := ⟨fun _ hw => ⟨hw.1 e h, fun b hb => hw.2 b ⟨e, h, hb⟩⟩, fun _ _ b hb => ⟨e, h, hb⟩⟩
section
variable {P : Program} {b : Frame} {n : Nat} {w0 : World} {S : Area} {R : Ending → World → Prop} {k : List Item} {env : List (Nat × Value)} {mem : List (Nat × Ent)} {ops : Array Oper}
theorem GR.conv {i : Nat} {env' : List (Nat × Value)} {mem' : List (Nat × Ent)} (he : env = env') (hm : mem = mem') (h : GR P b n w0 S R ops i k env' mem') : GR P b n w0 S R ops i k env mem := by
  subst he; subst hm; exact h
theorem GR.know {i : Nat} {p : Prop} (hm : ∀ w, Sat w0 S (look mem) w → p) (h : p → GR P b n w0 S R ops i k env mem) : GR P b n w0 S R ops i k env mem :=
  fun a w hf hw => h (hm w hw) a w hf hw
end

theorem nil_rd {ob : Option Addr} {sz : Nat} {α : Type} {f : α → List Value} {l : List α} {w : World} (h : (Ent.rd ob sz (l.map f)).ok w) (hn : ob.isNone = true) : l = [] := by
  cases l with
  | nil => rfl
  | cons x l =>
    obtain ⟨a, ha, _⟩ := h.1 (by simp)
    rw [ha] at hn
    cases hn
end Sx
