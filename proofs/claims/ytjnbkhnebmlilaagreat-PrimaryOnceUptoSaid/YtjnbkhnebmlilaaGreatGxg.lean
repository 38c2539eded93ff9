/-
  Models, part 7: slices whose elements hold slices.
-/
import Derived.Test.YtjnbkhnebmlilaaGreatGxf
set_option linter.unusedVariables false
set_option linter.unusedSimpArgs false
namespace Sx
open Go Go.RowKit

/-! ### Rows that tell where inner slices lie -/

/-- Where an element's slices lie: by their number. -/
abbrev Hd := Nat → Option Addr × Nat
abbrev Hds := Nat → Hd
@[reducible] def nilH : Hd := fun _ => (none, 0)
@[reducible] def updH (h : Nat → Hd) (i : Nat) (g : Hd) : Nat → Hd := fun j => if j = i then g else h j
@[reducible] def glueH (n : Nat) (h h2 : Nat → Hd) : Nat → Hd := fun j => if j < n then h j else h2 (j - n)

section
variable {α : Type} (R : Hd → α → List Value)
def nrows : (Nat → Hd) → List α → List (List Value)
  | _, [] => []
  | h, x :: l => R (h 0) x :: nrows (fun i => h (i + 1)) l
theorem nrows_len : ∀ (h : Nat → Hd) (l : List α), (nrows R h l).length = l.length
  | _, [] => rfl
  | h, x :: l => by rw [nrows, List.length_cons, List.length_cons, nrows_len]
theorem nrows_ext : ∀ (h h' : Nat → Hd) (l : List α), (∀ i, i < l.length → h i = h' i) → nrows R h l = nrows R h' l
  | _, _, [], _ => rfl
  | h, h', x :: l, e => by
    rw [nrows, nrows, e 0 (by simp), nrows_ext _ _ l fun i hi => e (i + 1) (by simpa using hi)]
theorem nrows_at (d : α) : ∀ (h : Nat → Hd) (l : List α) {i : Nat}, i < l.length → (nrows R h l)[i]? = some (R (h i) (l.getD i d))
  | _, [], i, hi => by cases hi
  | h, x :: l, 0, hi => rfl
  | h, x :: l, i + 1, hi => by
    rw [nrows, List.getElem?_cons_succ, nrows_at d _ l (i := i) (by simpa using hi)]; rfl
theorem nrows_drop (h : Nat → Hd) {l r : List α} {i : Nat} {x : α} (hd : l.drop i = x :: r) : (nrows R h l)[i]? = some (R (h i) x) := by
  have hi : i < l.length := drop_lt hd
  have : l[i]? = some x := by rw [← List.head?_drop, hd]; rfl
  rw [nrows_at R x h l hi, List.getD, this]; rfl
theorem nrows_app : ∀ (h h2 : Nat → Hd) (l m : List α), nrows R h l ++ nrows R h2 m = nrows R (glueH l.length h h2) (l ++ m)
  | h, h2, [], m => by
    rw [nrows, List.nil_append, List.nil_append]
    refine nrows_ext R _ _ m fun i _ => ?_
    show h2 i = if i < 0 then h i else h2 (i - 0)
    rw [if_neg (by omega)]; rfl
  | h, h2, x :: l, m => by
    rw [nrows, List.cons_append, List.cons_append, nrows, nrows_app]
    show R (h 0) x :: _ = R (if 0 < (x :: l).length then h 0 else h2 (0 - (x :: l).length)) x :: _
    rw [if_pos (by simp)]
    refine congrArg _ (nrows_ext R _ _ _ fun j _ => ?_)
    show (if j < l.length then h (j + 1) else h2 (j - l.length)) = if j + 1 < l.length + 1 then h (j + 1) else h2 (j + 1 - (l.length + 1))
    by_cases hj : j < l.length
    · rw [if_pos hj, if_pos (by omega)]
    · rw [if_neg hj, if_neg (by omega)]; congr 1; omega
end

/-! ### The inner entries -/
section
variable {α : Type} (I : Hd → α → List Ent)
def nins : (Nat → Hd) → List α → List Ent
  | _, [] => []
  | h, x :: l => I (h 0) x ++ nins (fun i => h (i + 1)) l
theorem nins_ext : ∀ (h h' : Nat → Hd) (l : List α), (∀ i, i < l.length → h i = h' i) → nins I h l = nins I h' l
  | _, _, [], _ => rfl
  | h, h', x :: l, e => by
    rw [nins, nins, e 0 (by simp), nins_ext _ _ l fun i hi => e (i + 1) (by simpa using hi)]
theorem nins_split (d : α) : ∀ (h : Nat → Hd) (l : List α) {i : Nat}, i < l.length →
    ∃ A B, nins I h l = A ++ (I (h i) (l.getD i d) ++ B) ∧ ∀ g x, nins I (updH h i g) (l.set i x) = A ++ (I g x ++ B)
  | _, [], i, hi => by cases hi
  | h, y :: l, 0, hi => by
    refine ⟨[], nins I (fun i => h (i + 1)) l, rfl, fun g x => ?_⟩
    rw [List.set_cons_zero, nins, updH, if_pos rfl, List.nil_append]
    refine congrArg _ (nins_ext I _ _ l fun i _ => ?_)
    show (if i + 1 = 0 then g else h (i + 1)) = h (i + 1)
    rw [if_neg (by omega)]
  | h, y :: l, i + 1, hi => by
    obtain ⟨A, B, e1, e2⟩ := nins_split d (fun i => h (i + 1)) l (i := i) (by simpa using hi)
    refine ⟨I (h 0) y ++ A, B, ?_, fun g x => ?_⟩
    · rw [nins, e1, List.append_assoc]; rfl
    · rw [List.set_cons_succ, nins, updH, if_neg (by omega), List.append_assoc, ← e2 g x]
      refine congrArg _ (nins_ext I _ _ _ fun j _ => ?_)
      show (if j + 1 = i + 1 then g else h (j + 1)) = if j = i then g else h (j + 1)
      by_cases hj : j = i
      · rw [if_pos hj, if_pos (by omega)]
      · rw [if_neg hj, if_neg (by omega)]
theorem nins_mem (d : α) {h : Nat → Hd} {l : List α} {i : Nat} (hi : i < l.length) {e : Ent} (he : e ∈ I (h i) (l.getD i d)) : e ∈ nins I h l := by
  obtain ⟨A, B, e1, _⟩ := nins_split I d h l hi
  rw [e1]; exact List.mem_append.2 (.inr (List.mem_append.2 (.inl he)))
theorem nins_app : ∀ (h h2 : Nat → Hd) (l m : List α), nins I h l ++ nins I h2 m = nins I (glueH l.length h h2) (l ++ m)
  | h, h2, [], m => by
    rw [nins, List.nil_append, List.nil_append]
    refine nins_ext I _ _ m fun i _ => ?_
    show h2 i = if i < 0 then h i else h2 (i - 0)
    rw [if_neg (by omega)]; rfl
  | h, h2, x :: l, m => by
    rw [nins, List.cons_append, nins, List.append_assoc, nins_app]
    show I (h 0) x ++ _ = I (if 0 < (x :: l).length then h 0 else h2 (0 - (x :: l).length)) x ++ _
    rw [if_pos (by simp)]
    refine congrArg _ (nins_ext I _ _ _ fun j _ => ?_)
    show (if j < l.length then h (j + 1) else h2 (j - l.length)) = if j + 1 < l.length + 1 then h (j + 1) else h2 (j + 1 - (l.length + 1))
    by_cases hj : j < l.length
    · rw [if_pos hj, if_pos (by omega)]
    · rw [if_neg hj, if_neg (by omega)]; congr 1; omega
end

/-! ### Own entries into several, and several into one -/

theorem Sat.split {w0 w : World} {S : Area} {m : Mem} {K : Nat} {e0 : Ent} (h : Sat w0 S m w) (hk : m K = some e0) (ho : e0.own = true) {nk : List Nat} {es : List Ent} (hnd : nk.Nodup) (hlen : nk.length = es.length)
    (hok : ∀ e ∈ es, e.ok w) (hft : ∀ e ∈ es, ∀ b, e.foot b → e0.foot b) (hap : ∀ (i j : Nat) (e e' : Ent), i ≠ j → es[i]? = some e → es[j]? = some e' → ∀ b, e.foot b → ¬ e'.foot b) :
    Sat w0 S (setAll (upd m K none) nk es) w := by
  have hat : ∀ t E, setAll (upd m K none) nk es t = some E → (∃ i, nk[i]? = some t ∧ es[i]? = some E) ∨ (t ≠ K ∧ m t = some E) := fun t E hE => by
    rcases setAll_at _ _ _ t E hlen hnd hE with ⟨i, h1, h2⟩ | ⟨h1, h2⟩
    · exact .inl ⟨i, h1, h2⟩
    · refine .inr ?_
      by_cases hkt : K = t
      · subst hkt; rw [upd_same] at h2; cases h2
      · rw [upd_other _ _ hkt] at h2; exact ⟨fun e => hkt e.symm, h2⟩
  have hin : ∀ {i : Nat} {E : Ent}, es[i]? = some E → ∀ b, E.foot b → e0.foot b := fun hi b hb => hft _ (List.mem_of_getElem? hi) b hb
  refine ⟨h.keep, fun t E hE => ?_, fun t E hE ho b hbE => ?_, fun t t' E E' hne hE hE' ho b hbE hbE' => ?_, fun t E hE b hbE => ?_⟩
  · rcases hat t E hE with ⟨i, _, h2⟩ | ⟨_, h2⟩
    · exact hok E (List.mem_of_getElem? h2)
    · exact h.ok t E h2
  · rcases hat t E hE with ⟨i, _, h2⟩ | ⟨_, h2⟩
    · exact h.mine K _ hk ‹_› b (hin h2 b hbE)
    · exact h.mine t E h2 ho b hbE
  · rcases hat t E hE with ⟨i, h1, h2⟩ | ⟨h1, h2⟩
    · rcases hat t' E' hE' with ⟨j, g1, g2⟩ | ⟨g1, g2⟩
      · exact hap i j E E' (fun e => by subst e; rw [h1] at g1; exact hne (Option.some.inj g1)) h2 g2 b hbE hbE'
      · exact h.apart K t' _ E' (Ne.symm g1) hk g2 ‹_› b (hin h2 b hbE) hbE'
    · rcases hat t' E' hE' with ⟨j, g1, g2⟩ | ⟨g1, g2⟩
      · exact h.apart K t _ E (Ne.symm h1) hk h2 ‹_› b (hin g2 b hbE') hbE
      · exact h.apart t t' E E' hne h2 g2 ho b hbE hbE'
  · rcases hat t E hE with ⟨i, _, h2⟩ | ⟨_, h2⟩
    · exact h.lie K _ hk b (hin h2 b hbE)
    · exact h.lie t E h2 b hbE

theorem Sat.join {w0 w : World} {S : Area} {m : Mem} {es : List Ent} {ks : List Nat} {K : Nat} {e1 : Ent} (h : Sat w0 S m w) (hm : ks.map m = es.map some) (hown : es.all Ent.own = true)
    (hok : e1.ok w) (hft : ∀ b, e1.foot b → ∃ e ∈ es, e.foot b) : Sat w0 S (upd (dropKs m ks) K (some e1)) w := by
  have hmem : ∀ e ∈ es, ∃ k, k ∈ ks ∧ m k = some e ∧ e.own = true := fun e he => by
    obtain ⟨i, hi⟩ := List.getElem?_of_mem he
    have h1 : (ks.map m)[i]? = some (some e) := by rw [hm]; simp [hi]
    rw [List.getElem?_map] at h1
    cases hk : ks[i]? with
    | none => simp [hk] at h1
    | some k => simp [hk] at h1; exact ⟨k, List.mem_of_getElem? hk, h1, List.all_eq_true.1 hown e he⟩
  have hold : ∀ t E, upd (dropKs m ks) K (some e1) t = some E → (t = K ∧ E = e1) ∨ (t ≠ K ∧ t ∉ ks ∧ m t = some E) := fun t E hE => by
    by_cases hkt : K = t
    · subst hkt; rw [upd_same] at hE; cases hE; exact .inl ⟨rfl, rfl⟩
    · rw [upd_other _ _ hkt] at hE
      refine .inr ⟨fun e => hkt e.symm, ?_⟩
      unfold dropKs at hE
      split at hE
      · cases hE
      · rename_i hc
        exact ⟨fun hq => (by rw [List.contains_iff_mem.2 hq] at hc; cases hc), hE⟩
  refine ⟨h.keep, fun t E hE => ?_, fun t E hE ho b hb => ?_, fun t t' E E' hne hE hE' ho b hb hb' => ?_, fun t E hE b hb => ?_⟩
  · rcases hold t E hE with ⟨_, rfl⟩ | ⟨_, _, h2⟩
    · exact hok
    · exact h.ok t E h2
  · rcases hold t E hE with ⟨_, rfl⟩ | ⟨_, _, h2⟩
    · obtain ⟨e, he, hbe⟩ := hft b hb
      obtain ⟨k, _, h3, h4⟩ := hmem e he
      exact h.mine k e h3 h4 b hbe
    · exact h.mine t E h2 ho b hb
  · rcases hold t E hE with ⟨q1, rfl⟩ | ⟨h1, h2, h3⟩
    · rcases hold t' E' hE' with ⟨q2, rfl⟩ | ⟨g1, g2, g3⟩
      · exact hne (q1.trans q2.symm)
      · obtain ⟨e, he, hbe⟩ := hft b hb
        obtain ⟨k, hk, h4, h5⟩ := hmem e he
        exact h.apart k t' e E' (fun q => g2 (q ▸ hk)) h4 g3 h5 b hbe hb'
    · rcases hold t' E' hE' with ⟨q2, rfl⟩ | ⟨g1, g2, g3⟩
      · obtain ⟨e, he, hbe⟩ := hft b hb'
        obtain ⟨k, hk, h4, h5⟩ := hmem e he
        exact h.apart k t e E (fun q => h2 (q ▸ hk)) h4 h3 h5 b hbe hb
      · exact h.apart t t' E E' hne h3 g3 ho b hb hb'
  · rcases hold t E hE with ⟨_, rfl⟩ | ⟨_, _, h2⟩
    · obtain ⟨e, he, hbe⟩ := hft b hb
      obtain ⟨k, _, h3, _⟩ := hmem e he
      exact h.lie k e h3 b hbe
    · exact h.lie t E h2 b hb

/-- An entry that owns nothing. -/
def Emp (e : Ent) : Prop := e.own = true ∧ (∀ b, ¬ e.foot b) ∧ ∀ w, e.ok w
theorem Cov.bag_all {es es' : List Ent} (h : ∀ e' ∈ es', ∃ e ∈ es, Cov e e') : Cov (bag es) (Ent.all es') :=
  ⟨fun w hw => Ent.all_ok fun e' he => (h e' he).elim fun e q => q.2.1 w ((bag_ok.1 hw).1 e q.1),
   fun w hw b ⟨e', he, hb⟩ => (h e' he).elim fun e q => ⟨e, q.1, q.2.2 w ((bag_ok.1 hw).1 e q.1) b hb⟩⟩

/-! ### The same, of lists of entries -/
section
variable {α : Type} {I : Hd → α → List Ent} {h : Nat → Hd} {L : List α} {i : Nat} {d : α} {w0 w : World} {S : Area} {mem mem' : List (Nat × Ent)} {K : Nat} {nk : List Nat}

end

theorem nins_cov {α : Type} {I J : Hd → α → List Ent} (hIJ : ∀ g x, ∀ e' ∈ J g x, ∃ e ∈ I g x, Cov e e') : ∀ (h : Nat → Hd) (l : List α), ∀ e' ∈ nins J h l, ∃ e ∈ nins I h l, Cov e e'
  | _, [], _, he => by cases he
  | h, x :: l, e', he => by
    rw [nins] at he ⊢
    rcases List.mem_append.1 he with he | he
    · obtain ⟨e, h1, h2⟩ := hIJ _ _ e' he
      exact ⟨e, List.mem_append.2 (.inl h1), h2⟩
    · obtain ⟨e, h1, h2⟩ := nins_cov hIJ _ l e' he
      exact ⟨e, List.mem_append.2 (.inr h1), h2⟩

theorem nins_drop {α : Type} (I : Hd → α → List Ent) (h : Nat → Hd) {L r : List α} {i : Nat} {x : α} (hd : L.drop i = x :: r) {e : Ent} (he : e ∈ I (h i) x) : e ∈ nins I h L := by
  have hi : i < L.length := drop_lt hd
  have h1 : L[i]? = some x := by rw [← List.head?_drop, hd]; rfl
  refine nins_mem I x hi ?_
  rw [List.getD, h1]; exact he

theorem emp_bag {es : List Ent} (h : ∀ e ∈ es, Emp e) : Emp (bag es) :=
  ⟨rfl, fun b ⟨e, he, hb⟩ => (h e he).2.1 b hb, fun w => bag_ok.2 ⟨fun e he => (h e he).2.2 w, fun i j e e' _ hi _ b hb _ => (h e (List.mem_of_getElem? hi)).2.1 b hb⟩⟩

theorem Sat.addEmp {w0 w : World} {S : Area} {mem mem' : List (Nat × Ent)} {k : Nat} {e : Ent} (h : Sat w0 S (look mem) w) (hE : Emp e) (hm : mem' = mem ++ [(k, e)]) : Sat w0 S (look mem') w := by
  subst hm
  have happ : ∀ (t : Nat) (x : Ent), look (mem ++ [(k, e)]) t = some x → look mem t = some x ∨ x = e := by
    intro t x he
    rw [look_snoc] at he
    split at he
    · rename_i y hy; rw [hy]; exact .inl he
    · split at he
      · exact .inr (Option.some.inj he).symm
      · cases he
  refine ⟨h.keep, fun t x he => ?_, fun t x he ho b hb => ?_, fun t t' x x' hn he he' ho b hb hb' => ?_, fun t x he b hb => ?_⟩
  · rcases happ t x he with h1 | rfl
    · exact h.ok t x h1
    · exact hE.2.2 w
  · rcases happ t x he with h1 | rfl
    · exact h.mine t x h1 ho b hb
    · exact absurd hb (hE.2.1 b)
  · rcases happ t x he with h1 | rfl
    · rcases happ t' x' he' with h2 | rfl
      · exact h.apart t t' x x' hn h1 h2 ho b hb hb'
      · exact hE.2.1 b hb'
    · exact hE.2.1 b hb
  · rcases happ t x he with h1 | rfl
    · exact h.lie t x h1 b hb
    · exact absurd hb (hE.2.1 b)

theorem Cov.bag_mem {es : List Ent} {e : Ent} (h : e ∈ es) : Cov (bag es) e := ⟨fun _ hw => (bag_ok.1 hw).1 e h, fun _ _ b hb => ⟨e, h, hb⟩⟩

/-- A call that makes several own entries, as one. -/
theorem CallG.toNB {P : Program} {g : FuncId} {args : Array Value} {X : Type} {v : X → Value} {ro : List Ent} {es' : X → List Ent} {vf : Fr → Value} {efs : Fr → List Ent} {es : List (Option Ent)}
    (h : CallG P g args v [] ro es') (hr : RoFor es ro) (φ : X → Fr) (hv : ∀ x, v x = vf (φ x)) (he : ∀ x, es' x = efs (φ x)) (ho : ∀ x, (es' x).all Ent.own = true) : CallN P g args vf (fun f => bag (efs f)) es := by
  intro w hes
  have hro : ∀ ro, RoFor es ro → ∀ e ∈ ro, e.ok w := by
    intro ro
    induction ro with
    | nil => intro _ e he; cases he
    | cons a r ih =>
      intro hq e he
      rcases List.mem_cons.1 he with rfl | he
      · rcases hq.1 with ⟨E, h1, h2⟩ | hn
        · exact h2.1 w (hes E h1)
        · exact hn.1 w
      · exact ih hq.2 e he
  refine (h w ⟨(fun e he => by cases he), hro ro hr, (fun i j e e' _ hi => by simp at hi), (fun e he => by cases he)⟩).mono fun e w' ⟨x, hx, ht⟩ => ⟨φ x, by rw [hx, hv], ht.keep.mono (fun b _ ⟨e, h1, _⟩ => by cases h1), ?_, ?_⟩
  · have hb := (ht.bag (ho x)).ok _ (List.mem_singleton.2 rfl)
    rw [he] at hb; exact hb
  · intro b hb
    have hb : (bag (es' x)).foot b := by rw [he]; exact hb
    rcases (ht.bag (ho x)).foot _ (List.mem_singleton.2 rfl) b hb with h1 | ⟨e0, h1 | ⟨h1, _⟩, _⟩
    · exact h1
    · cases h1
    · cases h1

theorem Cov.osl_fact {α : Type} {ob : Option Addr} {cap T sz : Nat} {R : α → List Value} {L : List α} : Cov (.osl ob cap T sz (List.map R L)) (Ent.fact (L.length ≤ cap)) := by
  refine ⟨fun w h => ⟨?_, fun b hb => hb.elim⟩, fun w h b hb => hb.elim⟩
  have := h.1.1
  rw [List.length_map] at this
  exact this
end Sx
