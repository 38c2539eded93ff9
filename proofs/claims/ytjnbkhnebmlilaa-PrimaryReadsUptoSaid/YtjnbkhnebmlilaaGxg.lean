/-
  Models, part 7: slices whose elements hold slices.
-/
import Derived.Test.YtjnbkhnebmlilaaGxf
set_option linter.unusedVariables false
set_option linter.unusedSimpArgs false
namespace Sx
open Go Go.RowKit

/-! ### Rows that tell where inner slices lie -/

/-- Where an element's slices lie: by their number. -/
abbrev Hd := Nat → Option Addr × Nat
abbrev Hds := Nat → Hd
section
variable {α : Type} (R : Hd → α → List Value)
end

/-! ### The inner entries -/
section
variable {α : Type} (I : Hd → α → List Ent)
end

/-! ### Own entries into several, and several into one -/

theorem Sat.split {w0 w : World} {S : Area} {m : Mem} {K : Nat} {e0 : Ent} (h : Sat w0 S m w) (hk : m K = some e0) (ho : e0.own = true) {nk : List Nat} {es : List Ent} (hnd : nk.Nodup) (hlen : nk.length = es.length)
    (hok : ∀ e ∈ es, e.ok w) (hft : ∀ e ∈ es, ∀ b, e.foot b → e0.foot b) (hap : ∀ (i j : Nat) (e e' : Ent), i ≠ j → es[i]? = some e → es[j]? = some e' → ∀ b, e.foot b → ¬ e'.foot b) :
    Sat w0 S (setAll (upd m K none) nk es) w := by
  have hat : ∀ t E, setAll (upd m K none) nk es t = some E → (∃ i, nk[i]? = some t ∧ es[i]? = some E) ∨ (t ≠ K ∧ m t = some E) := fun t E hE => by
    rcases setAll_at _ _ _ t E hlen hnd hE with ⟨i, h1, h2⟩ | ⟨h1, h2⟩
    · exact .inl ⟨i, h1, h2⟩
    · refine .inr ?_
      by_cases hkt : K = t
      · subst hkt; rw [upd_same] at h2; cases h2
      · rw [upd_other _ _ hkt] at h2; exact ⟨fun e => hkt e.symm, h2⟩
  have hin : ∀ {i : Nat} {E : Ent}, es[i]? = some E → ∀ b, E.foot b → e0.foot b := fun hi b hb => hft _ (List.mem_of_getElem? hi) b hb
  refine ⟨h.keep, fun t E hE => ?_, fun t E hE ho b hbE => ?_, fun t t' E E' hne hE hE' ho b hbE hbE' => ?_, fun t E hE b hbE => ?_⟩
  · rcases hat t E hE with ⟨i, _, h2⟩ | ⟨_, h2⟩
    · exact hok E (List.mem_of_getElem? h2)
    · exact h.ok t E h2
  · rcases hat t E hE with ⟨i, _, h2⟩ | ⟨_, h2⟩
    · exact h.mine K _ hk ‹_› b (hin h2 b hbE)
    · exact h.mine t E h2 ho b hbE
  · rcases hat t E hE with ⟨i, h1, h2⟩ | ⟨h1, h2⟩
    · rcases hat t' E' hE' with ⟨j, g1, g2⟩ | ⟨g1, g2⟩
      · exact hap i j E E' (fun e => by subst e; rw [h1] at g1; exact hne (Option.some.inj g1)) h2 g2 b hbE hbE'
      · exact h.apart K t' _ E' (Ne.symm g1) hk g2 ‹_› b (hin h2 b hbE) hbE'
    · rcases hat t' E' hE' with ⟨j, g1, g2⟩ | ⟨g1, g2⟩
      · exact h.apart K t _ E (Ne.symm h1) hk h2 ‹_› b (hin g2 b hbE') hbE
      · exact h.apart t t' E E' hne h2 g2 ho b hbE hbE'
  · rcases hat t E hE with ⟨i, _, h2⟩ | ⟨_, h2⟩
    · exact h.lie K _ hk b (hin h2 b hbE)
    · exact h.lie t E h2 b hbE

theorem Sat.join {w0 w : World} {S : Area} {m : Mem} {es : List Ent} {ks : List Nat} {K : Nat} {e1 : Ent} (h : Sat w0 S m w) (hm : ks.map m = es.map some) (hown : es.all Ent.own = true)
    (hok : e1.ok w) (hft : ∀ b, e1.foot b → ∃ e ∈ es, e.foot b) : Sat w0 S (upd (dropKs m ks) K (some e1)) w := by
  have hmem : ∀ e ∈ es, ∃ k, k ∈ ks ∧ m k = some e ∧ e.own = true := fun e he => by
    obtain ⟨i, hi⟩ := List.getElem?_of_mem he
    have h1 : (ks.map m)[i]? = some (some e) := by rw [hm]; simp [hi]
    rw [List.getElem?_map] at h1
    cases hk : ks[i]? with
    | none => simp [hk] at h1
    | some k => simp [hk] at h1; exact ⟨k, List.mem_of_getElem? hk, h1, List.all_eq_true.1 hown e he⟩
  have hold : ∀ t E, upd (dropKs m ks) K (some e1) t = some E → (t = K ∧ E = e1) ∨ (t ≠ K ∧ t ∉ ks ∧ m t = some E) := fun t E hE => by
    by_cases hkt : K = t
    · subst hkt; rw [upd_same] at hE; cases hE; exact .inl ⟨rfl, rfl⟩
    · rw [upd_other _ _ hkt] at hE
      refine .inr ⟨fun e => hkt e.symm, ?_⟩
      unfold dropKs at hE
      split at hE
      · cases hE
      · rename_i hc
        exact ⟨fun hq => (by rw [List.contains_iff_mem.2 hq] at hc; cases hc), hE⟩
  refine ⟨h.keep, fun t E hE => ?_, fun t E hE ho b hb => ?_, fun t t' E E' hne hE hE' ho b hb hb' => ?_, fun t E hE b hb => ?_⟩
  · rcases hold t E hE with ⟨_, rfl⟩ | ⟨_, _, h2⟩
    · exact hok
    · exact h.ok t E h2
  · rcases hold t E hE with ⟨_, rfl⟩ | ⟨_, _, h2⟩
    · obtain ⟨e, he, hbe⟩ := hft b hb
      obtain ⟨k, _, h3, h4⟩ := hmem e he
      exact h.mine k e h3 h4 b hbe
    · exact h.mine t E h2 ho b hb
  · rcases hold t E hE with ⟨q1, rfl⟩ | ⟨h1, h2, h3⟩
    · rcases hold t' E' hE' with ⟨q2, rfl⟩ | ⟨g1, g2, g3⟩
      · exact hne (q1.trans q2.symm)
      · obtain ⟨e, he, hbe⟩ := hft b hb
        obtain ⟨k, hk, h4, h5⟩ := hmem e he
        exact h.apart k t' e E' (fun q => g2 (q ▸ hk)) h4 g3 h5 b hbe hb'
    · rcases hold t' E' hE' with ⟨q2, rfl⟩ | ⟨g1, g2, g3⟩
      · obtain ⟨e, he, hbe⟩ := hft b hb'
        obtain ⟨k, hk, h4, h5⟩ := hmem e he
        exact h.apart k t e E (fun q => h2 (q ▸ hk)) h4 h3 h5 b hbe hb
      · exact h.apart t t' E E' hne h3 g3 ho b hb hb'
  · rcases hold t E hE with ⟨_, rfl⟩ | ⟨_, _, h2⟩
    · obtain ⟨e, he, hbe⟩ := hft b hb
      obtain ⟨k, _, h3, _⟩ := hmem e he
      exact h.lie k e h3 b hbe
    · exact h.lie t E h2 b hb

/-! ### The same, of lists of entries -/
section
variable {α : Type} {I : Hd → α → List Ent} {h : Nat → Hd} {L : List α} {i : Nat} {d : α} {w0 w : World} {S : Area} {mem mem' : List (Nat × Ent)} {K : Nat} {nk : List Nat}

end

/-- A call that makes several own entries, as one. -/
theorem CallG.toNB {P : Program} {g : FuncId} {args : Array Value} {X : Type} {v : X → Value} {ro : List Ent} {es' : X → List Ent} {vf : Fr → Value} {efs : Fr → List Ent} {es : List (Option Ent)}
    (h : CallG P g args v [] ro es') (hr : RoFor es ro) (φ : X → Fr) (hv : ∀ x, v x = vf (φ x)) (he : ∀ x, es' x = efs (φ x)) (ho : ∀ x, (es' x).all Ent.own = true) : CallN P g args vf (fun f => bag (efs f)) es := by
  intro w hes
  have hro : ∀ ro, RoFor es ro → ∀ e ∈ ro, e.ok w := by
    intro ro
    induction ro with
    | nil => intro _ e he; cases he
    | cons a r ih =>
      intro hq e he
      rcases List.mem_cons.1 he with rfl | he
      · rcases hq.1 with ⟨E, h1, h2⟩ | hn
        · exact h2.1 w (hes E h1)
        · exact hn.1 w
      · exact ih hq.2 e he
  refine (h w ⟨(fun e he => by cases he), hro ro hr, (fun i j e e' _ hi => by simp at hi), (fun e he => by cases he)⟩).mono fun e w' ⟨x, hx, ht⟩ => ⟨φ x, by rw [hx, hv], ht.keep.mono (fun b _ ⟨e, h1, _⟩ => by cases h1), ?_, ?_⟩
  · have hb := (ht.bag (ho x)).ok _ (List.mem_singleton.2 rfl)
    rw [he] at hb; exact hb
  · intro b hb
    have hb : (bag (es' x)).foot b := by rw [he]; exact hb
    rcases (ht.bag (ho x)).foot _ (List.mem_singleton.2 rfl) b hb with h1 | ⟨e0, h1 | ⟨h1, _⟩, _⟩
    · exact h1
    · cases h1
    · cases h1

end Sx
