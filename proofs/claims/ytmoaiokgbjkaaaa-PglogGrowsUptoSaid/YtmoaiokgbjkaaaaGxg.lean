/-
  Models, part 7: slices whose elements hold slices.
-/
import Derived.Test.YtmoaiokgbjkaaaaGxf
set_option linter.unusedVariables false
set_option linter.unusedSimpArgs false
namespace Sx
open Go Go.RowKit

/-! ### Rows that tell where inner slices lie -/

/-- Where an element's slices lie: by their number. -/
abbrev Hd := Nat → Option Addr × Nat
abbrev Hds := Nat → Hd
section
variable {α : Type} (R : Hd → α → List Value)
end

/-! ### The inner entries -/
section
variable {α : Type} (I : Hd → α → List Ent)
end

/-! ### Own entries into several, and several into one -/

theorem Sat.split {w0 w : World} {S : Area} {m : Mem} {K : Nat} {e0 : Ent} (h : Sat w0 S m w) (hk : m K = some e0) (ho : e0.own = true) {nk : List Nat} {es : List Ent} (hnd : nk.Nodup) (hlen : nk.length = es.length)
    (hok : ∀ e ∈ es, e.ok w) (hft : ∀ e ∈ es, ∀ b, e.foot b → e0.foot b) (hap : ∀ (i j : Nat) (e e' : Ent), i ≠ j → es[i]? = some e → es[j]? = some e' → ∀ b, e.foot b → ¬ e'.foot b) :
    Sat w0 S (setAll (upd m K none) nk es) w := by
  have hat : ∀ t E, setAll (upd m K none) nk es t = some E → (∃ i, nk[i]? = some t ∧ es[i]? = some E) ∨ (t ≠ K ∧ m t = some E) := fun t E hE => by
    rcases setAll_at _ _ _ t E hlen hnd hE with ⟨i, h1, h2⟩ | ⟨h1, h2⟩
    · exact .inl ⟨i, h1, h2⟩
    · refine .inr ?_
      by_cases hkt : K = t
      · subst hkt; rw [upd_same] at h2; cases h2
      · rw [upd_other _ _ hkt] at h2; exact ⟨fun e => hkt e.symm, h2⟩
  have hin : ∀ {i : Nat} {E : Ent}, es[i]? = some E → ∀ b, E.foot b → e0.foot b := fun hi b hb => hft _ (List.mem_of_getElem? hi) b hb
  refine ⟨h.keep, fun t E hE => ?_, fun t E hE ho b hbE => ?_, fun t t' E E' hne hE hE' ho b hbE hbE' => ?_, fun t E hE b hbE => ?_⟩
  · rcases hat t E hE with ⟨i, _, h2⟩ | ⟨_, h2⟩
    · exact hok E (List.mem_of_getElem? h2)
    · exact h.ok t E h2
  · rcases hat t E hE with ⟨i, _, h2⟩ | ⟨_, h2⟩
    · exact h.mine K _ hk ‹_› b (hin h2 b hbE)
    · exact h.mine t E h2 ho b hbE
  · rcases hat t E hE with ⟨i, h1, h2⟩ | ⟨h1, h2⟩
    · rcases hat t' E' hE' with ⟨j, g1, g2⟩ | ⟨g1, g2⟩
      · exact hap i j E E' (fun e => by subst e; rw [h1] at g1; exact hne (Option.some.inj g1)) h2 g2 b hbE hbE'
      · exact h.apart K t' _ E' (Ne.symm g1) hk g2 ‹_› b (hin h2 b hbE) hbE'
    · rcases hat t' E' hE' with ⟨j, g1, g2⟩ | ⟨g1, g2⟩
      · exact h.apart K t _ E (Ne.symm h1) hk h2 ‹_› b (hin g2 b hbE') hbE
      · exact h.apart t t' E E' hne h2 g2 ho b hbE hbE'
  · rcases hat t E hE with ⟨i, _, h2⟩ | ⟨_, h2⟩
    · exact h.lie K _ hk b (hin h2 b hbE)
    · exact h.lie t E h2 b hbE

/-! ### The same, of lists of entries -/
section
variable {α : Type} {I : Hd → α → List Ent} {h : Nat → Hd} {L : List α} {i : Nat} {d : α} {w0 w : World} {S : Area} {mem mem' : List (Nat × Ent)} {K : Nat} {nk : List Nat}

end

end Sx
