/-
  The engine, part 9: more that memory tells.
-/
import Derived.Test.YtmdfkklldbfocaaSxh
set_option linter.unusedVariables false
namespace Sx
open Go Go.RowKit

theorem look_append {l : List (Nat × Ent)} {k t : Nat} {x e : Ent} (h : look (l ++ [(k, x)]) t = some e) : look l t = some e ∨ e = x := by
  induction l with
  | nil =>
    simp only [List.nil_append, look] at h
    split at h
    · exact .inr (Option.some.inj h).symm
    · cases h
  | cons y l ih =>
    simp only [List.cons_append, look] at h ⊢
    split at h
    · exact .inl h
    · exact ih h

/-- The first ones of rows that are read, or some of them from the same place on. -/
theorem Sat.addRd {w0 : World} {S : Area} {mem mem' : List (Nat × Ent)} {w : World} {k k0 sz : Nat} {ob : Option Addr} {rows rows' : List (List Value)} (h : Sat w0 S (look mem) w) (hk : look mem k0 = some (.rd ob sz rows))
    (hsub : ∀ (i : Nat) (r : List Value), rows'[i]? = some r → rows[i]? = some r) (hm : mem' = mem ++ [(k, .rd ob sz rows')]) : Sat w0 S (look mem') w := by
  subst hm
  have hne : rows' ≠ [] → rows ≠ [] := fun hn he => by
    cases rows' with
    | nil => exact hn rfl
    | cons r _ => have := hsub 0 r rfl; rw [he] at this; cases this
  have hfoot : ∀ b, (Ent.rd ob sz rows').foot b → (Ent.rd ob sz rows).foot b := fun b hb => ⟨hne hb.1, hb.2⟩
  have hok : (Ent.rd ob sz rows').ok w := by
    have h0 := h.ok k0 _ hk
    refine ⟨fun hn => ?_, fun b hb => h0.2 b (hfoot b hb)⟩
    obtain ⟨a, h1, h2, h3⟩ := h0.1 (hne hn)
    exact ⟨a, h1, h2, fun i r hr => h3 i r (hsub i r hr)⟩
  refine ⟨h.keep, fun t e he => ?_, fun t e he ho b hb => ?_, fun t t' e e' hn he he' ho b hb hb' => ?_, fun t e he b hb => ?_⟩
  · rcases look_append he with h1 | rfl
    · exact h.ok t e h1
    · exact hok
  · rcases look_append he with h1 | rfl
    · exact h.mine t e h1 ho b hb
    · cases ho
  · rcases look_append he with h1 | rfl
    · rcases look_append he' with h2 | rfl
      · exact h.apart t t' e e' hn h1 h2 ho b hb hb'
      · by_cases htk : t = k0
        · subst htk; rw [hk] at h1; cases h1; cases ho
        · exact h.apart t k0 e _ htk h1 hk ho b hb (hfoot b hb')
    · cases ho
  · rcases look_append he with h1 | rfl
    · exact h.lie t e h1 b hb
    · exact h.lie k0 _ hk b (hfoot b hb)

theorem cut_zero (ob : Option Addr) (h m sz : Nat) : Value.slice (if m = 0 then ob else ob.map (fun a => a.add (0 * sz))) (h - 0) (m - 0) = Value.slice ob h m := by
  have : ob.map (fun a => a.add (0 * sz)) = ob := by
    cases ob with
    | none => rfl
    | some a => simp [Addr.add]
  rw [this]
  simp

end Sx
