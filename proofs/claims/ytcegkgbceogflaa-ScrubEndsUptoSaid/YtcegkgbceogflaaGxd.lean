/-
  Models, part 4: arrays whose places are variables; entries that lie in others.
-/
import Derived.Test.YtcegkgbceogflaaGxc
set_option linter.unusedVariables false
set_option linter.unusedSimpArgs false
namespace Sx
open Go Go.RowKit

theorem Cov.trans {a b c : Ent} (h : Cov a b) (h' : Cov b c) : Cov a c :=
  ⟨fun w hw => h'.1 w (h.1 w hw), fun w hw k hk => h.2 w hw k (h'.2 w (h.1 w hw) k hk)⟩
/-- An entry that says a plain fact. -/
@[reducible] def Ent.fact (p : Prop) : Ent := .say false (fun _ => False) (fun _ => p) (fun _ _ _ h => h)
theorem Sat.addFact {w0 : World} {S : Area} {mem mem' : List (Nat × Ent)} {w : World} {k : Nat} {p : Prop} (h : Sat w0 S (look mem) w) (hm : mem' = mem ++ [(k, Ent.fact p)]) (hp : p) : Sat w0 S (look mem') w := by
  subst hm
  have happ : ∀ (l : List (Nat × Ent)) (t : Nat) (e : Ent), look (l ++ [(k, Ent.fact p)]) t = some e → look l t = some e ∨ e = Ent.fact p := by
    intro l
    induction l with
    | nil =>
      intro t e he
      simp only [List.nil_append, look] at he
      split at he
      · exact .inr (Option.some.inj he).symm
      · cases he
    | cons x l ih =>
      intro t e he
      simp only [List.cons_append, look] at he ⊢
      split at he
      · exact .inl he
      · exact ih t e he
  refine ⟨h.keep, fun t e he => ?_, fun t e he ho b hb => ?_, fun t t' e e' hne he he' ho b hb hb' => ?_, fun t e he b hb => ?_⟩
  · rcases happ _ _ _ he with h1 | rfl
    · exact h.ok t e h1
    · exact ⟨hp, fun b hb => hb.elim⟩
  · rcases happ _ _ _ he with h1 | rfl
    · exact h.mine t e h1 ho b hb
    · exact hb.elim
  · rcases happ _ _ _ he with h1 | rfl
    · rcases happ _ _ _ he' with h2 | rfl
      · exact h.apart t t' e e' hne h1 h2 ho b hb hb'
      · exact hb'.elim
    · exact hb.elim
  · rcases happ _ _ _ he with h1 | rfl
    · exact h.lie t e h1 b hb
    · exact hb.elim

end Sx
