/-
  Models, part 8: closed runs (rows that are written out).
-/
import Derived.Test.YtjnbkhnebmlilaaGxg
set_option linter.unusedVariables false
set_option linter.unusedSimpArgs false
namespace Sx
open Go Go.RowKit
theorem ne_rd {ob : Option Addr} {sz : Nat} {r : List Value} {rows : List (List Value)} {w : World} (h : (Ent.rd ob sz (r :: rows)).ok w) : ob.isNone = false := by
  obtain ⟨a, ha, _⟩ := h.1 (by simp)
  rw [ha]; rfl
theorem ne_osl {ob : Option Addr} {cap T sz : Nat} {r : List Value} {rows : List (List Value)} {w : World} (h : (Ent.osl ob cap T sz (r :: rows)).ok w) : ob.isNone = false := ne_rd (Ent.osl_rd h)

/-- A call that makes one new entry, wherever it lies. -/
theorem CallG.toN1 {P : Program} {g : FuncId} {args : Array Value} {X : Type} {v : X → Value} {ro : List Ent} {e1 : X → Ent} {vf : Fr → Value} {ef : Fr → Ent} {es : List (Option Ent)}
    (h : CallG P g args v [] ro (fun x => [e1 x])) (hr : RoFor es ro) (φ : X → Fr) (hv : ∀ x, v x = vf (φ x)) (he : ∀ x, e1 x = ef (φ x)) (ho : ∀ x, (e1 x).own = true) : CallN P g args vf ef es := by
  intro w hes
  have hro : ∀ ro, RoFor es ro → ∀ e ∈ ro, e.ok w := by
    intro ro
    induction ro with
    | nil => intro _ e he; cases he
    | cons a r ih =>
      intro hq e he
      rcases List.mem_cons.1 he with rfl | he
      · rcases hq.1 with ⟨E, h1, h2⟩ | hn
        · exact h2.1 w (hes E h1)
        · exact hn.1 w
      · exact ih hq.2 e he
  refine (h w ⟨(fun e he => by cases he), hro ro hr, (fun i j e e' _ hi => by simp at hi), (fun e he => by cases he)⟩).mono fun e w' ⟨x, hx, ht⟩ => ⟨φ x, by rw [hx, hv], ht.keep.mono (fun b _ ⟨e, h1, _⟩ => by cases h1), ?_, ?_⟩
  · rw [← he]; exact ht.ok _ (by simp)
  · intro b hb
    rw [← he] at hb
    rcases ht.foot _ (List.mem_singleton.2 rfl) b hb with h1 | ⟨e0, h1 | ⟨h1, _⟩, _⟩
    · exact h1
    · cases h1
    · rw [ho] at h1; cases h1

/-- A cell of a call's argument. -/
def argCell (args : Array Value) (q i : Nat) : Value := match args.toList[q]? with
  | some (.agg cs) => cs.toList.getD i undef
  | some v => v
  | none => undef
end Sx
