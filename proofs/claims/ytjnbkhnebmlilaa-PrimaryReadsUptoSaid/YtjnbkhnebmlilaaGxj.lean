/-
  Models, part 10: lists that are linked.
-/
import Derived.Test.YtjnbkhnebmlilaaGxi
set_option linter.unusedVariables false
set_option linter.unusedSimpArgs false
namespace Sx
open Go Go.RowKit

section
variable {α : Type}
end

section
variable {α : Type} {w0 w : World} {S : Area} {mem mem' : List (Nat × Ent)} {K K1 K2 : Nat} {T : Nat} {X : Hd → Value → α → List Value} {h h2 : Hds} {q : Option Addr} {l m : List α}

end

/-- A cut of an own slice, when the slice itself is given up. -/
theorem own_cut {ob : Option Addr} {cap T sz l hh : Nat} {rows : List (List Value)} (h1 : l ≤ hh) (h2 : hh ≤ cap) : Cov (.osl ob cap T sz rows) (.osl (cutOb ob l cap sz) (cap - l) T sz ((rows.drop l).take (hh - l))) := by
  have hb : cap - l ≠ 0 → blk (cutOb ob l cap sz) = blk ob := fun hn => by
    unfold cutOb
    rw [if_neg (by omega)]
    cases ob with
    | none => rfl
    | some a => obtain ⟨x, y, z⟩ := a; simp [blk, Addr.add]; split <;> rfl
  have hf : ∀ b, (Ent.osl (cutOb ob l cap sz) (cap - l) T sz ((rows.drop l).take (hh - l))).foot b → (Ent.osl ob cap T sz rows).foot b := fun b hq => ⟨by have := hq.1; omega, hq.2.trans (hb hq.1)⟩
  refine ⟨fun w hw => ⟨⟨by simp only [List.length_take, List.length_drop]; omega, fun hn => ?_⟩, fun b hq => hw.2 b (hf b hq)⟩, fun w _ b hq => hf b hq⟩
  obtain ⟨a, arr, ha, hs, hr, hsz, hrow⟩ := hw.1.2 (by omega)
  have ea : a = ⟨a.block, a.off, none⟩ := by obtain ⟨x, y, z⟩ := a; simp only at hs; subst hs; rfl
  refine ⟨⟨a.block, a.off + l * sz, none⟩, arr, ?_, rfl, hr, ?_, ?_⟩
  · unfold cutOb
    rw [if_neg (by omega), ha, Option.map_some, add_none hs]
  · show a.off + l * sz + (cap - l) * sz ≤ arr.size
    have : l * sz + (cap - l) * sz = cap * sz := by rw [← Nat.add_mul]; congr 1; omega
    omega
  · rw [ea] at hrow
    exact hrow.cut

/-! ### The same in one step each -/
section
variable {α : Type} {w0 w : World} {S : Area} {mem mem' : List (Nat × Ent)} {K K1 K2 I I2 KR KI N : Nat} {T : Nat} {X : Hd → Value → α → List Value} {J : Hd → α → List Ent} {h h2 : Hds} {q : Option Addr} {l m : List α} {x : α} {er : Ent}

/-- An own entry is seen as another one. -/
theorem own_cov {e0 e1 : Ent} {K2 : Nat} (keys : List Nat) (hw : Sat w0 S (look mem) w) (hk : look mem K = some e0) (ho : e0.own = true) (hc : Cov e0 e1) (hmem : memOut keys (upd (dropKs (look mem) [K]) K2 (some e1)) = some mem') : Sat w0 S (look mem') w :=
  (hw.join (es := [e0]) (by rw [List.map_cons, List.map_nil, hk]; rfl) (by rw [List.all_cons, ho]; rfl) (hc.1 w (hw.ok K _ hk)) (fun b hb => ⟨e0, List.mem_cons_self .., hc.2 w (hw.ok K _ hk) b hb⟩)).less (memOut_look keys hmem)

end

section
variable {P : Program} {b : Frame} {n : Nat} {w0 : World} {S : Area} {R : Ending → World → Prop} {k : List Item}
end
end Sx
