/-
  CHAPTER 24: strconv.Itoa and strconv.Atoi as contracts of the engine; what they read of the package's variables.
-/
import Derived.Test.YtfdojammchbboaaDoorS24
import Derived.Test.YtfdojammchbboaaDoorS24d
set_option linter.unusedVariables false
set_option linter.unusedSimpArgs false
set_option maxRecDepth 100000
namespace Go.Proofs.YtfdojammchbboaaDoor
open Go Go.RowKit Sx

def okE (v : Value) : Prop := v = .nilIface ∨ ∃ te pe, v = .iface te pe
def glob24P (w : World) : Prop := Lib.TabIs Tryd.prog w "internal/strconv.uint64pow10" .u64 Lib.pow10Tab ∧ (∃ v, w.cell? ⟨1, 0, none⟩ = some v ∧ okE v) ∧ (∃ v, w.cell? ⟨2, 0, none⟩ = some v ∧ okE v)
theorem named24 : Tryd.prog.globalNamed "internal/strconv.uint64pow10" = some 3 := by kernel_rfl
theorem glob24S : Stable (fun b => b = 1 ∨ b = 2 ∨ b = 3) glob24P := by
  intro w w' h ⟨h1, h2, h3⟩
  refine ⟨?_, ?_, ?_⟩
  · unfold Lib.TabIs World.var? at *
    rw [named24] at *
    simp only [Option.bind_some] at *
    rw [h 3 (.inr (.inr rfl))]
    exact h1
  · obtain ⟨v, hv, hk⟩ := h2
    exact ⟨v, by rw [← hv]; simp only [World.cell?, h 1 (.inl rfl)], hk⟩
  · obtain ⟨v, hv, hk⟩ := h3
    exact ⟨v, by rw [← hv]; simp only [World.cell?, h 2 (.inr (.inl rfl))], hk⟩
/-- The variables that strconv reads. -/
@[reducible] def glob24 : Ent := .say false (fun b => b = 1 ∨ b = 2 ∨ b = 3) glob24P glob24S

theorem turns_none {ro : List Ent} {w w' : World} (h : Below w.heap.size w w') : TurnsG [] ro [] w w' :=
  ⟨(Keep.of_below h).mono fun _ _ f => f.elim, fun e he => (by cases he), fun e he => (by cases he), fun i j e e' _ hi => (by simp at hi)⟩

theorem call_itoa (n : Int) (h : I64 n) : CallG Tryd.prog 39 #[.int .i64 n] (fun _ : Unit => .string (ByteArray.mk (Lib.itoa n).toArray)) [] [glob24] (fun _ => []) := by
  intro w hg
  have hT := (hg.rok _ (List.mem_singleton.2 rfl)).1.1
  refine Calls.mono (f := 39) (Any.strconv_Itoa laysItoa n h.1 h.2 w hT) fun e w' ⟨he, k, os, hw⟩ => ⟨(), he, turns_none ?_⟩
  subst hw
  exact ⟨rfl, rfl, rfl, by simp [Sort.grow, World.drewN], fun b hb => by simp only [Sort.grow, World.drewN]; exact Array.getElem?_append_left hb⟩

theorem call_atoi_ok (s : ByteArray) (hm : s.size ≤ 281474976710656) (h : atok s = true) : CallG Tryd.prog 38 #[.string s] (fun _ : Unit => .tuple #[.int .i64 (atoiV s), .nilIface]) [] [] (fun _ => []) := by
  intro w hg
  unfold atok at h
  unfold atoiV
  cases hr : Lib.atoiAll s.data.toList with
  | ok v =>
    refine Calls.mono (f := 38) (Any.strconv_Atoi_ok laysAtoi s (by omega) v hr w) fun e w' ⟨he, hw⟩ => ⟨(), he, turns_none ?_⟩
    rcases hw with rfl | ⟨t, rfl⟩
    · exact Below.refl _ _
    · exact Lib.bytesWorld_below _ _ _
  | _ => rw [hr] at h; cases h

theorem call_atoi_err (s : ByteArray) (hm : s.size ≤ 281474976710656) (h : atok s = false) :
    CallG Tryd.prog 38 #[.string s] (fun x : Nat => .tuple #[.int .i64 (atoiV s), .iface (laysAtoi_ren.t 168) (.pointer (some ⟨x, 0, none⟩))]) [] [glob24] (fun _ => []) := by
  intro w hg
  obtain ⟨_, ⟨v1, c1, k1⟩, ⟨v2, c2, k2⟩⟩ := (hg.rok _ (List.mem_singleton.2 rfl)).1
  unfold atok at h
  unfold atoiV
  cases hr : Lib.atoiAll s.data.toList with
  | ok v => rw [hr] at h; cases h
  | range =>
    refine Calls.mono (f := 38) (Any.strconv_Atoi_range laysAtoi s hm hr v2 w c2 k2) fun e w' ⟨N, he, _, _, hb⟩ => ⟨N, he, turns_none hb⟩
  | _ =>
    refine Calls.mono (f := 38) (Any.strconv_Atoi_syntax laysAtoi s hm hr v1 w c1 k1) fun e w' ⟨N, he, _, _, hb⟩ => ⟨N, he, turns_none hb⟩
end Go.Proofs.YtfdojammchbboaaDoor
