/-
  CHAPTER 01: the contracts of the library's functions that an engine of digests calls: sync.Once.Do, sync/atomic's Int64.
-/
import Derived.Test.YtjnbkhnebmlilaaGreatM18o
import Derived.Tactics
import Derived.Tactics2
import Derived.Defers
import Derived.Laws.Pointers
import Derived.Laws.LoneSync
import Derived.RegionTactic
import Derived.RegionCalls
import Derived.ChangeAlike
set_option linter.unusedVariables false
set_option linter.unusedSimpArgs false
namespace Go.Proofs.YtjnbkhnebmlilaaGreat
open Go Go.RowKit Sx

theorem cells_frozen {w : World} {b T : Nat} {vs : List Value} (h : (Ent.cells b T vs).ok w) {i : Nat} (hi : i < vs.length) : w.frozen? ⟨b, i, none⟩ = false := by
  obtain ⟨lo, hh, h1, h2⟩ := h.1
  have := h2.2.1 i (by simpa using hi)
  simp only [World.frozen?, h1]
  simpa using this
theorem cells_cell {w : World} {b T : Nat} {vs : List Value} (h : (Ent.cells b T vs).ok w) (i : Nat) : w.cell? ⟨b, i, none⟩ = vs[i]? := by
  have h1 : RowIn w b vs.toArray T := h.1
  rw [h1.cell]; simp
theorem cells_set {w : World} {b T : Nat} {vs : List Value} (h : (Ent.cells b T vs).ok w) (i : Nat) (v : Value) : (Ent.cells b T (vs.set i v)).ok (w.setCell ⟨b, i, none⟩ v) ∧ Keep (fun k => k = b) w (w.setCell ⟨b, i, none⟩ v) := by
  obtain ⟨lo, hh, h1, h2⟩ := h.1
  rw [setCell_eq_setRow w b i vs.toArray T (lo, hh) v h1]
  have hk : Keep (fun k => k = b) w (w.setRow b (vs.toArray.setIfInBounds i v)) := setRow_keep
  refine ⟨⟨?_, fun k hkb => Nat.lt_of_lt_of_le (h.2 k hkb) hk.size⟩, hk⟩
  have : RowIn (w.setRow b (vs.toArray.setIfInBounds i v)) b (vs.toArray.setIfInBounds i v) T := RowIn.setRow ⟨lo, hh, h1, h2⟩ (by simp)
  show RowIn _ b (vs.set i v).toArray T
  rwa [← List.setIfInBounds_toArray]
theorem cells_drew {w : World} {b T : Nat} {vs : List Value} (h : (Ent.cells b T vs).ok w) : (Ent.cells b T vs).ok w.drew :=
  ⟨RowIn.of_same h.1 rfl, h.2⟩
theorem keep_drew (S : Nat → Prop) (w : World) : Keep S w w.drew := ⟨rfl, rfl, rfl, Nat.le_refl _, fun _ _ _ => rfl⟩
theorem keep_tr {S : Nat → Prop} {a b c : World} (h : Keep S a b) (h' : Keep S b c) : Keep S a c := h.trans h' (fun _ _ x => x)

theorem turns_cells {w w' : World} {b T : Nat} {vs vs' : List Value} (hk : Keep (fun k => k = b) w w') (h : (Ent.cells b T vs').ok w') : TurnsG [.cells b T vs] [] [.cells b T vs'] w w' := by
  refine ⟨hk.mono fun k _ hkb => ⟨_, List.mem_singleton.2 rfl, hkb⟩, fun e he => ?_, fun e he k hk => ?_, fun i j e e' hne hi hj => ?_⟩
  · rw [List.mem_singleton.1 he]; exact h
  · rw [List.mem_singleton.1 he] at hk
    exact .inr ⟨_, .inl (List.mem_singleton.2 rfl), hk⟩
  · have h1 := (List.getElem?_eq_some_iff.1 hi).1
    have h2 := (List.getElem?_eq_some_iff.1 hj).1
    simp at h1 h2
    omega

/-- An engine's cells. -/
abbrev ecells (d st se : Int) (L : List Int) (c : Int) : List Value := [.int .u32 d, .int .i32 st, .int .u32 se] ++ (aU32 L ++ [.int .i64 c])
theorem ecells_last {d st se c : Int} {L : List Int} (h : L.length = 256) : (ecells d st se L c)[259]? = some (.int .i64 c) := by
  rw [List.getElem?_append_right (by simp), List.getElem?_append_right (by rw [aU32_len]; simp; omega)]
  rw [aU32_len]
  have : 259 - [Value.int .u32 d, .int .i32 st, .int .u32 se].length - L.length = 0 := by simp; omega
  rw [this]; rfl
theorem ecells_len {d st se c : Int} {L : List Int} (h : L.length = 256) : (ecells d st se L c).length = 260 := by
  simp [aU32_len]; omega
theorem ecells_setlast {d st se c c' : Int} {L : List Int} (h : L.length = 256) : (ecells d st se L c).set 259 (.int .i64 c') = ecells d st se L c' := by
  rw [List.set_append_right _ _ (by simp), List.set_append_right _ _ (by rw [aU32_len]; simp; omega)]
  rw [aU32_len]
  have : 259 - [Value.int .u32 d, .int .i32 st, .int .u32 se].length - L.length = 0 := by simp; omega
  rw [this]; rfl

theorem good_one {w : World} {e : Ent} (h : GoodG [e] [] w) : e.ok w := h.ok e (List.mem_singleton.2 rfl)

theorem add_ok (b : Nat) (d st se : Int) (L : List Int) (c y : Int) (h : L.length = 256) :
    CallG Tryz.prog 109 #[.pointer (some ⟨b, 259, none⟩), .int .i64 y] (fun _ : Unit => .int .i64 (IntKind.i64.wrap (c + y))) [.cells b 190 (ecells d st se L c)] [] (fun _ : Unit => [.cells b 190 (ecells d st se L (IntKind.i64.wrap (c + y)))]) := by
  intro w hg
  have hE := good_one hg
  have hc := (cells_cell hE 259).trans (ecells_last h)
  have hz := cells_frozen hE (i := 259) (by rw [ecells_len h]; omega)
  obtain ⟨s, hs⟩ : ∃ s, s = IntKind.i64.wrap (c + y) := ⟨_, rfl⟩
  have hadd := run_call_add (P := Tryz.prog) Tryz.func118 (by kernel_rfl) (by kernel_rfl) (by kernel_rfl) .i64 (by kernel_rfl) (y := y) (s := s) hc hz (by rw [hs]; simp [go_sem])
  rw [← hs]
  have key : Calls Tryz.prog 109 #[.pointer (some ⟨b, 259, none⟩), .int .i64 y] w fun e w' => e = .returned (.int .i64 s) ∧ w' = w.setCell ⟨b, 259, none⟩ (.int .i64 s) := by
    have hs' : wrap64 (c + y) = s := by rw [hs, IntKind.wrap_i64]; unfold wrap64; rfl
    go_enter Tryz.func109, Tryz.ntmps109
    go_wp2
    go_ret
    exact ⟨by rw [hs']; rfl, by rw [hs']⟩
  refine key.mono fun e w' ⟨he, hw⟩ => ⟨(), he, ?_⟩
  subst hw
  have := cells_set hE 259 (.int .i64 s)
  rw [ecells_setlast h] at this
  exact turns_cells this.2 this.1

end Go.Proofs.YtjnbkhnebmlilaaGreat
