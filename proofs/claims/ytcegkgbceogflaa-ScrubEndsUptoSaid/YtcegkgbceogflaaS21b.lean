/-
  CHAPTER 21: slices.Sort at []string and []int, as contracts of the engine.
-/
import Derived.Test.YtcegkgbceogflaaS21
import Derived.Test.YtcegkgbceogflaaS21d
import Derived.Shelf.Slices.In.SortNone
set_option linter.unusedVariables false
set_option linter.unusedSimpArgs false
set_option maxRecDepth 100000
namespace Go.Proofs.Ytcegkgbceogflaa
open Go Go.RowKit Go.Sort Sx


theorem turns_one {e e' : Ent} {w w' : World} (hk : Keep e.foot w w') (h : e'.ok w') (hf : ∀ b, e'.foot b → e.foot b) : TurnsG [e] [] [e'] w w' := by
  refine ⟨hk.mono fun k _ hkb => ⟨_, List.mem_singleton.2 rfl, hkb⟩, fun x hx => ?_, fun x hx k hk => ?_, fun i j x x' hne hi hj => ?_⟩
  · rw [List.mem_singleton.1 hx]; exact h
  · rw [List.mem_singleton.1 hx] at hk
    exact .inr ⟨_, .inl (List.mem_singleton.2 rfl), hf _ hk⟩
  · have h1 := (List.getElem?_eq_some_iff.1 hi).1
    have h2 := (List.getElem?_eq_some_iff.1 hj).1
    simp at h1 h2
    omega

theorem heap_putRow {w : World} {blk off n : Nat} {d : Array (List UInt8)} {os : Array Obj} {arr : Array Value} {T : TypeId} {fr : Nat × Nat} (h : w.heap[blk]? = some (.cells arr T fr)) :
    (grow (putRow encStr (Sort.ahead w n) blk off d) os).heap[blk]? = some (.cells (putCells encStr off d arr) T fr) := by
  have hb := (Array.getElem?_eq_some_iff.1 h).1
  rw [heap_grow_old _ _ (by simpa using hb)]
  simp only [putRow, mapBlock, Sort.heap_ahead, Array.getElem?_modify, if_true, h, Option.map_some, onCells]

theorem keep_putRow (w : World) (blk off n : Nat) (d : Array (List UInt8)) (os : Array Obj) : Keep (fun k => k = blk) w (grow (putRow encStr (Sort.ahead w n) blk off d) os) := by
  refine ⟨rfl, rfl, rfl, by simp, fun b hb hn => ?_⟩
  rw [heap_grow_old _ _ (by simpa using hb)]
  simp only [putRow, mapBlock, Sort.heap_ahead, Array.getElem?_modify]
  rw [if_neg (fun h => hn h.symm)]

theorem osl_putRow {w : World} {a : Addr} {cap T : Nat} {l : List ByteArray} {n : Nat} {os : Array Obj} (z1 z2 : List (List UInt8)) (hz : z1.length + z2.length = l.length)
    (h : (Ent.osl (some a) cap T 1 (l.map rS)).ok w) (hc : cap ≠ 0) :
    (Ent.osl (some a) cap T 1 ((z1.map fun b => (⟨b.toArray⟩ : ByteArray)).map rS)).ok (grow (putRow encStr (Sort.ahead w n) a.block a.off (z1 ++ z2).toArray) os) := by
  obtain ⟨⟨hl, hh⟩, hlt⟩ := h
  obtain ⟨a', arr, he, hs, ⟨lo, hi, hb, hle, hf⟩, hsz, hr⟩ := hh hc
  obtain rfl := Option.some.inj he
  simp only [List.length_map] at hl
  have hb2 := heap_putRow (n := n) (off := a.off) (d := (z1 ++ z2).toArray) (os := os) hb
  have hrow : RowIn (grow (putRow encStr (Sort.ahead w n) a.block a.off (z1 ++ z2).toArray) os) a.block (putCells encStr a.off (z1 ++ z2).toArray arr) T := ⟨lo, hi, hb2, hle, fun i hi => hf.1 i (by simpa [putCells] using hi), hf.2⟩
  refine ⟨⟨by simp; omega, fun _ => ⟨a, _, rfl, hs, hrow, by simpa [putCells] using hsz, ?_⟩⟩, fun b hb => ?_⟩
  · intro i r hir
    simp only [List.getElem?_map, Option.map_eq_some_iff] at hir
    obtain ⟨x, ⟨y, hy, rfl⟩, rfl⟩ := hir
    refine ⟨rfl, fun c v hv => ?_⟩
    obtain ⟨hi1, hy1⟩ := List.getElem?_eq_some_iff.1 hy
    have hc0 : c = 0 := by
      cases c with
      | zero => rfl
      | succ c => simp [rS] at hv
    subst hc0
    simp only [rS, List.getElem?_cons_zero, Option.some.injEq] at hv
    refine (hrow.cell _).trans ?_
    simp only [putCells, Array.getElem?_mapIdx]
    rw [Array.getElem?_eq_getElem (by omega)]
    simp only [Option.map_some]
    rw [if_pos ⟨by omega, by simp; omega⟩]
    rw [show a.off + (i * 1 + 0) - a.off = i by omega]
    have : (z1 ++ z2).toArray[i]! = y := by
      rw [getElem!_pos _ i (by simp; omega)]
      simp [List.getElem_append_left hi1, hy1]
    rw [this, ← hv]
  · have hb0 := hlt b ⟨hc, hb.2⟩
    simp
    omega

theorem osl_holds {w : World} {a : Addr} {cap T : Nat} {l : List ByteArray} (h : (Ent.osl (some a) cap T 1 (l.map rS)).ok w) (hc : cap ≠ 0) : a.spot = none ∧ Holds encStr w a.block a.off (l.map fun s => s.data.toList).toArray := by
  obtain ⟨⟨hl, hh⟩, hlt⟩ := h
  obtain ⟨a', arr, he, hs, ⟨lo, hi, hb, hle, hf⟩, hsz, hr⟩ := hh hc
  obtain rfl := Option.some.inj he
  simp only [List.length_map] at hl
  refine ⟨hs, fun j hj => ?_⟩
  simp only [List.size_toArray, List.length_map] at hj
  have h1 := (hr j (rS l[j]) (by simp [hj])).2 0 (.string l[j]) rfl
  refine ⟨?_, ?_⟩
  · rw [show a.off + j = a.off + (j * 1 + 0) by omega, h1, getElem!_pos _ j (by simpa using hj)]
    simp [encStr]
  · have := hf.1 (a.off + j) (by omega)
    simp only [World.frozen?, hb]
    simpa using this

theorem call_sort (ob : Option Addr) (cap T : Nat) (l : List ByteArray) (hl : l.length < 4611686018427387904) :
    CallG Try.prog 31 #[.slice ob l.length cap] (fun _ : Unit => .tuple #[]) [.osl ob cap T 1 (l.map rS)] [] (fun _ : Unit => [.osl ob cap T 1 ((ssort l).map rS)]) := by
  intro w hg
  have hE := hg.ok _ (List.mem_singleton.2 rfl)
  by_cases hn : l = []
  · subst hn
    refine Calls.mono (f := 31) (Any.slices_Sort_string_none laysSort ob cap w) fun e w' ⟨he, hw⟩ => ⟨(), he, ?_⟩
    subst hw
    exact turns_one (Keep.refl _ _) (by rw [show ssort [] = [] by simp [ssort]]; exact hE) (fun _ h => h)
  · have hc : cap ≠ 0 := by
      intro h0
      have := hE.1.1
      rw [h0, List.length_map] at this
      exact hn (List.eq_nil_of_length_eq_zero (by omega))
    obtain ⟨a, arr, rfl, hs, hrow, _⟩ := hE.1.2 hc
    obtain ⟨_, hH⟩ := osl_holds hE hc
    obtain ⟨b, o, sp⟩ := a
    simp only at hs
    subst hs
    have := Any.slices_Sort_string laysSort b o cap (l.map fun s : ByteArray => s.data.toList) w hH hrow.lt (by simpa using hl)
    rw [List.length_map] at this
    refine this.mono fun e w' ⟨he, n, os, hw⟩ => ⟨(), he, ?_⟩
    subst hw
    refine turns_one ((keep_putRow w b o n _ os).mono fun k _ hk => ⟨hc, hk⟩) ?_ (fun _ h => h)
    have := osl_putRow (n := n) (os := os) ((l.map fun s => s.data.toList).mergeSort fun x y => decide (x ≤ y)) [] (by simp) hE hc
    rw [List.append_nil] at this
    exact this


/-! The same of numbers. -/

theorem heap_putRowI {w : World} {blk off n : Nat} {d : Array Int} {os : Array Obj} {arr : Array Value} {T : TypeId} {fr : Nat × Nat} (h : w.heap[blk]? = some (.cells arr T fr)) :
    (grow (putRow (Value.int .i64) (Sort.ahead w n) blk off d) os).heap[blk]? = some (.cells (putCells (Value.int .i64) off d arr) T fr) := by
  have hb := (Array.getElem?_eq_some_iff.1 h).1
  rw [heap_grow_old _ _ (by simpa using hb)]
  simp only [putRow, mapBlock, Sort.heap_ahead, Array.getElem?_modify, if_true, h, Option.map_some, onCells]

theorem keep_putRowI (w : World) (blk off n : Nat) (d : Array Int) (os : Array Obj) : Keep (fun k => k = blk) w (grow (putRow (Value.int .i64) (Sort.ahead w n) blk off d) os) := by
  refine ⟨rfl, rfl, rfl, by simp, fun b hb hn => ?_⟩
  rw [heap_grow_old _ _ (by simpa using hb)]
  simp only [putRow, mapBlock, Sort.heap_ahead, Array.getElem?_modify]
  rw [if_neg (fun h => hn h.symm)]

theorem osl_putRowI {w : World} {a : Addr} {cap T : Nat} {l : List Int} {n : Nat} {os : Array Obj} (z1 z2 : List Int) (hz : z1.length + z2.length = l.length)
    (h : (Ent.osl (some a) cap T 1 (l.map rI)).ok w) (hc : cap ≠ 0) :
    (Ent.osl (some a) cap T 1 (z1.map rI)).ok (grow (putRow (Value.int .i64) (Sort.ahead w n) a.block a.off (z1 ++ z2).toArray) os) := by
  obtain ⟨⟨hl, hh⟩, hlt⟩ := h
  obtain ⟨a', arr, he, hs, ⟨lo, hi, hb, hle, hf⟩, hsz, hr⟩ := hh hc
  obtain rfl := Option.some.inj he
  simp only [List.length_map] at hl
  have hb2 := heap_putRowI (n := n) (off := a.off) (d := (z1 ++ z2).toArray) (os := os) hb
  have hrow : RowIn (grow (putRow (Value.int .i64) (Sort.ahead w n) a.block a.off (z1 ++ z2).toArray) os) a.block (putCells (Value.int .i64) a.off (z1 ++ z2).toArray arr) T := ⟨lo, hi, hb2, hle, fun i hi => hf.1 i (by simpa [putCells] using hi), hf.2⟩
  refine ⟨⟨by simp; omega, fun _ => ⟨a, _, rfl, hs, hrow, by simpa [putCells] using hsz, ?_⟩⟩, fun b hb => ?_⟩
  · intro i r hir
    simp only [List.getElem?_map, Option.map_eq_some_iff] at hir
    obtain ⟨y, hy, rfl⟩ := hir
    refine ⟨rfl, fun c v hv => ?_⟩
    obtain ⟨hi1, hy1⟩ := List.getElem?_eq_some_iff.1 hy
    have hc0 : c = 0 := by
      cases c with
      | zero => rfl
      | succ c => simp [rI] at hv
    subst hc0
    simp only [rI, List.getElem?_cons_zero, Option.some.injEq] at hv
    refine (hrow.cell _).trans ?_
    simp only [putCells, Array.getElem?_mapIdx]
    rw [Array.getElem?_eq_getElem (by omega)]
    simp only [Option.map_some]
    rw [if_pos ⟨by omega, by simp; omega⟩]
    rw [show a.off + (i * 1 + 0) - a.off = i by omega]
    have : (z1 ++ z2).toArray[i]! = y := by
      rw [getElem!_pos _ i (by simp; omega)]
      simp [List.getElem_append_left hi1, hy1]
    rw [this, ← hv]
  · have hb0 := hlt b ⟨hc, hb.2⟩
    simp
    omega

theorem osl_holdsI {w : World} {a : Addr} {cap T : Nat} {l : List Int} (h : (Ent.osl (some a) cap T 1 (l.map rI)).ok w) (hc : cap ≠ 0) : a.spot = none ∧ Holds (Value.int .i64) w a.block a.off l.toArray := by
  obtain ⟨⟨hl, hh⟩, hlt⟩ := h
  obtain ⟨a', arr, he, hs, ⟨lo, hi, hb, hle, hf⟩, hsz, hr⟩ := hh hc
  obtain rfl := Option.some.inj he
  simp only [List.length_map] at hl
  refine ⟨hs, fun j hj => ?_⟩
  simp only [List.size_toArray, List.length_map] at hj
  have h1 := (hr j (rI l[j]) (by simp [hj])).2 0 (.int .i64 l[j]) rfl
  refine ⟨?_, ?_⟩
  · rw [show a.off + j = a.off + (j * 1 + 0) by omega, h1, getElem!_pos _ j (by simpa using hj)]
    simp
  · have := hf.1 (a.off + j) (by omega)
    simp only [World.frozen?, hb]
    simpa using this

theorem call_sortI (ob : Option Addr) (cap T : Nat) (l : List Int) (hl : l.length < 4611686018427387904) :
    CallG Try.prog 27 #[.slice ob l.length cap] (fun _ : Unit => .tuple #[]) [.osl ob cap T 1 (l.map rI)] [] (fun _ : Unit => [.osl ob cap T 1 ((nsort l).map rI)]) := by
  intro w hg
  have hE := hg.ok _ (List.mem_singleton.2 rfl)
  by_cases hn : l = []
  · subst hn
    refine Calls.mono (f := 27) (Any.slices_Sort_int_none laysSortI ob cap w) fun e w' ⟨he, hw⟩ => ⟨(), he, ?_⟩
    subst hw
    exact turns_one (Keep.refl _ _) (by rw [show nsort [] = [] by simp [nsort]]; exact hE) (fun _ h => h)
  · have hc : cap ≠ 0 := by
      intro h0
      have := hE.1.1
      rw [h0, List.length_map] at this
      exact hn (List.eq_nil_of_length_eq_zero (by omega))
    obtain ⟨a, arr, rfl, hs, hrow, _⟩ := hE.1.2 hc
    obtain ⟨_, hH⟩ := osl_holdsI hE hc
    obtain ⟨b, o, sp⟩ := a
    simp only at hs
    subst hs
    have := Any.slices_Sort_int laysSortI b o cap l w hH hrow.lt (by simpa using hl)
    refine this.mono fun e w' ⟨he, n, os, hw⟩ => ⟨(), he, ?_⟩
    subst hw
    refine turns_one ((keep_putRowI w b o n _ os).mono fun k _ hk => ⟨hc, hk⟩) ?_ (fun _ h => h)
    have := osl_putRowI (n := n) (os := os) (l.mergeSort fun x y => decide (x ≤ y)) [] (by simp) hE hc
    rw [List.append_nil] at this
    exact this

end Go.Proofs.Ytcegkgbceogflaa
