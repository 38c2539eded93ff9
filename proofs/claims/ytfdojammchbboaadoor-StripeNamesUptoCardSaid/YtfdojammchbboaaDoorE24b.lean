/-
  CHAPTER 24: the variables that strconv reads, out of the row's listing.
-/
import Derived.Test.YtfdojammchbboaaDoorE24
import Derived.Test.YtfdojammchbboaaDoorRows
import Derived.ChangeArms
set_option linter.unusedVariables false
set_option linter.unusedSimpArgs false
set_option maxRecDepth 100000
namespace Go.Proofs.YtfdojammchbboaaDoor
open Go Go.RowKit Sx

theorem trod_iface_is {H : Type} {enc : TypeId × Value → H} {P : Program} {w : World} {base : Nat} {sp : Nat → Bool} {held : Bool} {fuel : Nat} {t : TypeId} {cs : List Value} {ms : _} {nm : String} {d : DataW H} {p : List MemPlace}
    (ht : P.underlying t = some (.interface ms)) (h : DataW.trod enc P w base sp held fuel t cs = some (.iface nm d, p)) : ∃ u v, cs = [.iface u v] := by
  cases fuel with
  | zero => simp [DataW.trod] at h
  | succ n =>
    unfold DataW.trod at h
    rw [ht] at h
    split at h <;> simp_all

theorem var_cell {w : World} {n : String} {g : Nat} {cs : Array Value} (hg : Tryd.prog.globalNamed n = some g) (h : w.var? Tryd.prog n = some cs) (i : Nat) : w.cell? ⟨g, i, none⟩ = cs[i]? ∧ g < w.heap.size := by
  unfold World.var? at h
  rw [hg] at h
  simp only [Option.bind_some] at h
  cases hh : w.heap[g]? with
  | none => rw [hh] at h; cases h
  | some o =>
    rw [hh] at h
    cases o with
    | cells c t f =>
      simp only [Option.some.injEq] at h
      subst h
      exact ⟨by simp [World.cell?, hh], (Array.getElem?_eq_some_iff.1 hh).1⟩
    | _ => cases h

theorem glob24_of {W : World} (hL : laidMet Tryd.prog Rows.stripeNamesUptoRow.laid W) : glob24.ok W := by
  obtain ⟨ps, h, _⟩ := hL
  obtain ⟨_, _, _, _, _, _, _, _, _, _, h, _⟩ := h
  obtain ⟨_, _, _, _, _, _, _, _, _, _, h, _⟩ := h
  obtain ⟨g3, t3, c3, f3, _, _, hg3, ht3, hv3, hd3, h, _⟩ := h
  obtain ⟨g2, t2, c2, f2, _, _, hg2, ht2, hv2, hd2, h, _⟩ := h
  obtain ⟨g1, t1, c1, f1, _, _, hg1, ht1, hv1, hd1, h, _⟩ := h
  obtain rfl := Option.some.inj (named24.symm.trans hg3)
  obtain rfl := Option.some.inj ((show Tryd.prog.globalNamed "strconv.ErrRange" = some 2 by kernel_rfl).symm.trans hg2)
  obtain rfl := Option.some.inj ((show Tryd.prog.globalNamed "strconv.ErrSyntax" = some 1 by kernel_rfl).symm.trans hg1)
  obtain rfl := Option.some.inj ((show (Tryd.prog.globals[3]?).map (·.type) = some 105 by kernel_rfl).symm.trans ht3)
  obtain rfl := Option.some.inj ((show (Tryd.prog.globals[2]?).map (·.type) = some 72 by kernel_rfl).symm.trans ht2)
  obtain rfl := Option.some.inj ((show (Tryd.prog.globals[1]?).map (·.type) = some 72 by kernel_rfl).symm.trans ht1)
  have hz : Lib.pow10Tab.length = 20 := Lib.pow10Tab_length
  have htab : c3.toList = Lib.pow10Tab.map fun z => Value.int .u64 z := Lib.cells_of_tab (k := .u64) (n := 20) Tryd.underlying105 Tryd.underlying85 (by kernel_rfl) (by kernel_rfl) hd3
  obtain ⟨u2, v2, e2⟩ := trod_iface_is Tryd.underlying72 hd2
  obtain ⟨u1, v1, e1⟩ := trod_iface_is Tryd.underlying72 hd1
  obtain ⟨k2, l2⟩ := var_cell (show Tryd.prog.globalNamed "strconv.ErrRange" = some 2 by kernel_rfl) hv2 0
  obtain ⟨k1, l1⟩ := var_cell (show Tryd.prog.globalNamed "strconv.ErrSyntax" = some 1 by kernel_rfl) hv1 0
  obtain ⟨_, l3⟩ := var_cell named24 hv3 0
  refine ⟨⟨?_, ⟨.iface u1 v1, ?_, .inr ⟨_, _, rfl⟩⟩, ⟨.iface u2 v2, ?_, .inr ⟨_, _, rfl⟩⟩⟩, fun b hb => ?_⟩
  · unfold Lib.TabIs
    rw [hv3, ← htab]
  · rw [k1, ← Array.getElem?_toList, e1]; rfl
  · rw [k2, ← Array.getElem?_toList, e2]; rfl
  · rcases hb with rfl | rfl | rfl
    · exact l1
    · exact l2
    · exact l3
end Go.Proofs.YtfdojammchbboaaDoor
