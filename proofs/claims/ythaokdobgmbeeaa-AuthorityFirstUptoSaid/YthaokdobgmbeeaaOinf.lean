/-
  CHAPTER 16: infos that come in.
-/
import Derived.Test.YthaokdobgmbeeaaSxh
import Derived.Test.YthaokdobgmbeeaaPinf
import Derived.Test.YthaokdobgmbeeaaRows
set_option linter.unusedVariables false
set_option linter.unusedSimpArgs false
set_option maxRecDepth 100000
namespace Go.Proofs.Ythaokdobgmbeeaa
open Go Go.RowKit Go.ChangeShapes Go.WideShapes Go.ChangeAt Sx

theorem open_inf {H : Type} {enc : TypeId × Value → H} {w : World} {n : Nat} {r : List Value} {y : DataW H × List MemPlace} (h : DataW.trod enc Try.prog w 0 (fun _ => true) true n 34 r = some y) : ∃ x : Inf, r = Inf.row x ∧ True := by
  have hlen : r.length = 6 := by obtain ⟨xs, m, _, _, hl, _⟩ := DataW.trod_struct Try.underlying34 h; rw [hl]; kernel_rfl
  obtain ⟨c0, r0, rfl⟩ : ∃ c l, r = c :: l := by cases r with | nil => simp at hlen | cons c l => exact ⟨c, l, rfl⟩
  obtain ⟨c1, r1, rfl⟩ : ∃ c l, r0 = c :: l := by cases r0 with | nil => simp at hlen | cons c l => exact ⟨c, l, rfl⟩
  obtain ⟨c2, r2, rfl⟩ : ∃ c l, r1 = c :: l := by cases r1 with | nil => simp at hlen | cons c l => exact ⟨c, l, rfl⟩
  obtain ⟨c3, r3, rfl⟩ : ∃ c l, r2 = c :: l := by cases r2 with | nil => simp at hlen | cons c l => exact ⟨c, l, rfl⟩
  obtain ⟨c4, r4, rfl⟩ : ∃ c l, r3 = c :: l := by cases r3 with | nil => simp at hlen | cons c l => exact ⟨c, l, rfl⟩
  obtain ⟨c5, r5, rfl⟩ : ∃ c l, r4 = c :: l := by cases r4 with | nil => simp at hlen | cons c l => exact ⟨c, l, rfl⟩
  obtain rfl : r5 = [] := by simpa using hlen
  obtain ⟨n1, y2, hp3, hb4⟩ := trod_field (i := 0) (off := 0) (ty := 3) Try.underlying34 h (by rfl) (sz := 1) (by kernel_rfl)
  replace hp3 : DataW.trod enc Try.prog w 0 (fun _ => true) true n1 3 [c0] = some y2 := hp3
  obtain ⟨n5, y6, hp7, hb8⟩ := trod_field (i := 1) (off := 1) (ty := 32) Try.underlying34 h (by rfl) (sz := 2) (by kernel_rfl)
  replace hp7 : DataW.trod enc Try.prog w 0 (fun _ => true) true n5 32 [c1, c2] = some y6 := hp7
  obtain ⟨n9, y10, hp11, hb12⟩ := trod_field (i := 2) (off := 3) (ty := 32) Try.underlying34 h (by rfl) (sz := 2) (by kernel_rfl)
  replace hp11 : DataW.trod enc Try.prog w 0 (fun _ => true) true n9 32 [c3, c4] = some y10 := hp11
  obtain ⟨n13, y14, hp15, hb16⟩ := trod_field (i := 3) (off := 5) (ty := 3) Try.underlying34 h (by rfl) (sz := 1) (by kernel_rfl)
  replace hp15 : DataW.trod enc Try.prog w 0 (fun _ => true) true n13 3 [c5] = some y14 := hp15
  obtain ⟨z17, hc18, hy19, wz20⟩ := DataW.trod_int Try.underlying3 hp3
  replace wz20 := wf_i64 wz20
  obtain rfl : c0 = .int .i64 z17 := by simpa using hc18
  obtain ⟨n21, y22, hp23, hb24⟩ := trod_field (i := 0) (off := 0) (ty := 3) Try.underlying32 hp7 (by rfl) (sz := 1) (by kernel_rfl)
  replace hp23 : DataW.trod enc Try.prog w 0 (fun _ => true) true n21 3 [c1] = some y22 := hp23
  obtain ⟨n25, y26, hp27, hb28⟩ := trod_field (i := 1) (off := 1) (ty := 3) Try.underlying32 hp7 (by rfl) (sz := 1) (by kernel_rfl)
  replace hp27 : DataW.trod enc Try.prog w 0 (fun _ => true) true n25 3 [c2] = some y26 := hp27
  obtain ⟨z29, hc30, hy31, wz32⟩ := DataW.trod_int Try.underlying3 hp23
  replace wz32 := wf_i64 wz32
  obtain rfl : c1 = .int .i64 z29 := by simpa using hc30
  obtain ⟨z33, hc34, hy35, wz36⟩ := DataW.trod_int Try.underlying3 hp27
  replace wz36 := wf_i64 wz36
  obtain rfl : c2 = .int .i64 z33 := by simpa using hc34
  obtain ⟨n37, y38, hp39, hb40⟩ := trod_field (i := 0) (off := 0) (ty := 3) Try.underlying32 hp11 (by rfl) (sz := 1) (by kernel_rfl)
  replace hp39 : DataW.trod enc Try.prog w 0 (fun _ => true) true n37 3 [c3] = some y38 := hp39
  obtain ⟨n41, y42, hp43, hb44⟩ := trod_field (i := 1) (off := 1) (ty := 3) Try.underlying32 hp11 (by rfl) (sz := 1) (by kernel_rfl)
  replace hp43 : DataW.trod enc Try.prog w 0 (fun _ => true) true n41 3 [c4] = some y42 := hp43
  obtain ⟨z45, hc46, hy47, wz48⟩ := DataW.trod_int Try.underlying3 hp39
  replace wz48 := wf_i64 wz48
  obtain rfl : c3 = .int .i64 z45 := by simpa using hc46
  obtain ⟨z49, hc50, hy51, wz52⟩ := DataW.trod_int Try.underlying3 hp43
  replace wz52 := wf_i64 wz52
  obtain rfl : c4 = .int .i64 z49 := by simpa using hc50
  obtain ⟨z53, hc54, hy55, wz56⟩ := DataW.trod_int Try.underlying3 hp15
  replace wz56 := wf_i64 wz56
  obtain rfl : c5 = .int .i64 z53 := by simpa using hc54
  exact ⟨⟨z17, z29, z33, z45, z49, z53⟩, rfl, trivial⟩

end Go.Proofs.Ythaokdobgmbeeaa
