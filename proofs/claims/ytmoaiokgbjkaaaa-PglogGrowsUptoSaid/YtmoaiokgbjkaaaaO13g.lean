/-
  CHAPTER 13g: what comes in.
-/
import Derived.Test.YtmoaiokgbjkaaaaSxh
import Derived.Test.YtmoaiokgbjkaaaaM13g
import Derived.Test.YtmoaiokgbjkaaaaRows
set_option linter.unusedVariables false
set_option linter.unusedSimpArgs false
set_option maxRecDepth 100000
namespace Go.Proofs.Ytmoaiokgbjkaaaa
open Go Go.RowKit Go.ChangeShapes Go.WideShapes Go.ChangeAt Sx

def S_tholelaw13_Put.wf (x : S_tholelaw13_Put) : Prop := x.Name.size ≤ 9223372036854775807 ∧ I64 x.Errno ∧ I64 x.Client ∧ I64 x.Number ∧ (0 ≤ x.Crc ∧ x.Crc ≤ 4294967295) ∧ True

theorem open_S_tholelaw13_Put {H : Type} {enc : TypeId × Value → H} {w : World} {n : Nat} {r : List Value} {y : DataW H × List MemPlace} (h : DataW.trod enc Try.prog w 0 (fun _ => true) true n 66 r = some y) : ∃ x : S_tholelaw13_Put, r = S_tholelaw13_Put.row x ∧ S_tholelaw13_Put.wf x := by
  have hlen : r.length = 6 := by obtain ⟨xs, m, _, _, hl, _⟩ := DataW.trod_struct Try.underlying66 h; rw [hl]; kernel_rfl
  obtain ⟨c0, r0, rfl⟩ : ∃ c l, r = c :: l := by cases r with | nil => simp at hlen | cons c l => exact ⟨c, l, rfl⟩
  obtain ⟨c1, r1, rfl⟩ : ∃ c l, r0 = c :: l := by cases r0 with | nil => simp at hlen | cons c l => exact ⟨c, l, rfl⟩
  obtain ⟨c2, r2, rfl⟩ : ∃ c l, r1 = c :: l := by cases r1 with | nil => simp at hlen | cons c l => exact ⟨c, l, rfl⟩
  obtain ⟨c3, r3, rfl⟩ : ∃ c l, r2 = c :: l := by cases r2 with | nil => simp at hlen | cons c l => exact ⟨c, l, rfl⟩
  obtain ⟨c4, r4, rfl⟩ : ∃ c l, r3 = c :: l := by cases r3 with | nil => simp at hlen | cons c l => exact ⟨c, l, rfl⟩
  obtain ⟨c5, r5, rfl⟩ : ∃ c l, r4 = c :: l := by cases r4 with | nil => simp at hlen | cons c l => exact ⟨c, l, rfl⟩
  obtain rfl : r5 = [] := by simpa using hlen
  obtain ⟨n1, y2, hp3, hb4⟩ := trod_field (i := 0) (off := 0) (ty := 9) Try.underlying66 h (by rfl) (sz := 1) (by kernel_rfl)
  replace hp3 : DataW.trod enc Try.prog w 0 (fun _ => true) true n1 9 [c0] = some y2 := hp3
  obtain ⟨n5, y6, hp7, hb8⟩ := trod_field (i := 1) (off := 1) (ty := 4) Try.underlying66 h (by rfl) (sz := 1) (by kernel_rfl)
  replace hp7 : DataW.trod enc Try.prog w 0 (fun _ => true) true n5 4 [c1] = some y6 := hp7
  obtain ⟨n9, y10, hp11, hb12⟩ := trod_field (i := 2) (off := 2) (ty := 45) Try.underlying66 h (by rfl) (sz := 1) (by kernel_rfl)
  replace hp11 : DataW.trod enc Try.prog w 0 (fun _ => true) true n9 45 [c2] = some y10 := hp11
  obtain ⟨n13, y14, hp15, hb16⟩ := trod_field (i := 3) (off := 3) (ty := 3) Try.underlying66 h (by rfl) (sz := 1) (by kernel_rfl)
  replace hp15 : DataW.trod enc Try.prog w 0 (fun _ => true) true n13 3 [c3] = some y14 := hp15
  obtain ⟨n17, y18, hp19, hb20⟩ := trod_field (i := 4) (off := 4) (ty := 3) Try.underlying66 h (by rfl) (sz := 1) (by kernel_rfl)
  replace hp19 : DataW.trod enc Try.prog w 0 (fun _ => true) true n17 3 [c4] = some y18 := hp19
  obtain ⟨n21, y22, hp23, hb24⟩ := trod_field (i := 5) (off := 5) (ty := 40) Try.underlying66 h (by rfl) (sz := 1) (by kernel_rfl)
  replace hp23 : DataW.trod enc Try.prog w 0 (fun _ => true) true n21 40 [c5] = some y22 := hp23
  obtain ⟨z25, hc26, hy27, wz28⟩ := DataW.trod_string Try.underlying9 hp3
  obtain rfl : c0 = .string z25 := by simpa using hc26
  obtain ⟨z29, hc30, hy31⟩ := DataW.trod_bool Try.underlying4 hp7
  obtain rfl : c1 = .bool z29 := by simpa using hc30
  obtain ⟨z32, hc33, hy34, wz35⟩ := DataW.trod_int Try.underlying45 hp11
  replace wz35 := wf_i64 wz35
  obtain rfl : c2 = .int .i64 z32 := by simpa using hc33
  obtain ⟨z36, hc37, hy38, wz39⟩ := DataW.trod_int Try.underlying3 hp15
  replace wz39 := wf_i64 wz39
  obtain rfl : c3 = .int .i64 z36 := by simpa using hc37
  obtain ⟨z40, hc41, hy42, wz43⟩ := DataW.trod_int Try.underlying3 hp19
  replace wz43 := wf_i64 wz43
  obtain rfl : c4 = .int .i64 z40 := by simpa using hc41
  obtain ⟨z44, hc45, hy46, wz47⟩ := DataW.trod_int Try.underlying40 hp23
  replace wz47 := wf_u32 wz47
  obtain rfl : c5 = .int .u32 z44 := by simpa using hc45
  exact ⟨(S_tholelaw13_Put.mk z25 z29 z32 z36 z40 z44), rfl, ⟨wz28, wz35, wz39, wz43, wz47, trivial⟩⟩

end Go.Proofs.Ytmoaiokgbjkaaaa
