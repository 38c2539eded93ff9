/-
  CHAPTER 18r: what comes in.
-/
import Derived.Test.YtjnbkhnebmlilaaSxh
import Derived.Test.YtjnbkhnebmlilaaM18r
import Derived.Test.YtjnbkhnebmlilaaRows
set_option linter.unusedVariables false
set_option linter.unusedSimpArgs false
set_option maxRecDepth 100000
namespace Go.Proofs.Ytjnbkhnebmlilaa
open Go Go.RowKit Go.ChangeShapes Go.WideShapes Go.ChangeAt Sx

def S_api_Pg.wf (x : S_api_Pg) : Prop := I64 x.Pool ∧ I64 x.Seed ∧ True
def S_api_Version.wf (x : S_api_Version) : Prop := I64 x.Epoch ∧ I64 x.N ∧ True
def S_api_Entry.wf (x : S_api_Entry) : Prop := I64 x.Version.Epoch ∧ I64 x.Version.N ∧ I64 x.Errno ∧ x.Name.size ≤ 9223372036854775807 ∧ I64 x.Client ∧ I64 x.Number ∧ True
def S_api_Last.wf (x : S_api_Last) : Prop := I64 x.Client ∧ I64 x.Number ∧ I64 x.Errno ∧ I64 x.Version.Epoch ∧ I64 x.Version.N ∧ True
def S_api_Item.wf (x : S_api_Item) : Prop := x.Name.size ≤ 9223372036854775807 ∧ I64 x.Version.Epoch ∧ I64 x.Version.N ∧ (0 ≤ x.Crc ∧ x.Crc ≤ 4294967295) ∧ True

theorem open_u64 {H : Type} {enc : TypeId × Value → H} {P : Program} {w : World} {n e : Nat} {r : List Value} {y : DataW H × List MemPlace} (he : P.underlying e = some (.int .u64)) (h : DataW.trod enc P w 0 (fun _ => true) true n e r = some y) : ∃ x : Int, r = rU64 x ∧ (0 ≤ x ∧ x ≤ 18446744073709551615) := by
  obtain ⟨z, h1, _, h2⟩ := DataW.trod_int he h
  exact ⟨z, h1, wf_u64 h2⟩
theorem open_S_api_Entry {H : Type} {enc : TypeId × Value → H} {w : World} {n : Nat} {r : List Value} {y : DataW H × List MemPlace} (h : DataW.trod enc Try.prog w 0 (fun _ => true) true n 52 r = some y) : ∃ x : S_api_Entry, r = S_api_Entry.row x ∧ S_api_Entry.wf x := by
  have hlen : r.length = 7 := by obtain ⟨xs, m, _, _, hl, _⟩ := DataW.trod_struct Try.underlying52 h; rw [hl]; kernel_rfl
  obtain ⟨c0, r0, rfl⟩ : ∃ c l, r = c :: l := by cases r with | nil => simp at hlen | cons c l => exact ⟨c, l, rfl⟩
  obtain ⟨c1, r1, rfl⟩ : ∃ c l, r0 = c :: l := by cases r0 with | nil => simp at hlen | cons c l => exact ⟨c, l, rfl⟩
  obtain ⟨c2, r2, rfl⟩ : ∃ c l, r1 = c :: l := by cases r1 with | nil => simp at hlen | cons c l => exact ⟨c, l, rfl⟩
  obtain ⟨c3, r3, rfl⟩ : ∃ c l, r2 = c :: l := by cases r2 with | nil => simp at hlen | cons c l => exact ⟨c, l, rfl⟩
  obtain ⟨c4, r4, rfl⟩ : ∃ c l, r3 = c :: l := by cases r3 with | nil => simp at hlen | cons c l => exact ⟨c, l, rfl⟩
  obtain ⟨c5, r5, rfl⟩ : ∃ c l, r4 = c :: l := by cases r4 with | nil => simp at hlen | cons c l => exact ⟨c, l, rfl⟩
  obtain ⟨c6, r6, rfl⟩ : ∃ c l, r5 = c :: l := by cases r5 with | nil => simp at hlen | cons c l => exact ⟨c, l, rfl⟩
  obtain rfl : r6 = [] := by simpa using hlen
  obtain ⟨n1, y2, hp3, hb4⟩ := trod_field (i := 0) (off := 0) (ty := 26) Try.underlying52 h (by rfl) (sz := 2) (by kernel_rfl)
  replace hp3 : DataW.trod enc Try.prog w 0 (fun _ => true) true n1 26 [c0, c1] = some y2 := hp3
  obtain ⟨n5, y6, hp7, hb8⟩ := trod_field (i := 1) (off := 2) (ty := 4) Try.underlying52 h (by rfl) (sz := 1) (by kernel_rfl)
  replace hp7 : DataW.trod enc Try.prog w 0 (fun _ => true) true n5 4 [c2] = some y6 := hp7
  obtain ⟨n9, y10, hp11, hb12⟩ := trod_field (i := 2) (off := 3) (ty := 38) Try.underlying52 h (by rfl) (sz := 1) (by kernel_rfl)
  replace hp11 : DataW.trod enc Try.prog w 0 (fun _ => true) true n9 38 [c3] = some y10 := hp11
  obtain ⟨n13, y14, hp15, hb16⟩ := trod_field (i := 3) (off := 4) (ty := 9) Try.underlying52 h (by rfl) (sz := 1) (by kernel_rfl)
  replace hp15 : DataW.trod enc Try.prog w 0 (fun _ => true) true n13 9 [c4] = some y14 := hp15
  obtain ⟨n17, y18, hp19, hb20⟩ := trod_field (i := 4) (off := 5) (ty := 3) Try.underlying52 h (by rfl) (sz := 1) (by kernel_rfl)
  replace hp19 : DataW.trod enc Try.prog w 0 (fun _ => true) true n17 3 [c5] = some y18 := hp19
  obtain ⟨n21, y22, hp23, hb24⟩ := trod_field (i := 5) (off := 6) (ty := 3) Try.underlying52 h (by rfl) (sz := 1) (by kernel_rfl)
  replace hp23 : DataW.trod enc Try.prog w 0 (fun _ => true) true n21 3 [c6] = some y22 := hp23
  obtain ⟨n25, y26, hp27, hb28⟩ := trod_field (i := 0) (off := 0) (ty := 3) Try.underlying26 hp3 (by rfl) (sz := 1) (by kernel_rfl)
  replace hp27 : DataW.trod enc Try.prog w 0 (fun _ => true) true n25 3 [c0] = some y26 := hp27
  obtain ⟨n29, y30, hp31, hb32⟩ := trod_field (i := 1) (off := 1) (ty := 3) Try.underlying26 hp3 (by rfl) (sz := 1) (by kernel_rfl)
  replace hp31 : DataW.trod enc Try.prog w 0 (fun _ => true) true n29 3 [c1] = some y30 := hp31
  obtain ⟨z33, hc34, hy35, wz36⟩ := DataW.trod_int Try.underlying3 hp27
  replace wz36 := wf_i64 wz36
  obtain rfl : c0 = .int .i64 z33 := by simpa using hc34
  obtain ⟨z37, hc38, hy39, wz40⟩ := DataW.trod_int Try.underlying3 hp31
  replace wz40 := wf_i64 wz40
  obtain rfl : c1 = .int .i64 z37 := by simpa using hc38
  obtain ⟨z41, hc42, hy43⟩ := DataW.trod_bool Try.underlying4 hp7
  obtain rfl : c2 = .bool z41 := by simpa using hc42
  obtain ⟨z44, hc45, hy46, wz47⟩ := DataW.trod_int Try.underlying38 hp11
  replace wz47 := wf_i64 wz47
  obtain rfl : c3 = .int .i64 z44 := by simpa using hc45
  obtain ⟨z48, hc49, hy50, wz51⟩ := DataW.trod_string Try.underlying9 hp15
  obtain rfl : c4 = .string z48 := by simpa using hc49
  obtain ⟨z52, hc53, hy54, wz55⟩ := DataW.trod_int Try.underlying3 hp19
  replace wz55 := wf_i64 wz55
  obtain rfl : c5 = .int .i64 z52 := by simpa using hc53
  obtain ⟨z56, hc57, hy58, wz59⟩ := DataW.trod_int Try.underlying3 hp23
  replace wz59 := wf_i64 wz59
  obtain rfl : c6 = .int .i64 z56 := by simpa using hc57
  exact ⟨(S_api_Entry.mk (S_api_Version.mk z33 z37) z41 z44 z48 z52 z56), rfl, ⟨wz36, wz40, wz47, wz51, wz55, wz59, trivial⟩⟩

theorem open_S_api_Last {H : Type} {enc : TypeId × Value → H} {w : World} {n : Nat} {r : List Value} {y : DataW H × List MemPlace} (h : DataW.trod enc Try.prog w 0 (fun _ => true) true n 80 r = some y) : ∃ x : S_api_Last, r = S_api_Last.row x ∧ S_api_Last.wf x := by
  have hlen : r.length = 5 := by obtain ⟨xs, m, _, _, hl, _⟩ := DataW.trod_struct Try.underlying80 h; rw [hl]; kernel_rfl
  obtain ⟨c0, r0, rfl⟩ : ∃ c l, r = c :: l := by cases r with | nil => simp at hlen | cons c l => exact ⟨c, l, rfl⟩
  obtain ⟨c1, r1, rfl⟩ : ∃ c l, r0 = c :: l := by cases r0 with | nil => simp at hlen | cons c l => exact ⟨c, l, rfl⟩
  obtain ⟨c2, r2, rfl⟩ : ∃ c l, r1 = c :: l := by cases r1 with | nil => simp at hlen | cons c l => exact ⟨c, l, rfl⟩
  obtain ⟨c3, r3, rfl⟩ : ∃ c l, r2 = c :: l := by cases r2 with | nil => simp at hlen | cons c l => exact ⟨c, l, rfl⟩
  obtain ⟨c4, r4, rfl⟩ : ∃ c l, r3 = c :: l := by cases r3 with | nil => simp at hlen | cons c l => exact ⟨c, l, rfl⟩
  obtain rfl : r4 = [] := by simpa using hlen
  obtain ⟨n1, y2, hp3, hb4⟩ := trod_field (i := 0) (off := 0) (ty := 3) Try.underlying80 h (by rfl) (sz := 1) (by kernel_rfl)
  replace hp3 : DataW.trod enc Try.prog w 0 (fun _ => true) true n1 3 [c0] = some y2 := hp3
  obtain ⟨n5, y6, hp7, hb8⟩ := trod_field (i := 1) (off := 1) (ty := 3) Try.underlying80 h (by rfl) (sz := 1) (by kernel_rfl)
  replace hp7 : DataW.trod enc Try.prog w 0 (fun _ => true) true n5 3 [c1] = some y6 := hp7
  obtain ⟨n9, y10, hp11, hb12⟩ := trod_field (i := 2) (off := 2) (ty := 38) Try.underlying80 h (by rfl) (sz := 1) (by kernel_rfl)
  replace hp11 : DataW.trod enc Try.prog w 0 (fun _ => true) true n9 38 [c2] = some y10 := hp11
  obtain ⟨n13, y14, hp15, hb16⟩ := trod_field (i := 3) (off := 3) (ty := 26) Try.underlying80 h (by rfl) (sz := 2) (by kernel_rfl)
  replace hp15 : DataW.trod enc Try.prog w 0 (fun _ => true) true n13 26 [c3, c4] = some y14 := hp15
  obtain ⟨z17, hc18, hy19, wz20⟩ := DataW.trod_int Try.underlying3 hp3
  replace wz20 := wf_i64 wz20
  obtain rfl : c0 = .int .i64 z17 := by simpa using hc18
  obtain ⟨z21, hc22, hy23, wz24⟩ := DataW.trod_int Try.underlying3 hp7
  replace wz24 := wf_i64 wz24
  obtain rfl : c1 = .int .i64 z21 := by simpa using hc22
  obtain ⟨z25, hc26, hy27, wz28⟩ := DataW.trod_int Try.underlying38 hp11
  replace wz28 := wf_i64 wz28
  obtain rfl : c2 = .int .i64 z25 := by simpa using hc26
  obtain ⟨n29, y30, hp31, hb32⟩ := trod_field (i := 0) (off := 0) (ty := 3) Try.underlying26 hp15 (by rfl) (sz := 1) (by kernel_rfl)
  replace hp31 : DataW.trod enc Try.prog w 0 (fun _ => true) true n29 3 [c3] = some y30 := hp31
  obtain ⟨n33, y34, hp35, hb36⟩ := trod_field (i := 1) (off := 1) (ty := 3) Try.underlying26 hp15 (by rfl) (sz := 1) (by kernel_rfl)
  replace hp35 : DataW.trod enc Try.prog w 0 (fun _ => true) true n33 3 [c4] = some y34 := hp35
  obtain ⟨z37, hc38, hy39, wz40⟩ := DataW.trod_int Try.underlying3 hp31
  replace wz40 := wf_i64 wz40
  obtain rfl : c3 = .int .i64 z37 := by simpa using hc38
  obtain ⟨z41, hc42, hy43, wz44⟩ := DataW.trod_int Try.underlying3 hp35
  replace wz44 := wf_i64 wz44
  obtain rfl : c4 = .int .i64 z41 := by simpa using hc42
  exact ⟨(S_api_Last.mk z17 z21 z25 (S_api_Version.mk z37 z41)), rfl, ⟨wz20, wz24, wz28, wz40, wz44, trivial⟩⟩

theorem open_S_api_Item {H : Type} {enc : TypeId × Value → H} {w : World} {n : Nat} {r : List Value} {y : DataW H × List MemPlace} (h : DataW.trod enc Try.prog w 0 (fun _ => true) true n 76 r = some y) : ∃ x : S_api_Item, r = S_api_Item.row x ∧ S_api_Item.wf x := by
  have hlen : r.length = 4 := by obtain ⟨xs, m, _, _, hl, _⟩ := DataW.trod_struct Try.underlying76 h; rw [hl]; kernel_rfl
  obtain ⟨c0, r0, rfl⟩ : ∃ c l, r = c :: l := by cases r with | nil => simp at hlen | cons c l => exact ⟨c, l, rfl⟩
  obtain ⟨c1, r1, rfl⟩ : ∃ c l, r0 = c :: l := by cases r0 with | nil => simp at hlen | cons c l => exact ⟨c, l, rfl⟩
  obtain ⟨c2, r2, rfl⟩ : ∃ c l, r1 = c :: l := by cases r1 with | nil => simp at hlen | cons c l => exact ⟨c, l, rfl⟩
  obtain ⟨c3, r3, rfl⟩ : ∃ c l, r2 = c :: l := by cases r2 with | nil => simp at hlen | cons c l => exact ⟨c, l, rfl⟩
  obtain rfl : r3 = [] := by simpa using hlen
  obtain ⟨n1, y2, hp3, hb4⟩ := trod_field (i := 0) (off := 0) (ty := 9) Try.underlying76 h (by rfl) (sz := 1) (by kernel_rfl)
  replace hp3 : DataW.trod enc Try.prog w 0 (fun _ => true) true n1 9 [c0] = some y2 := hp3
  obtain ⟨n5, y6, hp7, hb8⟩ := trod_field (i := 1) (off := 1) (ty := 26) Try.underlying76 h (by rfl) (sz := 2) (by kernel_rfl)
  replace hp7 : DataW.trod enc Try.prog w 0 (fun _ => true) true n5 26 [c1, c2] = some y6 := hp7
  obtain ⟨n9, y10, hp11, hb12⟩ := trod_field (i := 2) (off := 3) (ty := 74) Try.underlying76 h (by rfl) (sz := 1) (by kernel_rfl)
  replace hp11 : DataW.trod enc Try.prog w 0 (fun _ => true) true n9 74 [c3] = some y10 := hp11
  obtain ⟨z13, hc14, hy15, wz16⟩ := DataW.trod_string Try.underlying9 hp3
  obtain rfl : c0 = .string z13 := by simpa using hc14
  obtain ⟨n17, y18, hp19, hb20⟩ := trod_field (i := 0) (off := 0) (ty := 3) Try.underlying26 hp7 (by rfl) (sz := 1) (by kernel_rfl)
  replace hp19 : DataW.trod enc Try.prog w 0 (fun _ => true) true n17 3 [c1] = some y18 := hp19
  obtain ⟨n21, y22, hp23, hb24⟩ := trod_field (i := 1) (off := 1) (ty := 3) Try.underlying26 hp7 (by rfl) (sz := 1) (by kernel_rfl)
  replace hp23 : DataW.trod enc Try.prog w 0 (fun _ => true) true n21 3 [c2] = some y22 := hp23
  obtain ⟨z25, hc26, hy27, wz28⟩ := DataW.trod_int Try.underlying3 hp19
  replace wz28 := wf_i64 wz28
  obtain rfl : c1 = .int .i64 z25 := by simpa using hc26
  obtain ⟨z29, hc30, hy31, wz32⟩ := DataW.trod_int Try.underlying3 hp23
  replace wz32 := wf_i64 wz32
  obtain rfl : c2 = .int .i64 z29 := by simpa using hc30
  obtain ⟨z33, hc34, hy35, wz36⟩ := DataW.trod_int Try.underlying74 hp11
  replace wz36 := wf_u32 wz36
  obtain rfl : c3 = .int .u32 z33 := by simpa using hc34
  exact ⟨(S_api_Item.mk z13 (S_api_Version.mk z25 z29) z33), rfl, ⟨wz16, wz28, wz32, wz36, trivial⟩⟩

end Go.Proofs.Ytjnbkhnebmlilaa
