/-
  CHAPTER 14b: what comes in.
-/
import Derived.Test.YtdelhcdknglibaaSxh
import Derived.Test.YtdelhcdknglibaaM14b
import Derived.Test.YtdelhcdknglibaaRows
import Derived.Test.YtdelhcdknglibaaBulk
set_option linter.unusedVariables false
set_option linter.unusedSimpArgs false
set_option maxRecDepth 100000
namespace Go.Proofs.Ytdelhcdknglibaa
open Go Go.RowKit Go.ChangeShapes Go.WideShapes Go.ChangeAt Sx

def S_api_Version.wf (x : S_api_Version) : Prop := I64 x.Epoch ∧ I64 x.N ∧ True
def S_api_Entry.wf (x : S_api_Entry) : Prop := I64 x.Version.Epoch ∧ I64 x.Version.N ∧ I64 x.Errno ∧ x.Name.size ≤ 9223372036854775807 ∧ I64 x.Client ∧ I64 x.Number ∧ True
def S_api_Last.wf (x : S_api_Last) : Prop := I64 x.Client ∧ I64 x.Number ∧ I64 x.Errno ∧ I64 x.Version.Epoch ∧ I64 x.Version.N ∧ True
def S_api_Item.wf (x : S_api_Item) : Prop := x.Name.size ≤ 9223372036854775807 ∧ I64 x.Version.Epoch ∧ I64 x.Version.N ∧ (0 ≤ x.Crc ∧ x.Crc ≤ 4294967295) ∧ True
def S_tholelaw14_Act.wf (x : S_tholelaw14_Act) : Prop := (0 ≤ x.Name ∧ x.Name ≤ 255) ∧ True

theorem open_str {H : Type} {enc : TypeId × Value → H} {P : Program} {w : World} {n e : Nat} {r : List Value} {y : DataW H × List MemPlace} (he : P.underlying e = some .string) (h : DataW.trod enc P w 0 (fun _ => true) true n e r = some y) : ∃ x : ByteArray, r = rS x ∧ x.size ≤ 9223372036854775807 := by
  obtain ⟨s, h1, _, h2⟩ := DataW.trod_string he h
  exact ⟨s, h1, h2⟩
theorem open_bool {H : Type} {enc : TypeId × Value → H} {P : Program} {w : World} {n e : Nat} {r : List Value} {y : DataW H × List MemPlace} (he : P.underlying e = some .bool) (h : DataW.trod enc P w 0 (fun _ => true) true n e r = some y) : ∃ x : Bool, r = rBo x ∧ True := by
  obtain ⟨s, h1, _⟩ := DataW.trod_bool he h
  exact ⟨s, h1, trivial⟩
theorem open_u64 {H : Type} {enc : TypeId × Value → H} {P : Program} {w : World} {n e : Nat} {r : List Value} {y : DataW H × List MemPlace} (he : P.underlying e = some (.int .u64)) (h : DataW.trod enc P w 0 (fun _ => true) true n e r = some y) : ∃ x : Int, r = rU64 x ∧ (0 ≤ x ∧ x ≤ 18446744073709551615) := by
  obtain ⟨z, h1, _, h2⟩ := DataW.trod_int he h
  exact ⟨z, h1, wf_u64 h2⟩
theorem open_u8 {H : Type} {enc : TypeId × Value → H} {P : Program} {w : World} {n e : Nat} {r : List Value} {y : DataW H × List MemPlace} (he : P.underlying e = some (.int .u8)) (h : DataW.trod enc P w 0 (fun _ => true) true n e r = some y) : ∃ x : UInt8, r = rB x ∧ True := by
  obtain ⟨z, h1, _, h2⟩ := DataW.trod_int he h
  have := wf_u8 h2
  exact ⟨UInt8.ofNat z.toNat, by rw [h1, rB, u8_of ⟨this.1, by omega⟩], trivial⟩

theorem open_S_api_Version {H : Type} {enc : TypeId × Value → H} {w : World} {n : Nat} {r : List Value} {y : DataW H × List MemPlace} (h : DataW.trod enc Try.prog w 0 (fun _ => true) true n 23 r = some y) : ∃ x : S_api_Version, r = S_api_Version.row x ∧ S_api_Version.wf x := by
  have hlen : r.length = 2 := by obtain ⟨xs, m, _, _, hl, _⟩ := DataW.trod_struct Try.underlying23 h; rw [hl]; kernel_rfl
  obtain ⟨c0, r0, rfl⟩ : ∃ c l, r = c :: l := by cases r with | nil => simp at hlen | cons c l => exact ⟨c, l, rfl⟩
  obtain ⟨c1, r1, rfl⟩ : ∃ c l, r0 = c :: l := by cases r0 with | nil => simp at hlen | cons c l => exact ⟨c, l, rfl⟩
  obtain rfl : r1 = [] := by simpa using hlen
  obtain ⟨n1, y2, hp3, hb4⟩ := trod_field (i := 0) (off := 0) (ty := 3) Try.underlying23 h (by rfl) (sz := 1) (by kernel_rfl)
  replace hp3 : DataW.trod enc Try.prog w 0 (fun _ => true) true n1 3 [c0] = some y2 := hp3
  obtain ⟨n5, y6, hp7, hb8⟩ := trod_field (i := 1) (off := 1) (ty := 3) Try.underlying23 h (by rfl) (sz := 1) (by kernel_rfl)
  replace hp7 : DataW.trod enc Try.prog w 0 (fun _ => true) true n5 3 [c1] = some y6 := hp7
  obtain ⟨z9, hc10, hy11, wz12⟩ := DataW.trod_int Try.underlying3 hp3
  replace wz12 := wf_i64 wz12
  obtain rfl : c0 = .int .i64 z9 := by simpa using hc10
  obtain ⟨z13, hc14, hy15, wz16⟩ := DataW.trod_int Try.underlying3 hp7
  replace wz16 := wf_i64 wz16
  obtain rfl : c1 = .int .i64 z13 := by simpa using hc14
  exact ⟨(S_api_Version.mk z9 z13), rfl, ⟨wz12, wz16, trivial⟩⟩

theorem open_S_api_Entry {H : Type} {enc : TypeId × Value → H} {w : World} {n : Nat} {r : List Value} {y : DataW H × List MemPlace} (h : DataW.trod enc Try.prog w 0 (fun _ => true) true n 53 r = some y) : ∃ x : S_api_Entry, r = S_api_Entry.row x ∧ S_api_Entry.wf x := by
  have hlen : r.length = 7 := by obtain ⟨xs, m, _, _, hl, _⟩ := DataW.trod_struct Try.underlying53 h; rw [hl]; kernel_rfl
  obtain ⟨c0, r0, rfl⟩ : ∃ c l, r = c :: l := by cases r with | nil => simp at hlen | cons c l => exact ⟨c, l, rfl⟩
  obtain ⟨c1, r1, rfl⟩ : ∃ c l, r0 = c :: l := by cases r0 with | nil => simp at hlen | cons c l => exact ⟨c, l, rfl⟩
  obtain ⟨c2, r2, rfl⟩ : ∃ c l, r1 = c :: l := by cases r1 with | nil => simp at hlen | cons c l => exact ⟨c, l, rfl⟩
  obtain ⟨c3, r3, rfl⟩ : ∃ c l, r2 = c :: l := by cases r2 with | nil => simp at hlen | cons c l => exact ⟨c, l, rfl⟩
  obtain ⟨c4, r4, rfl⟩ : ∃ c l, r3 = c :: l := by cases r3 with | nil => simp at hlen | cons c l => exact ⟨c, l, rfl⟩
  obtain ⟨c5, r5, rfl⟩ : ∃ c l, r4 = c :: l := by cases r4 with | nil => simp at hlen | cons c l => exact ⟨c, l, rfl⟩
  obtain ⟨c6, r6, rfl⟩ : ∃ c l, r5 = c :: l := by cases r5 with | nil => simp at hlen | cons c l => exact ⟨c, l, rfl⟩
  obtain rfl : r6 = [] := by simpa using hlen
  obtain ⟨n1, y2, hp3, hb4⟩ := trod_field (i := 0) (off := 0) (ty := 23) Try.underlying53 h (by rfl) (sz := 2) (by kernel_rfl)
  replace hp3 : DataW.trod enc Try.prog w 0 (fun _ => true) true n1 23 [c0, c1] = some y2 := hp3
  obtain ⟨n5, y6, hp7, hb8⟩ := trod_field (i := 1) (off := 2) (ty := 4) Try.underlying53 h (by rfl) (sz := 1) (by kernel_rfl)
  replace hp7 : DataW.trod enc Try.prog w 0 (fun _ => true) true n5 4 [c2] = some y6 := hp7
  obtain ⟨n9, y10, hp11, hb12⟩ := trod_field (i := 2) (off := 3) (ty := 51) Try.underlying53 h (by rfl) (sz := 1) (by kernel_rfl)
  replace hp11 : DataW.trod enc Try.prog w 0 (fun _ => true) true n9 51 [c3] = some y10 := hp11
  obtain ⟨n13, y14, hp15, hb16⟩ := trod_field (i := 3) (off := 4) (ty := 9) Try.underlying53 h (by rfl) (sz := 1) (by kernel_rfl)
  replace hp15 : DataW.trod enc Try.prog w 0 (fun _ => true) true n13 9 [c4] = some y14 := hp15
  obtain ⟨n17, y18, hp19, hb20⟩ := trod_field (i := 4) (off := 5) (ty := 3) Try.underlying53 h (by rfl) (sz := 1) (by kernel_rfl)
  replace hp19 : DataW.trod enc Try.prog w 0 (fun _ => true) true n17 3 [c5] = some y18 := hp19
  obtain ⟨n21, y22, hp23, hb24⟩ := trod_field (i := 5) (off := 6) (ty := 3) Try.underlying53 h (by rfl) (sz := 1) (by kernel_rfl)
  replace hp23 : DataW.trod enc Try.prog w 0 (fun _ => true) true n21 3 [c6] = some y22 := hp23
  obtain ⟨n25, y26, hp27, hb28⟩ := trod_field (i := 0) (off := 0) (ty := 3) Try.underlying23 hp3 (by rfl) (sz := 1) (by kernel_rfl)
  replace hp27 : DataW.trod enc Try.prog w 0 (fun _ => true) true n25 3 [c0] = some y26 := hp27
  obtain ⟨n29, y30, hp31, hb32⟩ := trod_field (i := 1) (off := 1) (ty := 3) Try.underlying23 hp3 (by rfl) (sz := 1) (by kernel_rfl)
  replace hp31 : DataW.trod enc Try.prog w 0 (fun _ => true) true n29 3 [c1] = some y30 := hp31
  obtain ⟨z33, hc34, hy35, wz36⟩ := DataW.trod_int Try.underlying3 hp27
  replace wz36 := wf_i64 wz36
  obtain rfl : c0 = .int .i64 z33 := by simpa using hc34
  obtain ⟨z37, hc38, hy39, wz40⟩ := DataW.trod_int Try.underlying3 hp31
  replace wz40 := wf_i64 wz40
  obtain rfl : c1 = .int .i64 z37 := by simpa using hc38
  obtain ⟨z41, hc42, hy43⟩ := DataW.trod_bool Try.underlying4 hp7
  obtain rfl : c2 = .bool z41 := by simpa using hc42
  obtain ⟨z44, hc45, hy46, wz47⟩ := DataW.trod_int Try.underlying51 hp11
  replace wz47 := wf_i64 wz47
  obtain rfl : c3 = .int .i64 z44 := by simpa using hc45
  obtain ⟨z48, hc49, hy50, wz51⟩ := DataW.trod_string Try.underlying9 hp15
  obtain rfl : c4 = .string z48 := by simpa using hc49
  obtain ⟨z52, hc53, hy54, wz55⟩ := DataW.trod_int Try.underlying3 hp19
  replace wz55 := wf_i64 wz55
  obtain rfl : c5 = .int .i64 z52 := by simpa using hc53
  obtain ⟨z56, hc57, hy58, wz59⟩ := DataW.trod_int Try.underlying3 hp23
  replace wz59 := wf_i64 wz59
  obtain rfl : c6 = .int .i64 z56 := by simpa using hc57
  exact ⟨(S_api_Entry.mk (S_api_Version.mk z33 z37) z41 z44 z48 z52 z56), rfl, ⟨wz36, wz40, wz47, wz51, wz55, wz59, trivial⟩⟩

theorem open_S_api_Last {H : Type} {enc : TypeId × Value → H} {w : World} {n : Nat} {r : List Value} {y : DataW H × List MemPlace} (h : DataW.trod enc Try.prog w 0 (fun _ => true) true n 83 r = some y) : ∃ x : S_api_Last, r = S_api_Last.row x ∧ S_api_Last.wf x := by
  have hlen : r.length = 5 := by obtain ⟨xs, m, _, _, hl, _⟩ := DataW.trod_struct Try.underlying83 h; rw [hl]; kernel_rfl
  obtain ⟨c0, r0, rfl⟩ : ∃ c l, r = c :: l := by cases r with | nil => simp at hlen | cons c l => exact ⟨c, l, rfl⟩
  obtain ⟨c1, r1, rfl⟩ : ∃ c l, r0 = c :: l := by cases r0 with | nil => simp at hlen | cons c l => exact ⟨c, l, rfl⟩
  obtain ⟨c2, r2, rfl⟩ : ∃ c l, r1 = c :: l := by cases r1 with | nil => simp at hlen | cons c l => exact ⟨c, l, rfl⟩
  obtain ⟨c3, r3, rfl⟩ : ∃ c l, r2 = c :: l := by cases r2 with | nil => simp at hlen | cons c l => exact ⟨c, l, rfl⟩
  obtain ⟨c4, r4, rfl⟩ : ∃ c l, r3 = c :: l := by cases r3 with | nil => simp at hlen | cons c l => exact ⟨c, l, rfl⟩
  obtain rfl : r4 = [] := by simpa using hlen
  obtain ⟨n1, y2, hp3, hb4⟩ := trod_field (i := 0) (off := 0) (ty := 3) Try.underlying83 h (by rfl) (sz := 1) (by kernel_rfl)
  replace hp3 : DataW.trod enc Try.prog w 0 (fun _ => true) true n1 3 [c0] = some y2 := hp3
  obtain ⟨n5, y6, hp7, hb8⟩ := trod_field (i := 1) (off := 1) (ty := 3) Try.underlying83 h (by rfl) (sz := 1) (by kernel_rfl)
  replace hp7 : DataW.trod enc Try.prog w 0 (fun _ => true) true n5 3 [c1] = some y6 := hp7
  obtain ⟨n9, y10, hp11, hb12⟩ := trod_field (i := 2) (off := 2) (ty := 51) Try.underlying83 h (by rfl) (sz := 1) (by kernel_rfl)
  replace hp11 : DataW.trod enc Try.prog w 0 (fun _ => true) true n9 51 [c2] = some y10 := hp11
  obtain ⟨n13, y14, hp15, hb16⟩ := trod_field (i := 3) (off := 3) (ty := 23) Try.underlying83 h (by rfl) (sz := 2) (by kernel_rfl)
  replace hp15 : DataW.trod enc Try.prog w 0 (fun _ => true) true n13 23 [c3, c4] = some y14 := hp15
  obtain ⟨z17, hc18, hy19, wz20⟩ := DataW.trod_int Try.underlying3 hp3
  replace wz20 := wf_i64 wz20
  obtain rfl : c0 = .int .i64 z17 := by simpa using hc18
  obtain ⟨z21, hc22, hy23, wz24⟩ := DataW.trod_int Try.underlying3 hp7
  replace wz24 := wf_i64 wz24
  obtain rfl : c1 = .int .i64 z21 := by simpa using hc22
  obtain ⟨z25, hc26, hy27, wz28⟩ := DataW.trod_int Try.underlying51 hp11
  replace wz28 := wf_i64 wz28
  obtain rfl : c2 = .int .i64 z25 := by simpa using hc26
  obtain ⟨n29, y30, hp31, hb32⟩ := trod_field (i := 0) (off := 0) (ty := 3) Try.underlying23 hp15 (by rfl) (sz := 1) (by kernel_rfl)
  replace hp31 : DataW.trod enc Try.prog w 0 (fun _ => true) true n29 3 [c3] = some y30 := hp31
  obtain ⟨n33, y34, hp35, hb36⟩ := trod_field (i := 1) (off := 1) (ty := 3) Try.underlying23 hp15 (by rfl) (sz := 1) (by kernel_rfl)
  replace hp35 : DataW.trod enc Try.prog w 0 (fun _ => true) true n33 3 [c4] = some y34 := hp35
  obtain ⟨z37, hc38, hy39, wz40⟩ := DataW.trod_int Try.underlying3 hp31
  replace wz40 := wf_i64 wz40
  obtain rfl : c3 = .int .i64 z37 := by simpa using hc38
  obtain ⟨z41, hc42, hy43, wz44⟩ := DataW.trod_int Try.underlying3 hp35
  replace wz44 := wf_i64 wz44
  obtain rfl : c4 = .int .i64 z41 := by simpa using hc42
  exact ⟨(S_api_Last.mk z17 z21 z25 (S_api_Version.mk z37 z41)), rfl, ⟨wz20, wz24, wz28, wz40, wz44, trivial⟩⟩

theorem open_S_api_Item {H : Type} {enc : TypeId × Value → H} {w : World} {n : Nat} {r : List Value} {y : DataW H × List MemPlace} (h : DataW.trod enc Try.prog w 0 (fun _ => true) true n 45 r = some y) : ∃ x : S_api_Item, r = S_api_Item.row x ∧ S_api_Item.wf x := by
  have hlen : r.length = 4 := by obtain ⟨xs, m, _, _, hl, _⟩ := DataW.trod_struct Try.underlying45 h; rw [hl]; kernel_rfl
  obtain ⟨c0, r0, rfl⟩ : ∃ c l, r = c :: l := by cases r with | nil => simp at hlen | cons c l => exact ⟨c, l, rfl⟩
  obtain ⟨c1, r1, rfl⟩ : ∃ c l, r0 = c :: l := by cases r0 with | nil => simp at hlen | cons c l => exact ⟨c, l, rfl⟩
  obtain ⟨c2, r2, rfl⟩ : ∃ c l, r1 = c :: l := by cases r1 with | nil => simp at hlen | cons c l => exact ⟨c, l, rfl⟩
  obtain ⟨c3, r3, rfl⟩ : ∃ c l, r2 = c :: l := by cases r2 with | nil => simp at hlen | cons c l => exact ⟨c, l, rfl⟩
  obtain rfl : r3 = [] := by simpa using hlen
  obtain ⟨n1, y2, hp3, hb4⟩ := trod_field (i := 0) (off := 0) (ty := 9) Try.underlying45 h (by rfl) (sz := 1) (by kernel_rfl)
  replace hp3 : DataW.trod enc Try.prog w 0 (fun _ => true) true n1 9 [c0] = some y2 := hp3
  obtain ⟨n5, y6, hp7, hb8⟩ := trod_field (i := 1) (off := 1) (ty := 23) Try.underlying45 h (by rfl) (sz := 2) (by kernel_rfl)
  replace hp7 : DataW.trod enc Try.prog w 0 (fun _ => true) true n5 23 [c1, c2] = some y6 := hp7
  obtain ⟨n9, y10, hp11, hb12⟩ := trod_field (i := 2) (off := 3) (ty := 43) Try.underlying45 h (by rfl) (sz := 1) (by kernel_rfl)
  replace hp11 : DataW.trod enc Try.prog w 0 (fun _ => true) true n9 43 [c3] = some y10 := hp11
  obtain ⟨z13, hc14, hy15, wz16⟩ := DataW.trod_string Try.underlying9 hp3
  obtain rfl : c0 = .string z13 := by simpa using hc14
  obtain ⟨n17, y18, hp19, hb20⟩ := trod_field (i := 0) (off := 0) (ty := 3) Try.underlying23 hp7 (by rfl) (sz := 1) (by kernel_rfl)
  replace hp19 : DataW.trod enc Try.prog w 0 (fun _ => true) true n17 3 [c1] = some y18 := hp19
  obtain ⟨n21, y22, hp23, hb24⟩ := trod_field (i := 1) (off := 1) (ty := 3) Try.underlying23 hp7 (by rfl) (sz := 1) (by kernel_rfl)
  replace hp23 : DataW.trod enc Try.prog w 0 (fun _ => true) true n21 3 [c2] = some y22 := hp23
  obtain ⟨z25, hc26, hy27, wz28⟩ := DataW.trod_int Try.underlying3 hp19
  replace wz28 := wf_i64 wz28
  obtain rfl : c1 = .int .i64 z25 := by simpa using hc26
  obtain ⟨z29, hc30, hy31, wz32⟩ := DataW.trod_int Try.underlying3 hp23
  replace wz32 := wf_i64 wz32
  obtain rfl : c2 = .int .i64 z29 := by simpa using hc30
  obtain ⟨z33, hc34, hy35, wz36⟩ := DataW.trod_int Try.underlying43 hp11
  replace wz36 := wf_u32 wz36
  obtain rfl : c3 = .int .u32 z33 := by simpa using hc34
  exact ⟨(S_api_Item.mk z13 (S_api_Version.mk z25 z29) z33), rfl, ⟨wz16, wz28, wz32, wz36, trivial⟩⟩

theorem open_S_tholelaw14_Act {H : Type} {enc : TypeId × Value → H} {w : World} {n : Nat} {r : List Value} {y : DataW H × List MemPlace} (h : DataW.trod enc Try.prog w 0 (fun _ => true) true n 71 r = some y) : ∃ x : S_tholelaw14_Act, r = S_tholelaw14_Act.row x ∧ S_tholelaw14_Act.wf x := by
  have hlen : r.length = 3 := by obtain ⟨xs, m, _, _, hl, _⟩ := DataW.trod_struct Try.underlying71 h; rw [hl]; kernel_rfl
  obtain ⟨c0, r0, rfl⟩ : ∃ c l, r = c :: l := by cases r with | nil => simp at hlen | cons c l => exact ⟨c, l, rfl⟩
  obtain ⟨c1, r1, rfl⟩ : ∃ c l, r0 = c :: l := by cases r0 with | nil => simp at hlen | cons c l => exact ⟨c, l, rfl⟩
  obtain ⟨c2, r2, rfl⟩ : ∃ c l, r1 = c :: l := by cases r1 with | nil => simp at hlen | cons c l => exact ⟨c, l, rfl⟩
  obtain rfl : r2 = [] := by simpa using hlen
  obtain ⟨n1, y2, hp3, hb4⟩ := trod_field (i := 0) (off := 0) (ty := 5) Try.underlying71 h (by rfl) (sz := 1) (by kernel_rfl)
  replace hp3 : DataW.trod enc Try.prog w 0 (fun _ => true) true n1 5 [c0] = some y2 := hp3
  obtain ⟨n5, y6, hp7, hb8⟩ := trod_field (i := 1) (off := 1) (ty := 4) Try.underlying71 h (by rfl) (sz := 1) (by kernel_rfl)
  replace hp7 : DataW.trod enc Try.prog w 0 (fun _ => true) true n5 4 [c1] = some y6 := hp7
  obtain ⟨n9, y10, hp11, hb12⟩ := trod_field (i := 2) (off := 2) (ty := 4) Try.underlying71 h (by rfl) (sz := 1) (by kernel_rfl)
  replace hp11 : DataW.trod enc Try.prog w 0 (fun _ => true) true n9 4 [c2] = some y10 := hp11
  obtain ⟨z13, hc14, hy15, wz16⟩ := DataW.trod_int Try.underlying5 hp3
  replace wz16 := wf_u8 wz16
  obtain rfl : c0 = .int .u8 z13 := by simpa using hc14
  obtain ⟨z17, hc18, hy19⟩ := DataW.trod_bool Try.underlying4 hp7
  obtain rfl : c1 = .bool z17 := by simpa using hc18
  obtain ⟨z20, hc21, hy22⟩ := DataW.trod_bool Try.underlying4 hp11
  obtain rfl : c2 = .bool z20 := by simpa using hc21
  exact ⟨(S_tholelaw14_Act.mk z13 z17 z20), rfl, ⟨wz16, trivial⟩⟩

theorem strs_S_api_Version {H : Type} {enc : TypeId × Value → H} {w : World} {n : Nat} {r : List Value} {y : DataW H × List MemPlace} {B : Nat} (h : DataW.trod enc Try.prog w 0 (fun _ => true) true n 23 r = some y) (hk : Rows.uptoBulk y.1 ≤ B) : StrB B r := by
  have hlen : r.length = 2 := by obtain ⟨xs, m, _, _, hl, _⟩ := DataW.trod_struct Try.underlying23 h; rw [hl]; kernel_rfl
  obtain ⟨c0, r0, rfl⟩ : ∃ c l, r = c :: l := by cases r with | nil => simp at hlen | cons c l => exact ⟨c, l, rfl⟩
  obtain ⟨c1, r1, rfl⟩ : ∃ c l, r0 = c :: l := by cases r0 with | nil => simp at hlen | cons c l => exact ⟨c, l, rfl⟩
  obtain rfl : r1 = [] := by simpa using hlen
  obtain ⟨n1, y2, hp3, hb4⟩ := trod_field (i := 0) (off := 0) (ty := 3) Try.underlying23 h (by rfl) (sz := 1) (by kernel_rfl)
  replace hp3 : DataW.trod enc Try.prog w 0 (fun _ => true) true n1 3 [c0] = some y2 := hp3
  have bk5 := bulk_agg hk hb4
  obtain ⟨n6, y7, hp8, hb9⟩ := trod_field (i := 1) (off := 1) (ty := 3) Try.underlying23 h (by rfl) (sz := 1) (by kernel_rfl)
  replace hp8 : DataW.trod enc Try.prog w 0 (fun _ => true) true n6 3 [c1] = some y7 := hp8
  have bk10 := bulk_agg hk hb9
  obtain ⟨z11, hc12, hy13, wz14⟩ := DataW.trod_int Try.underlying3 hp3
  replace wz14 := wf_i64 wz14
  obtain rfl : c0 = .int .i64 z11 := by simpa using hc12
  obtain ⟨z15, hc16, hy17, wz18⟩ := DataW.trod_int Try.underlying3 hp8
  replace wz18 := wf_i64 wz18
  obtain rfl : c1 = .int .i64 z15 := by simpa using hc16
  intro s hs
  simp only [List.mem_cons, List.not_mem_nil, or_false, false_or, Value.string.injEq, reduceCtorEq] at hs

theorem strs_S_api_Entry {H : Type} {enc : TypeId × Value → H} {w : World} {n : Nat} {r : List Value} {y : DataW H × List MemPlace} {B : Nat} (h : DataW.trod enc Try.prog w 0 (fun _ => true) true n 53 r = some y) (hk : Rows.uptoBulk y.1 ≤ B) : StrB B r := by
  have hlen : r.length = 7 := by obtain ⟨xs, m, _, _, hl, _⟩ := DataW.trod_struct Try.underlying53 h; rw [hl]; kernel_rfl
  obtain ⟨c0, r0, rfl⟩ : ∃ c l, r = c :: l := by cases r with | nil => simp at hlen | cons c l => exact ⟨c, l, rfl⟩
  obtain ⟨c1, r1, rfl⟩ : ∃ c l, r0 = c :: l := by cases r0 with | nil => simp at hlen | cons c l => exact ⟨c, l, rfl⟩
  obtain ⟨c2, r2, rfl⟩ : ∃ c l, r1 = c :: l := by cases r1 with | nil => simp at hlen | cons c l => exact ⟨c, l, rfl⟩
  obtain ⟨c3, r3, rfl⟩ : ∃ c l, r2 = c :: l := by cases r2 with | nil => simp at hlen | cons c l => exact ⟨c, l, rfl⟩
  obtain ⟨c4, r4, rfl⟩ : ∃ c l, r3 = c :: l := by cases r3 with | nil => simp at hlen | cons c l => exact ⟨c, l, rfl⟩
  obtain ⟨c5, r5, rfl⟩ : ∃ c l, r4 = c :: l := by cases r4 with | nil => simp at hlen | cons c l => exact ⟨c, l, rfl⟩
  obtain ⟨c6, r6, rfl⟩ : ∃ c l, r5 = c :: l := by cases r5 with | nil => simp at hlen | cons c l => exact ⟨c, l, rfl⟩
  obtain rfl : r6 = [] := by simpa using hlen
  obtain ⟨n1, y2, hp3, hb4⟩ := trod_field (i := 0) (off := 0) (ty := 23) Try.underlying53 h (by rfl) (sz := 2) (by kernel_rfl)
  replace hp3 : DataW.trod enc Try.prog w 0 (fun _ => true) true n1 23 [c0, c1] = some y2 := hp3
  have bk5 := bulk_agg hk hb4
  obtain ⟨n6, y7, hp8, hb9⟩ := trod_field (i := 1) (off := 2) (ty := 4) Try.underlying53 h (by rfl) (sz := 1) (by kernel_rfl)
  replace hp8 : DataW.trod enc Try.prog w 0 (fun _ => true) true n6 4 [c2] = some y7 := hp8
  have bk10 := bulk_agg hk hb9
  obtain ⟨n11, y12, hp13, hb14⟩ := trod_field (i := 2) (off := 3) (ty := 51) Try.underlying53 h (by rfl) (sz := 1) (by kernel_rfl)
  replace hp13 : DataW.trod enc Try.prog w 0 (fun _ => true) true n11 51 [c3] = some y12 := hp13
  have bk15 := bulk_agg hk hb14
  obtain ⟨n16, y17, hp18, hb19⟩ := trod_field (i := 3) (off := 4) (ty := 9) Try.underlying53 h (by rfl) (sz := 1) (by kernel_rfl)
  replace hp18 : DataW.trod enc Try.prog w 0 (fun _ => true) true n16 9 [c4] = some y17 := hp18
  have bk20 := bulk_agg hk hb19
  obtain ⟨n21, y22, hp23, hb24⟩ := trod_field (i := 4) (off := 5) (ty := 3) Try.underlying53 h (by rfl) (sz := 1) (by kernel_rfl)
  replace hp23 : DataW.trod enc Try.prog w 0 (fun _ => true) true n21 3 [c5] = some y22 := hp23
  have bk25 := bulk_agg hk hb24
  obtain ⟨n26, y27, hp28, hb29⟩ := trod_field (i := 5) (off := 6) (ty := 3) Try.underlying53 h (by rfl) (sz := 1) (by kernel_rfl)
  replace hp28 : DataW.trod enc Try.prog w 0 (fun _ => true) true n26 3 [c6] = some y27 := hp28
  have bk30 := bulk_agg hk hb29
  obtain ⟨n31, y32, hp33, hb34⟩ := trod_field (i := 0) (off := 0) (ty := 3) Try.underlying23 hp3 (by rfl) (sz := 1) (by kernel_rfl)
  replace hp33 : DataW.trod enc Try.prog w 0 (fun _ => true) true n31 3 [c0] = some y32 := hp33
  have bk35 := bulk_agg bk5 hb34
  obtain ⟨n36, y37, hp38, hb39⟩ := trod_field (i := 1) (off := 1) (ty := 3) Try.underlying23 hp3 (by rfl) (sz := 1) (by kernel_rfl)
  replace hp38 : DataW.trod enc Try.prog w 0 (fun _ => true) true n36 3 [c1] = some y37 := hp38
  have bk40 := bulk_agg bk5 hb39
  obtain ⟨z41, hc42, hy43, wz44⟩ := DataW.trod_int Try.underlying3 hp33
  replace wz44 := wf_i64 wz44
  obtain rfl : c0 = .int .i64 z41 := by simpa using hc42
  obtain ⟨z45, hc46, hy47, wz48⟩ := DataW.trod_int Try.underlying3 hp38
  replace wz48 := wf_i64 wz48
  obtain rfl : c1 = .int .i64 z45 := by simpa using hc46
  obtain ⟨z49, hc50, hy51⟩ := DataW.trod_bool Try.underlying4 hp8
  obtain rfl : c2 = .bool z49 := by simpa using hc50
  obtain ⟨z52, hc53, hy54, wz55⟩ := DataW.trod_int Try.underlying51 hp13
  replace wz55 := wf_i64 wz55
  obtain rfl : c3 = .int .i64 z52 := by simpa using hc53
  obtain ⟨z56, hc57, hy58, wz59⟩ := DataW.trod_string Try.underlying9 hp18
  obtain rfl : c4 = .string z56 := by simpa using hc57
  have sb60 := bulk_str bk20 hy58
  obtain ⟨z61, hc62, hy63, wz64⟩ := DataW.trod_int Try.underlying3 hp23
  replace wz64 := wf_i64 wz64
  obtain rfl : c5 = .int .i64 z61 := by simpa using hc62
  obtain ⟨z65, hc66, hy67, wz68⟩ := DataW.trod_int Try.underlying3 hp28
  replace wz68 := wf_i64 wz68
  obtain rfl : c6 = .int .i64 z65 := by simpa using hc66
  intro s hs
  simp only [List.mem_cons, List.not_mem_nil, or_false, false_or, Value.string.injEq, reduceCtorEq] at hs
  rcases hs with rfl <;> assumption

theorem strs_S_api_Last {H : Type} {enc : TypeId × Value → H} {w : World} {n : Nat} {r : List Value} {y : DataW H × List MemPlace} {B : Nat} (h : DataW.trod enc Try.prog w 0 (fun _ => true) true n 83 r = some y) (hk : Rows.uptoBulk y.1 ≤ B) : StrB B r := by
  have hlen : r.length = 5 := by obtain ⟨xs, m, _, _, hl, _⟩ := DataW.trod_struct Try.underlying83 h; rw [hl]; kernel_rfl
  obtain ⟨c0, r0, rfl⟩ : ∃ c l, r = c :: l := by cases r with | nil => simp at hlen | cons c l => exact ⟨c, l, rfl⟩
  obtain ⟨c1, r1, rfl⟩ : ∃ c l, r0 = c :: l := by cases r0 with | nil => simp at hlen | cons c l => exact ⟨c, l, rfl⟩
  obtain ⟨c2, r2, rfl⟩ : ∃ c l, r1 = c :: l := by cases r1 with | nil => simp at hlen | cons c l => exact ⟨c, l, rfl⟩
  obtain ⟨c3, r3, rfl⟩ : ∃ c l, r2 = c :: l := by cases r2 with | nil => simp at hlen | cons c l => exact ⟨c, l, rfl⟩
  obtain ⟨c4, r4, rfl⟩ : ∃ c l, r3 = c :: l := by cases r3 with | nil => simp at hlen | cons c l => exact ⟨c, l, rfl⟩
  obtain rfl : r4 = [] := by simpa using hlen
  obtain ⟨n1, y2, hp3, hb4⟩ := trod_field (i := 0) (off := 0) (ty := 3) Try.underlying83 h (by rfl) (sz := 1) (by kernel_rfl)
  replace hp3 : DataW.trod enc Try.prog w 0 (fun _ => true) true n1 3 [c0] = some y2 := hp3
  have bk5 := bulk_agg hk hb4
  obtain ⟨n6, y7, hp8, hb9⟩ := trod_field (i := 1) (off := 1) (ty := 3) Try.underlying83 h (by rfl) (sz := 1) (by kernel_rfl)
  replace hp8 : DataW.trod enc Try.prog w 0 (fun _ => true) true n6 3 [c1] = some y7 := hp8
  have bk10 := bulk_agg hk hb9
  obtain ⟨n11, y12, hp13, hb14⟩ := trod_field (i := 2) (off := 2) (ty := 51) Try.underlying83 h (by rfl) (sz := 1) (by kernel_rfl)
  replace hp13 : DataW.trod enc Try.prog w 0 (fun _ => true) true n11 51 [c2] = some y12 := hp13
  have bk15 := bulk_agg hk hb14
  obtain ⟨n16, y17, hp18, hb19⟩ := trod_field (i := 3) (off := 3) (ty := 23) Try.underlying83 h (by rfl) (sz := 2) (by kernel_rfl)
  replace hp18 : DataW.trod enc Try.prog w 0 (fun _ => true) true n16 23 [c3, c4] = some y17 := hp18
  have bk20 := bulk_agg hk hb19
  obtain ⟨z21, hc22, hy23, wz24⟩ := DataW.trod_int Try.underlying3 hp3
  replace wz24 := wf_i64 wz24
  obtain rfl : c0 = .int .i64 z21 := by simpa using hc22
  obtain ⟨z25, hc26, hy27, wz28⟩ := DataW.trod_int Try.underlying3 hp8
  replace wz28 := wf_i64 wz28
  obtain rfl : c1 = .int .i64 z25 := by simpa using hc26
  obtain ⟨z29, hc30, hy31, wz32⟩ := DataW.trod_int Try.underlying51 hp13
  replace wz32 := wf_i64 wz32
  obtain rfl : c2 = .int .i64 z29 := by simpa using hc30
  obtain ⟨n33, y34, hp35, hb36⟩ := trod_field (i := 0) (off := 0) (ty := 3) Try.underlying23 hp18 (by rfl) (sz := 1) (by kernel_rfl)
  replace hp35 : DataW.trod enc Try.prog w 0 (fun _ => true) true n33 3 [c3] = some y34 := hp35
  have bk37 := bulk_agg bk20 hb36
  obtain ⟨n38, y39, hp40, hb41⟩ := trod_field (i := 1) (off := 1) (ty := 3) Try.underlying23 hp18 (by rfl) (sz := 1) (by kernel_rfl)
  replace hp40 : DataW.trod enc Try.prog w 0 (fun _ => true) true n38 3 [c4] = some y39 := hp40
  have bk42 := bulk_agg bk20 hb41
  obtain ⟨z43, hc44, hy45, wz46⟩ := DataW.trod_int Try.underlying3 hp35
  replace wz46 := wf_i64 wz46
  obtain rfl : c3 = .int .i64 z43 := by simpa using hc44
  obtain ⟨z47, hc48, hy49, wz50⟩ := DataW.trod_int Try.underlying3 hp40
  replace wz50 := wf_i64 wz50
  obtain rfl : c4 = .int .i64 z47 := by simpa using hc48
  intro s hs
  simp only [List.mem_cons, List.not_mem_nil, or_false, false_or, Value.string.injEq, reduceCtorEq] at hs

theorem strs_S_api_Item {H : Type} {enc : TypeId × Value → H} {w : World} {n : Nat} {r : List Value} {y : DataW H × List MemPlace} {B : Nat} (h : DataW.trod enc Try.prog w 0 (fun _ => true) true n 45 r = some y) (hk : Rows.uptoBulk y.1 ≤ B) : StrB B r := by
  have hlen : r.length = 4 := by obtain ⟨xs, m, _, _, hl, _⟩ := DataW.trod_struct Try.underlying45 h; rw [hl]; kernel_rfl
  obtain ⟨c0, r0, rfl⟩ : ∃ c l, r = c :: l := by cases r with | nil => simp at hlen | cons c l => exact ⟨c, l, rfl⟩
  obtain ⟨c1, r1, rfl⟩ : ∃ c l, r0 = c :: l := by cases r0 with | nil => simp at hlen | cons c l => exact ⟨c, l, rfl⟩
  obtain ⟨c2, r2, rfl⟩ : ∃ c l, r1 = c :: l := by cases r1 with | nil => simp at hlen | cons c l => exact ⟨c, l, rfl⟩
  obtain ⟨c3, r3, rfl⟩ : ∃ c l, r2 = c :: l := by cases r2 with | nil => simp at hlen | cons c l => exact ⟨c, l, rfl⟩
  obtain rfl : r3 = [] := by simpa using hlen
  obtain ⟨n1, y2, hp3, hb4⟩ := trod_field (i := 0) (off := 0) (ty := 9) Try.underlying45 h (by rfl) (sz := 1) (by kernel_rfl)
  replace hp3 : DataW.trod enc Try.prog w 0 (fun _ => true) true n1 9 [c0] = some y2 := hp3
  have bk5 := bulk_agg hk hb4
  obtain ⟨n6, y7, hp8, hb9⟩ := trod_field (i := 1) (off := 1) (ty := 23) Try.underlying45 h (by rfl) (sz := 2) (by kernel_rfl)
  replace hp8 : DataW.trod enc Try.prog w 0 (fun _ => true) true n6 23 [c1, c2] = some y7 := hp8
  have bk10 := bulk_agg hk hb9
  obtain ⟨n11, y12, hp13, hb14⟩ := trod_field (i := 2) (off := 3) (ty := 43) Try.underlying45 h (by rfl) (sz := 1) (by kernel_rfl)
  replace hp13 : DataW.trod enc Try.prog w 0 (fun _ => true) true n11 43 [c3] = some y12 := hp13
  have bk15 := bulk_agg hk hb14
  obtain ⟨z16, hc17, hy18, wz19⟩ := DataW.trod_string Try.underlying9 hp3
  obtain rfl : c0 = .string z16 := by simpa using hc17
  have sb20 := bulk_str bk5 hy18
  obtain ⟨n21, y22, hp23, hb24⟩ := trod_field (i := 0) (off := 0) (ty := 3) Try.underlying23 hp8 (by rfl) (sz := 1) (by kernel_rfl)
  replace hp23 : DataW.trod enc Try.prog w 0 (fun _ => true) true n21 3 [c1] = some y22 := hp23
  have bk25 := bulk_agg bk10 hb24
  obtain ⟨n26, y27, hp28, hb29⟩ := trod_field (i := 1) (off := 1) (ty := 3) Try.underlying23 hp8 (by rfl) (sz := 1) (by kernel_rfl)
  replace hp28 : DataW.trod enc Try.prog w 0 (fun _ => true) true n26 3 [c2] = some y27 := hp28
  have bk30 := bulk_agg bk10 hb29
  obtain ⟨z31, hc32, hy33, wz34⟩ := DataW.trod_int Try.underlying3 hp23
  replace wz34 := wf_i64 wz34
  obtain rfl : c1 = .int .i64 z31 := by simpa using hc32
  obtain ⟨z35, hc36, hy37, wz38⟩ := DataW.trod_int Try.underlying3 hp28
  replace wz38 := wf_i64 wz38
  obtain rfl : c2 = .int .i64 z35 := by simpa using hc36
  obtain ⟨z39, hc40, hy41, wz42⟩ := DataW.trod_int Try.underlying43 hp13
  replace wz42 := wf_u32 wz42
  obtain rfl : c3 = .int .u32 z39 := by simpa using hc40
  intro s hs
  simp only [List.mem_cons, List.not_mem_nil, or_false, false_or, Value.string.injEq, reduceCtorEq] at hs
  rcases hs with rfl <;> assumption

theorem strs_S_tholelaw14_Act {H : Type} {enc : TypeId × Value → H} {w : World} {n : Nat} {r : List Value} {y : DataW H × List MemPlace} {B : Nat} (h : DataW.trod enc Try.prog w 0 (fun _ => true) true n 71 r = some y) (hk : Rows.uptoBulk y.1 ≤ B) : StrB B r := by
  have hlen : r.length = 3 := by obtain ⟨xs, m, _, _, hl, _⟩ := DataW.trod_struct Try.underlying71 h; rw [hl]; kernel_rfl
  obtain ⟨c0, r0, rfl⟩ : ∃ c l, r = c :: l := by cases r with | nil => simp at hlen | cons c l => exact ⟨c, l, rfl⟩
  obtain ⟨c1, r1, rfl⟩ : ∃ c l, r0 = c :: l := by cases r0 with | nil => simp at hlen | cons c l => exact ⟨c, l, rfl⟩
  obtain ⟨c2, r2, rfl⟩ : ∃ c l, r1 = c :: l := by cases r1 with | nil => simp at hlen | cons c l => exact ⟨c, l, rfl⟩
  obtain rfl : r2 = [] := by simpa using hlen
  obtain ⟨n1, y2, hp3, hb4⟩ := trod_field (i := 0) (off := 0) (ty := 5) Try.underlying71 h (by rfl) (sz := 1) (by kernel_rfl)
  replace hp3 : DataW.trod enc Try.prog w 0 (fun _ => true) true n1 5 [c0] = some y2 := hp3
  have bk5 := bulk_agg hk hb4
  obtain ⟨n6, y7, hp8, hb9⟩ := trod_field (i := 1) (off := 1) (ty := 4) Try.underlying71 h (by rfl) (sz := 1) (by kernel_rfl)
  replace hp8 : DataW.trod enc Try.prog w 0 (fun _ => true) true n6 4 [c1] = some y7 := hp8
  have bk10 := bulk_agg hk hb9
  obtain ⟨n11, y12, hp13, hb14⟩ := trod_field (i := 2) (off := 2) (ty := 4) Try.underlying71 h (by rfl) (sz := 1) (by kernel_rfl)
  replace hp13 : DataW.trod enc Try.prog w 0 (fun _ => true) true n11 4 [c2] = some y12 := hp13
  have bk15 := bulk_agg hk hb14
  obtain ⟨z16, hc17, hy18, wz19⟩ := DataW.trod_int Try.underlying5 hp3
  replace wz19 := wf_u8 wz19
  obtain rfl : c0 = .int .u8 z16 := by simpa using hc17
  obtain ⟨z20, hc21, hy22⟩ := DataW.trod_bool Try.underlying4 hp8
  obtain rfl : c1 = .bool z20 := by simpa using hc21
  obtain ⟨z23, hc24, hy25⟩ := DataW.trod_bool Try.underlying4 hp13
  obtain rfl : c2 = .bool z23 := by simpa using hc24
  intro s hs
  simp only [List.mem_cons, List.not_mem_nil, or_false, false_or, Value.string.injEq, reduceCtorEq] at hs

end Go.Proofs.Ytdelhcdknglibaa
