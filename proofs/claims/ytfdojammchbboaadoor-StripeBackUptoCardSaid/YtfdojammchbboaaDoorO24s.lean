/-
  CHAPTER 24s: what comes in.
-/
import Derived.Test.YtfdojammchbboaaDoorSxh
import Derived.Test.YtfdojammchbboaaDoorM24s
import Derived.Test.YtfdojammchbboaaDoorRows
set_option linter.unusedVariables false
set_option linter.unusedSimpArgs false
set_option maxRecDepth 100000
namespace Go.Proofs.YtfdojammchbboaaDoor
open Go Go.RowKit Go.ChangeShapes Go.WideShapes Go.ChangeAt Sx

def S_stripe_Layout.wf (x : S_stripe_Layout) : Prop := I64 x.Unit ∧ I64 x.Count ∧ I64 x.Size ∧ True
def S_stripe_Extent.wf (x : S_stripe_Extent) : Prop := I64 x.Object ∧ I64 x.At ∧ I64 x.N ∧ True
def S_tholeref24_Layout.wf (x : S_tholeref24_Layout) : Prop := I64 x.Unit ∧ I64 x.Count ∧ I64 x.Size ∧ True
def S_tholeref24_Extent.wf (x : S_tholeref24_Extent) : Prop := I64 x.Object ∧ I64 x.At ∧ I64 x.N ∧ True

theorem open_str {H : Type} {enc : TypeId × Value → H} {P : Program} {w : World} {n e : Nat} {r : List Value} {y : DataW H × List MemPlace} (he : P.underlying e = some .string) (h : DataW.trod enc P w 0 (fun _ => true) true n e r = some y) : ∃ x : ByteArray, r = rS x ∧ x.size ≤ 9223372036854775807 := by
  obtain ⟨s, h1, _, h2⟩ := DataW.trod_string he h
  exact ⟨s, h1, h2⟩
theorem open_bool {H : Type} {enc : TypeId × Value → H} {P : Program} {w : World} {n e : Nat} {r : List Value} {y : DataW H × List MemPlace} (he : P.underlying e = some .bool) (h : DataW.trod enc P w 0 (fun _ => true) true n e r = some y) : ∃ x : Bool, r = rBo x ∧ True := by
  obtain ⟨s, h1, _⟩ := DataW.trod_bool he h
  exact ⟨s, h1, trivial⟩
theorem open_u64 {H : Type} {enc : TypeId × Value → H} {P : Program} {w : World} {n e : Nat} {r : List Value} {y : DataW H × List MemPlace} (he : P.underlying e = some (.int .u64)) (h : DataW.trod enc P w 0 (fun _ => true) true n e r = some y) : ∃ x : Int, r = rU64 x ∧ (0 ≤ x ∧ x ≤ 18446744073709551615) := by
  obtain ⟨z, h1, _, h2⟩ := DataW.trod_int he h
  exact ⟨z, h1, wf_u64 h2⟩
theorem open_u8 {H : Type} {enc : TypeId × Value → H} {P : Program} {w : World} {n e : Nat} {r : List Value} {y : DataW H × List MemPlace} (he : P.underlying e = some (.int .u8)) (h : DataW.trod enc P w 0 (fun _ => true) true n e r = some y) : ∃ x : UInt8, r = rB x ∧ True := by
  obtain ⟨z, h1, _, h2⟩ := DataW.trod_int he h
  have := wf_u8 h2
  exact ⟨UInt8.ofNat z.toNat, by rw [h1, rB, u8_of ⟨this.1, by omega⟩], trivial⟩

theorem open_S_stripe_Layout {H : Type} {enc : TypeId × Value → H} {w : World} {n : Nat} {r : List Value} {y : DataW H × List MemPlace} (h : DataW.trod enc Tryd.prog w 0 (fun _ => true) true n 23 r = some y) : ∃ x : S_stripe_Layout, r = S_stripe_Layout.row x ∧ S_stripe_Layout.wf x := by
  have hlen : r.length = 3 := by obtain ⟨xs, m, _, _, hl, _⟩ := DataW.trod_struct Tryd.underlying23 h; rw [hl]; kernel_rfl
  obtain ⟨c0, r0, rfl⟩ : ∃ c l, r = c :: l := by cases r with | nil => simp at hlen | cons c l => exact ⟨c, l, rfl⟩
  obtain ⟨c1, r1, rfl⟩ : ∃ c l, r0 = c :: l := by cases r0 with | nil => simp at hlen | cons c l => exact ⟨c, l, rfl⟩
  obtain ⟨c2, r2, rfl⟩ : ∃ c l, r1 = c :: l := by cases r1 with | nil => simp at hlen | cons c l => exact ⟨c, l, rfl⟩
  obtain rfl : r2 = [] := by simpa using hlen
  obtain ⟨n1, y2, hp3, hb4⟩ := trod_field (i := 0) (off := 0) (ty := 3) Tryd.underlying23 h (by rfl) (sz := 1) (by kernel_rfl)
  replace hp3 : DataW.trod enc Tryd.prog w 0 (fun _ => true) true n1 3 [c0] = some y2 := hp3
  obtain ⟨n5, y6, hp7, hb8⟩ := trod_field (i := 1) (off := 1) (ty := 3) Tryd.underlying23 h (by rfl) (sz := 1) (by kernel_rfl)
  replace hp7 : DataW.trod enc Tryd.prog w 0 (fun _ => true) true n5 3 [c1] = some y6 := hp7
  obtain ⟨n9, y10, hp11, hb12⟩ := trod_field (i := 2) (off := 2) (ty := 3) Tryd.underlying23 h (by rfl) (sz := 1) (by kernel_rfl)
  replace hp11 : DataW.trod enc Tryd.prog w 0 (fun _ => true) true n9 3 [c2] = some y10 := hp11
  obtain ⟨z13, hc14, hy15, wz16⟩ := DataW.trod_int Tryd.underlying3 hp3
  replace wz16 := wf_i64 wz16
  obtain rfl : c0 = .int .i64 z13 := by simpa using hc14
  obtain ⟨z17, hc18, hy19, wz20⟩ := DataW.trod_int Tryd.underlying3 hp7
  replace wz20 := wf_i64 wz20
  obtain rfl : c1 = .int .i64 z17 := by simpa using hc18
  obtain ⟨z21, hc22, hy23, wz24⟩ := DataW.trod_int Tryd.underlying3 hp11
  replace wz24 := wf_i64 wz24
  obtain rfl : c2 = .int .i64 z21 := by simpa using hc22
  exact ⟨(S_stripe_Layout.mk z13 z17 z21), rfl, ⟨wz16, wz20, wz24, trivial⟩⟩

theorem open_S_stripe_Extent {H : Type} {enc : TypeId × Value → H} {w : World} {n : Nat} {r : List Value} {y : DataW H × List MemPlace} (h : DataW.trod enc Tryd.prog w 0 (fun _ => true) true n 44 r = some y) : ∃ x : S_stripe_Extent, r = S_stripe_Extent.row x ∧ S_stripe_Extent.wf x := by
  have hlen : r.length = 3 := by obtain ⟨xs, m, _, _, hl, _⟩ := DataW.trod_struct Tryd.underlying44 h; rw [hl]; kernel_rfl
  obtain ⟨c0, r0, rfl⟩ : ∃ c l, r = c :: l := by cases r with | nil => simp at hlen | cons c l => exact ⟨c, l, rfl⟩
  obtain ⟨c1, r1, rfl⟩ : ∃ c l, r0 = c :: l := by cases r0 with | nil => simp at hlen | cons c l => exact ⟨c, l, rfl⟩
  obtain ⟨c2, r2, rfl⟩ : ∃ c l, r1 = c :: l := by cases r1 with | nil => simp at hlen | cons c l => exact ⟨c, l, rfl⟩
  obtain rfl : r2 = [] := by simpa using hlen
  obtain ⟨n1, y2, hp3, hb4⟩ := trod_field (i := 0) (off := 0) (ty := 3) Tryd.underlying44 h (by rfl) (sz := 1) (by kernel_rfl)
  replace hp3 : DataW.trod enc Tryd.prog w 0 (fun _ => true) true n1 3 [c0] = some y2 := hp3
  obtain ⟨n5, y6, hp7, hb8⟩ := trod_field (i := 1) (off := 1) (ty := 3) Tryd.underlying44 h (by rfl) (sz := 1) (by kernel_rfl)
  replace hp7 : DataW.trod enc Tryd.prog w 0 (fun _ => true) true n5 3 [c1] = some y6 := hp7
  obtain ⟨n9, y10, hp11, hb12⟩ := trod_field (i := 2) (off := 2) (ty := 3) Tryd.underlying44 h (by rfl) (sz := 1) (by kernel_rfl)
  replace hp11 : DataW.trod enc Tryd.prog w 0 (fun _ => true) true n9 3 [c2] = some y10 := hp11
  obtain ⟨z13, hc14, hy15, wz16⟩ := DataW.trod_int Tryd.underlying3 hp3
  replace wz16 := wf_i64 wz16
  obtain rfl : c0 = .int .i64 z13 := by simpa using hc14
  obtain ⟨z17, hc18, hy19, wz20⟩ := DataW.trod_int Tryd.underlying3 hp7
  replace wz20 := wf_i64 wz20
  obtain rfl : c1 = .int .i64 z17 := by simpa using hc18
  obtain ⟨z21, hc22, hy23, wz24⟩ := DataW.trod_int Tryd.underlying3 hp11
  replace wz24 := wf_i64 wz24
  obtain rfl : c2 = .int .i64 z21 := by simpa using hc22
  exact ⟨(S_stripe_Extent.mk z13 z17 z21), rfl, ⟨wz16, wz20, wz24, trivial⟩⟩

theorem open_S_tholeref24_Layout {H : Type} {enc : TypeId × Value → H} {w : World} {n : Nat} {r : List Value} {y : DataW H × List MemPlace} (h : DataW.trod enc Tryd.prog w 0 (fun _ => true) true n 24 r = some y) : ∃ x : S_tholeref24_Layout, r = S_tholeref24_Layout.row x ∧ S_tholeref24_Layout.wf x := by
  have hlen : r.length = 3 := by obtain ⟨xs, m, _, _, hl, _⟩ := DataW.trod_struct Tryd.underlying24 h; rw [hl]; kernel_rfl
  obtain ⟨c0, r0, rfl⟩ : ∃ c l, r = c :: l := by cases r with | nil => simp at hlen | cons c l => exact ⟨c, l, rfl⟩
  obtain ⟨c1, r1, rfl⟩ : ∃ c l, r0 = c :: l := by cases r0 with | nil => simp at hlen | cons c l => exact ⟨c, l, rfl⟩
  obtain ⟨c2, r2, rfl⟩ : ∃ c l, r1 = c :: l := by cases r1 with | nil => simp at hlen | cons c l => exact ⟨c, l, rfl⟩
  obtain rfl : r2 = [] := by simpa using hlen
  obtain ⟨n1, y2, hp3, hb4⟩ := trod_field (i := 0) (off := 0) (ty := 3) Tryd.underlying24 h (by rfl) (sz := 1) (by kernel_rfl)
  replace hp3 : DataW.trod enc Tryd.prog w 0 (fun _ => true) true n1 3 [c0] = some y2 := hp3
  obtain ⟨n5, y6, hp7, hb8⟩ := trod_field (i := 1) (off := 1) (ty := 3) Tryd.underlying24 h (by rfl) (sz := 1) (by kernel_rfl)
  replace hp7 : DataW.trod enc Tryd.prog w 0 (fun _ => true) true n5 3 [c1] = some y6 := hp7
  obtain ⟨n9, y10, hp11, hb12⟩ := trod_field (i := 2) (off := 2) (ty := 3) Tryd.underlying24 h (by rfl) (sz := 1) (by kernel_rfl)
  replace hp11 : DataW.trod enc Tryd.prog w 0 (fun _ => true) true n9 3 [c2] = some y10 := hp11
  obtain ⟨z13, hc14, hy15, wz16⟩ := DataW.trod_int Tryd.underlying3 hp3
  replace wz16 := wf_i64 wz16
  obtain rfl : c0 = .int .i64 z13 := by simpa using hc14
  obtain ⟨z17, hc18, hy19, wz20⟩ := DataW.trod_int Tryd.underlying3 hp7
  replace wz20 := wf_i64 wz20
  obtain rfl : c1 = .int .i64 z17 := by simpa using hc18
  obtain ⟨z21, hc22, hy23, wz24⟩ := DataW.trod_int Tryd.underlying3 hp11
  replace wz24 := wf_i64 wz24
  obtain rfl : c2 = .int .i64 z21 := by simpa using hc22
  exact ⟨(S_tholeref24_Layout.mk z13 z17 z21), rfl, ⟨wz16, wz20, wz24, trivial⟩⟩

theorem open_S_tholeref24_Extent {H : Type} {enc : TypeId × Value → H} {w : World} {n : Nat} {r : List Value} {y : DataW H × List MemPlace} (h : DataW.trod enc Tryd.prog w 0 (fun _ => true) true n 45 r = some y) : ∃ x : S_tholeref24_Extent, r = S_tholeref24_Extent.row x ∧ S_tholeref24_Extent.wf x := by
  have hlen : r.length = 3 := by obtain ⟨xs, m, _, _, hl, _⟩ := DataW.trod_struct Tryd.underlying45 h; rw [hl]; kernel_rfl
  obtain ⟨c0, r0, rfl⟩ : ∃ c l, r = c :: l := by cases r with | nil => simp at hlen | cons c l => exact ⟨c, l, rfl⟩
  obtain ⟨c1, r1, rfl⟩ : ∃ c l, r0 = c :: l := by cases r0 with | nil => simp at hlen | cons c l => exact ⟨c, l, rfl⟩
  obtain ⟨c2, r2, rfl⟩ : ∃ c l, r1 = c :: l := by cases r1 with | nil => simp at hlen | cons c l => exact ⟨c, l, rfl⟩
  obtain rfl : r2 = [] := by simpa using hlen
  obtain ⟨n1, y2, hp3, hb4⟩ := trod_field (i := 0) (off := 0) (ty := 3) Tryd.underlying45 h (by rfl) (sz := 1) (by kernel_rfl)
  replace hp3 : DataW.trod enc Tryd.prog w 0 (fun _ => true) true n1 3 [c0] = some y2 := hp3
  obtain ⟨n5, y6, hp7, hb8⟩ := trod_field (i := 1) (off := 1) (ty := 3) Tryd.underlying45 h (by rfl) (sz := 1) (by kernel_rfl)
  replace hp7 : DataW.trod enc Tryd.prog w 0 (fun _ => true) true n5 3 [c1] = some y6 := hp7
  obtain ⟨n9, y10, hp11, hb12⟩ := trod_field (i := 2) (off := 2) (ty := 3) Tryd.underlying45 h (by rfl) (sz := 1) (by kernel_rfl)
  replace hp11 : DataW.trod enc Tryd.prog w 0 (fun _ => true) true n9 3 [c2] = some y10 := hp11
  obtain ⟨z13, hc14, hy15, wz16⟩ := DataW.trod_int Tryd.underlying3 hp3
  replace wz16 := wf_i64 wz16
  obtain rfl : c0 = .int .i64 z13 := by simpa using hc14
  obtain ⟨z17, hc18, hy19, wz20⟩ := DataW.trod_int Tryd.underlying3 hp7
  replace wz20 := wf_i64 wz20
  obtain rfl : c1 = .int .i64 z17 := by simpa using hc18
  obtain ⟨z21, hc22, hy23, wz24⟩ := DataW.trod_int Tryd.underlying3 hp11
  replace wz24 := wf_i64 wz24
  obtain rfl : c2 = .int .i64 z21 := by simpa using hc22
  exact ⟨(S_tholeref24_Extent.mk z13 z17 z21), rfl, ⟨wz16, wz20, wz24, trivial⟩⟩

theorem rows_nest {α : Type} (R : Hd → α → List Value) (J : Hd → α → List Ent) {w : World} {rows : List (List Value)} (h : ∀ r ∈ rows, ∃ (x : α) (g : Hd), r = R g x ∧ ∀ e ∈ J g x, e.ok w) : ∃ (hs : Hds) (L : List α), rows = nrows R hs L ∧ (Ent.all (nins J hs L)).ok w := by
  suffices H : ∃ (hs : Hds) (L : List α), rows = nrows R hs L ∧ ∀ e ∈ nins J hs L, e.ok w by
    obtain ⟨hs, L, h1, h2⟩ := H
    exact ⟨hs, L, h1, Ent.all_ok h2⟩
  induction rows with
  | nil => exact ⟨fun _ => nilH, [], rfl, by simp [nins]⟩
  | cons r rows ih =>
    obtain ⟨hs, L, h1, h2⟩ := ih fun q hq => h q (by simp [hq])
    obtain ⟨x, g, h3, h4⟩ := h r (by simp)
    refine ⟨fun | 0 => g | i + 1 => hs i, x :: L, by rw [h1, h3]; rfl, fun e he => ?_⟩
    rcases List.mem_append.1 (show e ∈ J g x ++ nins J hs L from he) with he | he
    · exact h4 e he
    · exact h2 e he

theorem openN_54 {H : Type} {enc : TypeId × Value → H} {w : World} {n : Nat} {r : List Value} {y : DataW H × List MemPlace} (h : DataW.trod enc Tryd.prog w 0 (fun _ => true) true n 54 r = some y) : ∃ (x : List UInt8) (g : Hd), r = nR54 g x ∧ ∀ e ∈ nJ54 g x, e.ok w := by
  have hlen : r.length = 1 := by obtain ⟨_, _, _, _, h1, _⟩ := open_rows (sz := 1) Tryd.underlying54 (by kernel_rfl) (by omega) h; rw [h1]; rfl
  obtain ⟨c0, r0, rfl⟩ : ∃ c l, r = c :: l := by cases r with | nil => simp at hlen | cons c l => exact ⟨c, l, rfl⟩
  obtain rfl : r0 = [] := by simpa using hlen
  obtain ⟨o1, n5, c2, rows6, hc7, hn8, hle9, hl10, he11, hr12, ho13, hb14⟩ := open_rows (sz := 1) Tryd.underlying54 (by kernel_rfl) (by omega) h
  replace hl10 : n5 ≤ 9223372036854775807 := by omega
  obtain ⟨l3, rfl, hq15⟩ := rows_dec rB _ (fun r hr => by obtain ⟨n, y, hy⟩ := hr12 r hr; exact open_u8 Tryd.underlying5 hy)
  obtain rfl : l3.length = n5 := by simpa using hn8
  replace he11 : (Ent.rd o1 1 (List.map rB l3)).ok w := he11
  obtain rfl : c0 = .slice o1 l3.length c2 := by simpa using hc7
  refine ⟨l3, (fun | 0 => (o1, c2) | _ => (none, 0)), rfl, fun e he => ?_⟩
  simp only [List.mem_cons, List.not_mem_nil, or_false] at he
  rcases he with rfl | rfl
  · exact he11
  · exact ⟨hle9, fun _ hb => hb.elim⟩

end Go.Proofs.YtfdojammchbboaaDoor
