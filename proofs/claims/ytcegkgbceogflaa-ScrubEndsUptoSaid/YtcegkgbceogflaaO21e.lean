/-
  CHAPTER 21e: what comes in.
-/
import Derived.Test.YtcegkgbceogflaaSxh
import Derived.Test.YtcegkgbceogflaaM21e
import Derived.Test.YtcegkgbceogflaaRows
import Derived.Test.YtcegkgbceogflaaBulk
set_option linter.unusedVariables false
set_option linter.unusedSimpArgs false
set_option maxRecDepth 100000
namespace Go.Proofs.Ytcegkgbceogflaa
open Go Go.RowKit Go.ChangeShapes Go.WideShapes Go.ChangeAt Sx

def S_api_Pg.wf (x : S_api_Pg) : Prop := I64 x.Pool ∧ I64 x.Seed ∧ True
def S_api_Version.wf (x : S_api_Version) : Prop := I64 x.Epoch ∧ I64 x.N ∧ True
def S_api_Entry.wf (x : S_api_Entry) : Prop := I64 x.Version.Epoch ∧ I64 x.Version.N ∧ I64 x.Errno ∧ x.Name.size ≤ 9223372036854775807 ∧ I64 x.Client ∧ I64 x.Number ∧ True
def S_api_Last.wf (x : S_api_Last) : Prop := I64 x.Client ∧ I64 x.Number ∧ I64 x.Errno ∧ I64 x.Version.Epoch ∧ I64 x.Version.N ∧ True
def S_api_Item.wf (x : S_api_Item) : Prop := x.Name.size ≤ 9223372036854775807 ∧ I64 x.Version.Epoch ∧ I64 x.Version.N ∧ (0 ≤ x.Crc ∧ x.Crc ≤ 4294967295) ∧ True

theorem open_str {H : Type} {enc : TypeId × Value → H} {P : Program} {w : World} {n e : Nat} {r : List Value} {y : DataW H × List MemPlace} (he : P.underlying e = some .string) (h : DataW.trod enc P w 0 (fun _ => true) true n e r = some y) : ∃ x : ByteArray, r = rS x ∧ x.size ≤ 9223372036854775807 := by
  obtain ⟨s, h1, _, h2⟩ := DataW.trod_string he h
  exact ⟨s, h1, h2⟩
theorem open_S_api_Entry {H : Type} {enc : TypeId × Value → H} {w : World} {n : Nat} {r : List Value} {y : DataW H × List MemPlace} (h : DataW.trod enc Try.prog w 0 (fun _ => true) true n 40 r = some y) : ∃ x : S_api_Entry, r = S_api_Entry.row x ∧ S_api_Entry.wf x := by
  have hlen : r.length = 7 := by obtain ⟨xs, m, _, _, hl, _⟩ := DataW.trod_struct Try.underlying40 h; rw [hl]; kernel_rfl
  obtain ⟨c0, r0, rfl⟩ : ∃ c l, r = c :: l := by cases r with | nil => simp at hlen | cons c l => exact ⟨c, l, rfl⟩
  obtain ⟨c1, r1, rfl⟩ : ∃ c l, r0 = c :: l := by cases r0 with | nil => simp at hlen | cons c l => exact ⟨c, l, rfl⟩
  obtain ⟨c2, r2, rfl⟩ : ∃ c l, r1 = c :: l := by cases r1 with | nil => simp at hlen | cons c l => exact ⟨c, l, rfl⟩
  obtain ⟨c3, r3, rfl⟩ : ∃ c l, r2 = c :: l := by cases r2 with | nil => simp at hlen | cons c l => exact ⟨c, l, rfl⟩
  obtain ⟨c4, r4, rfl⟩ : ∃ c l, r3 = c :: l := by cases r3 with | nil => simp at hlen | cons c l => exact ⟨c, l, rfl⟩
  obtain ⟨c5, r5, rfl⟩ : ∃ c l, r4 = c :: l := by cases r4 with | nil => simp at hlen | cons c l => exact ⟨c, l, rfl⟩
  obtain ⟨c6, r6, rfl⟩ : ∃ c l, r5 = c :: l := by cases r5 with | nil => simp at hlen | cons c l => exact ⟨c, l, rfl⟩
  obtain rfl : r6 = [] := by simpa using hlen
  obtain ⟨n1, y2, hp3, hb4⟩ := trod_field (i := 0) (off := 0) (ty := 30) Try.underlying40 h (by rfl) (sz := 2) (by kernel_rfl)
  replace hp3 : DataW.trod enc Try.prog w 0 (fun _ => true) true n1 30 [c0, c1] = some y2 := hp3
  obtain ⟨n5, y6, hp7, hb8⟩ := trod_field (i := 1) (off := 2) (ty := 4) Try.underlying40 h (by rfl) (sz := 1) (by kernel_rfl)
  replace hp7 : DataW.trod enc Try.prog w 0 (fun _ => true) true n5 4 [c2] = some y6 := hp7
  obtain ⟨n9, y10, hp11, hb12⟩ := trod_field (i := 2) (off := 3) (ty := 38) Try.underlying40 h (by rfl) (sz := 1) (by kernel_rfl)
  replace hp11 : DataW.trod enc Try.prog w 0 (fun _ => true) true n9 38 [c3] = some y10 := hp11
  obtain ⟨n13, y14, hp15, hb16⟩ := trod_field (i := 3) (off := 4) (ty := 9) Try.underlying40 h (by rfl) (sz := 1) (by kernel_rfl)
  replace hp15 : DataW.trod enc Try.prog w 0 (fun _ => true) true n13 9 [c4] = some y14 := hp15
  obtain ⟨n17, y18, hp19, hb20⟩ := trod_field (i := 4) (off := 5) (ty := 3) Try.underlying40 h (by rfl) (sz := 1) (by kernel_rfl)
  replace hp19 : DataW.trod enc Try.prog w 0 (fun _ => true) true n17 3 [c5] = some y18 := hp19
  obtain ⟨n21, y22, hp23, hb24⟩ := trod_field (i := 5) (off := 6) (ty := 3) Try.underlying40 h (by rfl) (sz := 1) (by kernel_rfl)
  replace hp23 : DataW.trod enc Try.prog w 0 (fun _ => true) true n21 3 [c6] = some y22 := hp23
  obtain ⟨n25, y26, hp27, hb28⟩ := trod_field (i := 0) (off := 0) (ty := 3) Try.underlying30 hp3 (by rfl) (sz := 1) (by kernel_rfl)
  replace hp27 : DataW.trod enc Try.prog w 0 (fun _ => true) true n25 3 [c0] = some y26 := hp27
  obtain ⟨n29, y30, hp31, hb32⟩ := trod_field (i := 1) (off := 1) (ty := 3) Try.underlying30 hp3 (by rfl) (sz := 1) (by kernel_rfl)
  replace hp31 : DataW.trod enc Try.prog w 0 (fun _ => true) true n29 3 [c1] = some y30 := hp31
  obtain ⟨z33, hc34, hy35, wz36⟩ := DataW.trod_int Try.underlying3 hp27
  replace wz36 := wf_i64 wz36
  obtain rfl : c0 = .int .i64 z33 := by simpa using hc34
  obtain ⟨z37, hc38, hy39, wz40⟩ := DataW.trod_int Try.underlying3 hp31
  replace wz40 := wf_i64 wz40
  obtain rfl : c1 = .int .i64 z37 := by simpa using hc38
  obtain ⟨z41, hc42, hy43⟩ := DataW.trod_bool Try.underlying4 hp7
  obtain rfl : c2 = .bool z41 := by simpa using hc42
  obtain ⟨z44, hc45, hy46, wz47⟩ := DataW.trod_int Try.underlying38 hp11
  replace wz47 := wf_i64 wz47
  obtain rfl : c3 = .int .i64 z44 := by simpa using hc45
  obtain ⟨z48, hc49, hy50, wz51⟩ := DataW.trod_string Try.underlying9 hp15
  obtain rfl : c4 = .string z48 := by simpa using hc49
  obtain ⟨z52, hc53, hy54, wz55⟩ := DataW.trod_int Try.underlying3 hp19
  replace wz55 := wf_i64 wz55
  obtain rfl : c5 = .int .i64 z52 := by simpa using hc53
  obtain ⟨z56, hc57, hy58, wz59⟩ := DataW.trod_int Try.underlying3 hp23
  replace wz59 := wf_i64 wz59
  obtain rfl : c6 = .int .i64 z56 := by simpa using hc57
  exact ⟨(S_api_Entry.mk (S_api_Version.mk z33 z37) z41 z44 z48 z52 z56), rfl, ⟨wz36, wz40, wz47, wz51, wz55, wz59, trivial⟩⟩

theorem open_S_api_Last {H : Type} {enc : TypeId × Value → H} {w : World} {n : Nat} {r : List Value} {y : DataW H × List MemPlace} (h : DataW.trod enc Try.prog w 0 (fun _ => true) true n 164 r = some y) : ∃ x : S_api_Last, r = S_api_Last.row x ∧ S_api_Last.wf x := by
  have hlen : r.length = 5 := by obtain ⟨xs, m, _, _, hl, _⟩ := DataW.trod_struct Try.underlying164 h; rw [hl]; kernel_rfl
  obtain ⟨c0, r0, rfl⟩ : ∃ c l, r = c :: l := by cases r with | nil => simp at hlen | cons c l => exact ⟨c, l, rfl⟩
  obtain ⟨c1, r1, rfl⟩ : ∃ c l, r0 = c :: l := by cases r0 with | nil => simp at hlen | cons c l => exact ⟨c, l, rfl⟩
  obtain ⟨c2, r2, rfl⟩ : ∃ c l, r1 = c :: l := by cases r1 with | nil => simp at hlen | cons c l => exact ⟨c, l, rfl⟩
  obtain ⟨c3, r3, rfl⟩ : ∃ c l, r2 = c :: l := by cases r2 with | nil => simp at hlen | cons c l => exact ⟨c, l, rfl⟩
  obtain ⟨c4, r4, rfl⟩ : ∃ c l, r3 = c :: l := by cases r3 with | nil => simp at hlen | cons c l => exact ⟨c, l, rfl⟩
  obtain rfl : r4 = [] := by simpa using hlen
  obtain ⟨n1, y2, hp3, hb4⟩ := trod_field (i := 0) (off := 0) (ty := 3) Try.underlying164 h (by rfl) (sz := 1) (by kernel_rfl)
  replace hp3 : DataW.trod enc Try.prog w 0 (fun _ => true) true n1 3 [c0] = some y2 := hp3
  obtain ⟨n5, y6, hp7, hb8⟩ := trod_field (i := 1) (off := 1) (ty := 3) Try.underlying164 h (by rfl) (sz := 1) (by kernel_rfl)
  replace hp7 : DataW.trod enc Try.prog w 0 (fun _ => true) true n5 3 [c1] = some y6 := hp7
  obtain ⟨n9, y10, hp11, hb12⟩ := trod_field (i := 2) (off := 2) (ty := 38) Try.underlying164 h (by rfl) (sz := 1) (by kernel_rfl)
  replace hp11 : DataW.trod enc Try.prog w 0 (fun _ => true) true n9 38 [c2] = some y10 := hp11
  obtain ⟨n13, y14, hp15, hb16⟩ := trod_field (i := 3) (off := 3) (ty := 30) Try.underlying164 h (by rfl) (sz := 2) (by kernel_rfl)
  replace hp15 : DataW.trod enc Try.prog w 0 (fun _ => true) true n13 30 [c3, c4] = some y14 := hp15
  obtain ⟨z17, hc18, hy19, wz20⟩ := DataW.trod_int Try.underlying3 hp3
  replace wz20 := wf_i64 wz20
  obtain rfl : c0 = .int .i64 z17 := by simpa using hc18
  obtain ⟨z21, hc22, hy23, wz24⟩ := DataW.trod_int Try.underlying3 hp7
  replace wz24 := wf_i64 wz24
  obtain rfl : c1 = .int .i64 z21 := by simpa using hc22
  obtain ⟨z25, hc26, hy27, wz28⟩ := DataW.trod_int Try.underlying38 hp11
  replace wz28 := wf_i64 wz28
  obtain rfl : c2 = .int .i64 z25 := by simpa using hc26
  obtain ⟨n29, y30, hp31, hb32⟩ := trod_field (i := 0) (off := 0) (ty := 3) Try.underlying30 hp15 (by rfl) (sz := 1) (by kernel_rfl)
  replace hp31 : DataW.trod enc Try.prog w 0 (fun _ => true) true n29 3 [c3] = some y30 := hp31
  obtain ⟨n33, y34, hp35, hb36⟩ := trod_field (i := 1) (off := 1) (ty := 3) Try.underlying30 hp15 (by rfl) (sz := 1) (by kernel_rfl)
  replace hp35 : DataW.trod enc Try.prog w 0 (fun _ => true) true n33 3 [c4] = some y34 := hp35
  obtain ⟨z37, hc38, hy39, wz40⟩ := DataW.trod_int Try.underlying3 hp31
  replace wz40 := wf_i64 wz40
  obtain rfl : c3 = .int .i64 z37 := by simpa using hc38
  obtain ⟨z41, hc42, hy43, wz44⟩ := DataW.trod_int Try.underlying3 hp35
  replace wz44 := wf_i64 wz44
  obtain rfl : c4 = .int .i64 z41 := by simpa using hc42
  exact ⟨(S_api_Last.mk z17 z21 z25 (S_api_Version.mk z37 z41)), rfl, ⟨wz20, wz24, wz28, wz40, wz44, trivial⟩⟩

theorem open_S_api_Item {H : Type} {enc : TypeId × Value → H} {w : World} {n : Nat} {r : List Value} {y : DataW H × List MemPlace} (h : DataW.trod enc Try.prog w 0 (fun _ => true) true n 75 r = some y) : ∃ x : S_api_Item, r = S_api_Item.row x ∧ S_api_Item.wf x := by
  have hlen : r.length = 4 := by obtain ⟨xs, m, _, _, hl, _⟩ := DataW.trod_struct Try.underlying75 h; rw [hl]; kernel_rfl
  obtain ⟨c0, r0, rfl⟩ : ∃ c l, r = c :: l := by cases r with | nil => simp at hlen | cons c l => exact ⟨c, l, rfl⟩
  obtain ⟨c1, r1, rfl⟩ : ∃ c l, r0 = c :: l := by cases r0 with | nil => simp at hlen | cons c l => exact ⟨c, l, rfl⟩
  obtain ⟨c2, r2, rfl⟩ : ∃ c l, r1 = c :: l := by cases r1 with | nil => simp at hlen | cons c l => exact ⟨c, l, rfl⟩
  obtain ⟨c3, r3, rfl⟩ : ∃ c l, r2 = c :: l := by cases r2 with | nil => simp at hlen | cons c l => exact ⟨c, l, rfl⟩
  obtain rfl : r3 = [] := by simpa using hlen
  obtain ⟨n1, y2, hp3, hb4⟩ := trod_field (i := 0) (off := 0) (ty := 9) Try.underlying75 h (by rfl) (sz := 1) (by kernel_rfl)
  replace hp3 : DataW.trod enc Try.prog w 0 (fun _ => true) true n1 9 [c0] = some y2 := hp3
  obtain ⟨n5, y6, hp7, hb8⟩ := trod_field (i := 1) (off := 1) (ty := 30) Try.underlying75 h (by rfl) (sz := 2) (by kernel_rfl)
  replace hp7 : DataW.trod enc Try.prog w 0 (fun _ => true) true n5 30 [c1, c2] = some y6 := hp7
  obtain ⟨n9, y10, hp11, hb12⟩ := trod_field (i := 2) (off := 3) (ty := 73) Try.underlying75 h (by rfl) (sz := 1) (by kernel_rfl)
  replace hp11 : DataW.trod enc Try.prog w 0 (fun _ => true) true n9 73 [c3] = some y10 := hp11
  obtain ⟨z13, hc14, hy15, wz16⟩ := DataW.trod_string Try.underlying9 hp3
  obtain rfl : c0 = .string z13 := by simpa using hc14
  obtain ⟨n17, y18, hp19, hb20⟩ := trod_field (i := 0) (off := 0) (ty := 3) Try.underlying30 hp7 (by rfl) (sz := 1) (by kernel_rfl)
  replace hp19 : DataW.trod enc Try.prog w 0 (fun _ => true) true n17 3 [c1] = some y18 := hp19
  obtain ⟨n21, y22, hp23, hb24⟩ := trod_field (i := 1) (off := 1) (ty := 3) Try.underlying30 hp7 (by rfl) (sz := 1) (by kernel_rfl)
  replace hp23 : DataW.trod enc Try.prog w 0 (fun _ => true) true n21 3 [c2] = some y22 := hp23
  obtain ⟨z25, hc26, hy27, wz28⟩ := DataW.trod_int Try.underlying3 hp19
  replace wz28 := wf_i64 wz28
  obtain rfl : c1 = .int .i64 z25 := by simpa using hc26
  obtain ⟨z29, hc30, hy31, wz32⟩ := DataW.trod_int Try.underlying3 hp23
  replace wz32 := wf_i64 wz32
  obtain rfl : c2 = .int .i64 z29 := by simpa using hc30
  obtain ⟨z33, hc34, hy35, wz36⟩ := DataW.trod_int Try.underlying73 hp11
  replace wz36 := wf_u32 wz36
  obtain rfl : c3 = .int .u32 z33 := by simpa using hc34
  exact ⟨(S_api_Item.mk z13 (S_api_Version.mk z25 z29) z33), rfl, ⟨wz16, wz28, wz32, wz36, trivial⟩⟩

theorem rows_nestB {α : Type} (R : Hd → α → List Value) (J : Hd → α → List Ent) (Q : α → Prop) {w : World} {rows : List (List Value)} (h : ∀ r ∈ rows, ∃ (x : α) (g : Hd), r = R g x ∧ (∀ e ∈ J g x, e.ok w) ∧ Q x) : ∃ (hs : Hds) (L : List α), rows = nrows R hs L ∧ (Ent.all (nins J hs L)).ok w ∧ ∀ x ∈ L, Q x := by
  suffices H : ∃ (hs : Hds) (L : List α), rows = nrows R hs L ∧ (∀ e ∈ nins J hs L, e.ok w) ∧ ∀ x ∈ L, Q x by
    obtain ⟨hs, L, h1, h2, h3⟩ := H
    exact ⟨hs, L, h1, Ent.all_ok h2, h3⟩
  induction rows with
  | nil => exact ⟨fun _ => nilH, [], rfl, by simp [nins], by simp⟩
  | cons r rows ih =>
    obtain ⟨hs, L, h1, h2, h5⟩ := ih fun q hq => h q (by simp [hq])
    obtain ⟨x, g, h3, h4, h6⟩ := h r (by simp)
    refine ⟨fun | 0 => g | i + 1 => hs i, x :: L, by rw [h1, h3]; rfl, fun e he => ?_, fun y hy => ?_⟩
    · rcases List.mem_append.1 (show e ∈ J g x ++ nins J hs L from he) with he | he
      · exact h4 e he
      · exact h2 e he
    · rcases List.mem_cons.1 hy with rfl | hy
      · exact h6
      · exact h5 y hy
theorem rows_bulk {H : Type} {rows : List (List Value)} {d : DataW H} {B : Nat} {tr : Nat → List Value → Option (DataW H × List MemPlace)} (hk : Rows.uptoBulk d ≤ B)
    (h : d = .nil ∧ rows = [] ∨ ∃ ys zs : List (DataW H), d = .slice ys zs ∧ ys.length = rows.length ∧ ∀ (i : Nat) (r : List Value), rows[i]? = some r → ∃ (n : Nat) (y : DataW H × List MemPlace), tr n r = some y ∧ ys[i]? = some y.1) :
    ∀ r ∈ rows, ∃ (n : Nat) (y : DataW H × List MemPlace), tr n r = some y ∧ Rows.uptoBulk y.1 ≤ B := by
  intro r hr
  obtain ⟨i, hi⟩ := List.getElem?_of_mem hr
  rcases h with ⟨_, h⟩ | ⟨ys, zs, rfl, _, h⟩
  · subst h; cases hr
  · obtain ⟨n, y, h1, h2⟩ := h i r hi
    have := bulk_part (List.mem_of_getElem? h2)
    simp only [Rows.uptoBulk] at hk
    exact ⟨n, y, h1, by omega⟩

theorem openNB_60 {H : Type} {enc : TypeId × Value → H} {w : World} {n : Nat} {r : List Value} {y : DataW H × List MemPlace} (h : DataW.trod enc Try.prog w 0 (fun _ => true) true n 60 r = some y) (hk : Rows.uptoBulk y.1 ≤ 1048576) : ∃ (x : S_scrub_Copy) (g : Hd), r = nR60 g x ∧ (∀ e ∈ nJ60 g x, e.ok w) ∧ x.Items.length ≤ 1048576 ∧ x.Bad.length ≤ 1048576 := by
  have hlen : r.length = 3 := by obtain ⟨xs, m, _, _, hl, _⟩ := DataW.trod_struct Try.underlying60 h; rw [hl]; kernel_rfl
  obtain ⟨c0, r0, rfl⟩ : ∃ c l, r = c :: l := by cases r with | nil => simp at hlen | cons c l => exact ⟨c, l, rfl⟩
  obtain ⟨c1, r1, rfl⟩ : ∃ c l, r0 = c :: l := by cases r0 with | nil => simp at hlen | cons c l => exact ⟨c, l, rfl⟩
  obtain ⟨c2, r2, rfl⟩ : ∃ c l, r1 = c :: l := by cases r1 with | nil => simp at hlen | cons c l => exact ⟨c, l, rfl⟩
  obtain rfl : r2 = [] := by simpa using hlen
  obtain ⟨n1, y2, hp3, hb4⟩ := trod_field (i := 0) (off := 0) (ty := 3) Try.underlying60 h (by rfl) (sz := 1) (by kernel_rfl)
  replace hp3 : DataW.trod enc Try.prog w 0 (fun _ => true) true n1 3 [c0] = some y2 := hp3
  have bk5 := bulk_agg hk hb4
  obtain ⟨n6, y7, hp8, hb9⟩ := trod_field (i := 1) (off := 1) (ty := 35) Try.underlying60 h (by rfl) (sz := 1) (by kernel_rfl)
  replace hp8 : DataW.trod enc Try.prog w 0 (fun _ => true) true n6 35 [c1] = some y7 := hp8
  have bk10 := bulk_agg hk hb9
  obtain ⟨n11, y12, hp13, hb14⟩ := trod_field (i := 2) (off := 2) (ty := 46) Try.underlying60 h (by rfl) (sz := 1) (by kernel_rfl)
  replace hp13 : DataW.trod enc Try.prog w 0 (fun _ => true) true n11 46 [c2] = some y12 := hp13
  have bk15 := bulk_agg hk hb14
  obtain ⟨z16, hc17, hy18, wz19⟩ := DataW.trod_int Try.underlying3 hp3
  replace wz19 := wf_i64 wz19
  obtain rfl : c0 = .int .i64 z16 := by simpa using hc17
  obtain ⟨o20, n24, c21, rows25, hc26, hn27, hle28, hl29, he30, hr31, ho32, hb33⟩ := open_rows (sz := 4) Try.underlying35 (by kernel_rfl) (by omega) hp8
  replace hl29 : n24 ≤ 9223372036854775807 := by omega
  have hs35 : rows25.length ≤ 1048576 := bulk_slice bk10 (hb33.imp (fun h => ⟨h.1, by rw [h.2]; rfl⟩) (fun ⟨ys, zs, h1, h2, _⟩ => ⟨ys, zs, h1, h2⟩))
  rw [hn27] at hs35
  obtain ⟨l22, rfl, hq34⟩ := rows_dec S_api_Item.row _ (fun r hr => by obtain ⟨n, y, hy⟩ := hr31 r hr; exact open_S_api_Item hy)
  obtain rfl : l22.length = n24 := by simpa using hn27
  replace he30 : (Ent.rd o20 4 (List.map S_api_Item.row l22)).ok w := he30
  obtain rfl : c1 = .slice o20 l22.length c21 := by simpa using hc26
  obtain ⟨o36, n40, c37, rows41, hc42, hn43, hle44, hl45, he46, hr47, ho48, hb49⟩ := open_rows (sz := 1) Try.underlying46 (by kernel_rfl) (by omega) hp13
  replace hl45 : n40 ≤ 9223372036854775807 := by omega
  have hs51 : rows41.length ≤ 1048576 := bulk_slice bk15 (hb49.imp (fun h => ⟨h.1, by rw [h.2]; rfl⟩) (fun ⟨ys, zs, h1, h2, _⟩ => ⟨ys, zs, h1, h2⟩))
  rw [hn43] at hs51
  obtain ⟨l38, rfl, hq50⟩ := rows_dec rS _ (fun r hr => by obtain ⟨n, y, hy⟩ := hr47 r hr; exact open_str Try.underlying9 hy)
  obtain rfl : l38.length = n40 := by simpa using hn43
  replace he46 : (Ent.rd o36 1 (List.map rS l38)).ok w := he46
  obtain rfl : c2 = .slice o36 l38.length c37 := by simpa using hc42
  refine ⟨(S_scrub_Copy.mk z16 l22 l38), (fun | 0 => (o20, c21) | 1 => (o36, c37) | _ => (none, 0)), rfl, fun e he => ?_, (by first | exact hs35 | (have h := hs35; rw [List.length_map] at h; exact h)), (by first | exact hs51 | (have h := hs51; rw [List.length_map] at h; exact h))⟩
  simp only [List.mem_cons, List.not_mem_nil, or_false] at he
  rcases he with rfl | rfl | rfl | rfl
  · exact he30
  · exact ⟨hle28, fun _ hb => hb.elim⟩
  · exact he46
  · exact ⟨hle44, fun _ hb => hb.elim⟩

end Go.Proofs.Ytcegkgbceogflaa
