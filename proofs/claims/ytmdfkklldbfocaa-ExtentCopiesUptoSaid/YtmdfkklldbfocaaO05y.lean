/-
  CHAPTER 05y: what comes in.
-/
import Derived.Test.YtmdfkklldbfocaaSxh
import Derived.Test.YtmdfkklldbfocaaM05y
import Derived.Test.YtmdfkklldbfocaaRows
import Derived.Test.YtmdfkklldbfocaaBulk
set_option linter.unusedVariables false
set_option linter.unusedSimpArgs false
set_option maxRecDepth 100000
namespace Go.Proofs.Ytmdfkklldbfocaa
open Go Go.RowKit Go.ChangeShapes Go.WideShapes Go.ChangeAt Sx


theorem open_str {H : Type} {enc : TypeId × Value → H} {P : Program} {w : World} {n e : Nat} {r : List Value} {y : DataW H × List MemPlace} (he : P.underlying e = some .string) (h : DataW.trod enc P w 0 (fun _ => true) true n e r = some y) : ∃ x : ByteArray, r = rS x ∧ x.size ≤ 9223372036854775807 := by
  obtain ⟨s, h1, _, h2⟩ := DataW.trod_string he h
  exact ⟨s, h1, h2⟩
theorem open_bool {H : Type} {enc : TypeId × Value → H} {P : Program} {w : World} {n e : Nat} {r : List Value} {y : DataW H × List MemPlace} (he : P.underlying e = some .bool) (h : DataW.trod enc P w 0 (fun _ => true) true n e r = some y) : ∃ x : Bool, r = rBo x ∧ True := by
  obtain ⟨s, h1, _⟩ := DataW.trod_bool he h
  exact ⟨s, h1, trivial⟩
theorem open_u64 {H : Type} {enc : TypeId × Value → H} {P : Program} {w : World} {n e : Nat} {r : List Value} {y : DataW H × List MemPlace} (he : P.underlying e = some (.int .u64)) (h : DataW.trod enc P w 0 (fun _ => true) true n e r = some y) : ∃ x : Int, r = rU64 x ∧ (0 ≤ x ∧ x ≤ 18446744073709551615) := by
  obtain ⟨z, h1, _, h2⟩ := DataW.trod_int he h
  exact ⟨z, h1, wf_u64 h2⟩
theorem open_u8 {H : Type} {enc : TypeId × Value → H} {P : Program} {w : World} {n e : Nat} {r : List Value} {y : DataW H × List MemPlace} (he : P.underlying e = some (.int .u8)) (h : DataW.trod enc P w 0 (fun _ => true) true n e r = some y) : ∃ x : UInt8, r = rB x ∧ True := by
  obtain ⟨z, h1, _, h2⟩ := DataW.trod_int he h
  have := wf_u8 h2
  exact ⟨UInt8.ofNat z.toNat, by rw [h1, rB, u8_of ⟨this.1, by omega⟩], trivial⟩

theorem rows_nest {α : Type} (R : Hd → α → List Value) (J : Hd → α → List Ent) {w : World} {rows : List (List Value)} (h : ∀ r ∈ rows, ∃ (x : α) (g : Hd), r = R g x ∧ ∀ e ∈ J g x, e.ok w) : ∃ (hs : Hds) (L : List α), rows = nrows R hs L ∧ (Ent.all (nins J hs L)).ok w := by
  suffices H : ∃ (hs : Hds) (L : List α), rows = nrows R hs L ∧ ∀ e ∈ nins J hs L, e.ok w by
    obtain ⟨hs, L, h1, h2⟩ := H
    exact ⟨hs, L, h1, Ent.all_ok h2⟩
  induction rows with
  | nil => exact ⟨fun _ => nilH, [], rfl, by simp [nins]⟩
  | cons r rows ih =>
    obtain ⟨hs, L, h1, h2⟩ := ih fun q hq => h q (by simp [hq])
    obtain ⟨x, g, h3, h4⟩ := h r (by simp)
    refine ⟨fun | 0 => g | i + 1 => hs i, x :: L, by rw [h1, h3]; rfl, fun e he => ?_⟩
    rcases List.mem_append.1 (show e ∈ J g x ++ nins J hs L from he) with he | he
    · exact h4 e he
    · exact h2 e he

theorem openN_37 {H : Type} {enc : TypeId × Value → H} {w : World} {n : Nat} {r : List Value} {y : DataW H × List MemPlace} (h : DataW.trod enc Try.prog w 0 (fun _ => true) true n 37 r = some y) : ∃ (x : S_tholelaw05_Act) (g : Hd), r = nR37 g x ∧ ∀ e ∈ nJ37 g x, e.ok w := by
  have hlen : r.length = 4 := by obtain ⟨xs, m, _, _, hl, _⟩ := DataW.trod_struct Try.underlying37 h; rw [hl]; kernel_rfl
  obtain ⟨c0, r0, rfl⟩ : ∃ c l, r = c :: l := by cases r with | nil => simp at hlen | cons c l => exact ⟨c, l, rfl⟩
  obtain ⟨c1, r1, rfl⟩ : ∃ c l, r0 = c :: l := by cases r0 with | nil => simp at hlen | cons c l => exact ⟨c, l, rfl⟩
  obtain ⟨c2, r2, rfl⟩ : ∃ c l, r1 = c :: l := by cases r1 with | nil => simp at hlen | cons c l => exact ⟨c, l, rfl⟩
  obtain ⟨c3, r3, rfl⟩ : ∃ c l, r2 = c :: l := by cases r2 with | nil => simp at hlen | cons c l => exact ⟨c, l, rfl⟩
  obtain rfl : r3 = [] := by simpa using hlen
  obtain ⟨n1, y2, hp3, hb4⟩ := trod_field (i := 0) (off := 0) (ty := 3) Try.underlying37 h (by rfl) (sz := 1) (by kernel_rfl)
  replace hp3 : DataW.trod enc Try.prog w 0 (fun _ => true) true n1 3 [c0] = some y2 := hp3
  obtain ⟨n5, y6, hp7, hb8⟩ := trod_field (i := 1) (off := 1) (ty := 3) Try.underlying37 h (by rfl) (sz := 1) (by kernel_rfl)
  replace hp7 : DataW.trod enc Try.prog w 0 (fun _ => true) true n5 3 [c1] = some y6 := hp7
  obtain ⟨n9, y10, hp11, hb12⟩ := trod_field (i := 2) (off := 2) (ty := 3) Try.underlying37 h (by rfl) (sz := 1) (by kernel_rfl)
  replace hp11 : DataW.trod enc Try.prog w 0 (fun _ => true) true n9 3 [c2] = some y10 := hp11
  obtain ⟨n13, y14, hp15, hb16⟩ := trod_field (i := 3) (off := 3) (ty := 22) Try.underlying37 h (by rfl) (sz := 1) (by kernel_rfl)
  replace hp15 : DataW.trod enc Try.prog w 0 (fun _ => true) true n13 22 [c3] = some y14 := hp15
  obtain ⟨z17, hc18, hy19, wz20⟩ := DataW.trod_int Try.underlying3 hp3
  replace wz20 := wf_i64 wz20
  obtain rfl : c0 = .int .i64 z17 := by simpa using hc18
  obtain ⟨z21, hc22, hy23, wz24⟩ := DataW.trod_int Try.underlying3 hp7
  replace wz24 := wf_i64 wz24
  obtain rfl : c1 = .int .i64 z21 := by simpa using hc22
  obtain ⟨z25, hc26, hy27, wz28⟩ := DataW.trod_int Try.underlying3 hp11
  replace wz28 := wf_i64 wz28
  obtain rfl : c2 = .int .i64 z25 := by simpa using hc26
  obtain ⟨o29, n33, c30, rows34, hc35, hn36, hle37, hl38, he39, hr40, ho41, hb42⟩ := open_rows (sz := 1) Try.underlying22 (by kernel_rfl) (by omega) hp15
  replace hl38 : n33 ≤ 9223372036854775807 := by omega
  obtain ⟨l31, rfl, hq43⟩ := rows_dec rB _ (fun r hr => by obtain ⟨n, y, hy⟩ := hr40 r hr; exact open_u8 Try.underlying5 hy)
  obtain rfl : l31.length = n33 := by simpa using hn36
  replace he39 : (Ent.rd o29 1 (List.map rB l31)).ok w := he39
  obtain rfl : c3 = .slice o29 l31.length c30 := by simpa using hc35
  refine ⟨(S_tholelaw05_Act.mk z17 z21 z25 l31), (fun | 0 => (o29, c30) | _ => (none, 0)), rfl, fun e he => ?_⟩
  simp only [List.mem_cons, List.not_mem_nil, or_false] at he
  rcases he with rfl | rfl
  · exact he39
  · exact ⟨hle37, fun _ hb => hb.elim⟩

theorem openN_73 {H : Type} {enc : TypeId × Value → H} {w : World} {n : Nat} {r : List Value} {y : DataW H × List MemPlace} (h : DataW.trod enc Try.prog w 0 (fun _ => true) true n 73 r = some y) : ∃ (x : S_tholeref05_Run) (g : Hd), r = nR73 g x ∧ ∀ e ∈ nJ73 g x, e.ok w := by
  have hlen : r.length = 2 := by obtain ⟨xs, m, _, _, hl, _⟩ := DataW.trod_struct Try.underlying73 h; rw [hl]; kernel_rfl
  obtain ⟨c0, r0, rfl⟩ : ∃ c l, r = c :: l := by cases r with | nil => simp at hlen | cons c l => exact ⟨c, l, rfl⟩
  obtain ⟨c1, r1, rfl⟩ : ∃ c l, r0 = c :: l := by cases r0 with | nil => simp at hlen | cons c l => exact ⟨c, l, rfl⟩
  obtain rfl : r1 = [] := by simpa using hlen
  obtain ⟨n1, y2, hp3, hb4⟩ := trod_field (i := 0) (off := 0) (ty := 3) Try.underlying73 h (by rfl) (sz := 1) (by kernel_rfl)
  replace hp3 : DataW.trod enc Try.prog w 0 (fun _ => true) true n1 3 [c0] = some y2 := hp3
  obtain ⟨n5, y6, hp7, hb8⟩ := trod_field (i := 1) (off := 1) (ty := 22) Try.underlying73 h (by rfl) (sz := 1) (by kernel_rfl)
  replace hp7 : DataW.trod enc Try.prog w 0 (fun _ => true) true n5 22 [c1] = some y6 := hp7
  obtain ⟨z9, hc10, hy11, wz12⟩ := DataW.trod_int Try.underlying3 hp3
  replace wz12 := wf_i64 wz12
  obtain rfl : c0 = .int .i64 z9 := by simpa using hc10
  obtain ⟨o13, n17, c14, rows18, hc19, hn20, hle21, hl22, he23, hr24, ho25, hb26⟩ := open_rows (sz := 1) Try.underlying22 (by kernel_rfl) (by omega) hp7
  replace hl22 : n17 ≤ 9223372036854775807 := by omega
  obtain ⟨l15, rfl, hq27⟩ := rows_dec rB _ (fun r hr => by obtain ⟨n, y, hy⟩ := hr24 r hr; exact open_u8 Try.underlying5 hy)
  obtain rfl : l15.length = n17 := by simpa using hn20
  replace he23 : (Ent.rd o13 1 (List.map rB l15)).ok w := he23
  obtain rfl : c1 = .slice o13 l15.length c14 := by simpa using hc19
  refine ⟨(S_tholeref05_Run.mk z9 l15), (fun | 0 => (o13, c14) | _ => (none, 0)), rfl, fun e he => ?_⟩
  simp only [List.mem_cons, List.not_mem_nil, or_false] at he
  rcases he with rfl | rfl
  · exact he23
  · exact ⟨hle21, fun _ hb => hb.elim⟩

theorem rows_nestB {α : Type} (R : Hd → α → List Value) (J : Hd → α → List Ent) (Q : α → Prop) {w : World} {rows : List (List Value)} (h : ∀ r ∈ rows, ∃ (x : α) (g : Hd), r = R g x ∧ (∀ e ∈ J g x, e.ok w) ∧ Q x) : ∃ (hs : Hds) (L : List α), rows = nrows R hs L ∧ (Ent.all (nins J hs L)).ok w ∧ ∀ x ∈ L, Q x := by
  suffices H : ∃ (hs : Hds) (L : List α), rows = nrows R hs L ∧ (∀ e ∈ nins J hs L, e.ok w) ∧ ∀ x ∈ L, Q x by
    obtain ⟨hs, L, h1, h2, h3⟩ := H
    exact ⟨hs, L, h1, Ent.all_ok h2, h3⟩
  induction rows with
  | nil => exact ⟨fun _ => nilH, [], rfl, by simp [nins], by simp⟩
  | cons r rows ih =>
    obtain ⟨hs, L, h1, h2, h5⟩ := ih fun q hq => h q (by simp [hq])
    obtain ⟨x, g, h3, h4, h6⟩ := h r (by simp)
    refine ⟨fun | 0 => g | i + 1 => hs i, x :: L, by rw [h1, h3]; rfl, fun e he => ?_, fun y hy => ?_⟩
    · rcases List.mem_append.1 (show e ∈ J g x ++ nins J hs L from he) with he | he
      · exact h4 e he
      · exact h2 e he
    · rcases List.mem_cons.1 hy with rfl | hy
      · exact h6
      · exact h5 y hy
theorem rows_bulk {H : Type} {rows : List (List Value)} {d : DataW H} {B : Nat} {tr : Nat → List Value → Option (DataW H × List MemPlace)} (hk : Rows.uptoBulk d ≤ B)
    (h : d = .nil ∧ rows = [] ∨ ∃ ys zs : List (DataW H), d = .slice ys zs ∧ ys.length = rows.length ∧ ∀ (i : Nat) (r : List Value), rows[i]? = some r → ∃ (n : Nat) (y : DataW H × List MemPlace), tr n r = some y ∧ ys[i]? = some y.1) :
    ∀ r ∈ rows, ∃ (n : Nat) (y : DataW H × List MemPlace), tr n r = some y ∧ Rows.uptoBulk y.1 ≤ B := by
  intro r hr
  obtain ⟨i, hi⟩ := List.getElem?_of_mem hr
  rcases h with ⟨_, h⟩ | ⟨ys, zs, rfl, _, h⟩
  · subst h; cases hr
  · obtain ⟨n, y, h1, h2⟩ := h i r hi
    have := bulk_part (List.mem_of_getElem? h2)
    simp only [Rows.uptoBulk] at hk
    exact ⟨n, y, h1, by omega⟩

theorem openNB_37 {H : Type} {enc : TypeId × Value → H} {w : World} {n : Nat} {r : List Value} {y : DataW H × List MemPlace} (h : DataW.trod enc Try.prog w 0 (fun _ => true) true n 37 r = some y) (hk : Rows.uptoBulk y.1 ≤ 1048576) : ∃ (x : S_tholelaw05_Act) (g : Hd), r = nR37 g x ∧ (∀ e ∈ nJ37 g x, e.ok w) ∧ x.Data.length ≤ 1048576 := by
  have hlen : r.length = 4 := by obtain ⟨xs, m, _, _, hl, _⟩ := DataW.trod_struct Try.underlying37 h; rw [hl]; kernel_rfl
  obtain ⟨c0, r0, rfl⟩ : ∃ c l, r = c :: l := by cases r with | nil => simp at hlen | cons c l => exact ⟨c, l, rfl⟩
  obtain ⟨c1, r1, rfl⟩ : ∃ c l, r0 = c :: l := by cases r0 with | nil => simp at hlen | cons c l => exact ⟨c, l, rfl⟩
  obtain ⟨c2, r2, rfl⟩ : ∃ c l, r1 = c :: l := by cases r1 with | nil => simp at hlen | cons c l => exact ⟨c, l, rfl⟩
  obtain ⟨c3, r3, rfl⟩ : ∃ c l, r2 = c :: l := by cases r2 with | nil => simp at hlen | cons c l => exact ⟨c, l, rfl⟩
  obtain rfl : r3 = [] := by simpa using hlen
  obtain ⟨n1, y2, hp3, hb4⟩ := trod_field (i := 0) (off := 0) (ty := 3) Try.underlying37 h (by rfl) (sz := 1) (by kernel_rfl)
  replace hp3 : DataW.trod enc Try.prog w 0 (fun _ => true) true n1 3 [c0] = some y2 := hp3
  have bk5 := bulk_agg hk hb4
  obtain ⟨n6, y7, hp8, hb9⟩ := trod_field (i := 1) (off := 1) (ty := 3) Try.underlying37 h (by rfl) (sz := 1) (by kernel_rfl)
  replace hp8 : DataW.trod enc Try.prog w 0 (fun _ => true) true n6 3 [c1] = some y7 := hp8
  have bk10 := bulk_agg hk hb9
  obtain ⟨n11, y12, hp13, hb14⟩ := trod_field (i := 2) (off := 2) (ty := 3) Try.underlying37 h (by rfl) (sz := 1) (by kernel_rfl)
  replace hp13 : DataW.trod enc Try.prog w 0 (fun _ => true) true n11 3 [c2] = some y12 := hp13
  have bk15 := bulk_agg hk hb14
  obtain ⟨n16, y17, hp18, hb19⟩ := trod_field (i := 3) (off := 3) (ty := 22) Try.underlying37 h (by rfl) (sz := 1) (by kernel_rfl)
  replace hp18 : DataW.trod enc Try.prog w 0 (fun _ => true) true n16 22 [c3] = some y17 := hp18
  have bk20 := bulk_agg hk hb19
  obtain ⟨z21, hc22, hy23, wz24⟩ := DataW.trod_int Try.underlying3 hp3
  replace wz24 := wf_i64 wz24
  obtain rfl : c0 = .int .i64 z21 := by simpa using hc22
  obtain ⟨z25, hc26, hy27, wz28⟩ := DataW.trod_int Try.underlying3 hp8
  replace wz28 := wf_i64 wz28
  obtain rfl : c1 = .int .i64 z25 := by simpa using hc26
  obtain ⟨z29, hc30, hy31, wz32⟩ := DataW.trod_int Try.underlying3 hp13
  replace wz32 := wf_i64 wz32
  obtain rfl : c2 = .int .i64 z29 := by simpa using hc30
  obtain ⟨o33, n37, c34, rows38, hc39, hn40, hle41, hl42, he43, hr44, ho45, hb46⟩ := open_rows (sz := 1) Try.underlying22 (by kernel_rfl) (by omega) hp18
  replace hl42 : n37 ≤ 9223372036854775807 := by omega
  have hs48 : rows38.length ≤ 1048576 := bulk_slice bk20 (hb46.imp (fun h => ⟨h.1, by rw [h.2]; rfl⟩) (fun ⟨ys, zs, h1, h2, _⟩ => ⟨ys, zs, h1, h2⟩))
  rw [hn40] at hs48
  obtain ⟨l35, rfl, hq47⟩ := rows_dec rB _ (fun r hr => by obtain ⟨n, y, hy⟩ := hr44 r hr; exact open_u8 Try.underlying5 hy)
  obtain rfl : l35.length = n37 := by simpa using hn40
  replace he43 : (Ent.rd o33 1 (List.map rB l35)).ok w := he43
  obtain rfl : c3 = .slice o33 l35.length c34 := by simpa using hc39
  refine ⟨(S_tholelaw05_Act.mk z21 z25 z29 l35), (fun | 0 => (o33, c34) | _ => (none, 0)), rfl, fun e he => ?_, (by first | exact hs48 | (have h := hs48; rw [List.length_map] at h; exact h))⟩
  simp only [List.mem_cons, List.not_mem_nil, or_false] at he
  rcases he with rfl | rfl
  · exact he43
  · exact ⟨hle41, fun _ hb => hb.elim⟩

theorem openNB_73 {H : Type} {enc : TypeId × Value → H} {w : World} {n : Nat} {r : List Value} {y : DataW H × List MemPlace} (h : DataW.trod enc Try.prog w 0 (fun _ => true) true n 73 r = some y) (hk : Rows.uptoBulk y.1 ≤ 1048576) : ∃ (x : S_tholeref05_Run) (g : Hd), r = nR73 g x ∧ (∀ e ∈ nJ73 g x, e.ok w) ∧ x.B.length ≤ 1048576 := by
  have hlen : r.length = 2 := by obtain ⟨xs, m, _, _, hl, _⟩ := DataW.trod_struct Try.underlying73 h; rw [hl]; kernel_rfl
  obtain ⟨c0, r0, rfl⟩ : ∃ c l, r = c :: l := by cases r with | nil => simp at hlen | cons c l => exact ⟨c, l, rfl⟩
  obtain ⟨c1, r1, rfl⟩ : ∃ c l, r0 = c :: l := by cases r0 with | nil => simp at hlen | cons c l => exact ⟨c, l, rfl⟩
  obtain rfl : r1 = [] := by simpa using hlen
  obtain ⟨n1, y2, hp3, hb4⟩ := trod_field (i := 0) (off := 0) (ty := 3) Try.underlying73 h (by rfl) (sz := 1) (by kernel_rfl)
  replace hp3 : DataW.trod enc Try.prog w 0 (fun _ => true) true n1 3 [c0] = some y2 := hp3
  have bk5 := bulk_agg hk hb4
  obtain ⟨n6, y7, hp8, hb9⟩ := trod_field (i := 1) (off := 1) (ty := 22) Try.underlying73 h (by rfl) (sz := 1) (by kernel_rfl)
  replace hp8 : DataW.trod enc Try.prog w 0 (fun _ => true) true n6 22 [c1] = some y7 := hp8
  have bk10 := bulk_agg hk hb9
  obtain ⟨z11, hc12, hy13, wz14⟩ := DataW.trod_int Try.underlying3 hp3
  replace wz14 := wf_i64 wz14
  obtain rfl : c0 = .int .i64 z11 := by simpa using hc12
  obtain ⟨o15, n19, c16, rows20, hc21, hn22, hle23, hl24, he25, hr26, ho27, hb28⟩ := open_rows (sz := 1) Try.underlying22 (by kernel_rfl) (by omega) hp8
  replace hl24 : n19 ≤ 9223372036854775807 := by omega
  have hs30 : rows20.length ≤ 1048576 := bulk_slice bk10 (hb28.imp (fun h => ⟨h.1, by rw [h.2]; rfl⟩) (fun ⟨ys, zs, h1, h2, _⟩ => ⟨ys, zs, h1, h2⟩))
  rw [hn22] at hs30
  obtain ⟨l17, rfl, hq29⟩ := rows_dec rB _ (fun r hr => by obtain ⟨n, y, hy⟩ := hr26 r hr; exact open_u8 Try.underlying5 hy)
  obtain rfl : l17.length = n19 := by simpa using hn22
  replace he25 : (Ent.rd o15 1 (List.map rB l17)).ok w := he25
  obtain rfl : c1 = .slice o15 l17.length c16 := by simpa using hc21
  refine ⟨(S_tholeref05_Run.mk z11 l17), (fun | 0 => (o15, c16) | _ => (none, 0)), rfl, fun e he => ?_, (by first | exact hs30 | (have h := hs30; rw [List.length_map] at h; exact h))⟩
  simp only [List.mem_cons, List.not_mem_nil, or_false] at he
  rcases he with rfl | rfl
  · exact he25
  · exact ⟨hle23, fun _ hb => hb.elim⟩

end Go.Proofs.Ytmdfkklldbfocaa
