/-
  CHAPTER 05x: what comes in.
-/
import Derived.Test.YtmdfkklldbfocaaSxh
import Derived.Test.YtmdfkklldbfocaaM05x
import Derived.Test.YtmdfkklldbfocaaRows
set_option linter.unusedVariables false
set_option linter.unusedSimpArgs false
set_option maxRecDepth 100000
namespace Go.Proofs.Ytmdfkklldbfocaa
open Go Go.RowKit Go.ChangeShapes Go.WideShapes Go.ChangeAt Sx


theorem open_str {H : Type} {enc : TypeId × Value → H} {P : Program} {w : World} {n e : Nat} {r : List Value} {y : DataW H × List MemPlace} (he : P.underlying e = some .string) (h : DataW.trod enc P w 0 (fun _ => true) true n e r = some y) : ∃ x : ByteArray, r = rS x ∧ x.size ≤ 9223372036854775807 := by
  obtain ⟨s, h1, _, h2⟩ := DataW.trod_string he h
  exact ⟨s, h1, h2⟩
theorem open_bool {H : Type} {enc : TypeId × Value → H} {P : Program} {w : World} {n e : Nat} {r : List Value} {y : DataW H × List MemPlace} (he : P.underlying e = some .bool) (h : DataW.trod enc P w 0 (fun _ => true) true n e r = some y) : ∃ x : Bool, r = rBo x ∧ True := by
  obtain ⟨s, h1, _⟩ := DataW.trod_bool he h
  exact ⟨s, h1, trivial⟩
theorem open_u64 {H : Type} {enc : TypeId × Value → H} {P : Program} {w : World} {n e : Nat} {r : List Value} {y : DataW H × List MemPlace} (he : P.underlying e = some (.int .u64)) (h : DataW.trod enc P w 0 (fun _ => true) true n e r = some y) : ∃ x : Int, r = rU64 x ∧ (0 ≤ x ∧ x ≤ 18446744073709551615) := by
  obtain ⟨z, h1, _, h2⟩ := DataW.trod_int he h
  exact ⟨z, h1, wf_u64 h2⟩
theorem open_u8 {H : Type} {enc : TypeId × Value → H} {P : Program} {w : World} {n e : Nat} {r : List Value} {y : DataW H × List MemPlace} (he : P.underlying e = some (.int .u8)) (h : DataW.trod enc P w 0 (fun _ => true) true n e r = some y) : ∃ x : UInt8, r = rB x ∧ True := by
  obtain ⟨z, h1, _, h2⟩ := DataW.trod_int he h
  have := wf_u8 h2
  exact ⟨UInt8.ofNat z.toNat, by rw [h1, rB, u8_of ⟨this.1, by omega⟩], trivial⟩

theorem rows_nest {α : Type} (R : Hd → α → List Value) (J : Hd → α → List Ent) {w : World} {rows : List (List Value)} (h : ∀ r ∈ rows, ∃ (x : α) (g : Hd), r = R g x ∧ ∀ e ∈ J g x, e.ok w) : ∃ (hs : Hds) (L : List α), rows = nrows R hs L ∧ (Ent.all (nins J hs L)).ok w := by
  suffices H : ∃ (hs : Hds) (L : List α), rows = nrows R hs L ∧ ∀ e ∈ nins J hs L, e.ok w by
    obtain ⟨hs, L, h1, h2⟩ := H
    exact ⟨hs, L, h1, Ent.all_ok h2⟩
  induction rows with
  | nil => exact ⟨fun _ => nilH, [], rfl, by simp [nins]⟩
  | cons r rows ih =>
    obtain ⟨hs, L, h1, h2⟩ := ih fun q hq => h q (by simp [hq])
    obtain ⟨x, g, h3, h4⟩ := h r (by simp)
    refine ⟨fun | 0 => g | i + 1 => hs i, x :: L, by rw [h1, h3]; rfl, fun e he => ?_⟩
    rcases List.mem_append.1 (show e ∈ J g x ++ nins J hs L from he) with he | he
    · exact h4 e he
    · exact h2 e he

theorem openN_37 {H : Type} {enc : TypeId × Value → H} {w : World} {n : Nat} {r : List Value} {y : DataW H × List MemPlace} (h : DataW.trod enc Try.prog w 0 (fun _ => true) true n 37 r = some y) : ∃ (x : S_tholelaw05_Act) (g : Hd), r = nR37 g x ∧ ∀ e ∈ nJ37 g x, e.ok w := by
  have hlen : r.length = 4 := by obtain ⟨xs, m, _, _, hl, _⟩ := DataW.trod_struct Try.underlying37 h; rw [hl]; kernel_rfl
  obtain ⟨c0, r0, rfl⟩ : ∃ c l, r = c :: l := by cases r with | nil => simp at hlen | cons c l => exact ⟨c, l, rfl⟩
  obtain ⟨c1, r1, rfl⟩ : ∃ c l, r0 = c :: l := by cases r0 with | nil => simp at hlen | cons c l => exact ⟨c, l, rfl⟩
  obtain ⟨c2, r2, rfl⟩ : ∃ c l, r1 = c :: l := by cases r1 with | nil => simp at hlen | cons c l => exact ⟨c, l, rfl⟩
  obtain ⟨c3, r3, rfl⟩ : ∃ c l, r2 = c :: l := by cases r2 with | nil => simp at hlen | cons c l => exact ⟨c, l, rfl⟩
  obtain rfl : r3 = [] := by simpa using hlen
  obtain ⟨n1, y2, hp3, hb4⟩ := trod_field (i := 0) (off := 0) (ty := 3) Try.underlying37 h (by rfl) (sz := 1) (by kernel_rfl)
  replace hp3 : DataW.trod enc Try.prog w 0 (fun _ => true) true n1 3 [c0] = some y2 := hp3
  obtain ⟨n5, y6, hp7, hb8⟩ := trod_field (i := 1) (off := 1) (ty := 3) Try.underlying37 h (by rfl) (sz := 1) (by kernel_rfl)
  replace hp7 : DataW.trod enc Try.prog w 0 (fun _ => true) true n5 3 [c1] = some y6 := hp7
  obtain ⟨n9, y10, hp11, hb12⟩ := trod_field (i := 2) (off := 2) (ty := 3) Try.underlying37 h (by rfl) (sz := 1) (by kernel_rfl)
  replace hp11 : DataW.trod enc Try.prog w 0 (fun _ => true) true n9 3 [c2] = some y10 := hp11
  obtain ⟨n13, y14, hp15, hb16⟩ := trod_field (i := 3) (off := 3) (ty := 22) Try.underlying37 h (by rfl) (sz := 1) (by kernel_rfl)
  replace hp15 : DataW.trod enc Try.prog w 0 (fun _ => true) true n13 22 [c3] = some y14 := hp15
  obtain ⟨z17, hc18, hy19, wz20⟩ := DataW.trod_int Try.underlying3 hp3
  replace wz20 := wf_i64 wz20
  obtain rfl : c0 = .int .i64 z17 := by simpa using hc18
  obtain ⟨z21, hc22, hy23, wz24⟩ := DataW.trod_int Try.underlying3 hp7
  replace wz24 := wf_i64 wz24
  obtain rfl : c1 = .int .i64 z21 := by simpa using hc22
  obtain ⟨z25, hc26, hy27, wz28⟩ := DataW.trod_int Try.underlying3 hp11
  replace wz28 := wf_i64 wz28
  obtain rfl : c2 = .int .i64 z25 := by simpa using hc26
  obtain ⟨o29, n33, c30, rows34, hc35, hn36, hle37, hl38, he39, hr40, ho41, hb42⟩ := open_rows (sz := 1) Try.underlying22 (by kernel_rfl) (by omega) hp15
  replace hl38 : n33 ≤ 9223372036854775807 := by omega
  obtain ⟨l31, rfl, hq43⟩ := rows_dec rB _ (fun r hr => by obtain ⟨n, y, hy⟩ := hr40 r hr; exact open_u8 Try.underlying5 hy)
  obtain rfl : l31.length = n33 := by simpa using hn36
  replace he39 : (Ent.rd o29 1 (List.map rB l31)).ok w := he39
  obtain rfl : c3 = .slice o29 l31.length c30 := by simpa using hc35
  refine ⟨(S_tholelaw05_Act.mk z17 z21 z25 l31), (fun | 0 => (o29, c30) | _ => (none, 0)), rfl, fun e he => ?_⟩
  simp only [List.mem_cons, List.not_mem_nil, or_false] at he
  rcases he with rfl | rfl
  · exact he39
  · exact ⟨hle37, fun _ hb => hb.elim⟩

end Go.Proofs.Ytmdfkklldbfocaa
