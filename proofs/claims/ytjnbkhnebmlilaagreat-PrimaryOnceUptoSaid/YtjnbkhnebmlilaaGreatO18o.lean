/-
  CHAPTER 18o: what comes in.
-/
import Derived.Test.YtjnbkhnebmlilaaGreatSxh
import Derived.Test.YtjnbkhnebmlilaaGreatM18o
import Derived.Test.YtjnbkhnebmlilaaGreatRows
import Derived.Test.YtjnbkhnebmlilaaGreatBulk
set_option linter.unusedVariables false
set_option linter.unusedSimpArgs false
set_option maxRecDepth 100000
namespace Go.Proofs.YtjnbkhnebmlilaaGreat
open Go Go.RowKit Go.ChangeShapes Go.WideShapes Go.ChangeAt Sx

def S_api_Version.wf (x : S_api_Version) : Prop := I64 x.Epoch ∧ I64 x.N ∧ True

theorem open_u64 {H : Type} {enc : TypeId × Value → H} {P : Program} {w : World} {n e : Nat} {r : List Value} {y : DataW H × List MemPlace} (he : P.underlying e = some (.int .u64)) (h : DataW.trod enc P w 0 (fun _ => true) true n e r = some y) : ∃ x : Int, r = rU64 x ∧ (0 ≤ x ∧ x ≤ 18446744073709551615) := by
  obtain ⟨z, h1, _, h2⟩ := DataW.trod_int he h
  exact ⟨z, h1, wf_u64 h2⟩
theorem open_u8 {H : Type} {enc : TypeId × Value → H} {P : Program} {w : World} {n e : Nat} {r : List Value} {y : DataW H × List MemPlace} (he : P.underlying e = some (.int .u8)) (h : DataW.trod enc P w 0 (fun _ => true) true n e r = some y) : ∃ x : UInt8, r = rB x ∧ True := by
  obtain ⟨z, h1, _, h2⟩ := DataW.trod_int he h
  have := wf_u8 h2
  exact ⟨UInt8.ofNat z.toNat, by rw [h1, rB, u8_of ⟨this.1, by omega⟩], trivial⟩

theorem rows_nestB {α : Type} (R : Hd → α → List Value) (J : Hd → α → List Ent) (Q : α → Prop) {w : World} {rows : List (List Value)} (h : ∀ r ∈ rows, ∃ (x : α) (g : Hd), r = R g x ∧ (∀ e ∈ J g x, e.ok w) ∧ Q x) : ∃ (hs : Hds) (L : List α), rows = nrows R hs L ∧ (Ent.all (nins J hs L)).ok w ∧ ∀ x ∈ L, Q x := by
  suffices H : ∃ (hs : Hds) (L : List α), rows = nrows R hs L ∧ (∀ e ∈ nins J hs L, e.ok w) ∧ ∀ x ∈ L, Q x by
    obtain ⟨hs, L, h1, h2, h3⟩ := H
    exact ⟨hs, L, h1, Ent.all_ok h2, h3⟩
  induction rows with
  | nil => exact ⟨fun _ => nilH, [], rfl, by simp [nins], by simp⟩
  | cons r rows ih =>
    obtain ⟨hs, L, h1, h2, h5⟩ := ih fun q hq => h q (by simp [hq])
    obtain ⟨x, g, h3, h4, h6⟩ := h r (by simp)
    refine ⟨fun | 0 => g | i + 1 => hs i, x :: L, by rw [h1, h3]; rfl, fun e he => ?_, fun y hy => ?_⟩
    · rcases List.mem_append.1 (show e ∈ J g x ++ nins J hs L from he) with he | he
      · exact h4 e he
      · exact h2 e he
    · rcases List.mem_cons.1 hy with rfl | hy
      · exact h6
      · exact h5 y hy
theorem rows_bulk {H : Type} {rows : List (List Value)} {d : DataW H} {B : Nat} {tr : Nat → List Value → Option (DataW H × List MemPlace)} (hk : Rows.uptoBulk d ≤ B)
    (h : d = .nil ∧ rows = [] ∨ ∃ ys zs : List (DataW H), d = .slice ys zs ∧ ys.length = rows.length ∧ ∀ (i : Nat) (r : List Value), rows[i]? = some r → ∃ (n : Nat) (y : DataW H × List MemPlace), tr n r = some y ∧ ys[i]? = some y.1) :
    ∀ r ∈ rows, ∃ (n : Nat) (y : DataW H × List MemPlace), tr n r = some y ∧ Rows.uptoBulk y.1 ≤ B := by
  intro r hr
  obtain ⟨i, hi⟩ := List.getElem?_of_mem hr
  rcases h with ⟨_, h⟩ | ⟨ys, zs, rfl, _, h⟩
  · subst h; cases hr
  · obtain ⟨n, y, h1, h2⟩ := h i r hi
    have := bulk_part (List.mem_of_getElem? h2)
    simp only [Rows.uptoBulk] at hk
    exact ⟨n, y, h1, by omega⟩

theorem openNB_34 {H : Type} {enc : TypeId × Value → H} {w : World} {n : Nat} {r : List Value} {y : DataW H × List MemPlace} (h : DataW.trod enc Tryz.prog w 0 (fun _ => true) true n 34 r = some y) (hk : Rows.uptoBulk y.1 ≤ 1048576) : ∃ (x : S_api_Op) (g : Hd), r = nR34 g x ∧ (∀ e ∈ nJ34 g x, e.ok w) ∧ x.Data.length ≤ 1048576 ∧ x.Name.size ≤ 1048576 := by
  have hlen : r.length = 5 := by obtain ⟨xs, m, _, _, hl, _⟩ := DataW.trod_struct Tryz.underlying34 h; rw [hl]; kernel_rfl
  obtain ⟨c0, r0, rfl⟩ : ∃ c l, r = c :: l := by cases r with | nil => simp at hlen | cons c l => exact ⟨c, l, rfl⟩
  obtain ⟨c1, r1, rfl⟩ : ∃ c l, r0 = c :: l := by cases r0 with | nil => simp at hlen | cons c l => exact ⟨c, l, rfl⟩
  obtain ⟨c2, r2, rfl⟩ : ∃ c l, r1 = c :: l := by cases r1 with | nil => simp at hlen | cons c l => exact ⟨c, l, rfl⟩
  obtain ⟨c3, r3, rfl⟩ : ∃ c l, r2 = c :: l := by cases r2 with | nil => simp at hlen | cons c l => exact ⟨c, l, rfl⟩
  obtain ⟨c4, r4, rfl⟩ : ∃ c l, r3 = c :: l := by cases r3 with | nil => simp at hlen | cons c l => exact ⟨c, l, rfl⟩
  obtain rfl : r4 = [] := by simpa using hlen
  obtain ⟨n1, y2, hp3, hb4⟩ := trod_field (i := 0) (off := 0) (ty := 3) Tryz.underlying34 h (by rfl) (sz := 1) (by kernel_rfl)
  replace hp3 : DataW.trod enc Tryz.prog w 0 (fun _ => true) true n1 3 [c0] = some y2 := hp3
  have bk5 := bulk_agg hk hb4
  obtain ⟨n6, y7, hp8, hb9⟩ := trod_field (i := 1) (off := 1) (ty := 9) Tryz.underlying34 h (by rfl) (sz := 1) (by kernel_rfl)
  replace hp8 : DataW.trod enc Tryz.prog w 0 (fun _ => true) true n6 9 [c1] = some y7 := hp8
  have bk10 := bulk_agg hk hb9
  obtain ⟨n11, y12, hp13, hb14⟩ := trod_field (i := 2) (off := 2) (ty := 32) Tryz.underlying34 h (by rfl) (sz := 1) (by kernel_rfl)
  replace hp13 : DataW.trod enc Tryz.prog w 0 (fun _ => true) true n11 32 [c2] = some y12 := hp13
  have bk15 := bulk_agg hk hb14
  obtain ⟨n16, y17, hp18, hb19⟩ := trod_field (i := 3) (off := 3) (ty := 23) Tryz.underlying34 h (by rfl) (sz := 2) (by kernel_rfl)
  replace hp18 : DataW.trod enc Tryz.prog w 0 (fun _ => true) true n16 23 [c3, c4] = some y17 := hp18
  have bk20 := bulk_agg hk hb19
  obtain ⟨z21, hc22, hy23, wz24⟩ := DataW.trod_int Tryz.underlying3 hp3
  replace wz24 := wf_i64 wz24
  obtain rfl : c0 = .int .i64 z21 := by simpa using hc22
  obtain ⟨z25, hc26, hy27, wz28⟩ := DataW.trod_string Tryz.underlying9 hp8
  obtain rfl : c1 = .string z25 := by simpa using hc26
  have sb29 := bulk_str bk10 hy27
  obtain ⟨o30, n34, c31, rows35, hc36, hn37, hle38, hl39, he40, hr41, ho42, hb43⟩ := open_rows (sz := 1) Tryz.underlying32 (by kernel_rfl) (by omega) hp13
  replace hl39 : n34 ≤ 9223372036854775807 := by omega
  have hs45 : rows35.length ≤ 1048576 := bulk_slice bk15 (hb43.imp (fun h => ⟨h.1, by rw [h.2]; rfl⟩) (fun ⟨ys, zs, h1, h2, _⟩ => ⟨ys, zs, h1, h2⟩))
  rw [hn37] at hs45
  obtain ⟨l32, rfl, hq44⟩ := rows_dec rB _ (fun r hr => by obtain ⟨n, y, hy⟩ := hr41 r hr; exact open_u8 Tryz.underlying5 hy)
  obtain rfl : l32.length = n34 := by simpa using hn37
  replace he40 : (Ent.rd o30 1 (List.map rB l32)).ok w := he40
  obtain rfl : c2 = .slice o30 l32.length c31 := by simpa using hc36
  obtain ⟨n46, y47, hp48, hb49⟩ := trod_field (i := 0) (off := 0) (ty := 3) Tryz.underlying23 hp18 (by rfl) (sz := 1) (by kernel_rfl)
  replace hp48 : DataW.trod enc Tryz.prog w 0 (fun _ => true) true n46 3 [c3] = some y47 := hp48
  have bk50 := bulk_agg bk20 hb49
  obtain ⟨n51, y52, hp53, hb54⟩ := trod_field (i := 1) (off := 1) (ty := 3) Tryz.underlying23 hp18 (by rfl) (sz := 1) (by kernel_rfl)
  replace hp53 : DataW.trod enc Tryz.prog w 0 (fun _ => true) true n51 3 [c4] = some y52 := hp53
  have bk55 := bulk_agg bk20 hb54
  obtain ⟨z56, hc57, hy58, wz59⟩ := DataW.trod_int Tryz.underlying3 hp48
  replace wz59 := wf_i64 wz59
  obtain rfl : c3 = .int .i64 z56 := by simpa using hc57
  obtain ⟨z60, hc61, hy62, wz63⟩ := DataW.trod_int Tryz.underlying3 hp53
  replace wz63 := wf_i64 wz63
  obtain rfl : c4 = .int .i64 z60 := by simpa using hc61
  refine ⟨(S_api_Op.mk z21 z25 l32 (S_api_Version.mk z56 z60)), (fun | 0 => (o30, c31) | _ => (none, 0)), rfl, fun e he => ?_, (by first | exact hs45 | (have h := hs45; rw [List.length_map] at h; exact h)), sb29⟩
  simp only [List.mem_cons, List.not_mem_nil, or_false] at he
  rcases he with rfl | rfl
  · exact he40
  · exact ⟨hle38, fun _ hb => hb.elim⟩

end Go.Proofs.YtjnbkhnebmlilaaGreat
