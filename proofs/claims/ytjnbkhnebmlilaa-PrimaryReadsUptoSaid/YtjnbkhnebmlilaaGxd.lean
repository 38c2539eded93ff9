/-
  Models, part 4: arrays whose places are variables; entries that lie in others.
-/
import Derived.Test.YtjnbkhnebmlilaaGxc
set_option linter.unusedVariables false
set_option linter.unusedSimpArgs false
namespace Sx
open Go Go.RowKit

def aU32 (l : List Int) : List Value := l.map (Value.int .u32)
theorem amap_at (k : IntKind) {L : List Int} {i o : Nat} (h : i < L.length) (ho : o = i) : (L.map (Value.int k))[o]? = some (.int k (L.getD i 0)) := by
  subst ho
  simp [List.getElem?_eq_getElem h, List.getD]
theorem amap_at2 (k : IntKind) {pre post : List Value} {L : List Int} {i o m : Nat} (hm : pre.length = m) (h : i < L.length) (ho : o = m + i) : (pre ++ (L.map (Value.int k) ++ post))[o]? = some (.int k (L.getD i 0)) := by
  rw [List.getElem?_append_right (by omega), List.getElem?_append_left (by rw [List.length_map]; omega)]
  exact amap_at k h (by omega)
theorem splice_one {vs : List Value} {v : Value} {o : Nat} (h : o < vs.length) : splice vs o [v] = vs.set o v := by
  have := splice_cons (vs := vs) (c := o) (v := v) (r := []) (by simp; omega)
  rw [← this, splice_nil]
theorem amap_splice2 (k : IntKind) {pre post : List Value} {L : List Int} {i o m : Nat} {x : Int} (hm : pre.length = m) (h : i < L.length) (ho : o = m + i) : splice (pre ++ (L.map (Value.int k) ++ post)) o [.int k x] = pre ++ ((L.set i x).map (Value.int k) ++ post) := by
  rw [splice_one (by rw [List.length_append, List.length_append, List.length_map]; omega), List.set_append_right _ _ (by omega), List.set_append_left _ _ (by rw [List.length_map]; omega), List.map_set, show o - pre.length = i by omega]

theorem aU32_at2 {pre post : List Value} {L : List Int} {i o m : Nat} (hm : pre.length = m) (h : i < L.length) (ho : o = m + i) : (pre ++ (aU32 L ++ post))[o]? = some (.int .u32 (L.getD i 0)) := amap_at2 .u32 hm h ho
theorem splice_aU322 {pre post : List Value} {L : List Int} {i o m : Nat} {x : Int} (hm : pre.length = m) (h : i < L.length) (ho : o = m + i) : splice (pre ++ (aU32 L ++ post)) o [.int .u32 x] = pre ++ (aU32 (L.set i x) ++ post) := amap_splice2 .u32 hm h ho
theorem aU32_len {L : List Int} : (aU32 L).length = L.length := List.length_map ..
theorem Cov.trans {a b c : Ent} (h : Cov a b) (h' : Cov b c) : Cov a c :=
  ⟨fun w hw => h'.1 w (h.1 w hw), fun w hw k hk => h.2 w hw k (h'.2 w (h.1 w hw) k hk)⟩
/-- An entry that says a plain fact. -/
@[reducible] def Ent.fact (p : Prop) : Ent := .say false (fun _ => False) (fun _ => p) (fun _ _ _ h => h)
end Sx
