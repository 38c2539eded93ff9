/-
  WHAT THE BOUND OF THE SECOND FORM GIVES: lengths of what came in.
-/
import Derived.Test.YtjnbkhnebmlilaaGreatRows
import Derived.Test.YtjnbkhnebmlilaaGreatSxh
namespace Go.Proofs.YtjnbkhnebmlilaaGreat
open Go

theorem bulk_one {H : Type} (d : DataW H) : 1 ≤ Rows.uptoBulk d := by
  cases d with
  | lit l => cases l <;> simp [Rows.uptoBulk]
  | _ => simp [Rows.uptoBulk]

theorem bulk_part {H : Type} {d : DataW H} {l : List (DataW H)} (h : d ∈ l) : Rows.uptoBulk d ≤ Rows.uptoBulkAll l := by
  induction l with
  | nil => cases h
  | cons x r ih =>
    simp only [Rows.uptoBulkAll]
    rcases List.mem_cons.1 h with e | e
    · subst e; omega
    · have := ih e; omega

theorem bulk_len {H : Type} (l : List (DataW H)) : l.length ≤ Rows.uptoBulkAll l := by
  induction l with
  | nil => simp [Rows.uptoBulkAll]
  | cons x r ih => have := bulk_one x; simp only [Rows.uptoBulkAll, List.length_cons]; omega

theorem bulk_arg {H : Type} {l : List (DataW H)} {d : DataW H} (hk : Rows.uptoSmall H l = true) (h : d ∈ l) : Rows.uptoBulk d ≤ 1048576 :=
  Nat.le_trans (bulk_part h) (of_decide_eq_true hk)

theorem bulk_agg {H : Type} {d x : DataW H} {B : Nat} (hk : Rows.uptoBulk x ≤ B) (h : ∃ parts, x = .agg parts ∧ d ∈ parts) : Rows.uptoBulk d ≤ B := by
  obtain ⟨parts, rfl, hd⟩ := h
  have := bulk_part hd
  simp only [Rows.uptoBulk] at hk
  omega

theorem bulk_slice {H : Type} {d : DataW H} {n B : Nat} (hk : Rows.uptoBulk d ≤ B) (h : d = .nil ∧ n = 0 ∨ ∃ ys zs : List (DataW H), d = .slice ys zs ∧ ys.length = n) : n ≤ B := by
  rcases h with ⟨rfl, rfl⟩ | ⟨ys, zs, rfl, rfl⟩
  · omega
  · have := bulk_len ys
    simp only [Rows.uptoBulk] at hk
    omega

theorem bulk_str {H : Type} {y : DataW H × List MemPlace} {s : ByteArray} {B : Nat} (hk : Rows.uptoBulk y.1 ≤ B) (h : y = (.lit (.string s.data.toList), [])) : s.size ≤ B := by
  subst h
  simp only [Rows.uptoBulk, Array.length_toList] at hk
  have : s.size = s.data.size := rfl
  omega
end Go.Proofs.YtjnbkhnebmlilaaGreat
