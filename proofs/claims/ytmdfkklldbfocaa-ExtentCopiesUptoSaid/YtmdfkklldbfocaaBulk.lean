/-
  WHAT THE BOUND OF THE SECOND FORM GIVES: lengths of what came in.
-/
import Derived.Test.YtmdfkklldbfocaaRows
import Derived.Test.YtmdfkklldbfocaaSxh
namespace Go.Proofs.Ytmdfkklldbfocaa
open Go

theorem bulk_one {H : Type} (d : DataW H) : 1 ≤ Rows.uptoBulk d := by
  cases d with
  | lit l => cases l <;> simp [Rows.uptoBulk]
  | _ => simp [Rows.uptoBulk]

theorem bulk_part {H : Type} {d : DataW H} {l : List (DataW H)} (h : d ∈ l) : Rows.uptoBulk d ≤ Rows.uptoBulkAll l := by
  induction l with
  | nil => cases h
  | cons x r ih =>
    simp only [Rows.uptoBulkAll]
    rcases List.mem_cons.1 h with e | e
    · subst e; omega
    · have := ih e; omega

theorem bulk_len {H : Type} (l : List (DataW H)) : l.length ≤ Rows.uptoBulkAll l := by
  induction l with
  | nil => simp [Rows.uptoBulkAll]
  | cons x r ih => have := bulk_one x; simp only [Rows.uptoBulkAll, List.length_cons]; omega

theorem bulk_arg {H : Type} {l : List (DataW H)} {d : DataW H} (hk : Rows.uptoSmall H l = true) (h : d ∈ l) : Rows.uptoBulk d ≤ 1048576 :=
  Nat.le_trans (bulk_part h) (of_decide_eq_true hk)

theorem bulk_agg {H : Type} {d x : DataW H} {B : Nat} (hk : Rows.uptoBulk x ≤ B) (h : ∃ parts, x = .agg parts ∧ d ∈ parts) : Rows.uptoBulk d ≤ B := by
  obtain ⟨parts, rfl, hd⟩ := h
  have := bulk_part hd
  simp only [Rows.uptoBulk] at hk
  omega

theorem bulk_slice {H : Type} {d : DataW H} {n B : Nat} (hk : Rows.uptoBulk d ≤ B) (h : d = .nil ∧ n = 0 ∨ ∃ ys zs : List (DataW H), d = .slice ys zs ∧ ys.length = n) : n ≤ B := by
  rcases h with ⟨rfl, rfl⟩ | ⟨ys, zs, rfl, rfl⟩
  · omega
  · have := bulk_len ys
    simp only [Rows.uptoBulk] at hk
    omega

/-- No string of these cells is longer than B bytes. -/
def StrB (B : Nat) (r : List Value) : Prop := ∀ s, Value.string s ∈ r → s.size ≤ B
theorem bulk_str {H : Type} {y : DataW H × List MemPlace} {s : ByteArray} {B : Nat} (hk : Rows.uptoBulk y.1 ≤ B) (h : y = (.lit (.string s.data.toList), [])) : s.size ≤ B := by
  subst h
  simp only [Rows.uptoBulk, Array.length_toList] at hk
  have : s.size = s.data.size := rfl
  omega
theorem rows_strs {H α : Type} {row : α → List Value} {l : List α} {d : DataW H} {B : Nat} {tr : Nat → List Value → Option (DataW H × List MemPlace)} (hk : Rows.uptoBulk d ≤ B)
    (h : d = .nil ∧ l.map row = [] ∨ ∃ ys zs : List (DataW H), d = .slice ys zs ∧ ys.length = (l.map row).length ∧ ∀ (i : Nat) (r : List Value), (l.map row)[i]? = some r → ∃ (n : Nat) (y : DataW H × List MemPlace), tr n r = some y ∧ ys[i]? = some y.1)
    (hT : ∀ (n : Nat) (r : List Value) (y : DataW H × List MemPlace), tr n r = some y → Rows.uptoBulk y.1 ≤ B → StrB B r) : ∀ x ∈ l, StrB B (row x) := by
  intro x hx
  obtain ⟨i, hi, rfl⟩ := List.getElem_of_mem hx
  rcases h with ⟨_, h⟩ | ⟨ys, zs, rfl, _, h⟩
  · have : l = [] := by simpa using h
    subst this; simp at hi
  · obtain ⟨n, y, h1, h2⟩ := h i (row l[i]) (by simp [hi])
    have := bulk_part (List.mem_of_getElem? h2)
    simp only [Rows.uptoBulk] at hk
    exact hT n _ y h1 (by omega)

end Go.Proofs.Ytmdfkklldbfocaa
