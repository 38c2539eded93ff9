/-
  CHAPTER 20, BackfillMeets: plain facts: versions, the marks of two states, what is above one.
-/
import Derived.Test.YticlccnajfjdeaaM20m
set_option linter.unusedVariables false
set_option linter.unusedSimpArgs false
set_option maxRecDepth 100000
namespace Go.Proofs.Yticlccnajfjdeaa
open Go Go.RowKit Sx

abbrev Ver := S_api_Version
abbrev Ent13 := S_api_Entry
abbrev Lst := S_api_Last

def cmpZ (x y : Int) : Int := if x < y then -1 else if y < x then 1 else 0
def vcmp (a b : Ver) : Int := if cmpZ a.Epoch b.Epoch = 0 then cmpZ a.N b.N else cmpZ a.Epoch b.Epoch
theorem vbeq_self (a : Ver) : S_api_Version.beq a a = true := (S_api_Version.beq_iff a a).2 rfl

theorem m_refcmp (F : Nat) (a b : Ver) : m_tholeref13_Cmp F a b = some (vcmp a b) := by
  simp only [m_tholeref13_Cmp, jn]
  have hb : S_api_Version.beq a b = (decide (a.Epoch = b.Epoch) && decide (a.N = b.N)) := by
    simp [S_api_Version.beq, Bool.beq_eq_decide_eq]
  rw [hb]
  unfold vcmp cmpZ
  by_cases h1 : a.Epoch < b.Epoch
  · simp [h1]
  · by_cases h2 : a.Epoch = b.Epoch
    · by_cases h3 : a.N < b.N
      · simp [h2, h3]
      · by_cases h4 : b.N < a.N
        · have : ¬ a.N = b.N := by omega
          simp [h2, h3, h4, this]
        · have : a.N = b.N := by omega
          simp [h2, this]
    · have h5 : b.Epoch < a.Epoch := by omega
      have h6 : (a.Epoch == b.Epoch) = false := by simpa using h2
      simp [h1, h2, h5, h6]
theorem vcmp_self (a : Ver) : vcmp a a = 0 := by simp [vcmp, cmpZ]
/-- A state. -/
structure Stt where
  les : Int
  tail : Ver
  log : List Ent13
  lasts : List Lst
  items : List S_api_Item

/-- No more of anything than this. -/
structure Stt.Small (s : Stt) (n : Nat) : Prop where
  log : s.log.length ≤ n
  lasts : s.lasts.length ≤ n
  items : s.items.length ≤ n

theorem App64 {n : Nat} (h : n ≤ 33554432) : App n 64 := App.of h (by omega)
theorem App40 {n : Nat} (h : n ≤ 33554432) : App n 40 := App.of h (by omega)
theorem App16 {n : Nat} (h : n ≤ 33554432) : App n 16 := App.of h (by omega)

/-! ### The greatest version that both have -/

def marks (s : Stt) : List Ver := s.tail :: s.log.map (·.Version)

/-- One mark is seen. -/
def seeF (ms : List Ver) (v : Ver) (s : Ver × Bool) : Ver × Bool := if (ms.any fun w => S_api_Version.beq v w) && (!s.2 || decide (vcmp v s.1 > 0)) then (v, true) else s
def commonF (a b : Stt) : Ver × Bool := (marks a).foldl (fun s v => seeF (marks b) v s) (⟨0, 0⟩, false)
theorem m_marks (F : Nat) (s : Stt) (h : s.log.length ≤ 33554431) : m_tholeref14_marks F s.les s.tail s.log s.lasts s.items = some (marks s) := by
  unfold m_tholeref14_marks
  rw [grd_pos _ (Len.of (by omega))]
  have key : ∀ (l : List Ent13) (c : Nat) (acc : List Ver), acc.length + l.length ≤ 33554432 →
      loopL (fun nx (_ : Nat) (x : Ent13) (acc : List Ver) => grd (App (acc.length + [x.Version].length) 16) (nx (acc ++ [x.Version]))) (fun _ acc => some acc) l c acc = some (acc ++ l.map (·.Version)) := by
    intro l
    induction l with
    | nil => intro c acc _; simp [loopL]
    | cons x l ih =>
      intro c acc hl
      simp only [List.length_cons] at hl
      rw [loopL, grd_pos _ (App16 (by simp; omega))]
      exact (ih (c + 1) (acc ++ [x.Version]) (by simp; omega)).trans (by simp)
  exact key s.log 0 [s.tail] (by simp; omega)

/-- One pair of marks. -/
def pairF (v : Ver) (s : Ver × Bool) (w : Ver) : Ver × Bool := if S_api_Version.beq v w && (!s.2 || decide (vcmp v s.1 > 0)) then (v, true) else s

theorem fold_pair (v : Ver) : ∀ (ms : List Ver) (s : Ver × Bool), ms.foldl (pairF v) s = seeF ms v s
  | [], s => by simp [seeF]
  | w :: ms, s => by
    rw [List.foldl_cons, fold_pair v ms]
    unfold seeF pairF
    rw [List.any_cons]
    cases hw : S_api_Version.beq v w with
    | false => simp
    | true =>
      cases hc : (!s.2 || decide (vcmp v s.1 > 0)) with
      | false => simp [hc]
      | true => simp [vcmp_self]

theorem loop_pair {ρ : Type} (v : Ver) (fin : Nat → Bool × Int × Int → Option ρ) (step : (Bool × Int × Int → Option ρ) → Nat → Ver → Bool × Int × Int → Option ρ)
    (hs : ∀ n c w k e f, step n c w (k, e, f) = n ((pairF v (⟨e, f⟩, k) w).2, (pairF v (⟨e, f⟩, k) w).1.Epoch, (pairF v (⟨e, f⟩, k) w).1.N)) : ∀ (l : List Ver) (c : Nat) (s : Ver × Bool),
    loopL step fin l c (s.2, s.1.Epoch, s.1.N) = fin (c + l.length) ((l.foldl (pairF v) s).2, (l.foldl (pairF v) s).1.Epoch, (l.foldl (pairF v) s).1.N)
  | [], c, s => rfl
  | x :: l, c, s => by
    have ih := loop_pair v fin step hs l (c + 1) (pairF v s x)
    have e1 : c + 1 + l.length = c + (x :: l).length := by simp only [List.length_cons]; omega
    rw [loopL, hs, ih, e1]
    rfl

theorem loop_outer {ρ : Type} (ms : List Ver) (fin : Nat → Bool × Int × Int → Option ρ) (step : (Bool × Int × Int → Option ρ) → Nat → Ver → Bool × Int × Int → Option ρ)
    (hs : ∀ n c v k e f, step n c v (k, e, f) = n ((seeF ms v (⟨e, f⟩, k)).2, (seeF ms v (⟨e, f⟩, k)).1.Epoch, (seeF ms v (⟨e, f⟩, k)).1.N)) : ∀ (l : List Ver) (c : Nat) (s : Ver × Bool),
    loopL step fin l c (s.2, s.1.Epoch, s.1.N) = fin (c + l.length) ((l.foldl (fun s v => seeF ms v s) s).2, (l.foldl (fun s v => seeF ms v s) s).1.Epoch, (l.foldl (fun s v => seeF ms v s) s).1.N)
  | [], c, s => rfl
  | x :: l, c, s => by
    have ih := loop_outer ms fin step hs l (c + 1) (seeF ms x s)
    have e1 : c + 1 + l.length = c + (x :: l).length := by simp only [List.length_cons]; omega
    rw [loopL, hs, ih, e1]
    rfl

theorem m_refcommon (F : Nat) (a b : Stt) (ha : a.log.length ≤ 33554431) (hb : b.log.length ≤ 33554431) :
    m_tholeref14_Common F a.les a.tail a.log a.lasts a.items b.les b.tail b.log b.lasts b.items = some (commonF a b) := by
  unfold m_tholeref14_Common
  rw [m_marks F a ha, Option.bind_some, grd_pos _ (Len.of (by simp [marks]; omega))]
  refine (loop_outer (marks b) _ _ (fun n c v k e f => ?_) (marks a) 0 (⟨0, 0⟩, false)).trans rfl
  simp only []
  rw [m_marks F b hb, Option.bind_some, grd_pos _ (Len.of (by simp [marks]; omega))]
  refine (loop_pair v _ _ (fun n c w k e f => ?_) (marks b) 0 (⟨e, f⟩, k)).trans ?_
  · simp only [jn, m_refcmp, Option.bind_some, pairF]
    cases S_api_Version.beq v w <;> cases k <;> cases decide (vcmp v ⟨e, f⟩ > 0) <;> rfl
  · rw [fold_pair]

/-! ### What is above it -/

def aboveF (l : List Ent13) (v : Ver) : List Ent13 := l.filter fun e => decide (vcmp e.Version v > 0)

theorem m_refabove (F : Nat) (s : Stt) (v : Ver) (h : s.log.length ≤ 33554432) : m_tholeref14_above F s.les s.tail s.log s.lasts s.items v = some (aboveF s.log v) := by
  simp only [m_tholeref14_above, m_refcmp, Option.bind_some]
  rw [grd_pos _ (Len.of (by omega))]
  have := loop_filter (fun e : Ent13 => decide (vcmp e.Version v > 0)) 64 (fun (_ : Nat) (l : List Ent13) => some l) s.log 0 [] (App64 (by simpa using h))
  rw [List.nil_append] at this
  exact this

def divF (a b : Stt) : List Ent13 := if (commonF a b).2 then aboveF a.log (commonF a b).1 else []
def lackF (a b : Stt) : List Ent13 := if (commonF a b).2 then aboveF b.log (commonF a b).1 else []

section
variable (F : Nat) (a b : Stt) (ha : a.log.length ≤ 33554431) (hb : b.log.length ≤ 33554431)
include ha hb
theorem m_refdiv : m_tholeref14_Divergent F a.les a.tail a.log a.lasts a.items b.les b.tail b.log b.lasts b.items = some (divF a b) := by
  simp only [m_tholeref14_Divergent, m_refcommon F a b ha hb, Option.bind_some, m_refabove F a _ (by omega), divF]
  cases (commonF a b).2 <;> rfl
theorem m_reflack : m_tholeref14_Lacking F a.les a.tail a.log a.lasts a.items b.les b.tail b.log b.lasts b.items = some (lackF a b) := by
  simp only [m_tholeref14_Lacking, m_refcommon F a b ha hb, Option.bind_some, m_refabove F b _ (by omega), lackF]
  cases (commonF a b).2 <;> rfl
end

theorem divF_len (a b : Stt) : (divF a b).length ≤ a.log.length := by
  unfold divF aboveF
  split
  · exact List.length_filter_le _ _
  · simp
theorem lackF_len (a b : Stt) : (lackF a b).length ≤ b.log.length := by
  unfold lackF aboveF
  split
  · exact List.length_filter_le _ _
  · simp


abbrev Itm' := S_api_Item
def findF (items : List S_api_Item) (n : ByteArray) : S_api_Item × Bool := match items.find? fun x => x.Name.toList == n.toList with | some x => (x, true) | none => (dS_api_Item, false)

def headF (tail : Ver) (log : List Ent13) : Ver := match log.getLast? with | some e => e.Version | none => tail

theorem last_at {α : Type} {l : List α} (h : l ≠ []) (d : α) : l.getLast? = some (l.getD (l.length - 1) d) := by
  have hp : 0 < l.length := List.length_pos_iff.2 h
  rw [List.getLast?_eq_getElem?]
  rw [List.getD_eq_getElem?_getD, List.getElem?_eq_getElem (show l.length - 1 < l.length by omega)]; rfl

theorem m_refhead (F : Nat) (s : Stt) (h : s.log.length ≤ 33554432) : m_tholeref13_Head F s.les s.tail s.log s.lasts s.items = some (headF s.tail s.log) := by
  unfold m_tholeref13_Head headF
  by_cases h0 : s.log = []
  · rw [h0]; rfl
  · have hp : 0 < s.log.length := List.length_pos_iff.2 h0
    rw [last_at h0 dS_api_Entry, show (((s.log.length : Nat) : Int) == 0) = false by simp; omega, cond_false, grd_pos _ (by unfold I64; omega), grd_pos _ (by unfold Ix; omega)]
    rw [show (((s.log.length : Nat) : Int) - 1).toNat = s.log.length - 1 by omega]


end Go.Proofs.Yticlccnajfjdeaa
