/-
  CHAPTER 14: plain facts on the models: versions, marks, what is above; the order of names.
-/
import Derived.Test.YtdelhcdknglibaaM14b
set_option linter.unusedVariables false
set_option linter.unusedSimpArgs false
set_option maxRecDepth 100000
namespace Go.Proofs.Ytdelhcdknglibaa
open Go Go.RowKit Sx

abbrev Ver := S_api_Version
abbrev Ent13 := S_api_Entry
abbrev Lst := S_api_Last
abbrev Itm := S_api_Item

theorem ne_f {n m : Nat} (h : n = m) : (((n : Nat) : Int) != ((m : Nat) : Int)) = false := by rw [h]; simp
theorem ne_t {n m : Nat} (h : ¬ n = m) : (((n : Nat) : Int) != ((m : Nat) : Int)) = true := by simp; omega

def cmpZ (x y : Int) : Int := if x < y then -1 else if y < x then 1 else 0
def vcmp (a b : Ver) : Int := if cmpZ a.Epoch b.Epoch = 0 then cmpZ a.N b.N else cmpZ a.Epoch b.Epoch

theorem m_cmpint (F : Nat) (x y : Int) : m_cmp_Compare_int_ F x y = some (cmpZ x y) := by
  simp only [m_cmp_Compare_int_, m_cmp_isNaN_int_, Option.bind_some, bne_self_eq_false, cond_false, cmpZ]
  by_cases h : x < y
  · simp [h]
  · by_cases h2 : y < x
    · simp [h, h2]
    · simp [h, h2]

theorem m_cmp (F : Nat) (a b : Ver) : m_pglog_Cmp F a b = some (vcmp a b) := by
  simp only [m_pglog_Cmp, m_cmpint, Option.bind_some, vcmp]
  by_cases h : cmpZ a.Epoch b.Epoch = 0
  · simp [h]
  · have : (cmpZ a.Epoch b.Epoch != 0) = true := by simpa using h
    rw [this, if_neg h]; rfl

theorem vbeq_self (a : Ver) : S_api_Version.beq a a = true := (S_api_Version.beq_iff a a).2 rfl

theorem m_refcmp (F : Nat) (a b : Ver) : m_tholeref13_Cmp F a b = some (vcmp a b) := by
  simp only [m_tholeref13_Cmp, jn]
  have hb : S_api_Version.beq a b = (decide (a.Epoch = b.Epoch) && decide (a.N = b.N)) := by
    simp [S_api_Version.beq, Bool.beq_eq_decide_eq]
  rw [hb]
  unfold vcmp cmpZ
  by_cases h1 : a.Epoch < b.Epoch
  · simp [h1]
  · by_cases h2 : a.Epoch = b.Epoch
    · by_cases h3 : a.N < b.N
      · simp [h2, h3]
      · by_cases h4 : b.N < a.N
        · have : ¬ a.N = b.N := by omega
          simp [h2, h3, h4, this]
        · have : a.N = b.N := by omega
          simp [h2, this]
    · have h5 : b.Epoch < a.Epoch := by omega
      have h6 : (a.Epoch == b.Epoch) = false := by simpa using h2
      simp [h1, h2, h5, h6]
theorem vcmp_self (a : Ver) : vcmp a a = 0 := by simp [vcmp, cmpZ]

/-- A state. -/
structure Stt where
  les : Int
  tail : Ver
  log : List Ent13
  lasts : List Lst
  items : List Itm

/-- No more of anything than this. -/
structure Stt.Small (s : Stt) (n : Nat) : Prop where
  log : s.log.length ≤ n
  lasts : s.lasts.length ≤ n
  items : s.items.length ≤ n

theorem App64 {n : Nat} (h : n ≤ 33554432) : App n 64 := App.of h (by omega)
theorem App40 {n : Nat} (h : n ≤ 33554432) : App n 40 := App.of h (by omega)
theorem App16 {n : Nat} (h : n ≤ 33554432) : App n 16 := App.of h (by omega)

/-! ### The greatest version that both have -/

def marks (s : Stt) : List Ver := s.tail :: s.log.map (·.Version)

/-- One mark is seen. -/
def seeF (ms : List Ver) (v : Ver) (s : Ver × Bool) : Ver × Bool := if (ms.any fun w => S_api_Version.beq v w) && (!s.2 || decide (vcmp v s.1 > 0)) then (v, true) else s
def commonF (a b : Stt) : Ver × Bool := (marks a).foldl (fun s v => seeF (marks b) v s) (⟨0, 0⟩, false)

theorem vbeq_comm (a b : Ver) : S_api_Version.beq a b = S_api_Version.beq b a := by
  cases h : S_api_Version.beq a b with
  | true => rw [(S_api_Version.beq_iff a b).1 h, vbeq_self]
  | false =>
    cases h' : S_api_Version.beq b a with
    | false => rfl
    | true => rw [(S_api_Version.beq_iff b a).1 h', vbeq_self] at h; cases h

theorem loop_first {α : Type} (p : α → Bool) : ∀ (l : List α) (c : Nat),
    ∃ r : Int, loopL (σ := Unit) (fun nx c x _ => bif p x then some ((c : Nat) : Int) else nx ()) (fun _ _ => some (-1)) l c () = some r ∧ decide (r ≥ 0) = l.any p
  | [], c => ⟨-1, rfl, rfl⟩
  | x :: l, c => by
    obtain ⟨r, h1, h2⟩ := loop_first p l (c + 1)
    simp only [loopL, h1, List.any_cons]
    cases p x with
    | true => exact ⟨_, rfl, decide_eq_true (by omega)⟩
    | false => exact ⟨r, rfl, by rw [h2]; rfl⟩

theorem m_contains (F : Nat) (l : List Ent13) (v : Ver) (h : l.length ≤ 33554432) : m_slices_ContainsFunc___api_Entry_api_Entry_ F l v = some (l.any fun e => S_api_Version.beq e.Version v) := by
  obtain ⟨r, h1, h2⟩ := loop_first (fun e : Ent13 => S_api_Version.beq e.Version v) l 0
  simp only [m_slices_ContainsFunc___api_Entry_api_Entry_, m_slices_IndexFunc___api_Entry_api_Entry_, m_missing_has_1, Option.bind_some]
  rw [grd_pos _ (Len.of (by omega)), h1, Option.bind_some, h2]

theorem m_has (F : Nat) (s : Stt) (v : Ver) (h : s.log.length ≤ 33554432) : m_missing_has F s.les s.tail s.log s.lasts s.items v = some ((marks s).any fun w => S_api_Version.beq v w) := by
  simp only [m_missing_has, m_contains F s.log v h, Option.bind_some, marks, List.any_cons]
  rw [vbeq_comm s.tail v]
  have : (s.log.any fun e => S_api_Version.beq e.Version v) = ((s.log.map (·.Version)).any fun w => S_api_Version.beq v w) := by
    rw [List.any_map]
    congr 1
    funext e
    exact vbeq_comm _ _
  rw [this]
  cases S_api_Version.beq v s.tail <;> rfl

theorem m_see (F : Nat) (s : Stt) (v b : Ver) (k : Bool) (h : s.log.length ≤ 33554432) :
    m_missing_Common_1 F v s.les s.tail s.log s.lasts s.items k b = some ((seeF (marks s) v (b, k)).2, (seeF (marks s) v (b, k)).1) := by
  simp only [m_missing_Common_1, jn, m_has F s v h, m_cmp, Option.bind_some, seeF]
  cases (marks s).any fun w => S_api_Version.beq v w <;> cases k <;> cases decide (vcmp v b > 0) <;> rfl

theorem loop_see {ρ : Type} (ms : List Ver) (fin : Nat → Int × Int × Bool → Option ρ) (step : (Int × Int × Bool → Option ρ) → Nat → Ent13 → Int × Int × Bool → Option ρ)
    (hs : ∀ n c x e f k, step n c x (e, f, k) = n ((seeF ms x.Version (⟨e, f⟩, k)).1.Epoch, (seeF ms x.Version (⟨e, f⟩, k)).1.N, (seeF ms x.Version (⟨e, f⟩, k)).2)) : ∀ (l : List Ent13) (c : Nat) (s : Ver × Bool),
    loopL step fin l c (s.1.Epoch, s.1.N, s.2) = fin (c + l.length) (((l.map (·.Version)).foldl (fun s v => seeF ms v s) s).1.Epoch, ((l.map (·.Version)).foldl (fun s v => seeF ms v s) s).1.N, ((l.map (·.Version)).foldl (fun s v => seeF ms v s) s).2)
  | [], c, s => rfl
  | x :: l, c, s => by
    have ih := loop_see ms fin step hs l (c + 1) (seeF ms x.Version s)
    have e1 : c + 1 + l.length = c + (x :: l).length := by simp only [List.length_cons]; omega
    rw [loopL, hs, ih, e1]
    rfl

theorem m_common (F : Nat) (a b : Stt) (ha : a.log.length ≤ 33554432) (hb : b.log.length ≤ 33554432) :
    m_missing_Common F a.les a.tail a.log a.lasts a.items b.les b.tail b.log b.lasts b.items = some (commonF a b) := by
  simp only [m_missing_Common]
  rw [m_see F b _ _ _ hb, Option.bind_some, grd_pos _ (Len.of (by omega))]
  refine (loop_see (marks b) _ _ (fun n c x e f k => ?_) a.log 0 (seeF (marks b) a.tail (⟨0, 0⟩, false))).trans rfl
  simp only [m_see F b _ _ _ hb, Option.bind_some]

theorem m_marks (F : Nat) (s : Stt) (h : s.log.length ≤ 33554431) : m_tholeref14_marks F s.les s.tail s.log s.lasts s.items = some (marks s) := by
  unfold m_tholeref14_marks
  rw [grd_pos _ (Len.of (by omega))]
  have key : ∀ (l : List Ent13) (c : Nat) (acc : List Ver), acc.length + l.length ≤ 33554432 →
      loopL (fun nx (_ : Nat) (x : Ent13) (acc : List Ver) => grd (App (acc.length + [x.Version].length) 16) (nx (acc ++ [x.Version]))) (fun _ acc => some acc) l c acc = some (acc ++ l.map (·.Version)) := by
    intro l
    induction l with
    | nil => intro c acc _; simp [loopL]
    | cons x l ih =>
      intro c acc hl
      simp only [List.length_cons] at hl
      rw [loopL, grd_pos _ (App16 (by simp; omega))]
      exact (ih (c + 1) (acc ++ [x.Version]) (by simp; omega)).trans (by simp)
  exact key s.log 0 [s.tail] (by simp; omega)

/-- One pair of marks. -/
def pairF (v : Ver) (s : Ver × Bool) (w : Ver) : Ver × Bool := if S_api_Version.beq v w && (!s.2 || decide (vcmp v s.1 > 0)) then (v, true) else s

theorem fold_pair (v : Ver) : ∀ (ms : List Ver) (s : Ver × Bool), ms.foldl (pairF v) s = seeF ms v s
  | [], s => by simp [seeF]
  | w :: ms, s => by
    rw [List.foldl_cons, fold_pair v ms]
    unfold seeF pairF
    rw [List.any_cons]
    cases hw : S_api_Version.beq v w with
    | false => simp
    | true =>
      cases hc : (!s.2 || decide (vcmp v s.1 > 0)) with
      | false => simp [hc]
      | true => simp [vcmp_self]

theorem loop_pair {ρ : Type} (v : Ver) (fin : Nat → Bool × Int × Int → Option ρ) (step : (Bool × Int × Int → Option ρ) → Nat → Ver → Bool × Int × Int → Option ρ)
    (hs : ∀ n c w k e f, step n c w (k, e, f) = n ((pairF v (⟨e, f⟩, k) w).2, (pairF v (⟨e, f⟩, k) w).1.Epoch, (pairF v (⟨e, f⟩, k) w).1.N)) : ∀ (l : List Ver) (c : Nat) (s : Ver × Bool),
    loopL step fin l c (s.2, s.1.Epoch, s.1.N) = fin (c + l.length) ((l.foldl (pairF v) s).2, (l.foldl (pairF v) s).1.Epoch, (l.foldl (pairF v) s).1.N)
  | [], c, s => rfl
  | x :: l, c, s => by
    have ih := loop_pair v fin step hs l (c + 1) (pairF v s x)
    have e1 : c + 1 + l.length = c + (x :: l).length := by simp only [List.length_cons]; omega
    rw [loopL, hs, ih, e1]
    rfl

theorem loop_outer {ρ : Type} (ms : List Ver) (fin : Nat → Bool × Int × Int → Option ρ) (step : (Bool × Int × Int → Option ρ) → Nat → Ver → Bool × Int × Int → Option ρ)
    (hs : ∀ n c v k e f, step n c v (k, e, f) = n ((seeF ms v (⟨e, f⟩, k)).2, (seeF ms v (⟨e, f⟩, k)).1.Epoch, (seeF ms v (⟨e, f⟩, k)).1.N)) : ∀ (l : List Ver) (c : Nat) (s : Ver × Bool),
    loopL step fin l c (s.2, s.1.Epoch, s.1.N) = fin (c + l.length) ((l.foldl (fun s v => seeF ms v s) s).2, (l.foldl (fun s v => seeF ms v s) s).1.Epoch, (l.foldl (fun s v => seeF ms v s) s).1.N)
  | [], c, s => rfl
  | x :: l, c, s => by
    have ih := loop_outer ms fin step hs l (c + 1) (seeF ms x s)
    have e1 : c + 1 + l.length = c + (x :: l).length := by simp only [List.length_cons]; omega
    rw [loopL, hs, ih, e1]
    rfl

theorem m_refcommon (F : Nat) (a b : Stt) (ha : a.log.length ≤ 33554431) (hb : b.log.length ≤ 33554431) :
    m_tholeref14_Common F a.les a.tail a.log a.lasts a.items b.les b.tail b.log b.lasts b.items = some (commonF a b) := by
  unfold m_tholeref14_Common
  rw [m_marks F a ha, Option.bind_some, grd_pos _ (Len.of (by simp [marks]; omega))]
  refine (loop_outer (marks b) _ _ (fun n c v k e f => ?_) (marks a) 0 (⟨0, 0⟩, false)).trans rfl
  simp only []
  rw [m_marks F b hb, Option.bind_some, grd_pos _ (Len.of (by simp [marks]; omega))]
  refine (loop_pair v _ _ (fun n c w k e f => ?_) (marks b) 0 (⟨e, f⟩, k)).trans ?_
  · simp only [jn, m_refcmp, Option.bind_some, pairF]
    cases S_api_Version.beq v w <;> cases k <;> cases decide (vcmp v ⟨e, f⟩ > 0) <;> rfl
  · rw [fold_pair]

/-! ### What is above it -/

def aboveF (l : List Ent13) (v : Ver) : List Ent13 := l.filter fun e => decide (vcmp e.Version v > 0)

theorem m_above (F : Nat) (s : Stt) (v : Ver) (h : s.log.length ≤ 33554432) : m_missing_above F s.les s.tail s.log s.lasts s.items v = some (aboveF s.log v) := by
  simp only [m_missing_above, m_cmp, Option.bind_some]
  rw [grd_pos _ (Len.of (by omega))]
  have := loop_filter (fun e : Ent13 => decide (vcmp e.Version v > 0)) 64 (fun (_ : Nat) (l : List Ent13) => some l) s.log 0 [] (App64 (by simpa using h))
  rw [List.nil_append] at this
  exact this
theorem m_refabove (F : Nat) (s : Stt) (v : Ver) (h : s.log.length ≤ 33554432) : m_tholeref14_above F s.les s.tail s.log s.lasts s.items v = some (aboveF s.log v) := by
  simp only [m_tholeref14_above, m_refcmp, Option.bind_some]
  rw [grd_pos _ (Len.of (by omega))]
  have := loop_filter (fun e : Ent13 => decide (vcmp e.Version v > 0)) 64 (fun (_ : Nat) (l : List Ent13) => some l) s.log 0 [] (App64 (by simpa using h))
  rw [List.nil_append] at this
  exact this

def divF (a b : Stt) : List Ent13 := if (commonF a b).2 then aboveF a.log (commonF a b).1 else []
def lackF (a b : Stt) : List Ent13 := if (commonF a b).2 then aboveF b.log (commonF a b).1 else []

section
variable (F : Nat) (a b : Stt) (ha : a.log.length ≤ 33554431) (hb : b.log.length ≤ 33554431)
include ha hb
theorem m_div : m_missing_Divergent F a.les a.tail a.log a.lasts a.items b.les b.tail b.log b.lasts b.items = some (divF a b) := by
  simp only [m_missing_Divergent, m_common F a b (by omega) (by omega), Option.bind_some, m_above F a _ (by omega), divF]
  cases (commonF a b).2 <;> rfl
theorem m_lack : m_missing_Lacking F a.les a.tail a.log a.lasts a.items b.les b.tail b.log b.lasts b.items = some (lackF a b) := by
  simp only [m_missing_Lacking, m_common F a b (by omega) (by omega), Option.bind_some, m_above F b _ (by omega), lackF]
  cases (commonF a b).2 <;> rfl
theorem m_refdiv : m_tholeref14_Divergent F a.les a.tail a.log a.lasts a.items b.les b.tail b.log b.lasts b.items = some (divF a b) := by
  simp only [m_tholeref14_Divergent, m_refcommon F a b ha hb, Option.bind_some, m_refabove F a _ (by omega), divF]
  cases (commonF a b).2 <;> rfl
theorem m_reflack : m_tholeref14_Lacking F a.les a.tail a.log a.lasts a.items b.les b.tail b.log b.lasts b.items = some (lackF a b) := by
  simp only [m_tholeref14_Lacking, m_refcommon F a b ha hb, Option.bind_some, m_refabove F b _ (by omega), lackF]
  cases (commonF a b).2 <;> rfl
end

theorem divF_len (a b : Stt) : (divF a b).length ≤ a.log.length := by
  unfold divF aboveF
  split
  · exact List.length_filter_le _ _
  · simp
theorem lackF_len (a b : Stt) : (lackF a b).length ≤ b.log.length := by
  unfold lackF aboveF
  split
  · exact List.length_filter_le _ _
  · simp

/-! ### The order of names -/
theorem bl_cons (a b : UInt8) (x y : List UInt8) : Op.bytesLess (a :: x) (b :: y) = (decide (a.toNat < b.toNat) || (decide (a.toNat = b.toNat) && Op.bytesLess x y)) := by
  have h1 : decide (a < b) = decide (a.toNat < b.toNat) := decide_eq_decide.2 UInt8.lt_iff_toNat_lt
  have h2 : (a == b) = decide (a.toNat = b.toNat) := by rw [Bool.eq_iff_iff]; simp [UInt8.toNat_inj]
  rw [Op.bytesLess, h1, h2]
theorem bl_as : ∀ x y : List UInt8, Op.bytesLess x y = true → Op.bytesLess y x = false
  | [], [], h => by simp [Op.bytesLess] at h
  | [], _ :: _, h => rfl
  | _ :: _, [], h => by simp [Op.bytesLess] at h
  | a :: x, b :: y, h => by
    have ih := bl_as x y
    rw [bl_cons] at h ⊢
    simp only [Bool.or_eq_true, Bool.and_eq_true, decide_eq_true_eq, Bool.or_eq_false_iff, Bool.and_eq_false_iff, decide_eq_false_iff_not] at h ⊢
    rcases h with h | ⟨h1, h2⟩
    · exact ⟨by omega, .inl (by omega)⟩
    · exact ⟨by omega, .inr (ih h2)⟩
theorem bl_tr : ∀ x y z : List UInt8, Op.bytesLess y x = false → Op.bytesLess z y = false → Op.bytesLess z x = false
  | [], y, z, h1, h2 => by cases z <;> rfl
  | a :: x, [], z, h1, h2 => by simp [Op.bytesLess] at h1
  | a :: x, b :: y, [], h1, h2 => by simp [Op.bytesLess] at h2
  | a :: x, b :: y, c :: z, h1, h2 => by
    have ih := bl_tr x y z
    rw [bl_cons] at h1 h2 ⊢
    simp only [Bool.or_eq_false_iff, Bool.and_eq_false_iff, decide_eq_false_iff_not] at h1 h2 ⊢
    refine ⟨by omega, ?_⟩
    by_cases hc : c.toNat = a.toNat
    · exact .inr (ih (h1.2.resolve_left (by omega)) (h2.2.resolve_left (by omega)))
    · exact .inl hc
theorem bl_tot : ∀ x y : List UInt8, Op.bytesLess x y = false → Op.bytesLess y x = false → x = y
  | [], [], _, _ => rfl
  | [], _ :: _, h, _ => by simp [Op.bytesLess] at h
  | _ :: _, [], _, h => by simp [Op.bytesLess] at h
  | a :: x, b :: y, h1, h2 => by
    rw [bl_cons] at h1 h2
    simp only [Bool.or_eq_false_iff, Bool.and_eq_false_iff, decide_eq_false_iff_not] at h1 h2
    have e : a.toNat = b.toNat := by omega
    rw [UInt8.toNat_inj.1 e, bl_tot x y (h1.2.resolve_left (by omega)) (h2.2.resolve_left (by omega))]


end Go.Proofs.Ytdelhcdknglibaa
