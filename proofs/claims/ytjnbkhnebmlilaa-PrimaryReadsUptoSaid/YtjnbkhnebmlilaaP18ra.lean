/-
  CHAPTER 18, PrimaryReads: plain facts on states (as chapter 13's).
-/
import Derived.Test.YtjnbkhnebmlilaaM18r
set_option linter.unusedVariables false
set_option linter.unusedSimpArgs false
set_option maxRecDepth 100000
namespace Go.Proofs.Ytjnbkhnebmlilaa
open Go Go.RowKit Sx

abbrev Ver := S_api_Version

abbrev Ent13 := S_api_Entry

abbrev Lst := S_api_Last

abbrev Itm := S_api_Item

def cmpZ (x y : Int) : Int := if x < y then -1 else if y < x then 1 else 0

def vcmp (a b : Ver) : Int := if cmpZ a.Epoch b.Epoch = 0 then cmpZ a.N b.N else cmpZ a.Epoch b.Epoch

theorem m_cmpint (F : Nat) (x y : Int) : m_cmp_Compare_int__2 F x y = some (cmpZ x y) := by
  simp only [m_cmp_Compare_int__2, m_cmp_isNaN_int__3, Option.bind_some, bne_self_eq_false, cond_false, cmpZ]
  by_cases h : x < y
  · simp [h]
  · by_cases h2 : y < x
    · simp [h, h2]
    · simp [h, h2]

theorem m_cmp (F : Nat) (a b : Ver) : m_pglog_Cmp_2 F a b = some (vcmp a b) := by
  simp only [m_pglog_Cmp_2, m_cmpint, Option.bind_some, vcmp]
  by_cases h : cmpZ a.Epoch b.Epoch = 0
  · simp [h]
  · have : (cmpZ a.Epoch b.Epoch != 0) = true := by simpa using h
    rw [this, if_neg h]; rfl

def belowB (v : Ver) : Bool := decide (v.Epoch < 0) || decide (v.N < 0)

theorem m_below (F : Nat) (v : Ver) : m_pglog_below_2 F v = some (belowB v) := by
  simp only [m_pglog_below_2, belowB]; cases decide (v.Epoch < 0) <;> rfl

/-- A state. -/
structure Stt where
  les : Int
  tail : Ver
  log : List Ent13
  lasts : List Lst
  items : List Itm

/-- No more of anything than this. -/
structure Stt.Small (s : Stt) (n : Nat) : Prop where
  log : s.log.length ≤ n
  lasts : s.lasts.length ≤ n
  items : s.items.length ≤ n

theorem App64 {n : Nat} (h : n ≤ 33554432) : App n 64 := App.of h (by omega)

theorem App40 {n : Nat} (h : n ≤ 33554432) : App n 40 := App.of h (by omega)

theorem m_copy (F : Nat) (s : Stt) (h : s.Small 33554432) : m_pglog_Copy_4 F s.les s.tail s.log s.lasts s.items = some (s.les, s.tail, s.log, s.lasts, s.items) := by
  unfold m_pglog_Copy_4
  rw [grd_pos _ (App64 h.log), grd_pos _ (App40 h.lasts), grd_pos _ (App40 h.items)]

def okByte (b : UInt8) : Bool := decide (33 ≤ b.toNat) && decide (b.toNat ≤ 126)

def goodB (s : ByteArray) : Bool := decide (1 ≤ s.size) && decide (s.size ≤ 64) && s.data.toList.all okByte

theorem any_not_all (l : List UInt8) : l.any (fun b => !okByte b) = !l.all okByte := by
  induction l with
  | nil => rfl
  | cons x l ih => simp [ih, Bool.not_and]

theorem ba_getD (s : ByteArray) (i : Nat) : s.data.getD i 0 = s.data.toList.getD i 0 := by
  rw [Array.getD_eq_getD_getElem?, List.getD_eq_getElem?_getD, Array.getElem?_toList]

theorem m_good (F : Nat) (s : ByteArray) (h : s.size ≤ 9223372036854775807) : m_place_Good_2 F s = some (goodB s) := by
  unfold m_place_Good_2
  rw [grd_pos _ (by omega)]
  have hsz : s.size = s.data.toList.length := by rw [Array.length_toList]; rfl
  refine (loopC_congr (st' := fun nx c _ => grd (c < s.data.toList.length) (bif !okByte (s.data.toList.getD c 0) then some false else nx ())) fun nx c u => ?_).trans ?_
  · simp only [jn, ← hsz, ba_getD]
    by_cases hc : c < s.size
    · rw [grd_pos _ hc, grd_pos _ hc]
      unfold okByte
      by_cases h1 : (s.data.toList.getD c 0).toNat < 33
      · have h2 : ¬ 33 ≤ (s.data.toList.getD c 0).toNat := by omega
        rw [show decide ((((s.data.toList.getD c 0).toNat : Nat) : Int) < 33) = true from decide_eq_true (by omega), show decide (33 ≤ (s.data.toList.getD c 0).toNat) = false from decide_eq_false h2]
        rfl
      · rw [show decide ((((s.data.toList.getD c 0).toNat : Nat) : Int) < 33) = false from decide_eq_false (by omega), show decide (33 ≤ (s.data.toList.getD c 0).toNat) = true from decide_eq_true (by omega)]
        by_cases h3 : (s.data.toList.getD c 0).toNat ≤ 126
        · rw [show decide ((((s.data.toList.getD c 0).toNat : Nat) : Int) > 126) = false from decide_eq_false (by omega), show decide ((s.data.toList.getD c 0).toNat ≤ 126) = true from decide_eq_true h3]; rfl
        · rw [show decide ((((s.data.toList.getD c 0).toNat : Nat) : Int) > 126) = true from decide_eq_true (by omega), show decide ((s.data.toList.getD c 0).toNat ≤ 126) = false from decide_eq_false h3]; rfl
    · unfold grd; rw [if_neg hc, if_neg hc]
  · rw [show (((s.size : Nat) : Int) - (0 : Int)).toNat = s.data.toList.length by omega]
    refine (loopC_list (fun b => !okByte b) 0 (some false) _ s.data.toList _ 0 (by omega)).trans ?_
    rw [List.drop_zero, any_not_all]
    unfold goodB
    cases s.data.toList.all okByte with
    | false => simp
    | true =>
      simp only [Bool.not_true, cond_false, Bool.and_true]
      by_cases h1 : s.size = 0
      · have : s.toList = (ByteArray.mk #[]).toList := by
          rw [ByteArray.toList_eq, ByteArray.toList_eq]
          exact List.length_eq_zero_iff.1 (by rw [← hsz]; exact h1)
        rw [this, beq_self_eq_true]
        simp [h1]
      · have : (s.toList == (ByteArray.mk #[]).toList) = false := by
          rw [ByteArray.toList_eq, ByteArray.toList_eq]
          cases hb : (s.data.toList == (#[] : Array UInt8).toList) with
          | false => rfl
          | true => exact absurd (by rw [hsz, eq_of_beq hb]; rfl) h1
        rw [this]
        by_cases h2 : s.size ≤ 64
        · rw [show decide (((s.size : Nat) : Int) ≤ 64) = true from decide_eq_true (by omega), show decide (1 ≤ s.size) = true from decide_eq_true (by omega), show decide (s.size ≤ 64) = true from decide_eq_true h2]; rfl
        · rw [show decide (((s.size : Nat) : Int) ≤ 64) = false from decide_eq_false (by omega), show decide (s.size ≤ 64) = false from decide_eq_false h2]; simp

/-- The log's last version, if each entry is above the one ahead of it. -/
def logOk : List Ent13 → Ver → Option Ver
  | [], v => some v
  | e :: l, v => if belowB e.Version = true ∨ vcmp e.Version v ≤ 0 then none else logOk l e.Version

theorem loop_log (fin : Nat → Int × Int → Option Int) (step : (Int × Int → Option Int) → Nat → Ent13 → Int × Int → Option Int)
    (hs : ∀ n c x e f, step n c x (e, f) = bif belowB x.Version || decide (vcmp x.Version ⟨e, f⟩ ≤ 0) then some 22 else n (x.Version.Epoch, x.Version.N)) : ∀ (l : List Ent13) (c : Nat) (v : Ver),
    loopL step fin l c (v.Epoch, v.N) = match logOk l v with | none => some 22 | some u => fin (c + l.length) (u.Epoch, u.N)
  | [], c, v => rfl
  | e :: l, c, v => by
    have ih := loop_log fin step hs l (c + 1) e.Version
    have e1 : c + 1 + l.length = c + (e :: l).length := by simp only [List.length_cons]; omega
    rw [loopL, hs, ih, e1, show logOk (e :: l) v = if belowB e.Version = true ∨ vcmp e.Version v ≤ 0 then none else logOk l e.Version from rfl]
    by_cases h1 : belowB e.Version = true
    · rw [h1]; simp
    · by_cases h2 : vcmp e.Version v ≤ 0
      · rw [show decide (vcmp e.Version ⟨v.Epoch, v.N⟩ ≤ 0) = true from decide_eq_true h2]; simp [h2]
      · rw [show decide (vcmp e.Version ⟨v.Epoch, v.N⟩ ≤ 0) = false from decide_eq_false h2, show belowB e.Version = false by simpa using h1, if_neg (by simp [h1, h2])]; rfl

def nameLt (x y : Itm) : Bool := Op.bytesLess x.Name.toList y.Name.toList

def cliLt (x y : Lst) : Bool := decide (x.Client < y.Client)

def badI (at_ : Ver) (x : Itm) : Bool := !goodB x.Name || belowB x.Version || S_api_Version.beq x.Version ⟨0, 0⟩ || decide (vcmp x.Version at_ > 0)

def badL (at_ : Ver) (x : Lst) : Bool := belowB x.Version || decide (vcmp x.Version at_ > 0)

def checkF (s : Stt) : Int :=
  if s.les < 0 ∨ belowB s.tail = true ∨ s.items.length > 32 then 22 else
    match logOk s.log s.tail with
    | none => 22
    | some v => if (s.items.any (badI v) || !rises nameLt none s.items || s.lasts.any (badL v) || !rises cliLt none s.lasts) = true then 22 else 0

theorem none_any {α : Type} (l : List α) : l.any (fun _ => false) = false := by simp

theorem m_rising (F : Nat) (l : List Itm) (h : l.length ≤ 33554432) : m_pglog_rising_api_Item_string__2 F l = some (rises nameLt none l) := by
  unfold m_pglog_rising_api_Item_string__2
  rw [grd_pos _ (Len.of (by omega))]
  cases l with
  | nil => rfl
  | cons a l =>
    refine (loop_rises nameLt dS_api_Item (fun _ => false) (some false) _ (a :: l) _ 1 (fun n c x hc1 hc => ?_) _ 1 (Nat.le_refl _) rfl).trans ?_
    · have e : (((c : Nat) : Int) - 1).toNat = c - 1 := by omega
      simp only [List.length_cons] at h hc
      rw [grd_pos _ (by unfold I64; omega), grd_pos _ (by unfold Ix; simp only [List.length_cons]; omega), e]
      simp only [m_pglog_itemName, Option.bind_some, Bool.false_or, ahead1, if_neg (show ¬ c = 0 by omega)]
      rfl
    · rw [none_any]
      simp only [Bool.false_or, ahead1, List.drop_succ_cons, List.drop_zero, rises, if_neg (show ¬ (1 = 0) by omega)]
      simp only [Nat.sub_self, List.getD_cons_zero]
      cases rises nameLt (some a) l <;> rfl

theorem m_risingL (F : Nat) (l : List Lst) (h : l.length ≤ 33554432) : m_pglog_rising_api_Last_int__2 F l = some (rises cliLt none l) := by
  unfold m_pglog_rising_api_Last_int__2
  rw [grd_pos _ (Len.of (by omega))]
  cases l with
  | nil => rfl
  | cons a l =>
    refine (loop_rises cliLt dS_api_Last (fun _ => false) (some false) _ (a :: l) _ 1 (fun n c x hc1 hc => ?_) _ 1 (Nat.le_refl _) rfl).trans ?_
    · have e : (((c : Nat) : Int) - 1).toNat = c - 1 := by omega
      simp only [List.length_cons] at h hc
      rw [grd_pos _ (by unfold I64; omega), grd_pos _ (by unfold Ix; simp only [List.length_cons]; omega), e]
      simp only [m_pglog_lastClient, Option.bind_some, Bool.false_or, ahead1, if_neg (show ¬ c = 0 by omega), cliLt, ge_iff_le]
      by_cases hh : ((a :: l).getD (c - 1) dS_api_Last).Client < x.Client
      · rw [decide_eq_true hh, decide_eq_false (by omega)]; rfl
      · rw [decide_eq_false hh, decide_eq_true (by omega)]; rfl
    · rw [none_any]
      simp only [Bool.false_or, ahead1, List.drop_succ_cons, List.drop_zero, rises, if_neg (show ¬ (1 = 0) by omega)]
      simp only [Nat.sub_self, List.getD_cons_zero]
      cases rises cliLt (some a) l <;> rfl

/-- Bounds on what a state's names weigh. -/
def Stt.Names (s : Stt) : Prop := ∀ x ∈ s.items, x.Name.size ≤ 9223372036854775807

theorem m_check (F : Nat) (s : Stt) (h : s.Small 33554432) (hn : s.Names) : m_pglog_Check_2 F s.les s.tail s.log s.lasts s.items = some (checkF s) := by
  unfold m_pglog_Check_2 checkF
  simp only [jn, m_below, Option.bind_some]
  by_cases h1 : s.les < 0
  · simp [h1]
  by_cases h2 : belowB s.tail = true
  · simp [h1, h2]
  by_cases h3 : s.items.length > 32
  · rw [decide_eq_false h1, show belowB s.tail = false by simpa using h2, decide_eq_true (show ((s.items.length : Nat) : Int) > 32 by omega), if_pos (.inr (.inr h3))]; rfl
  rw [decide_eq_false h1, show belowB s.tail = false by simpa using h2, decide_eq_false (show ¬ ((s.items.length : Nat) : Int) > 32 by omega), if_neg (by simp [h1, h2, h3]), cond_false, cond_false, cond_false, grd_pos _ (Len.of (by have := h.log; omega))]
  refine (loop_log _ _ (fun n c x e f => ?_) s.log 0 s.tail).trans ?_
  · simp only [m_cmp, Option.bind_some]
    cases belowB x.Version <;> cases decide (vcmp x.Version ⟨e, f⟩ ≤ 0) <;> rfl
  · cases logOk s.log s.tail with
    | none => rfl
    | some v =>
      simp only [m_rising F s.items h.items, m_risingL F s.lasts h.lasts, Option.bind_some]
      cases hr1 : rises nameLt none s.items with
      | false => simp
      | true =>
        cases hr2 : rises cliLt none s.lasts with
        | false => simp
        | true =>
          simp only [Bool.not_true, cond_false, Bool.or_false]
          rw [grd_pos _ (Len.of (by have := h.items; omega))]
          refine (loop_any_mem (badI v) (some 22) fun n c x u hx => ?_).trans ?_
          · simp only [m_good F x.Name (hn x hx), m_cmp, Option.bind_some, badI]
            cases goodB x.Name <;> cases belowB x.Version <;> cases S_api_Version.beq x.Version ⟨0, 0⟩ <;> cases decide (vcmp x.Version v > 0) <;> rfl
          cases hi : s.items.any (badI v) with
          | true => simp
          | false =>
            rw [cond_false, grd_pos _ (Len.of (by have := h.lasts; omega))]
            refine (loop_any_mem (badL v) (some 22) fun n c x u hx => ?_).trans ?_
            · simp only [m_cmp, Option.bind_some, badL]
              cases belowB x.Version <;> cases decide (vcmp x.Version v > 0) <;> rfl
            cases s.lasts.any (badL v) <;> rfl

theorem jn_to {σ ρ : Type} {k : σ → Option ρ} {b : (σ → Option ρ) → Option ρ} (s : σ) (h : ∀ J, b J = J s) : jn k b = k s := h k

end Go.Proofs.Ytjnbkhnebmlilaa
