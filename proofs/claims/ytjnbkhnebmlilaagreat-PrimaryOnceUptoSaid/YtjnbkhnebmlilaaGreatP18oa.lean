/-
  CHAPTER 18, PrimaryOnce: plain facts on states.
-/
import Derived.Test.YtjnbkhnebmlilaaGreatM18o
set_option linter.unusedVariables false
set_option linter.unusedSimpArgs false
set_option maxRecDepth 100000
namespace Go.Proofs.YtjnbkhnebmlilaaGreat
open Go Go.RowKit Sx

abbrev Ver := S_api_Version

abbrev Ent13 := S_api_Entry

abbrev Lst := S_api_Last

abbrev Itm := S_api_Item

theorem ne_f {n m : Nat} (h : n = m) : (((n : Nat) : Int) != ((m : Nat) : Int)) = false := by rw [h]; simp

theorem ne_t {n m : Nat} (h : ¬ n = m) : (((n : Nat) : Int) != ((m : Nat) : Int)) = true := by simp; omega

def cmpZ (x y : Int) : Int := if x < y then -1 else if y < x then 1 else 0

def vcmp (a b : Ver) : Int := if cmpZ a.Epoch b.Epoch = 0 then cmpZ a.N b.N else cmpZ a.Epoch b.Epoch

theorem m_cmpint (F : Nat) (x y : Int) : m_cmp_Compare_int_ F x y = some (cmpZ x y) := by
  simp only [m_cmp_Compare_int_, m_cmp_isNaN_int_, Option.bind_some, bne_self_eq_false, cond_false, cmpZ]
  by_cases h : x < y
  · simp [h]
  · by_cases h2 : y < x
    · simp [h, h2]
    · simp [h, h2]

theorem m_cmp (F : Nat) (a b : Ver) : m_pglog_Cmp F a b = some (vcmp a b) := by
  simp only [m_pglog_Cmp, m_cmpint, Option.bind_some, vcmp]
  by_cases h : cmpZ a.Epoch b.Epoch = 0
  · simp [h]
  · have : (cmpZ a.Epoch b.Epoch != 0) = true := by simpa using h
    rw [this, if_neg h]; rfl

theorem vbeq_self (a : Ver) : S_api_Version.beq a a = true := (S_api_Version.beq_iff a a).2 rfl

theorem m_refcmp (F : Nat) (a b : Ver) : m_tholeref13_Cmp F a b = some (vcmp a b) := by
  simp only [m_tholeref13_Cmp, jn]
  have hb : S_api_Version.beq a b = (decide (a.Epoch = b.Epoch) && decide (a.N = b.N)) := by
    simp [S_api_Version.beq, Bool.beq_eq_decide_eq]
  rw [hb]
  unfold vcmp cmpZ
  by_cases h1 : a.Epoch < b.Epoch
  · simp [h1]
  · by_cases h2 : a.Epoch = b.Epoch
    · by_cases h3 : a.N < b.N
      · simp [h2, h3]
      · by_cases h4 : b.N < a.N
        · have : ¬ a.N = b.N := by omega
          simp [h2, h3, h4, this]
        · have : a.N = b.N := by omega
          simp [h2, this]
    · have h5 : b.Epoch < a.Epoch := by omega
      have h6 : (a.Epoch == b.Epoch) = false := by simpa using h2
      simp [h1, h2, h5, h6]

theorem vcmp_gt {a b : Ver} : vcmp a b > 0 ↔ b.Epoch < a.Epoch ∨ (a.Epoch = b.Epoch ∧ b.N < a.N) := by
  unfold vcmp cmpZ
  (repeat' split) <;> omega

theorem vcmp_self (a : Ver) : vcmp a a = 0 := by simp [vcmp, cmpZ]

def belowB (v : Ver) : Bool := decide (v.Epoch < 0) || decide (v.N < 0)

theorem m_refbelow (F : Nat) (v : Ver) : m_tholeref13_below F v = some (belowB v) := by
  simp only [m_tholeref13_below, belowB]; cases decide (v.Epoch < 0) <;> rfl

/-- A state. -/
structure Stt where
  les : Int
  tail : Ver
  log : List Ent13
  lasts : List Lst
  items : List Itm

/-- No more of anything than this. -/
structure Stt.Small (s : Stt) (n : Nat) : Prop where
  log : s.log.length ≤ n
  lasts : s.lasts.length ≤ n
  items : s.items.length ≤ n

theorem m_refsame (F : Nat) (s t : Stt) (h : s.Small 33554432) :
    ∃ b, m_tholeref13_Same F s.les s.tail s.log s.lasts s.items t.les t.tail t.log t.lasts t.items = some b ∧ (b = true ↔ s = t) := by
  obtain ⟨les, tail, log, lasts, items⟩ := s
  obtain ⟨les', tail', log', lasts', items'⟩ := t
  obtain ⟨h1, h2, h3⟩ := h
  simp only at h1 h2 h3 ⊢
  simp only [m_tholeref13_Same, jn, cond_true]
  by_cases e1 : les = les'
  case neg =>
    have : (les != les') = true := by simpa using e1
    rw [this]; exact ⟨false, rfl, by simp [e1]⟩
  subst e1
  by_cases e2 : tail = tail'
  case neg =>
    have : S_api_Version.beq tail tail' = false := by
      cases hb : S_api_Version.beq tail tail' with
      | false => rfl
      | true => exact absurd ((S_api_Version.beq_iff _ _).1 hb) e2
    rw [this, bne_self_eq_false]; exact ⟨false, rfl, by simp [e2]⟩
  subst e2
  by_cases l1 : log.length = log'.length
  case neg =>
    rw [vbeq_self, bne_self_eq_false, ne_t l1]
    exact ⟨false, rfl, by simp; intro e; exact absurd (by rw [e]) l1⟩
  by_cases l2 : lasts.length = lasts'.length
  case neg =>
    rw [vbeq_self, bne_self_eq_false, ne_f l1, ne_t l2]
    exact ⟨false, rfl, by simp; intro _ e; exact absurd (by rw [e]) l2⟩
  by_cases l3 : items.length = items'.length
  case neg =>
    rw [vbeq_self, bne_self_eq_false, ne_f l1, ne_f l2, ne_t l3]
    exact ⟨false, rfl, by simp; intro _ _ e; exact absurd (by rw [e]) l3⟩
  rw [vbeq_self, bne_self_eq_false, ne_f l1, ne_f l2, ne_f l3]
  simp only [Bool.not_true, cond_false]
  rw [grd_pos _ (Len.of (by omega))]
  obtain ⟨c1, c2, c3⟩ := loop_eq3 S_api_Entry.beq S_api_Entry.beq_iff log' dS_api_Entry (fun _ _ => grd (Len lasts.length) (loopL (σ := Unit) (fun nx c x _ => grd (c < lasts'.length) (bif !(S_api_Last.beq x (lasts'.getD c dS_api_Last)) then some false else nx ())) (fun _ _ => grd (Len items.length) (loopL (σ := Unit) (fun nx c x _ => grd (c < items'.length) (bif !(S_api_Item.beq x (items'.getD c dS_api_Item)) then some false else nx ())) (fun _ _ => some true) items 0 ())) lasts 0 ())) log 0 (by omega)
  obtain ⟨d1, d2, d3⟩ := loop_eq3 S_api_Last.beq S_api_Last.beq_iff lasts' dS_api_Last (fun _ _ => grd (Len items.length) (loopL (σ := Unit) (fun nx c x _ => grd (c < items'.length) (bif !(S_api_Item.beq x (items'.getD c dS_api_Item)) then some false else nx ())) (fun _ _ => some true) items 0 ())) lasts 0 (by omega)
  obtain ⟨f1, f2, f3⟩ := loop_eq S_api_Item.beq S_api_Item.beq_iff items' dS_api_Item items 0 (by omega)
  refine ⟨c1 && (d1 && f1), ?_, ?_⟩
  · refine c2.trans ?_
    cases c1 with
    | false => rfl
    | true =>
      rw [cond_true, grd_pos _ (Len.of (by omega))]
      refine d2.trans ?_
      cases d1 with
      | false => rfl
      | true => rw [cond_true, grd_pos _ (Len.of (by omega))]; exact f2
  · simp only [Bool.and_eq_true, c3, d3, f3, List.drop_zero, Stt.mk.injEq, true_and]

theorem App64 {n : Nat} (h : n ≤ 33554432) : App n 64 := App.of h (by omega)

theorem App40 {n : Nat} (h : n ≤ 33554432) : App n 40 := App.of h (by omega)

def findF (items : List Itm) (n : ByteArray) : Itm × Bool := match items.find? fun x => x.Name.toList == n.toList with | some x => (x, true) | none => (dS_api_Item, false)

theorem m_find (F : Nat) (s : Stt) (n : ByteArray) (h : s.items.length ≤ 33554432) : m_pglog_Find F s.les s.tail s.log s.lasts s.items n = some (findF s.items n) := by
  unfold m_pglog_Find findF
  rw [grd_pos _ (Len.of (by omega))]
  refine (loop_find (fun x : Itm => x.Name.toList == n.toList) (fun x => some (x, true)) _ s.items 0).trans ?_
  cases s.items.find? fun x => x.Name.toList == n.toList <;> rfl

def seenG (n : Int) (x : Lst) : Lst × Int := if n = x.Number then (x, 1) else if n < x.Number then (x, 2) else (dS_api_Last, 0)

def seenF (lasts : List Lst) (c n : Int) : Lst × Int := match lasts.find? fun x => x.Client == c with | some x => seenG n x | none => (dS_api_Last, 0)

theorem m_seen (F : Nat) (s : Stt) (c n : Int) (h : s.lasts.length ≤ 33554432) : m_pglog_Seen F s.les s.tail s.log s.lasts s.items c n = some (seenF s.lasts c n) := by
  unfold m_pglog_Seen seenF
  rw [grd_pos _ (Len.of (by omega))]
  refine (loopL_congr (st' := fun nx _ x _ => bif x.Client == c then some (seenG n x) else nx ()) fun nx c' x _ => ?_).trans ((loop_find (fun x : Lst => x.Client == c) (fun x => some (seenG n x)) _ s.lasts 0).trans ?_)
  · unfold seenG
    by_cases h1 : x.Client = c
    · rw [bne_f h1, beq_t h1, cond_false, cond_true]
      by_cases h2 : n = x.Number
      · rw [beq_t h2, if_pos h2]; rfl
      · rw [beq_f h2, if_neg h2]
        by_cases h3 : n < x.Number
        · rw [decide_eq_true h3, if_pos h3]; rfl
        · rw [decide_eq_false h3, if_neg h3]; rfl
    · rw [bne_t h1, beq_f h1]; rfl
  · cases s.lasts.find? fun x => x.Client == c <;> rfl

def headF (tail : Ver) (log : List Ent13) : Ver := match log.getLast? with | some e => e.Version | none => tail

theorem last_at {α : Type} {l : List α} (h : l ≠ []) (d : α) : l.getLast? = some (l.getD (l.length - 1) d) := by
  have hp : 0 < l.length := List.length_pos_iff.2 h
  rw [List.getLast?_eq_getElem?]
  rw [List.getD_eq_getElem?_getD, List.getElem?_eq_getElem (show l.length - 1 < l.length by omega)]; rfl

theorem m_head (F : Nat) (s : Stt) (h : s.log.length ≤ 33554432) : m_pglog_Head F s.les s.tail s.log s.lasts s.items = some (headF s.tail s.log) := by
  unfold m_pglog_Head headF
  by_cases h0 : s.log = []
  · rw [h0]; rfl
  · have hp : 0 < s.log.length := List.length_pos_iff.2 h0
    rw [last_at h0 dS_api_Entry, show decide (((s.log.length : Nat) : Int) > 0) = true from decide_eq_true (by omega), cond_true, grd_pos _ (by unfold I64; omega), grd_pos _ (by unfold Ix; omega)]
    rw [show (((s.log.length : Nat) : Int) - 1).toNat = s.log.length - 1 by omega]

theorem m_refhead (F : Nat) (s : Stt) (h : s.log.length ≤ 33554432) : m_tholeref13_Head F s.les s.tail s.log s.lasts s.items = some (headF s.tail s.log) := by
  unfold m_tholeref13_Head headF
  by_cases h0 : s.log = []
  · rw [h0]; rfl
  · have hp : 0 < s.log.length := List.length_pos_iff.2 h0
    rw [last_at h0 dS_api_Entry, show (((s.log.length : Nat) : Int) == 0) = false by simp; omega, cond_false, grd_pos _ (by unfold I64; omega), grd_pos _ (by unfold Ix; omega)]
    rw [show (((s.log.length : Nat) : Int) - 1).toNat = s.log.length - 1 by omega]

theorem m_copy (F : Nat) (s : Stt) (h : s.Small 33554432) : m_pglog_Copy_2 F s.les s.tail s.log s.lasts s.items = some (s.les, s.tail, s.log, s.lasts, s.items) := by
  unfold m_pglog_Copy_2
  rw [grd_pos _ (App64 h.log), grd_pos _ (App40 h.lasts), grd_pos _ (App40 h.items)]

def okByte (b : UInt8) : Bool := decide (33 ≤ b.toNat) && decide (b.toNat ≤ 126)

def goodB (s : ByteArray) : Bool := decide (1 ≤ s.size) && decide (s.size ≤ 64) && s.data.toList.all okByte

theorem any_not_all (l : List UInt8) : l.any (fun b => !okByte b) = !l.all okByte := by
  induction l with
  | nil => rfl
  | cons x l ih => simp [ih, Bool.not_and]

theorem ba_getD (s : ByteArray) (i : Nat) : s.data.getD i 0 = s.data.toList.getD i 0 := by
  rw [Array.getD_eq_getD_getElem?, List.getD_eq_getElem?_getD, Array.getElem?_toList]

theorem m_good (F : Nat) (s : ByteArray) (h : s.size ≤ 9223372036854775807) : m_place_Good F s = some (goodB s) := by
  unfold m_place_Good
  rw [grd_pos _ (by omega)]
  have hsz : s.size = s.data.toList.length := by rw [Array.length_toList]; rfl
  refine (loopC_congr (st' := fun nx c _ => grd (c < s.data.toList.length) (bif !okByte (s.data.toList.getD c 0) then some false else nx ())) fun nx c u => ?_).trans ?_
  · simp only [jn, ← hsz, ba_getD]
    by_cases hc : c < s.size
    · rw [grd_pos _ hc, grd_pos _ hc]
      unfold okByte
      by_cases h1 : (s.data.toList.getD c 0).toNat < 33
      · have h2 : ¬ 33 ≤ (s.data.toList.getD c 0).toNat := by omega
        rw [show decide ((((s.data.toList.getD c 0).toNat : Nat) : Int) < 33) = true from decide_eq_true (by omega), show decide (33 ≤ (s.data.toList.getD c 0).toNat) = false from decide_eq_false h2]
        rfl
      · rw [show decide ((((s.data.toList.getD c 0).toNat : Nat) : Int) < 33) = false from decide_eq_false (by omega), show decide (33 ≤ (s.data.toList.getD c 0).toNat) = true from decide_eq_true (by omega)]
        by_cases h3 : (s.data.toList.getD c 0).toNat ≤ 126
        · rw [show decide ((((s.data.toList.getD c 0).toNat : Nat) : Int) > 126) = false from decide_eq_false (by omega), show decide ((s.data.toList.getD c 0).toNat ≤ 126) = true from decide_eq_true h3]; rfl
        · rw [show decide ((((s.data.toList.getD c 0).toNat : Nat) : Int) > 126) = true from decide_eq_true (by omega), show decide ((s.data.toList.getD c 0).toNat ≤ 126) = false from decide_eq_false h3]; rfl
    · unfold grd; rw [if_neg hc, if_neg hc]
  · rw [show (((s.size : Nat) : Int) - (0 : Int)).toNat = s.data.toList.length by omega]
    refine (loopC_list (fun b => !okByte b) 0 (some false) _ s.data.toList _ 0 (by omega)).trans ?_
    rw [List.drop_zero, any_not_all]
    unfold goodB
    cases s.data.toList.all okByte with
    | false => simp
    | true =>
      simp only [Bool.not_true, cond_false, Bool.and_true]
      by_cases h1 : s.size = 0
      · have : s.toList = (ByteArray.mk #[]).toList := by
          rw [ByteArray.toList_eq, ByteArray.toList_eq]
          exact List.length_eq_zero_iff.1 (by rw [← hsz]; exact h1)
        rw [this, beq_self_eq_true]
        simp [h1]
      · have : (s.toList == (ByteArray.mk #[]).toList) = false := by
          rw [ByteArray.toList_eq, ByteArray.toList_eq]
          cases hb : (s.data.toList == (#[] : Array UInt8).toList) with
          | false => rfl
          | true => exact absurd (by rw [hsz, eq_of_beq hb]; rfl) h1
        rw [this]
        by_cases h2 : s.size ≤ 64
        · rw [show decide (((s.size : Nat) : Int) ≤ 64) = true from decide_eq_true (by omega), show decide (1 ≤ s.size) = true from decide_eq_true (by omega), show decide (s.size ≤ 64) = true from decide_eq_true h2]; rfl
        · rw [show decide (((s.size : Nat) : Int) ≤ 64) = false from decide_eq_false (by omega), show decide (s.size ≤ 64) = false from decide_eq_false h2]; simp

theorem m_refgood (F : Nat) (s : ByteArray) (h : s.size ≤ 9223372036854775807) : m_tholeref09_Good F s = some (goodB s) := by
  unfold m_tholeref09_Good
  rw [grd_pos _ (by omega)]
  have hsz : s.size = s.data.toList.length := by rw [Array.length_toList]; rfl
  refine (loopC_congr (st' := fun nx c _ => grd (c < s.data.toList.length) (bif !okByte (s.data.toList.getD c 0) then some false else nx ())) fun nx c u => ?_).trans ?_
  · simp only [jn, ← hsz, ba_getD]
    by_cases hc : c < s.size
    · rw [grd_pos _ hc, grd_pos _ hc]
      unfold okByte
      by_cases h1 : (s.data.toList.getD c 0).toNat < 33
      · have h2 : ¬ 33 ≤ (s.data.toList.getD c 0).toNat := by omega
        rw [show decide ((((s.data.toList.getD c 0).toNat : Nat) : Int) < 33) = true from decide_eq_true (by omega), show decide (33 ≤ (s.data.toList.getD c 0).toNat) = false from decide_eq_false h2]
        rfl
      · rw [show decide ((((s.data.toList.getD c 0).toNat : Nat) : Int) < 33) = false from decide_eq_false (by omega), show decide (33 ≤ (s.data.toList.getD c 0).toNat) = true from decide_eq_true (by omega)]
        by_cases h3 : (s.data.toList.getD c 0).toNat ≤ 126
        · rw [show decide ((((s.data.toList.getD c 0).toNat : Nat) : Int) > 126) = false from decide_eq_false (by omega), show decide ((s.data.toList.getD c 0).toNat ≤ 126) = true from decide_eq_true h3]; rfl
        · rw [show decide ((((s.data.toList.getD c 0).toNat : Nat) : Int) > 126) = true from decide_eq_true (by omega), show decide ((s.data.toList.getD c 0).toNat ≤ 126) = false from decide_eq_false h3]; rfl
    · unfold grd; rw [if_neg hc, if_neg hc]
  · rw [show (((s.size : Nat) : Int) - (0 : Int)).toNat = s.data.toList.length by omega]
    refine (loopC_list (fun b => !okByte b) 0 (some false) _ s.data.toList _ 0 (by omega)).trans ?_
    rw [List.drop_zero, any_not_all]
    unfold goodB
    cases s.data.toList.all okByte with
    | false => simp
    | true =>
      simp only [Bool.not_true, cond_false, Bool.and_true]
      by_cases h1 : s.size = 0
      · simp [h1]
      · by_cases h2 : s.size ≤ 64
        · rw [show decide (((s.size : Nat) : Int) ≥ 1) = true from decide_eq_true (by omega), show decide (((s.size : Nat) : Int) ≤ 64) = true from decide_eq_true (by omega), show decide (1 ≤ s.size) = true from decide_eq_true (by omega), show decide (s.size ≤ 64) = true from decide_eq_true h2]; rfl
        · rw [show decide (((s.size : Nat) : Int) ≥ 1) = true from decide_eq_true (by omega), show decide (((s.size : Nat) : Int) ≤ 64) = false from decide_eq_false (by omega), show decide (s.size ≤ 64) = false from decide_eq_false h2]; simp

/-- The log's last version, if each entry is above the one ahead of it. -/
def logOk : List Ent13 → Ver → Option Ver
  | [], v => some v
  | e :: l, v => if belowB e.Version = true ∨ vcmp e.Version v ≤ 0 then none else logOk l e.Version

theorem loop_log (fin : Nat → Int × Int → Option Int) (step : (Int × Int → Option Int) → Nat → Ent13 → Int × Int → Option Int)
    (hs : ∀ n c x e f, step n c x (e, f) = bif belowB x.Version || decide (vcmp x.Version ⟨e, f⟩ ≤ 0) then some 22 else n (x.Version.Epoch, x.Version.N)) : ∀ (l : List Ent13) (c : Nat) (v : Ver),
    loopL step fin l c (v.Epoch, v.N) = match logOk l v with | none => some 22 | some u => fin (c + l.length) (u.Epoch, u.N)
  | [], c, v => rfl
  | e :: l, c, v => by
    have ih := loop_log fin step hs l (c + 1) e.Version
    have e1 : c + 1 + l.length = c + (e :: l).length := by simp only [List.length_cons]; omega
    rw [loopL, hs, ih, e1, show logOk (e :: l) v = if belowB e.Version = true ∨ vcmp e.Version v ≤ 0 then none else logOk l e.Version from rfl]
    by_cases h1 : belowB e.Version = true
    · rw [h1]; simp
    · by_cases h2 : vcmp e.Version v ≤ 0
      · rw [show decide (vcmp e.Version ⟨v.Epoch, v.N⟩ ≤ 0) = true from decide_eq_true h2]; simp [h2]
      · rw [show decide (vcmp e.Version ⟨v.Epoch, v.N⟩ ≤ 0) = false from decide_eq_false h2, show belowB e.Version = false by simpa using h1, if_neg (by simp [h1, h2])]; rfl

def nameLt (x y : Itm) : Bool := Op.bytesLess x.Name.toList y.Name.toList

def cliLt (x y : Lst) : Bool := decide (x.Client < y.Client)

def badI (at_ : Ver) (x : Itm) : Bool := !goodB x.Name || belowB x.Version || S_api_Version.beq x.Version ⟨0, 0⟩ || decide (vcmp x.Version at_ > 0)

def badL (at_ : Ver) (x : Lst) : Bool := belowB x.Version || decide (vcmp x.Version at_ > 0)

def checkF (s : Stt) : Int :=
  if s.les < 0 ∨ belowB s.tail = true ∨ s.items.length > 32 then 22 else
    match logOk s.log s.tail with
    | none => 22
    | some v => if (s.items.any (badI v) || !rises nameLt none s.items || s.lasts.any (badL v) || !rises cliLt none s.lasts) = true then 22 else 0

/-- Bounds on what a state's names weigh. -/
def Stt.Names (s : Stt) : Prop := ∀ x ∈ s.items, x.Name.size ≤ 9223372036854775807

theorem loop_rises' {α ρ : Type} (lt : α → α → Bool) (d : α) (q : α → Bool) (r : Option ρ) (fin : Nat → Unit → Option ρ) (l : List α) (step : (Unit → Option ρ) → Nat → α → Unit → Option ρ)
    (hs : ∀ n c x, x ∈ l → c < l.length → step n c x () = bif q x || !(match ahead1 l d c with | none => true | some p => lt p x) then r else n ()) :
    loopL step fin l 0 () = bif l.any q || !(rises lt none l) then r else fin l.length () := by
  have h1 : loopL step fin l 0 () = loopL (fun n c x u => bif q x || !(match ahead1 l d c with | none => true | some p => lt p x) then r else n u) fin l 0 () := by
    have key : ∀ (m : List α) (c : Nat), l.drop c = m → loopL step fin m c () = loopL (fun n c x u => bif q x || !(match ahead1 l d c with | none => true | some p => lt p x) then r else n u) fin m c () := by
      intro m
      induction m with
      | nil => intro c _; rfl
      | cons x m ih =>
        intro c hc
        have hx : x ∈ l := List.mem_of_mem_drop (i := c) (by rw [hc]; simp)
        have := ih (c + 1) (drop_next hc)
        rw [loopL, loopL, hs _ _ _ hx (drop_lt hc)]
        simp only [this]
    exact key l 0 List.drop_zero
  rw [h1, loop_rises lt d q r fin l _ 0 (fun n c x _ _ => rfl) l 0 (Nat.le_refl _) List.drop_zero]
  simp [ahead1]

theorem m_refcheck (F : Nat) (s : Stt) (h : s.Small 33554432) (hn : s.Names) : m_tholeref13_Check F s.les s.tail s.log s.lasts s.items = some (checkF s) := by
  unfold m_tholeref13_Check checkF
  simp only [jn, m_refbelow, Option.bind_some]
  by_cases h1 : s.les < 0
  · simp [h1]
  by_cases h2 : belowB s.tail = true
  · simp [h1, h2]
  by_cases h3 : s.items.length > 32
  · rw [decide_eq_false h1, show belowB s.tail = false by simpa using h2, decide_eq_true (show ((s.items.length : Nat) : Int) > 32 by omega), if_pos (.inr (.inr h3))]; rfl
  rw [decide_eq_false h1, show belowB s.tail = false by simpa using h2, decide_eq_false (show ¬ ((s.items.length : Nat) : Int) > 32 by omega), if_neg (by simp [h1, h2, h3]), cond_false, cond_false, cond_false, grd_pos _ (Len.of (by have := h.log; omega))]
  refine (loop_log _ _ (fun n c x e f => ?_) s.log 0 s.tail).trans ?_
  · simp only [m_refcmp, Option.bind_some]
    cases belowB x.Version <;> cases decide (vcmp x.Version ⟨e, f⟩ ≤ 0) <;> rfl
  · cases logOk s.log s.tail with
    | none => rfl
    | some v =>
      simp only [m_refcmp, Option.bind_some]
      rw [grd_pos _ (Len.of (by have := h.items; omega))]
      refine (loop_rises' nameLt dS_api_Item (badI v) (some 22) _ s.items _ (fun n c x hx hc => ?_)).trans ?_
      · simp only [m_refgood F x.Name (hn x hx), Option.bind_some, badI]
        by_cases hc0 : c = 0
        · subst hc0
          simp only [ahead1, if_true]
          cases goodB x.Name <;> cases belowB x.Version <;> cases S_api_Version.beq x.Version ⟨0, 0⟩ <;> cases decide (vcmp x.Version v > 0) <;> rfl
        · have e : (((c : Nat) : Int) - 1).toNat = c - 1 := by omega
          have hi := h.items
          rw [decide_eq_true (show ((c : Nat) : Int) > 0 by omega), grd_pos _ (show I64 _ by unfold I64; omega), grd_pos _ (show Ix _ _ by unfold Ix; omega), e]
          simp only [ahead1, if_neg hc0, nameLt]
          cases goodB x.Name <;> cases belowB x.Version <;> cases S_api_Version.beq x.Version ⟨0, 0⟩ <;> cases decide (vcmp x.Version v > 0) <;> cases Op.bytesLess (s.items.getD (c - 1) dS_api_Item).Name.toList x.Name.toList <;> rfl
      · cases hi : s.items.any (badI v) with
        | true => simp
        | false =>
          cases hr1 : rises nameLt none s.items with
          | false => simp
          | true =>
            simp only [Bool.not_true, Bool.or_false, cond_false, Bool.false_or]
            rw [grd_pos _ (Len.of (by have := h.lasts; omega))]
            refine (loop_rises' cliLt dS_api_Last (badL v) (some 22) _ s.lasts _ (fun n c x hx hc => ?_)).trans ?_
            · simp only [badL]
              by_cases hc0 : c = 0
              · subst hc0
                simp only [ahead1, if_true]
                cases belowB x.Version <;> cases decide (vcmp x.Version v > 0) <;> rfl
              · have e : (((c : Nat) : Int) - 1).toNat = c - 1 := by omega
                have hi := h.lasts
                rw [decide_eq_true (show ((c : Nat) : Int) > 0 by omega), grd_pos _ (show I64 _ by unfold I64; omega), grd_pos _ (show Ix _ _ by unfold Ix; omega), e]
                simp only [ahead1, if_neg hc0, cliLt]
                by_cases hh : (s.lasts.getD (c - 1) dS_api_Last).Client < x.Client
                · rw [decide_eq_true hh, decide_eq_false (show ¬ (s.lasts.getD (c - 1) dS_api_Last).Client ≥ x.Client by omega)]
                  cases belowB x.Version <;> cases decide (vcmp x.Version v > 0) <;> rfl
                · rw [decide_eq_false hh, decide_eq_true (show (s.lasts.getD (c - 1) dS_api_Last).Client ≥ x.Client by omega)]
                  cases belowB x.Version <;> cases decide (vcmp x.Version v > 0) <;> rfl
            · cases s.lasts.any (badL v) <;> cases rises cliLt none s.lasts <;> rfl

theorem jn_to {σ ρ : Type} {k : σ → Option ρ} {b : (σ → Option ρ) → Option ρ} (s : σ) (h : ∀ J, b J = J s) : jn k b = k s := h k

end Go.Proofs.YtjnbkhnebmlilaaGreat
