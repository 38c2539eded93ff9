/-
  Models, part 10: lists that are linked.
-/
import Derived.Test.YtmdfkklldbfocaaGxi
set_option linter.unusedVariables false
set_option linter.unusedSimpArgs false
namespace Sx
open Go Go.RowKit

/-- What a list is: the empty one, or one with a head. -/
@[reducible] def lcase {α β : Type} (L : List α) (a : β) (f : α → List α → β) : β :=
  match L with
  | [] => a
  | x :: l => f x l
theorem lcase_elim {α γ : Type} {L : List α} {a : Option γ} {f : α → List α → Option γ} {y : γ} {G : Prop} (hm : lcase L a f = some y) (h1 : L = [] → a = some y → G) (h2 : ∀ x l, L = x :: l → f x l = some y → G) : G := by
  cases L with
  | nil => exact h1 rfl hm
  | cons x l => exact h2 x l rfl hm

theorem copy_len {α : Type} {l m : List α} {n : Nat} (h : n + m.length ≤ l.length) : (l.take n ++ (m ++ l.drop (n + m.length))).length = l.length := by
  simp only [List.length_append, List.length_take, List.length_drop]; omega

/-- Where a link lies: its slice, and (slot 9) its own block. -/
@[reducible] def mkH (ob : Option Addr) (cap b : Nat) : Hd := fun j => if j = 9 then (none, b) else (ob, cap)

section
variable {α : Type}
def sgp (h : Hds) (q : Option Addr) : List α → Option Addr
  | [] => q
  | _ :: _ => some ⟨(h 0 9).2, 0, none⟩
def sgs (T : Nat) (X : Hd → Value → α → List Value) : Hds → Option Addr → List α → List Ent
  | _, _, [] => []
  | h, q, x :: l => .cells (h 0 9).2 T (X (h 0) (.pointer (sgp (fun i => h (i + 1)) q l)) x) :: sgs T X (fun i => h (i + 1)) q l
theorem sgp_ext {h h' : Hds} {q : Option Addr} : ∀ (l : List α), (∀ i, i < l.length → h i = h' i) → sgp h q l = sgp h' q l
  | [], _ => rfl
  | x :: l, e => by rw [sgp, sgp, e 0 (by simp)]
theorem sgs_ext (T : Nat) (X : Hd → Value → α → List Value) : ∀ (h h' : Hds) (q : Option Addr) (l : List α), (∀ i, i < l.length → h i = h' i) → sgs T X h q l = sgs T X h' q l
  | _, _, _, [], _ => rfl
  | h, h', q, x :: l, e => by
    rw [sgs, sgs, e 0 (by simp), sgs_ext T X _ (fun i => h' (i + 1)) q l fun i hi => e (i + 1) (by simpa using hi), sgp_ext (h' := fun i => h' (i + 1)) l fun i hi => e (i + 1) (by simpa using hi)]
theorem sgp_app {h h2 : Hds} {q : Option Addr} : ∀ (l m : List α), sgp h (sgp h2 q m) l = sgp (glueH l.length h h2) q (l ++ m)
  | [], m => by
    rw [sgp, List.nil_append]
    refine sgp_ext m fun i _ => ?_
    show h2 i = if i < 0 then h i else h2 (i - 0)
    rw [if_neg (by omega)]; rfl
  | x :: l, m => by
    rw [sgp, List.cons_append, sgp]
    show _ = (some ⟨((if 0 < (x :: l).length then h 0 else h2 (0 - (x :: l).length)) 9).2, 0, none⟩ : Option Addr)
    rw [if_pos (by simp)]
theorem sgs_app (T : Nat) (X : Hd → Value → α → List Value) : ∀ (h h2 : Hds) (q : Option Addr) (l m : List α), sgs T X h (sgp h2 q m) l ++ sgs T X h2 q m = sgs T X (glueH l.length h h2) q (l ++ m)
  | h, h2, q, [], m => by
    rw [sgs, List.nil_append, List.nil_append]
    refine sgs_ext T X _ _ q m fun i _ => ?_
    show h2 i = if i < 0 then h i else h2 (i - 0)
    rw [if_neg (by omega)]; rfl
  | h, h2, q, x :: l, m => by
    have hx : ∀ j, j < (l ++ m).length → glueH l.length (fun i => h (i + 1)) h2 j = (fun i => glueH (x :: l).length h h2 (i + 1)) j := fun j _ => by
      show (if j < l.length then h (j + 1) else h2 (j - l.length)) = if j + 1 < l.length + 1 then h (j + 1) else h2 (j + 1 - (l.length + 1))
      by_cases hj : j < l.length
      · rw [if_pos hj, if_pos (by omega)]
      · rw [if_neg hj, if_neg (by omega)]; congr 1; omega
    have h0 : glueH (x :: l).length h h2 0 = h 0 := by
      show (if 0 < (x :: l).length then h 0 else h2 (0 - (x :: l).length)) = h 0
      rw [if_pos (by simp)]
    rw [sgs, List.cons_append, List.cons_append, sgs, sgs_app T X (fun i => h (i + 1)) h2 q l m, sgp_app, h0, sgs_ext T X _ _ q _ hx, sgp_ext _ hx]
theorem sgs_own (T : Nat) (X : Hd → Value → α → List Value) : ∀ (h : Hds) (q : Option Addr) (l : List α), (sgs T X h q l).all Ent.own = true
  | _, _, [] => rfl
  | h, q, x :: l => by rw [sgs, List.all_cons, sgs_own]; rfl
end

section
variable {α : Type} {w0 w : World} {S : Area} {mem mem' : List (Nat × Ent)} {K K1 K2 : Nat} {T : Nat} {X : Hd → Value → α → List Value} {h h2 : Hds} {q : Option Addr} {l m : List α}

/-- The first one is taken out of a bag. -/
theorem bag_open {c : Ent} {es : List Ent} (keys : List Nat) (hw : Sat w0 S (look mem) w) (hk : look mem K = some (bag (c :: es))) (hnd : nodupB [K1, K2] = true)
    (hmem : memOut keys (setAll (upd (look mem) K none) [K1, K2] [c, bag es]) = some mem') : Sat w0 S (look mem') w := by
  obtain ⟨b1, b2⟩ := bag_ok.1 (hw.ok K _ hk)
  have hb : (bag es).ok w := bag_ok.2 ⟨fun e he => b1 e (List.mem_cons_of_mem _ he), fun i j e e' hij hi hj => b2 (i + 1) (j + 1) e e' (by omega) (by rw [List.getElem?_cons_succ]; exact hi) (by rw [List.getElem?_cons_succ]; exact hj)⟩
  have hcb : ∀ b, c.foot b → ¬ (bag es).foot b := fun b hc ⟨e, he, hb⟩ => by
    obtain ⟨i, hi⟩ := List.getElem?_of_mem he
    exact b2 0 (i + 1) c e (by omega) (by rw [List.getElem?_cons_zero]) (by rw [List.getElem?_cons_succ]; exact hi) b hc hb
  refine (hw.split hk rfl (nodupB_spec hnd) rfl (fun e he => ?_) (fun e he b hb => ?_) (fun i j e e' hij hi hj b hb hb' => ?_)).less (memOut_look keys hmem)
  · simp only [List.mem_cons, List.not_mem_nil, or_false] at he
    rcases he with rfl | rfl
    · exact b1 _ (List.mem_cons_self ..)
    · exact hb
  · simp only [List.mem_cons, List.not_mem_nil, or_false] at he
    rcases he with rfl | rfl
    · exact ⟨_, List.mem_cons_self .., hb⟩
    · obtain ⟨e', he', hb'⟩ := hb
      exact ⟨e', List.mem_cons_of_mem _ he', hb'⟩
  · match i, j with
    | 0, 0 => exact hij rfl
    | 0, 1 => simp at hi hj; subst hi; subst hj; exact hcb b hb hb'
    | 1, 0 => simp at hi hj; subst hi; subst hj; exact hcb b hb' hb
    | 1, 1 => exact hij rfl
    | 0, j + 2 => simp at hj
    | 1, j + 2 => simp at hj
    | i + 2, _ => simp at hi

/-- Two bags are one. -/
theorem bag_glue {es1 es2 es : List Ent} (keys : List Nat) (hw : Sat w0 S (look mem) w) (hk1 : look mem K1 = some (bag es1)) (hk2 : look mem K2 = some (bag es2)) (hne : Nat.beq K1 K2 = false) (he : es1 ++ es2 = es)
    (hmem : memOut keys (upd (dropKs (look mem) [K1, K2]) K (some (bag es))) = some mem') : Sat w0 S (look mem') w := by
  subst he
  have hne : K1 ≠ K2 := fun e => by subst e; simp at hne
  obtain ⟨a1, a2⟩ := bag_ok.1 (hw.ok K1 _ hk1)
  obtain ⟨b1, b2⟩ := bag_ok.1 (hw.ok K2 _ hk2)
  have hx : ∀ {i j : Nat} {e e' : Ent}, es1[i]? = some e → es2[j]? = some e' → ∀ b, e.foot b → ¬ e'.foot b := fun {i j e e'} hi hj b hb hb' =>
    hw.apart K1 K2 _ _ hne hk1 hk2 rfl b ⟨e, List.mem_of_getElem? hi, hb⟩ ⟨e', List.mem_of_getElem? hj, hb'⟩
  refine (hw.join (es := [bag es1, bag es2]) (by rw [List.map_cons, List.map_cons, List.map_nil, hk1, hk2]; rfl) rfl (bag_ok.2 ⟨fun e he => ?_, fun i j e e' hij hi hj b hb hb' => ?_⟩) (fun b ⟨e, he, hb⟩ => ?_)).less (memOut_look keys hmem)
  · rcases List.mem_append.1 he with he | he
    · exact a1 e he
    · exact b1 e he
  · by_cases h1 : i < es1.length
    · rw [List.getElem?_append_left h1] at hi
      by_cases h2 : j < es1.length
      · rw [List.getElem?_append_left h2] at hj; exact a2 i j e e' hij hi hj b hb hb'
      · rw [List.getElem?_append_right (by omega)] at hj; exact hx hi hj b hb hb'
    · rw [List.getElem?_append_right (by omega)] at hi
      by_cases h2 : j < es1.length
      · rw [List.getElem?_append_left h2] at hj; exact hx hj hi b hb' hb
      · rw [List.getElem?_append_right (by omega)] at hj; exact b2 _ _ e e' (by omega) hi hj b hb hb'
  · rcases List.mem_append.1 he with he | he
    · exact ⟨_, List.mem_cons_self .., e, he, hb⟩
    · exact ⟨_, List.mem_cons_of_mem _ (List.mem_cons_self ..), e, he, hb⟩

/-- A linked list's end is put behind it. -/
theorem ch_glue (keys : List Nat) (hw : Sat w0 S (look mem) w) (hk1 : look mem K1 = some (bag (sgs T X h (sgp h2 q m) l))) (hk2 : look mem K2 = some (bag (sgs T X h2 q m))) (hne : Nat.beq K1 K2 = false)
    (hmem : memOut keys (upd (dropKs (look mem) [K1, K2]) K (some (bag (sgs T X (glueH l.length h h2) q (l ++ m))))) = some mem') : Sat w0 S (look mem') w :=
  bag_glue keys hw hk1 hk2 hne (sgs_app T X h h2 q l m) hmem
end

/-- What is read, of two lists. -/
theorem Cov.all_glue {α : Type} {J : Hd → α → List Ent} {h h2 : Hds} {l m : List α} : Cov (Ent.all [Ent.all (nins J h l), Ent.all (nins J h2 m)]) (Ent.all (nins J (glueH l.length h h2) (l ++ m))) := by
  rw [← nins_app]
  refine ⟨fun w hw => ⟨fun e he => ?_, fun b ⟨e, he, hb⟩ => ?_⟩, fun w hw b ⟨e, he, hb⟩ => ?_⟩
  · rcases List.mem_append.1 he with he | he
    · exact hw.1 _ (.head _) e he
    · exact hw.1 _ (.tail _ (.head _)) e he
  · rcases List.mem_append.1 he with he | he
    · exact hw.2 b ⟨_, .head _, e, he, hb⟩
    · exact hw.2 b ⟨_, .tail _ (.head _), e, he, hb⟩
  · rcases List.mem_append.1 he with he | he
    · exact ⟨_, .head _, e, he, hb⟩
    · exact ⟨_, .tail _ (.head _), e, he, hb⟩
theorem Cov.all_head {α : Type} {J : Hd → α → List Ent} {h : Hds} {x : α} {l : List α} {e : Ent} (he : e ∈ J (h 0) x) : Cov (Ent.all (nins J h (x :: l))) e :=
  Cov.all_mem (List.mem_append.2 (.inl he))
theorem Cov.all_tail {α : Type} {J : Hd → α → List Ent} {h : Hds} {x : α} {l : List α} : Cov (Ent.all (nins J h (x :: l))) (Ent.all (nins J (fun i => h (i + 1)) l)) :=
  ⟨fun w hw => ⟨fun e he => hw.1 e (List.mem_append.2 (.inr he)), fun b ⟨e, he, hb⟩ => hw.2 b ⟨e, List.mem_append.2 (.inr he), hb⟩⟩, fun w _ b ⟨e, he, hb⟩ => ⟨e, List.mem_append.2 (.inr he), hb⟩⟩
/-- A linked list that is only read. -/
theorem Cov.chr {es : List Ent} : Cov (bag es) (Ent.all es) := Cov.bag_all fun e he => ⟨e, he, Cov.refl _⟩
theorem Cov.chr_head {α : Type} {T : Nat} {X : Hd → Value → α → List Value} {h : Hds} {q : Option Addr} {x : α} {l : List α} : Cov (Ent.all (sgs T X h q (x :: l))) (.rd (some ⟨(h 0 9).2, 0, none⟩) (X (h 0) (.pointer (sgp (fun i => h (i + 1)) q l)) x).length [X (h 0) (.pointer (sgp (fun i => h (i + 1)) q l)) x]) :=
  Cov.trans (Cov.all_mem (.head _)) Cov.cells_rd
theorem Cov.chr_tail {α : Type} {T : Nat} {X : Hd → Value → α → List Value} {h : Hds} {q : Option Addr} {x : α} {l : List α} : Cov (Ent.all (sgs T X h q (x :: l))) (Ent.all (sgs T X (fun i => h (i + 1)) q l)) :=
  ⟨fun w hw => ⟨fun e he => hw.1 e (.tail _ he), fun b ⟨e, he, hb⟩ => hw.2 b ⟨e, .tail _ he, hb⟩⟩, fun w _ b ⟨e, he, hb⟩ => ⟨e, .tail _ he, hb⟩⟩
/-- Nothing that is read. -/
theorem Sat.addNone {w0 w : World} {S : Area} {mem mem' : List (Nat × Ent)} {k : Nat} {α : Type} {J : Hd → α → List Ent} {h : Hds} (hw : Sat w0 S (look mem) w) (hm : mem' = mem ++ [(k, Ent.all (nins J h ([] : List α)))]) : Sat w0 S (look mem') w :=
  Sat.addAll hw [] rfl rfl hm
theorem emp_sgs {α : Type} {T : Nat} {X : Hd → Value → α → List Value} {h : Hds} {q : Option Addr} : Emp (bag (sgs T X h q ([] : List α))) := emp_bag (fun e he => by cases he)

/-- A cut of an own slice, when the slice itself is given up. -/
theorem own_cut {ob : Option Addr} {cap T sz l hh : Nat} {rows : List (List Value)} (h1 : l ≤ hh) (h2 : hh ≤ cap) : Cov (.osl ob cap T sz rows) (.osl (cutOb ob l cap sz) (cap - l) T sz ((rows.drop l).take (hh - l))) := by
  have hb : cap - l ≠ 0 → blk (cutOb ob l cap sz) = blk ob := fun hn => by
    unfold cutOb
    rw [if_neg (by omega)]
    cases ob with
    | none => rfl
    | some a => obtain ⟨x, y, z⟩ := a; simp [blk, Addr.add]; split <;> rfl
  have hf : ∀ b, (Ent.osl (cutOb ob l cap sz) (cap - l) T sz ((rows.drop l).take (hh - l))).foot b → (Ent.osl ob cap T sz rows).foot b := fun b hq => ⟨by have := hq.1; omega, hq.2.trans (hb hq.1)⟩
  refine ⟨fun w hw => ⟨⟨by simp only [List.length_take, List.length_drop]; omega, fun hn => ?_⟩, fun b hq => hw.2 b (hf b hq)⟩, fun w _ b hq => hf b hq⟩
  obtain ⟨a, arr, ha, hs, hr, hsz, hrow⟩ := hw.1.2 (by omega)
  have ea : a = ⟨a.block, a.off, none⟩ := by obtain ⟨x, y, z⟩ := a; simp only at hs; subst hs; rfl
  refine ⟨⟨a.block, a.off + l * sz, none⟩, arr, ?_, rfl, hr, ?_, ?_⟩
  · unfold cutOb
    rw [if_neg (by omega), ha, Option.map_some, add_none hs]
  · show a.off + l * sz + (cap - l) * sz ≤ arr.size
    have : l * sz + (cap - l) * sz = cap * sz := by rw [← Nat.add_mul]; congr 1; omega
    omega
  · rw [ea] at hrow
    exact hrow.cut

/-! ### The same in one step each -/
theorem Sat.updRd {w0 w : World} {S : Area} {m : Mem} {k : Nat} {e : Ent} (h : Sat w0 S m w) (ho : e.own = false) (hok : e.ok w) (hft : ∀ b, e.foot b → ∃ k E, m k = some E ∧ E.own = false ∧ E.foot b) : Sat w0 S (upd m k (some e)) w := by
  have hold : ∀ t x, upd m k (some e) t = some x → x = e ∨ m t = some x := fun t x hx => by
    by_cases hkt : k = t
    · subst hkt; rw [upd_same] at hx; exact .inl (Option.some.inj hx).symm
    · rw [upd_other _ _ hkt] at hx; exact .inr hx
  refine ⟨h.keep, fun t x he => ?_, fun t x he ho' b hb => ?_, fun t t' x x' hn he he' ho' b hb hb' => ?_, fun t x he b hb => ?_⟩
  · rcases hold t x he with rfl | h1
    · exact hok
    · exact h.ok t x h1
  · rcases hold t x he with rfl | h1
    · rw [ho] at ho'; cases ho'
    · exact h.mine t x h1 ho' b hb
  · rcases hold t x he with rfl | h1
    · rw [ho] at ho'; cases ho'
    · rcases hold t' x' he' with rfl | h2
      · obtain ⟨j, E, hj, hE, hjb⟩ := hft b hb'
        by_cases htj : t = j
        · subst htj; rw [hj] at h1; cases h1; rw [hE] at ho'; cases ho'
        · exact h.apart t j x _ htj h1 hj ho' b hb hjb
      · exact h.apart t t' x x' hn h1 h2 ho' b hb hb'
  · rcases hold t x he with rfl | h1
    · obtain ⟨j, E, hj, _, hjb⟩ := hft b hb
      exact h.lie j E hj b hjb
    · exact h.lie t x h1 b hb
theorem Sat.updCov {w0 w : World} {S : Area} {m : Mem} {k k0 : Nat} {E e : Ent} (h : Sat w0 S m w) (hk : m k0 = some E) (hE : E.own = false) (ho : e.own = false) (hc : Cov E e) : Sat w0 S (upd m k (some e)) w :=
  h.updRd ho (hc.1 w (h.ok k0 _ hk)) fun b hb => ⟨k0, E, hk, hE, hc.2 w (h.ok k0 _ hk) b hb⟩

theorem Sat.bagOpen {w0 w : World} {S : Area} {m : Mem} {K K1 K2 : Nat} {c : Ent} {es : List Ent} (hw : Sat w0 S m w) (hk : m K = some (Sx.bag (c :: es))) (hnd : nodupB [K1, K2] = true) : Sat w0 S (setAll (upd m K none) [K1, K2] [c, Sx.bag es]) w := by
  obtain ⟨b1, b2⟩ := bag_ok.1 (hw.ok K _ hk)
  have hb : (Sx.bag es).ok w := bag_ok.2 ⟨fun e he => b1 e (List.mem_cons_of_mem _ he), fun i j e e' hij hi hj => b2 (i + 1) (j + 1) e e' (by omega) (by rw [List.getElem?_cons_succ]; exact hi) (by rw [List.getElem?_cons_succ]; exact hj)⟩
  have hcb : ∀ b, c.foot b → ¬ (Sx.bag es).foot b := fun b hc ⟨e, he, hb⟩ => by
    obtain ⟨i, hi⟩ := List.getElem?_of_mem he
    exact b2 0 (i + 1) c e (by omega) (by rw [List.getElem?_cons_zero]) (by rw [List.getElem?_cons_succ]; exact hi) b hc hb
  refine hw.split hk rfl (nodupB_spec hnd) rfl (fun e he => ?_) (fun e he b hb => ?_) (fun i j e e' hij hi hj b hb hb' => ?_)
  · simp only [List.mem_cons, List.not_mem_nil, or_false] at he
    rcases he with rfl | rfl
    · exact b1 _ (List.mem_cons_self ..)
    · exact hb
  · simp only [List.mem_cons, List.not_mem_nil, or_false] at he
    rcases he with rfl | rfl
    · exact ⟨_, List.mem_cons_self .., hb⟩
    · obtain ⟨e', he', hb'⟩ := hb
      exact ⟨e', List.mem_cons_of_mem _ he', hb'⟩
  · match i, j with
    | 0, 0 => exact hij rfl
    | 0, 1 => simp at hi hj; subst hi; subst hj; exact hcb b hb hb'
    | 1, 0 => simp at hi hj; subst hi; subst hj; exact hcb b hb' hb
    | 1, 1 => exact hij rfl
    | 0, j + 2 => simp at hj
    | 1, j + 2 => simp at hj
    | i + 2, _ => simp at hi

theorem sgp_snoc {α : Type} {h : Hds} {q : Option Addr} {ob : Option Addr} {cap nb : Nat} {A : List α} {x : α} : sgp h (some ⟨nb, 0, none⟩) A = sgp (glueH A.length h (fun _ => mkH ob cap nb)) q (A ++ [x]) :=
  sgp_app (h2 := fun _ => mkH ob cap nb) A [x]

section
variable {α : Type} {w0 w : World} {S : Area} {mem mem' : List (Nat × Ent)} {K K1 K2 I I2 KR KI N : Nat} {T : Nat} {X : Hd → Value → α → List Value} {J : Hd → α → List Ent} {h h2 : Hds} {q : Option Addr} {l m : List α} {x : α} {er : Ent}

/-- The first link is taken out. -/
theorem ch_open (keys : List Nat) (hw : Sat w0 S (look mem) w) (hk : look mem K = some (bag (sgs T X h q (x :: l)))) (hnd : nodupB [K1, K2] = true)
    (h1 : setAll (upd (look mem) K none) [K1, K2] [.cells (h 0 9).2 T (X (h 0) (.pointer (sgp (fun i => h (i + 1)) q l)) x), bag (sgs T X (fun i => h (i + 1)) q l)] I = some (Ent.all (nins J h (x :: l)))) (her : er ∈ J (h 0) x) (ho : er.own = false) (hIR : Nat.beq KR I = false)
    (hmem : memOut keys (upd (upd (setAll (upd (look mem) K none) [K1, K2] [.cells (h 0 9).2 T (X (h 0) (.pointer (sgp (fun i => h (i + 1)) q l)) x), bag (sgs T X (fun i => h (i + 1)) q l)]) KR (some er)) KI (some (Ent.all (nins J (fun i => h (i + 1)) l)))) = some mem') : Sat w0 S (look mem') w :=
  (((hw.bagOpen hk hnd).updCov h1 rfl ho (Cov.all_head her)).updCov (k := KI) (k0 := I) (by rw [upd_other _ _ (fun e => by subst e; simp at hIR)]; exact h1) rfl rfl Cov.all_tail).less (memOut_look keys hmem)

/-- A link is put behind the others. -/
theorem ch_add {ob : Option Addr} {cap nb : Nat} {p : Prop} (keys : List Nat) (hw : Sat w0 S (look mem) w) (hk : look mem K = some (bag (sgs T X h (some ⟨nb, 0, none⟩) l))) (hn : look mem N = some (.cells nb T (X (mkH ob cap nb) (.pointer q) x))) (hne : Nat.beq K N = false)
    (hi : look mem I = some (Ent.all (nins J h l))) (hr : look mem KR = some er) (hJ : J (mkH ob cap nb) x = [er, Ent.fact p]) (hro : er.own = false) (hp : p)
    (hmem : memOut keys (upd (upd (dropKs (look mem) [K, N]) K (some (bag (sgs T X (glueH l.length h (fun _ => mkH ob cap nb)) q (l ++ [x]))))) I (some (Ent.all (nins J (glueH l.length h (fun _ => mkH ob cap nb)) (l ++ [x]))))) = some mem') : Sat w0 S (look mem') w := by
  have hne : K ≠ N := fun e => by subst e; simp at hne
  have e1 : sgs T X h (some ⟨nb, 0, none⟩) l ++ [.cells nb T (X (mkH ob cap nb) (.pointer q) x)] = sgs T X (glueH l.length h (fun _ => mkH ob cap nb)) q (l ++ [x]) := sgs_app T X h (fun _ => mkH ob cap nb) q l [x]
  have e2 : nins J h l ++ [er, Ent.fact p] = nins J (glueH l.length h (fun _ => mkH ob cap nb)) (l ++ [x]) := by
    rw [← nins_app, nins, nins, hJ]; rfl
  rw [← e1, ← e2] at hmem
  obtain ⟨a1, a2⟩ := bag_ok.1 (hw.ok K _ hk)
  have hj : Sat w0 S (upd (dropKs (look mem) [K, N]) K (some (bag (sgs T X h (some ⟨nb, 0, none⟩) l ++ [.cells nb T (X (mkH ob cap nb) (.pointer q) x)])))) w := by
    refine hw.join (es := [_, _]) (by rw [List.map_cons, List.map_cons, List.map_nil, hk, hn]; rfl) rfl (bag_ok.2 ⟨fun e he => ?_, fun i j e e' hij hi hj b hb hb' => ?_⟩) (fun b ⟨e, he, hb⟩ => ?_)
    · rcases List.mem_append.1 he with he | he
      · exact a1 e he
      · rw [List.mem_singleton.1 he]; exact hw.ok N _ hn
    · by_cases h1 : i < (sgs T X h (some ⟨nb, 0, none⟩) l).length
      · rw [List.getElem?_append_left h1] at hi
        by_cases h2 : j < (sgs T X h (some ⟨nb, 0, none⟩) l).length
        · rw [List.getElem?_append_left h2] at hj; exact a2 i j e e' hij hi hj b hb hb'
        · rw [List.getElem?_append_right (by omega)] at hj
          have := List.mem_singleton.1 (List.mem_of_getElem? hj); subst this
          exact hw.apart K N _ _ hne hk hn rfl b ⟨e, List.mem_of_getElem? hi, hb⟩ hb'
      · rw [List.getElem?_append_right (by omega)] at hi
        have := List.mem_singleton.1 (List.mem_of_getElem? hi); subst this
        by_cases h2 : j < (sgs T X h (some ⟨nb, 0, none⟩) l).length
        · rw [List.getElem?_append_left h2] at hj
          exact hw.apart K N _ _ hne hk hn rfl b ⟨e', List.mem_of_getElem? hj, hb'⟩ hb
        · rw [List.getElem?_append_right (by omega)] at hj
          have h3 := (List.getElem?_eq_some_iff.1 hi).1; have h4 := (List.getElem?_eq_some_iff.1 hj).1
          simp at h3 h4; omega
    · rcases List.mem_append.1 he with he | he
      · exact ⟨_, List.mem_cons_self .., e, he, hb⟩
      · have := List.mem_singleton.1 he; subst this
        exact ⟨_, List.mem_cons_of_mem _ (List.mem_cons_self ..), hb⟩
  have hat : ∀ t e, look mem t = some e → e.own = false → upd (dropKs (look mem) [K, N]) K (some (bag (sgs T X h (some ⟨nb, 0, none⟩) l ++ [.cells nb T (X (mkH ob cap nb) (.pointer q) x)]))) t = some e := fun t e ht ho => by
    have h1 : K ≠ t := fun eq => by subst eq; rw [hk] at ht; cases ht; cases ho
    have h2 : N ≠ t := fun eq => by subst eq; rw [hn] at ht; cases ht; cases ho
    rw [upd_other _ _ h1]
    unfold dropKs
    have : ([K, N].contains t) = false := by
      simp only [List.contains_cons, List.contains_nil, Bool.or_false, Bool.or_eq_false_iff, beq_eq_false_iff_ne]
      exact ⟨Ne.symm h1, Ne.symm h2⟩
    rw [this]; exact ht
  have ok1 := hw.ok I _ hi
  have ok2 := hw.ok KR _ hr
  refine (hj.updRd (k := I) (e := Ent.all (nins J h l ++ [er, Ent.fact p])) rfl ?_ fun b hb => ?_).less (memOut_look keys hmem)
  · refine Ent.all_ok fun e he => ?_
    rcases List.mem_append.1 he with he | he
    · exact ⟨ok1.1 e he, fun b hb => ok1.2 b ⟨e, he, hb⟩⟩
    · simp only [List.mem_cons, List.not_mem_nil, or_false] at he
      rcases he with rfl | rfl
      · exact ok2
      · exact ⟨hp, fun b hb => hb.elim⟩
  · obtain ⟨e, he, hb⟩ := hb
    rcases List.mem_append.1 he with he | he
    · exact ⟨I, _, hat I _ hi rfl, rfl, e, he, hb⟩
    · simp only [List.mem_cons, List.not_mem_nil, or_false] at he
      rcases he with rfl | rfl
      · exact ⟨KR, _, hat KR _ hr hro, hro, hb⟩
      · exact hb.elim

/-- A link is put behind the others, with a slice of its own. -/
theorem ch_addO {Ji : Hd → α → List Ent} {ob : Option Addr} {cap nb : Nat} (keys : List Nat) (hw : Sat w0 S (look mem) w) (hk : look mem K = some (bag (sgs T X h (some ⟨nb, 0, none⟩) l))) (hn : look mem N = some (.cells nb T (X (mkH ob cap nb) (.pointer q) x)))
    (hi : look mem I = some (bag (nins Ji h l))) (hr : look mem KR = some er) (hJ : Ji (mkH ob cap nb) x = [er]) (hro : er.own = true) (hnd : nodupB [K, N] = true) (hnd2 : nodupB [I, KR] = true)
    (h2 : dropKs (look mem) [K, N] I = look mem I) (h3 : dropKs (look mem) [K, N] KR = look mem KR) (hKI : Nat.beq K I = false) (hKR : Nat.beq K KR = false)
    (hmem : memOut keys (upd (dropKs (upd (dropKs (look mem) [K, N]) K (some (bag (sgs T X (glueH l.length h (fun _ => mkH ob cap nb)) q (l ++ [x]))))) [I, KR]) I (some (bag (nins Ji (glueH l.length h (fun _ => mkH ob cap nb)) (l ++ [x]))))) = some mem') : Sat w0 S (look mem') w := by
  have hne : K ≠ N := fun e => by subst e; simp [nodupB] at hnd
  have hne2 : I ≠ KR := fun e => by subst e; simp [nodupB] at hnd2
  have e1 : sgs T X h (some ⟨nb, 0, none⟩) l ++ [.cells nb T (X (mkH ob cap nb) (.pointer q) x)] = sgs T X (glueH l.length h (fun _ => mkH ob cap nb)) q (l ++ [x]) := sgs_app T X h (fun _ => mkH ob cap nb) q l [x]
  have e2 : nins Ji h l ++ [er] = nins Ji (glueH l.length h (fun _ => mkH ob cap nb)) (l ++ [x]) := by
    rw [← nins_app, nins, nins, hJ]; rfl
  rw [← e1, ← e2] at hmem
  have one : ∀ {m : Mem} {w : World} {A B : Nat} {es : List Ent} {c : Ent}, Sat w0 S m w → A ≠ B → m A = some (bag es) → m B = some c → c.own = true → Sat w0 S (upd (dropKs m [A, B]) A (some (bag (es ++ [c])))) w := by
    intro m w A B es c hw hne hk hn hc
    obtain ⟨a1, a2⟩ := bag_ok.1 (hw.ok A _ hk)
    refine hw.join (es := [_, _]) (by rw [List.map_cons, List.map_cons, List.map_nil, hk, hn]; rfl) (by rw [List.all_cons, List.all_cons, hc]; rfl) (bag_ok.2 ⟨fun e he => ?_, fun i j e e' hij hi hj b hb hb' => ?_⟩) (fun b ⟨e, he, hb⟩ => ?_)
    · rcases List.mem_append.1 he with he | he
      · exact a1 e he
      · rw [List.mem_singleton.1 he]; exact hw.ok B _ hn
    · by_cases h1 : i < es.length
      · rw [List.getElem?_append_left h1] at hi
        by_cases h2 : j < es.length
        · rw [List.getElem?_append_left h2] at hj; exact a2 i j e e' hij hi hj b hb hb'
        · rw [List.getElem?_append_right (by omega)] at hj
          have := List.mem_singleton.1 (List.mem_of_getElem? hj); subst this
          exact hw.apart A B _ _ hne hk hn rfl b ⟨e, List.mem_of_getElem? hi, hb⟩ hb'
      · rw [List.getElem?_append_right (by omega)] at hi
        have := List.mem_singleton.1 (List.mem_of_getElem? hi); subst this
        by_cases h2 : j < es.length
        · rw [List.getElem?_append_left h2] at hj
          exact hw.apart A B _ _ hne hk hn rfl b ⟨e', List.mem_of_getElem? hj, hb'⟩ hb
        · rw [List.getElem?_append_right (by omega)] at hj
          have h3 := (List.getElem?_eq_some_iff.1 hi).1; have h4 := (List.getElem?_eq_some_iff.1 hj).1
          simp at h3 h4; omega
    · rcases List.mem_append.1 he with he | he
      · exact ⟨_, List.mem_cons_self .., e, he, hb⟩
      · have := List.mem_singleton.1 he; subst this
        exact ⟨_, List.mem_cons_of_mem _ (List.mem_cons_self ..), hb⟩
  have s1 := one hw hne hk hn rfl
  refine (one s1 hne2 ?_ ?_ hro).less (memOut_look keys hmem)
  · rw [upd_other _ _ (fun e => by subst e; simp at hKI), h2]; exact hi
  · rw [upd_other _ _ (fun e => by subst e; simp at hKR), h3]; exact hr

/-- Two chains are one. -/
theorem ch_join (keys : List Nat) (hw : Sat w0 S (look mem) w) (hk1 : look mem K1 = some (bag (sgs T X h (sgp h2 q m) l))) (hk2 : look mem K2 = some (bag (sgs T X h2 q m))) (hne : Nat.beq K1 K2 = false)
    (hi1 : look mem I = some (Ent.all (nins J h l))) (hi2 : look mem I2 = some (Ent.all (nins J h2 m)))
    (hmem : memOut keys (upd (upd (dropKs (look mem) [K1, K2]) K1 (some (bag (sgs T X (glueH l.length h h2) q (l ++ m))))) I (some (Ent.all (nins J (glueH l.length h h2) (l ++ m))))) = some mem') : Sat w0 S (look mem') w := by
  have hne : K1 ≠ K2 := fun e => by subst e; simp at hne
  rw [← sgs_app T X h h2 q l m, ← nins_app] at hmem
  obtain ⟨a1, a2⟩ := bag_ok.1 (hw.ok K1 _ hk1)
  obtain ⟨b1, b2⟩ := bag_ok.1 (hw.ok K2 _ hk2)
  have hx : ∀ {i j : Nat} {e e' : Ent}, (sgs T X h (sgp h2 q m) l)[i]? = some e → (sgs T X h2 q m)[j]? = some e' → ∀ b, e.foot b → ¬ e'.foot b := fun {i j e e'} hi hj b hb hb' =>
    hw.apart K1 K2 _ _ hne hk1 hk2 rfl b ⟨e, List.mem_of_getElem? hi, hb⟩ ⟨e', List.mem_of_getElem? hj, hb'⟩
  have hj : Sat w0 S (upd (dropKs (look mem) [K1, K2]) K1 (some (bag (sgs T X h (sgp h2 q m) l ++ sgs T X h2 q m)))) w := by
    refine hw.join (es := [_, _]) (by rw [List.map_cons, List.map_cons, List.map_nil, hk1, hk2]; rfl) rfl (bag_ok.2 ⟨fun e he => ?_, fun i j e e' hij hi hj b hb hb' => ?_⟩) (fun b ⟨e, he, hb⟩ => ?_)
    · rcases List.mem_append.1 he with he | he
      · exact a1 e he
      · exact b1 e he
    · by_cases h1 : i < (sgs T X h (sgp h2 q m) l).length
      · rw [List.getElem?_append_left h1] at hi
        by_cases h2 : j < (sgs T X h (sgp h2 q m) l).length
        · rw [List.getElem?_append_left h2] at hj; exact a2 i j e e' hij hi hj b hb hb'
        · rw [List.getElem?_append_right (by omega)] at hj; exact hx hi hj b hb hb'
      · rw [List.getElem?_append_right (by omega)] at hi
        by_cases h2 : j < (sgs T X h (sgp h2 q m) l).length
        · rw [List.getElem?_append_left h2] at hj; exact hx hj hi b hb' hb
        · rw [List.getElem?_append_right (by omega)] at hj; exact b2 _ _ e e' (by omega) hi hj b hb hb'
    · rcases List.mem_append.1 he with he | he
      · exact ⟨_, List.mem_cons_self .., e, he, hb⟩
      · exact ⟨_, List.mem_cons_of_mem _ (List.mem_cons_self ..), e, he, hb⟩
  have hat : ∀ t e, look mem t = some e → e.own = false → upd (dropKs (look mem) [K1, K2]) K1 (some (bag (sgs T X h (sgp h2 q m) l ++ sgs T X h2 q m))) t = some e := fun t e ht ho => by
    have h1 : K1 ≠ t := fun eq => by subst eq; rw [hk1] at ht; cases ht; cases ho
    have h2 : K2 ≠ t := fun eq => by subst eq; rw [hk2] at ht; cases ht; cases ho
    rw [upd_other _ _ h1]
    unfold dropKs
    have : ([K1, K2].contains t) = false := by
      simp only [List.contains_cons, List.contains_nil, Bool.or_false, Bool.or_eq_false_iff, beq_eq_false_iff_ne]
      exact ⟨Ne.symm h1, Ne.symm h2⟩
    rw [this]; exact ht
  have ok1 := hw.ok I _ hi1
  have ok2 := hw.ok I2 _ hi2
  refine (hj.updRd (k := I) (e := Ent.all (nins J h l ++ nins J h2 m)) rfl ?_ fun b hb => ?_).less (memOut_look keys hmem)
  · refine Ent.all_ok fun e he => ?_
    rcases List.mem_append.1 he with he | he
    · exact ⟨ok1.1 e he, fun b hb => ok1.2 b ⟨e, he, hb⟩⟩
    · exact ⟨ok2.1 e he, fun b hb => ok2.2 b ⟨e, he, hb⟩⟩
  · obtain ⟨e, he, hb⟩ := hb
    rcases List.mem_append.1 he with he | he
    · exact ⟨I, _, hat I _ hi1 rfl, rfl, e, he, hb⟩
    · exact ⟨I2, _, hat I2 _ hi2 rfl, rfl, e, he, hb⟩

/-- An own entry is seen as another one. -/
theorem own_cov {e0 e1 : Ent} {K2 : Nat} (keys : List Nat) (hw : Sat w0 S (look mem) w) (hk : look mem K = some e0) (ho : e0.own = true) (hc : Cov e0 e1) (hmem : memOut keys (upd (dropKs (look mem) [K]) K2 (some e1)) = some mem') : Sat w0 S (look mem') w :=
  (hw.join (es := [e0]) (by rw [List.map_cons, List.map_nil, hk]; rfl) (by rw [List.all_cons, ho]; rfl) (hc.1 w (hw.ok K _ hk)) (fun b hb => ⟨e0, List.mem_cons_self .., hc.2 w (hw.ok K _ hk) b hb⟩)).less (memOut_look keys hmem)

theorem ch_nilO {k ik : Nat} {Ji : Hd → α → List Ent} (keys : List Nat) (hw : Sat w0 S (look mem) w) (hmem : memOut keys (look ((mem ++ [(k, bag (sgs T X h q ([] : List α)))]) ++ [(ik, bag (nins Ji h2 ([] : List α)))])) = some mem') : Sat w0 S (look mem') w :=
  (Sat.addEmp (Sat.addEmp hw emp_sgs rfl) (emp_bag fun e he => by cases he) rfl).less (memOut_look keys hmem)
/-- A chain of nobody. -/
theorem ch_nil {k ik : Nat} (keys : List Nat) (hw : Sat w0 S (look mem) w) (hmem : memOut keys (look ((mem ++ [(k, bag (sgs T X h q ([] : List α)))]) ++ [(ik, Ent.all (nins J h2 ([] : List α)))])) = some mem') : Sat w0 S (look mem') w :=
  (Sat.addNone (Sat.addEmp hw emp_sgs rfl) rfl).less (memOut_look keys hmem)
end

section
variable {P : Program} {b : Frame} {n : Nat} {w0 : World} {S : Area} {R : Ending → World → Prop} {k : List Item}
/-- Where things lie gets names. -/
theorem GS.gen {ι : Type} (I : ι → Prop) (E : ι → List (Nat × Value)) (M : ι → List (Nat × Ent)) (i : ι) (hi : I i) (h : ∀ i, I i → GS P b n w0 S R k (E i) (M i)) : GS P b n w0 S R k (E i) (M i) := h i hi
end
end Sx
