/-
  Models, part 9: a region that draws its order, whose last operations stand alone.
-/
import Derived.Test.YtmdfkklldbfocaaGxh
set_option linter.unusedVariables false
set_option linter.unusedSimpArgs false
namespace Sx
open Go Go.RowKit

section
variable {F : Fence} {n : Nat} {P : Program} {ops : Array Oper} {Q Q' : Exit → Act → World → Prop} {md : Region.Mode}

theorem wpIn_q {o : Oper} {a : Act} {w : World} {K : Act → World → Prop} (hQ : ∀ e, e ≠ .normal → ∀ a w, Q' e a w → Q e a w) (hh : o.wpIn F n P a w K Q') : o.wpIn F n P a w K Q := by
  have hl : LetsOut Q' → LetsOut Q := fun ⟨a, w, q⟩ => ⟨a, w, hQ _ (by simp) _ _ q⟩
  unfold Oper.wpIn at *
  refine ⟨hh.1, ?_⟩
  have hh := hh.2
  generalize (o.semAt F.round a.eval).run P w = r at *
  cases r with
  | ok x w' =>
    cases x <;> simp only [Oper.uponIn] at hh ⊢ <;>
      first
        | exact hh
        | exact ⟨hh.1, CallsIn.mono hh.2 (fun e w'' he => by cases e <;> first | exact he | exact hl he | exact hQ _ (by simp) _ _ he)⟩
        | exact ⟨hh.1, RoundIn.mono hh.2 (fun e w'' he => by cases e <;> first | exact he | exact hl he | exact hQ _ (by simp) _ _ he)⟩
  | halt x w' => cases x <;> simp only [Oper.uponIn] at hh ⊢ <;> first | exact hh | exact hQ _ (by simp) _ _ hh

theorem wpOpIn_q {i : Nat} {a : Act} {w : World} {K : Act → World → Prop} (hQ : ∀ e, e ≠ .normal → ∀ a w, Q' e a w → Q e a w) (hh : wpOpIn F n P ops Q' i K a w) : wpOpIn F n P ops Q i K a w := by
  unfold wpOpIn at *
  split
  · simpa [*] using hh
  · rename_i o ho
    simp only [ho] at hh
    split
    · rename_i hw; simp only [hw, if_true] at hh; exact wpIn_q hQ hh
    · rename_i hw; simp only [hw] at hh; exact hh

/-- The operations from L on, m of them, can come only when all others are done, and one behind the other. -/
def fillT : Nat → Nat → Array Bool → Array Bool
  | 0, _, l => l
  | m + 1, i, l => fillT m (i + 1) (l.setIfInBounds i true)
def tailB (md : Region.Mode) (ops : Array Oper) : Nat → Nat → Array Bool → Bool
  | 0, _, listed => (Region.ready md ops listed).isEmpty
  | m + 1, i, listed => (Region.ready md ops listed == [i]) && tailB md ops m (i + 1) (listed.setIfInBounds i true)
def lastB (md : Region.Mode) (ops : Array Oper) (L m : Nat) : Nat → Array Bool → Bool
  | 0, listed => tailB md ops m L listed
  | g + 1, listed => !(Region.ready md ops listed).isEmpty && (Region.ready md ops listed == Region.ready md ops (fillT m L listed)) &&
    (Region.ready md ops listed).all fun i => Nat.blt i L && lastB md ops L m g (listed.setIfInBounds i true)

theorem set_comm (l : Array Bool) {i j : Nat} (h : i ≠ j) : (l.setIfInBounds i true).setIfInBounds j true = (l.setIfInBounds j true).setIfInBounds i true := by
  first
    | exact Array.setIfInBounds_comm _ _ h
    | (apply Array.ext_getElem?; intro k; simp [Array.getElem?_setIfInBounds]; split <;> split <;> simp_all)

theorem fill_comm {i : Nat} : ∀ (m L : Nat) (l : Array Bool), i < L → fillT m L (l.setIfInBounds i true) = (fillT m L l).setIfInBounds i true
  | 0, _, _, _ => rfl
  | m + 1, L, l, h => by
    unfold fillT
    rw [set_comm l (show i ≠ L by omega)]
    exact fill_comm m (L + 1) _ (by omega)

theorem any_tail : ∀ (m i : Nat) (listed : Array Bool) (a : Act) (w : World), tailB md ops m i listed = true → wpOpsIn F n P ops Q (List.range' i m) a w → wpAnyIn F n P md ops Q m listed a w
  | 0, i, listed, a, w, hb, h => by
    simp only [tailB, List.isEmpty_iff] at hb
    exact ⟨hb, by simpa [wpOpsIn] using h⟩
  | m + 1, i, listed, a, w, hb, h => by
    simp only [tailB, Bool.and_eq_true, beq_iff_eq] at hb
    obtain ⟨h1, h2⟩ := hb
    rw [List.range'_succ, wpOpsIn_cons] at h
    refine ⟨fun e => (by rw [h1] at e; cases e), fun j hj => ?_⟩
    rw [h1] at hj
    obtain rfl := List.mem_singleton.1 hj
    exact wpOpIn_mono (fun a w q => any_tail m (j + 1) _ a w h2 q) h

theorem any_split {L m : Nat} (hQ : ∀ e, e ≠ .normal → ∀ a w, Q' e a w → Q e a w) (hX : ∀ a w, Q' .normal a w → wpOpsIn F n P ops Q (List.range' L m) a w) :
    ∀ (g : Nat) (listed : Array Bool) (a : Act) (w : World), lastB md ops L m g listed = true → wpAnyIn F n P md ops Q' g (fillT m L listed) a w → wpAnyIn F n P md ops Q (g + m) listed a w
  | 0, listed, a, w, hb, h => by
    rw [Nat.zero_add]
    exact any_tail m L listed a w hb (hX a w h.2)
  | g + 1, listed, a, w, hb, h => by
    simp only [lastB, Bool.and_eq_true, Bool.not_eq_true', beq_iff_eq, List.all_eq_true] at hb
    obtain ⟨⟨h1, h2⟩, h3⟩ := hb
    rw [show g + 1 + m = (g + m) + 1 by omega]
    refine ⟨fun e => (by rw [e] at h1; cases h1), fun i hi => ?_⟩
    obtain ⟨hne, hb'⟩ := h3 i hi
    have hne' : i < L := by simpa using hne
    have := h.2 i (by rw [← h2]; exact hi)
    refine wpOpIn_q hQ (wpOpIn_mono (fun a w q => ?_) this)
    rw [← fill_comm m L listed hne'] at q
    exact any_split hQ hX g _ a w hb' q
end

section
variable {P : Program} {b : Frame} {n : Nat} {w0 : World} {S : Area} {R : Ending → World → Prop} {k : List Item} {env : List (Nat × Value)} {mem : List (Nat × Ent)} {ops : Array Oper}
theorem GS.regionLast {id : Nat} (L m : Nat) {env' : (Nat → Fr) → List (Nat × Value)} {mem' : (Nat → Fr) → List (Nat × Ent)} (hs : List (Nat × Hint)) (live ks : List Nat) (os : (Nat → Fr) → List Prop) (hm : P.follows .mixedOrders = true) (hsz : Nat.beq ops.size (L + m) = true)
    (hB : lexH .any ops (hintAt hs) L 0 (fillT m L (Array.replicate ops.size false)) = true) (hl : lastB .any ops L m L (Array.replicate ops.size false) = true)
    (hrun : ∀ fr, symRun P n ops hs 0 L live ks env mem fr = some (env' fr, mem' fr, os fr)) (ho : ∀ fr, All (os fr))
    (h : ∀ fr, GR P b n w0 S R ops L k (env' fr) (mem' fr)) : GS P b n w0 S R (.code (.region id ops true) :: k) env mem := by
  intro a w hf hw
  have hsz := Nat.eq_of_beq_eq_true hsz
  have hex : ∀ fr, ∃ s : SState, (∃ os, chainF P n ops (hintAt hs) fr (List.range' 0 L) ⟨look env, look mem⟩ = some (s, os) ∧ All os) ∧
      (∀ t v, look (env' fr) t = some v → s.ρ t = some v) ∧ (∀ t v, look (mem' fr) t = some v → s.m t = some v) := fun fr => by
    obtain ⟨s, hc, h2, h3⟩ := symRun_chain (hrun fr)
    exact ⟨s, ⟨os fr, hc, ho fr⟩, h2, h3⟩
  obtain ⟨sF, hsF⟩ : ∃ sF : (Nat → Fr) → SState, ∀ fr, (∃ os, chainF P n ops (hintAt hs) fr (List.range' 0 L) ⟨look env, look mem⟩ = some (sF fr, os) ∧ All os) ∧
      (∀ t v, look (env' fr) t = some v → (sF fr).ρ t = some v) ∧ (∀ t v, look (mem' fr) t = some v → (sF fr).m t = some v) := ⟨fun fr => Classical.choose (hex fr), fun fr => Classical.choose_spec (hex fr)⟩
  refine Gm.of_wp (wpIn_region_any hm ?_)
  have key : wpAnyIn (Fw b.roundOf) 0 P .any ops (fun e a' w' => e = .normal ∧ wpOpsIn (Fw b.roundOf) 0 P ops (fun e a' w' => e = .normal ∧ Gm P b R k a' w') (List.range' L (ops.size - L)) a' w') L (fillT m L (Array.replicate ops.size false)) a { w with drawn := w.drawn + 1 } := by
    refine any_sound (hs := hintAt hs) (n := n) (w0 := w0) (S := S) L _ (fun _ => ⟨0, none, 0, [], fun _ _ => (none, 0)⟩) ⟨look env, look mem⟩ sF a _ hf (hw.drew _) (fun fr _ => ?_) ?_
    · obtain ⟨os, h1, h2⟩ := (hsF fr).1
      exact anyF_lex L 0 _ _ os hB h1 h2
    · intro fr a' w' hf' hw'
      exact ⟨rfl, h fr a' w' (hf'.less (hsF fr).2.1) (hw'.less (hsF fr).2.2)⟩
  have := any_split (Q := fun e a' w' => e = .normal ∧ Gm P b R k a' w') (L := L) (m := m) (fun e he a w q => absurd q.1 he) (fun a w q => by
    have := q.2
    rw [show ops.size - L = m by omega] at this
    exact this) L _ a _ hl key
  rw [hsz]
  rw [hsz] at this
  exact this
end
end Sx
