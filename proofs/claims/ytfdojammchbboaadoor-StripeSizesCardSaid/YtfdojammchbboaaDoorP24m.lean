/-
  CHAPTER 24: the law of the runs, against the reference.
-/
import Derived.Test.YtfdojammchbboaaDoorP24l
set_option linter.unusedVariables false
set_option linter.unusedSimpArgs false
set_option maxRecDepth 100000
namespace Go.Proofs.YtfdojammchbboaaDoor
open Go Go.RowKit Sx

theorem sum_len (E : List Ext) (h : OkO E) : ∀ z : List Int, z.length ≤ 1048592 → (E.foldl (fun z e => sstep z e.Object.toNat e.N) z).length ≤ 1048592 := by
  induction E with
  | nil => intro z hz; exact hz
  | cons e E ih =>
    intro z hz
    have he := h e (by simp)
    refine ih (fun x hx => h x (by simp [hx])) _ ?_
    unfold sstep
    rw [List.length_set, grow_len']
    omega

theorem law_extents (l : Lay) (o n : Int) : m_tholelaw24_StripeExtents 2000000 l o n = some true := by
  have hex := ok_exts l n
  have hln := sum_len _ hex.1 [] (by simp)
  have hln : (sizeSum (exts l 0 n)).length ≤ 1048592 := hln
  simp only [m_tholelaw24_StripeExtents, m_tholelaw24_plain, m_stripe_Objects, m_tholeref24_Objects]
  rw [Option.bind_some, m_exts _ (by omega), Option.bind_some, show m_tholeref24_Extents 2000000 (S_tholeref24_Layout.mk l.Unit l.Count l.Size) o n = _ from m_rexts _ (by omega) l o n, Option.bind_some]
  have hlen : (exts l o n).length ≤ 70368744177664 := by
    unfold exts
    cases ho : EOut l o n with
    | true => simp
    | false =>
      simp only [EOut, Bool.or_eq_false_iff, Bool.not_eq_false', decide_eq_true_eq, decide_eq_false_iff_not] at ho
      obtain ⟨g, _, h1, _, h2⟩ := ho
      have a := (ok_bytes g n.toNat [] o (by omega) (by omega) ⟨by simp; omega, fun e he => by simp at he⟩).1
      simp only [cond_false]; omega
  rw [show ((((exts l o n).length : Nat) : Int) != ((((exts l o n).map rx).length : Nat) : Int)) = false by simp, cond_false, grd_pos _ (by unfold Len; omega)]
  refine loop_same rx ((exts l o n).map rx) dS_tholeref24_Extent _ _ _ (fun nx c x hc hx => ?_) (fun c => ?_) (exts l o n) 0 (by simp)
  · simp only [jn]
    rw [grd_pos _ hc, hx]
    simp [rx]
  · rw [m_sizes _ (by omega), show m_tholeref24_Sizes 2000000 (S_tholeref24_Layout.mk l.Unit l.Count l.Size) n = _ from m_rsizes _ (by omega) l n, sizes_same]
    simp only [Option.bind_some]
    rw [beq_self_eq_true, cond_true, ints_self _ _ (by unfold Len; omega), Option.bind_some, cond_true, lives24F]
    rfl

end Go.Proofs.YtfdojammchbboaaDoor
