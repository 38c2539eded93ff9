/-
  Models, part 6: ranges over functions by contracts of iterators.
-/
import Derived.Test.YtmdfkklldbfocaaGxe
set_option linter.unusedVariables false
set_option linter.unusedSimpArgs false
namespace Sx
open Go Go.RowKit

/-! ### Into a bag, and out of it -/

theorem Sat.unbag {w0 w : World} {S : Area} {m : Mem} {k : Nat} {es : List Ent} (h : Sat w0 S m w) (hk : m k = some (bag es)) (hown : es.all Ent.own = true) {nk : List Nat} (hnd : nk.Nodup) (hlen : nk.length = es.length) :
    Sat w0 S (setAll (upd m k none) nk es) w := by
  have hb := bag_ok.1 (h.ok k _ hk)
  have hat : ∀ t E, setAll (upd m k none) nk es t = some E → (∃ i, nk[i]? = some t ∧ es[i]? = some E) ∨ (t ≠ k ∧ m t = some E) := fun t E hE => by
    rcases setAll_at _ _ _ t E hlen hnd hE with ⟨i, h1, h2⟩ | ⟨h1, h2⟩
    · exact .inl ⟨i, h1, h2⟩
    · refine .inr ?_
      by_cases hkt : k = t
      · subst hkt; rw [upd_same] at h2; cases h2
      · rw [upd_other _ _ hkt] at h2; exact ⟨fun e => hkt e.symm, h2⟩
  have hin : ∀ {i : Nat} {E : Ent}, es[i]? = some E → ∀ b, E.foot b → (bag es).foot b := fun hi b hb => ⟨_, List.mem_of_getElem? hi, hb⟩
  refine ⟨h.keep, fun t E hE => ?_, fun t E hE ho b hbE => ?_, fun t t' E E' hne hE hE' ho b hbE hbE' => ?_, fun t E hE b hbE => ?_⟩
  · rcases hat t E hE with ⟨i, _, h2⟩ | ⟨_, h2⟩
    · exact hb.1 E (List.mem_of_getElem? h2)
    · exact h.ok t E h2
  · rcases hat t E hE with ⟨i, _, h2⟩ | ⟨_, h2⟩
    · exact h.mine k _ hk rfl b (hin h2 b hbE)
    · exact h.mine t E h2 ho b hbE
  · rcases hat t E hE with ⟨i, h1, h2⟩ | ⟨h1, h2⟩
    · rcases hat t' E' hE' with ⟨j, g1, g2⟩ | ⟨g1, g2⟩
      · exact hb.2 i j E E' (fun e => by subst e; rw [h1] at g1; exact hne (Option.some.inj g1)) h2 g2 b hbE hbE'
      · exact h.apart k t' _ E' (Ne.symm g1) hk g2 rfl b (hin h2 b hbE) hbE'
    · rcases hat t' E' hE' with ⟨j, g1, g2⟩ | ⟨g1, g2⟩
      · exact h.apart k t _ E (Ne.symm h1) hk h2 rfl b (hin g2 b hbE') hbE
      · exact h.apart t t' E E' hne h2 g2 ho b hbE hbE'
  · rcases hat t E hE with ⟨i, _, h2⟩ | ⟨_, h2⟩
    · exact h.lie k _ hk b (hin h2 b hbE)
    · exact h.lie t E h2 b hbE

theorem Sat.bag {w0 w : World} {S : Area} {m : Mem} {es : List Ent} {ks : List Nat} {K : Nat} (h : Sat w0 S m w) (hnd : ks.Nodup) (hm : ks.map m = es.map some) (hown : es.all Ent.own = true) :
    Sat w0 S (upd (dropKs m ks) K (some (bag es))) w := by
  have hat : ∀ (i : Nat) (e : Ent), es[i]? = some e → ∃ k, ks[i]? = some k ∧ m k = some e := fun i e hi => by
    have h1 : (ks.map m)[i]? = some (some e) := by rw [hm]; simp [hi]
    rw [List.getElem?_map] at h1
    cases hk : ks[i]? with
    | none => simp [hk] at h1
    | some k => simp [hk] at h1; exact ⟨k, rfl, h1⟩
  have hmem : ∀ e ∈ es, ∃ k, k ∈ ks ∧ m k = some e ∧ e.own = true := fun e he => by
    obtain ⟨i, hi⟩ := List.getElem?_of_mem he
    obtain ⟨k, h1, h2⟩ := hat i e hi
    exact ⟨k, List.mem_of_getElem? h1, h2, List.all_eq_true.1 hown e he⟩
  have hold : ∀ t E, upd (dropKs m ks) K (some (Sx.bag es)) t = some E → (t = K ∧ E = Sx.bag es) ∨ (t ≠ K ∧ t ∉ ks ∧ m t = some E) := fun t E hE => by
    by_cases hkt : K = t
    · subst hkt; rw [upd_same] at hE; cases hE; exact .inl ⟨rfl, rfl⟩
    · rw [upd_other _ _ hkt] at hE
      refine .inr ⟨fun e => hkt e.symm, ?_⟩
      unfold dropKs at hE
      split at hE
      · cases hE
      · rename_i hc
        exact ⟨fun hq => (by rw [List.contains_iff_mem.2 hq] at hc; cases hc), hE⟩
  refine ⟨h.keep, fun t E hE => ?_, fun t E hE ho b hb => ?_, fun t t' E E' hne hE hE' ho b hb hb' => ?_, fun t E hE b hb => ?_⟩
  · rcases hold t E hE with ⟨_, rfl⟩ | ⟨_, _, h2⟩
    · refine bag_ok.2 ⟨fun e he => ?_, fun i j e e' hij hi hj b hb hb' => ?_⟩
      · obtain ⟨k, _, h2, _⟩ := hmem e he
        exact h.ok k e h2
      · obtain ⟨k, h1, h2⟩ := hat i e hi
        obtain ⟨k', h1', h2'⟩ := hat j e' hj
        have hkk : k ≠ k' := fun heq => by
          subst heq
          have hil : i < ks.length := (List.getElem?_eq_some_iff.1 h1).1
          exact hij ((List.getElem?_inj hil hnd).1 (h1.trans h1'.symm))
        exact h.apart k k' e e' hkk h2 h2' (List.all_eq_true.1 hown e (List.mem_of_getElem? hi)) b hb hb'
    · exact h.ok t E h2
  · rcases hold t E hE with ⟨_, rfl⟩ | ⟨_, _, h2⟩
    · obtain ⟨e, he, hbe⟩ := hb
      obtain ⟨k, _, h3, h4⟩ := hmem e he
      exact h.mine k e h3 h4 b hbe
    · exact h.mine t E h2 ho b hb
  · rcases hold t E hE with ⟨q1, rfl⟩ | ⟨h1, h2, h3⟩
    · rcases hold t' E' hE' with ⟨q2, rfl⟩ | ⟨g1, g2, g3⟩
      · exact hne (q1.trans q2.symm)
      · obtain ⟨e, he, hbe⟩ := hb
        obtain ⟨k, hk, h4, h5⟩ := hmem e he
        exact h.apart k t' e E' (fun q => g2 (q ▸ hk)) h4 g3 h5 b hbe hb'
    · rcases hold t' E' hE' with ⟨q2, rfl⟩ | ⟨g1, g2, g3⟩
      · obtain ⟨e, he, hbe⟩ := hb'
        obtain ⟨k, hk, h4, h5⟩ := hmem e he
        exact h.apart k t e E (fun q => h2 (q ▸ hk)) h4 h3 h5 b hbe hb
      · exact h.apart t t' E E' hne h3 g3 ho b hb hb'
  · rcases hold t E hE with ⟨_, rfl⟩ | ⟨_, _, h2⟩
    · obtain ⟨e, he, hbe⟩ := hb
      obtain ⟨k, _, h3, _⟩ := hmem e he
      exact h.lie k e h3 b hbe
    · exact h.lie t E h2 b hb

theorem TurnsG.bag {own ro es' : List Ent} {w w' : World} (h : TurnsG own ro es' w w') (hown : es'.all Ent.own = true) : TurnsG own ro [Sx.bag es'] w w' := by
  refine ⟨h.keep, fun e he => ?_, fun e he b hb => ?_, fun i j e e' hne hi hj => ?_⟩
  · rw [List.mem_singleton.1 he]
    exact bag_ok.2 ⟨h.ok, fun i j e e' hij hi hj => h.apart i j e e' hij hi hj (List.all_eq_true.1 hown e (List.mem_of_getElem? hi))⟩
  · rw [List.mem_singleton.1 he] at hb
    obtain ⟨e1, h1, h2⟩ := hb
    rcases h.foot e1 h1 b h2 with h3 | ⟨e0, h3 | ⟨h3, _⟩, h4⟩
    · exact .inl h3
    · exact .inr ⟨e0, .inl h3, h4⟩
    · rw [List.all_eq_true.1 hown e1 h1] at h3; cases h3
  · have h1 := (List.getElem?_eq_some_iff.1 hi).1
    have h2 := (List.getElem?_eq_some_iff.1 hj).1
    simp at h1 h2
    omega

/-! ### A round -/

theorem fold_fits {n : Nat} {env : List (Nat × Value)} : ∀ (l : List (Nat × Value)) (tmps : Array Value), tmps.size = n → (∀ p ∈ l, p.1 < n) → (l.map Prod.fst).Nodup → (∀ t u, look env t = some u → tmps[t]? = some u) →
    (l.foldl (fun tm p => tm.setIfInBounds p.1 p.2) tmps).size = n ∧ ∀ t u, look (l ++ env) t = some u → (l.foldl (fun tm p => tm.setIfInBounds p.1 p.2) tmps)[t]? = some u
  | [], tmps, hs, _, _, h => ⟨hs, h⟩
  | (i, x) :: l, tmps, hs, hb, hnd, h => by
    rw [List.map_cons] at hnd
    obtain ⟨hi, hnd'⟩ := List.nodup_cons.1 hnd
    have hin := hb (i, x) (by simp)
    obtain ⟨h1, h2⟩ := fold_fits (env := (i, x) :: env) l (tmps.setIfInBounds i x) (by simpa using hs) (fun p hp => hb p (List.mem_cons_of_mem _ hp)) hnd' (fun t u ht => by
      simp only [look] at ht
      cases hq : Nat.beq i t with
      | true =>
        rw [hq] at ht
        have := Nat.eq_of_beq_eq_true hq
        subst this
        rw [← hs] at hin
        simp [Array.getElem?_setIfInBounds, hin]
        exact Option.some.inj ht
      | false =>
        rw [hq] at ht
        rw [Array.getElem?_setIfInBounds_ne (fun e => by subst e; simp at hq)]
        exact h t u ht)
    refine ⟨h1, fun t u ht => h2 t u ?_⟩
    have key : ∀ (l : List (Nat × Value)), i ∉ l.map Prod.fst → look (l ++ (i, x) :: env) t = look ((i, x) :: (l ++ env)) t := by
      intro l
      induction l with
      | nil => intro _; rfl
      | cons p l ih =>
        intro hn
        simp only [List.map_cons, List.mem_cons, not_or] at hn
        rw [List.cons_append, List.cons_append]
        obtain ⟨j, y⟩ := p
        simp only [look]
        rw [ih hn.2]
        simp only [look]
        cases hj : Nat.beq j t with
        | true =>
          cases hii : Nat.beq i t with
          | true => exact absurd ((Nat.eq_of_beq_eq_true hii).trans (Nat.eq_of_beq_eq_true hj).symm) hn.1
          | false => rfl
        | false => rfl
    rw [key l hi]
    exact ht

theorem YieldG.of_round {P : Program} {X : Type} {n l D f : Nat} {tmps args : Array Value} {ps : Array Tmp} {assign body : Code} {env : List (Nat × Value)} {v : X → Value} {es : List Ent} {own ro : List Ent} {es' : X → List Ent}
    (hsz : tmps.size = n) (hslot : ∀ t u, look env t = some u → tmps[t]? = some u) (hps : (ps.toList.all (fun t => Nat.blt t n) && nodupB ps.toList && Nat.beq ps.size args.size) = true)
    (hrec : .obj l (.loop (recOf f tmps ps assign body D none)) ∈ es) (hro : ro.all (fun e => !e.own) = true)
    (h : ∀ w, GS P (roundFrame f l) n w (mayT (bag es :: own) ro) (fun e w' => ∃ x, e = .returned (v x) ∧ TurnsG (bag es :: own) ro (es' x) w w') [.code assign, .beginRound, .code body] (ps.toList.zip args.toList ++ env) (keyed 1 (bag es :: own ++ ro))) :
    YieldG P l args v (bag es :: own) ro es' := by
  intro w hg
  simp only [Bool.and_eq_true] at hps
  obtain ⟨⟨hp1, hp2⟩, hp3⟩ := hps
  have hp3 := Nat.eq_of_beq_eq_true hp3
  have hbag := bag_ok.1 (hg.ok _ (List.mem_cons_self ..))
  have hheap := (hbag.1 _ hrec).1.1
  have hy := run_yield (P := P) (args := args) hheap hp3.symm
  refine ⟨_, _, _, _, hy, round_in ?_⟩
  have hfold : ((ps.zip args).foldl (fun tmps (t, a) => tmps.setIfInBounds t a) tmps) = (ps.toList.zip args.toList).foldl (fun tm p => tm.setIfInBounds p.1 p.2) tmps := by
    rw [← Array.foldl_toList, Array.toList_zip]
  have hzip : ∀ p ∈ ps.toList.zip args.toList, p.1 ∈ ps.toList := fun p hp => (List.of_mem_zip hp).1
  obtain ⟨h1, h2⟩ := fold_fits (env := env) (ps.toList.zip args.toList) tmps hsz (fun p hp => by
    have := List.all_eq_true.1 hp1 p.1 (hzip p hp)
    simpa [Nat.blt_eq] using this) (by
    rw [List.map_fst_zip (by simpa using Nat.le_of_eq hp3)]
    exact nodupB_spec hp2) hslot
  exact h w _ w ⟨by rw [← h1, ← hfold], rfl, fun t u ht => by rw [← h2 t u ht, ← hfold]⟩ (hg.start hro)

/-! ### The statement, by the iterator's contract -/

theorem setAll_nil {es : List Ent} {m : Mem} : setAll m [] es = m := by unfold setAll; rfl

theorem setAll_not {t : Nat} : ∀ (ks : List Nat) (es : List Ent) (m : Mem), t ∉ ks → setAll m ks es t = m t
  | [], es, m, _ => by unfold setAll; rfl
  | k :: ks, [], m, _ => by unfold setAll; rfl
  | k :: ks, e :: es, m, h => by
    simp only [List.mem_cons, not_or] at h
    rw [setAll, setAll_not ks es _ h.2, upd_other _ _ (fun q => h.1 q.symm)]
theorem setAll_at2 {t : Nat} : ∀ (ks : List Nat) (es : List Ent) (m m' : Mem), m t = m' t → setAll m ks es t = setAll m' ks es t
  | [], es, m, m', h => by unfold setAll; exact h
  | k :: ks, [], m, m', h => by unfold setAll; exact h
  | k :: ks, e :: es, m, m', h => by
    rw [setAll, setAll]
    refine setAll_at2 ks es _ _ ?_
    unfold upd
    rw [h]

theorem unbag_mem {w0 w : World} {S : Area} {mem mem' : List (Nat × Ent)} {k : Nat} {es : List Ent} {nk keys : List Nat} (hw : Sat w0 S (look mem) w) (hk : look mem k = some (bag es)) (hown : es.all Ent.own = true) (hnd : nodupB nk = true) (hlen : nk.length = es.length)
    (hmem : memOut keys (setAll (upd (look mem) k none) nk es) = some mem') : Sat w0 S (look mem') w :=
  (hw.unbag hk hown (nodupB_spec hnd) hlen).less (memOut_look keys hmem)

/-- The caller's bag: the block for deferred calls, the loop's record, its entries. -/
@[reducible] def rfBag {τ A : Type} (l D : Nat) (r : Loop) (jump : τ → Option Code) (es : τ → A → List Ent) (t : τ) (a : A) : List Ent :=
  blkD D :: .obj l (.loop { r with state := if (jump t).isNone then .ready else .done, pending := jump t }) :: es t a

section
variable {P : Program} {b : Frame} {n : Nat} {w0 : World} {S : Area} {R : Ending → World → Prop} {k : List Item} {env : List (Nat × Value)} {mem : List (Nat × Ent)}

theorem GS.rangeFuncG {τ A : Type} {g : Operand} {ps : Array Tmp} {assign body : Code} {gf : FuncId} {lb : Array Value} {vv : Value} (kD kl : Nat) (ks keys : List Nat) (es : τ → A → List Ent) (jump : τ → Option Code) (t0 t1 : τ) (a0 : A)
    {mem' : A → List (Nat × Ent)} {RL itro : List Ent}
    (hro : b.roundOf = none) (hkn : knows (look env) g = true) (hg : val (look env) g = .func (.func gf) #[] lb) (eg : ∀ args w, (callFunc gf args).run P w = .ok (.enter gf args) w)
    (hfr : (Nat.beq kD kl) = false ∧ look mem kD = none ∧ look mem kl = none) (hfk : (ks.contains kD || ks.contains kl) = false) (hfr' : ∀ a, look (mem' a) kD = none ∧ look (mem' a) kl = none)
    (hps : (ps.toList.all (fun t => Nat.blt t n) && nodupB ps.toList) = true) (hj0 : jump t0 = none)
    (hm : ks.map (look mem) = (es t0 a0).map some) (hnd : nodupB ks = true) (hown : ∀ t a, (es t a).all Ent.own = true) (hlen : ∀ a, ks.length = (es t1 a).length)
    (hr : RoAll (look mem) ks false (itro ++ [Ent.all RL]))
    (hmem : ∀ a, memOut keys (setAll (dropKs (look mem) ks) ks (es t1 a)) = some (mem' a))
    (hit : ∀ (l D : Nat) (r : Loop),
      (∀ {X : Type} (t : τ) (a : A) (args : Array Value) (v : X → Value) (own' : List Ent) (es' : X → List Ent), jump t = none → Nat.beq ps.size args.size = true →
        (∀ w, GS P (roundFrame b.fn l) n w (mayT (bag (rfBag l D r jump es t a) :: own') [Ent.all RL]) (fun e w' => ∃ x, e = .returned (v x) ∧ TurnsG (bag (rfBag l D r jump es t a) :: own') [Ent.all RL] (es' x) w w')
          [.code assign, .beginRound, .code body] (ps.toList.zip args.toList ++ env) (keyed 1 (bag (rfBag l D r jump es t a) :: own' ++ [Ent.all RL]))) →
        YieldG P l args v (bag (rfBag l D r jump es t a) :: own') [Ent.all RL] es') →
      CallG P gf (#[.func (.yield l) #[] #[]] ++ lb) (fun _ : A => vv) [bag (rfBag l D r jump es t0 a0)] (itro ++ [Ent.all RL]) (fun a => [bag (rfBag l D r jump es t1 a)]))
    (h : ∀ D a, GS P { b with defers := mark D :: b.defers } n w0 S R (((jump t1).map Item.code).toList ++ k) env (mem' a ++ [(kD, blkD D)])) : GS P b n w0 S R (.code (.rangeFunc g ps assign body) :: k) env mem := by
  have hne : kD ≠ kl := fun e => by rw [e] at hfr; simp at hfr
  have hkD : kD ∉ ks := fun q => by rw [List.contains_iff_mem.2 q] at hfk; cases hfk
  have hkl : kl ∉ ks := fun q => by rw [List.contains_iff_mem.2 q, Bool.or_true] at hfk; cases hfk
  refine GS.rangeFunc (X := A) (jump := fun _ => jump t1) (mem' := mem') kD kl hro hkn hg eg hfr hfr' (fun tmps D w hsz hslot hs => ?_) (fun D a => h D a)
  obtain ⟨r, hrd⟩ : ∃ r, recOf b.fn tmps ps assign body D none = r := ⟨_, rfl⟩
  have hrec : ∀ t, ({ r with state := if (jump t).isNone then .ready else .done, pending := jump t } : Loop) = recOf b.fn tmps ps assign body D (jump t) := fun t => by rw [← hrd]
  have hyG : ∀ {X : Type} (t : τ) (a : A) (args : Array Value) (v : X → Value) (own' : List Ent) (es' : X → List Ent), jump t = none → Nat.beq ps.size args.size = true →
        (∀ w, GS P (roundFrame b.fn (D + 1)) n w (mayT (bag (rfBag (D + 1) D r jump es t a) :: own') [Ent.all RL]) (fun e w' => ∃ x, e = .returned (v x) ∧ TurnsG (bag (rfBag (D + 1) D r jump es t a) :: own') [Ent.all RL] (es' x) w w')
          [.code assign, .beginRound, .code body] (ps.toList.zip args.toList ++ env) (keyed 1 (bag (rfBag (D + 1) D r jump es t a) :: own' ++ [Ent.all RL]))) →
        YieldG P (D + 1) args v (bag (rfBag (D + 1) D r jump es t a) :: own') [Ent.all RL] es' := fun t a args v own' es' hj ha hgs =>
    YieldG.of_round (f := b.fn) (D := D) (assign := assign) (body := body) (ps := ps) (tmps := tmps) hsz hslot (by rw [hps, ha]; rfl)
      (List.mem_cons_of_mem _ (by rw [hrec t, hj]; exact List.mem_cons_self ..)) rfl hgs
  have hc := hit (D + 1) D r hyG
  have hkl1 : look (mem ++ [(kD, blkD D)]) kl = none := by rw [look_snoc_upd hfr.2.1, upd_other _ _ hne]; exact hfr.2.2
  have hlook : ∀ t, look (mem ++ [(kD, blkD D)] ++ [(kl, .obj (D + 1) (.loop (recOf b.fn tmps ps assign body D none)))]) t = if t = kl then some (.obj (D + 1) (.loop (recOf b.fn tmps ps assign body D none))) else if t = kD then some (blkD D) else look mem t := fun t => by
    rw [look_snoc_upd hkl1, look_snoc_upd hfr.2.1]
    by_cases h1 : t = kl
    · subst h1; rw [upd_same, if_pos rfl]
    · rw [upd_other _ _ (fun q => h1 q.symm), if_neg h1]
      by_cases h2 : t = kD
      · subst h2; rw [upd_same, if_pos rfl]
      · rw [upd_other _ _ (fun q => h2 q.symm), if_neg h2]
  have hm1 : (kD :: kl :: ks).map (look (mem ++ [(kD, blkD D)] ++ [(kl, .obj (D + 1) (.loop (recOf b.fn tmps ps assign body D none)))])) = (rfBag (D + 1) D r jump es t0 a0).map some := by
    rw [List.map_cons, List.map_cons, hlook kD, hlook kl, if_neg hne, if_pos rfl, if_pos rfl, List.map_cons, List.map_cons, hrec t0, hj0, ← hm]
    congr 2
    refine List.map_congr_left fun q hq => ?_
    rw [hlook q, if_neg (show ¬ (q = kl) from fun e => hkl (e ▸ hq)), if_neg (show ¬ (q = kD) from fun e => hkD (e ▸ hq))]
  have hndA : (kD :: kl :: ks).Nodup := List.nodup_cons.2 ⟨by simp [hne, hkD], List.nodup_cons.2 ⟨hkl, nodupB_spec hnd⟩⟩
  have hownB : ∀ t a, (rfBag (D + 1) D r jump es t a).all Ent.own = true := fun t a => by
    show (Ent.own _ && (Ent.own _ && (es t a).all Ent.own)) = true
    rw [hown t a]; rfl
  have hb := hs.bag (K := kD) hndA hm1 (hownB t0 a0)
  have hro1 : RoAll (upd (dropKs (look (mem ++ [(kD, blkD D)] ++ [(kl, .obj (D + 1) (.loop (recOf b.fn tmps ps assign body D none)))])) (kD :: kl :: ks)) kD (some (bag (rfBag (D + 1) D r jump es t0 a0)))) [kD] false (itro ++ [Ent.all RL]) := by
    revert hr
    generalize itro ++ [Ent.all RL] = ro
    induction ro with
    | nil => intro _; trivial
    | cons e ro ih =>
      intro hq
      refine ⟨?_, ih hq.2⟩
      rcases hq.1 with ⟨q, E, q1, q2, q3, q4⟩ | q
      · have n1 : q ≠ kD := fun e => by rw [e, hfr.2.1] at q1; cases q1
        have n2 : q ≠ kl := fun e => by rw [e, hfr.2.2] at q1; cases q1
        refine .inl ⟨q, E, ?_, by simp [n1], q3, q4⟩
        rw [upd_other _ _ (fun e => n1 e.symm)]
        unfold dropKs
        have : (kD :: kl :: ks).contains q = false := by
          rw [List.contains_cons, List.contains_cons, q2]
          simp [n1, n2]
        rw [this]
        simp only []
        rw [hlook q, if_neg n2, if_neg n1]
        exact q1
      · exact .inr q
  have hm2 : [kD].map (upd (dropKs (look (mem ++ [(kD, blkD D)] ++ [(kl, .obj (D + 1) (.loop (recOf b.fn tmps ps assign body D none)))])) (kD :: kl :: ks)) kD (some (bag (rfBag (D + 1) D r jump es t0 a0)))) = [bag (rfBag (D + 1) D r jump es t0 a0)].map some := by
    rw [List.map_singleton, upd_same]; rfl
  have hgood : GoodG [bag (rfBag (D + 1) D r jump es t0 a0)] (itro ++ [Ent.all RL]) w := hb.goodG (ks := [kD]) (by simp) hm2 rfl hro1
  refine (hc w hgood).mono fun e w' ⟨a, he, ht⟩ => ⟨a, vv, he, ?_⟩
  have h3 := hb.turnsG (ks := [kD]) (nk := [kD]) (al := false) (by simp) hm2 rfl rfl hro1 (fun _ => rfl) ht
  have hat : setAll (dropKs (upd (dropKs (look (mem ++ [(kD, blkD D)] ++ [(kl, .obj (D + 1) (.loop (recOf b.fn tmps ps assign body D none)))])) (kD :: kl :: ks)) kD (some (bag (rfBag (D + 1) D r jump es t0 a0)))) [kD]) [kD] [bag (rfBag (D + 1) D r jump es t1 a)] kD = some (bag (rfBag (D + 1) D r jump es t1 a)) := by
    rw [setAll, setAll_nil, upd_same]
  have h4 := h3.unbag hat (hownB t1 a) (nk := kD :: kl :: ks) hndA (by rw [List.length_cons, List.length_cons, hlen a]; rfl)
  refine h4.less fun t e ht => ?_
  have hx := hfr' a
  have hklx : look (mem' a ++ [(kD, blkD D)]) kl = none := by rw [look_snoc_upd hx.1, upd_other _ _ hne]; exact hx.2
  rw [look_snoc_upd hklx, look_snoc_upd hx.1] at ht
  show setAll _ (kD :: kl :: ks) (rfBag (D + 1) D r jump es t1 a) t = some e
  rw [setAll, setAll]
  by_cases c1 : kl = t
  · subst c1
    rw [upd_same] at ht
    rw [setAll_not ks _ _ hkl, upd_same, hrec t1]
    exact ht
  · rw [upd_other _ _ c1] at ht
    by_cases c2 : kD = t
    · subst c2
      rw [upd_same] at ht
      rw [setAll_not ks _ _ hkD, upd_other _ _ c1, upd_same]
      exact ht
    · rw [upd_other _ _ c2] at ht
      rw [← memOut_look keys (hmem a) t e ht]
      refine setAll_at2 ks _ _ _ ?_
      rw [upd_other _ _ c1, upd_other _ _ c2, upd_other _ _ c2, setAll, setAll_nil, upd_other _ _ c2]
      unfold dropKs
      rw [show ([kD].contains t) = false by simp; exact fun q => c2 q.symm]
      simp only []
      rw [upd_other _ _ c2]
      have hcc : (kD :: kl :: ks).contains t = ks.contains t := by
        rw [List.contains_cons, List.contains_cons]
        have e1 : (t == kD) = false := by simp; exact fun q => c2 q.symm
        have e2 : (t == kl) = false := by simp; exact fun q => c1 q.symm
        rw [e1, e2]; rfl
      rw [hcc, hlook t, if_neg (fun q => c1 q.symm), if_neg (fun q => c2 q.symm)]
end

/-! ### Several read entries as one; what comes behind the statement -/

theorem addAll_aux {es : List Ent} {ks : List Nat} {m : Mem} (hm : ks.map m = es.map some) {e : Ent} (he : e ∈ es) : ∃ k, m k = some e := by
  obtain ⟨i, hi⟩ := List.getElem?_of_mem he
  have h1 : (ks.map m)[i]? = some (some e) := by rw [hm]; simp [hi]
  rw [List.getElem?_map] at h1
  cases hk : ks[i]? with
  | none => simp [hk] at h1
  | some k => simp [hk] at h1; exact ⟨k, h1⟩

theorem Sat.addAll {w0 w : World} {S : Area} {mem mem' : List (Nat × Ent)} {es : List Ent} {k : Nat} (h : Sat w0 S (look mem) w) (ks : List Nat) (hks : ks.map (look mem) = es.map some) (hro : es.all (fun e => !e.own) = true)
    (hm : mem' = mem ++ [(k, Ent.all es)]) : Sat w0 S (look mem') w := by
  subst hm
  have hno : ∀ e ∈ es, e.own = false := fun e he => by
    have := List.all_eq_true.1 hro e he
    simpa using this
  have happ : ∀ (t : Nat) (e : Ent), look (mem ++ [(k, Ent.all es)]) t = some e → look mem t = some e ∨ e = Ent.all es := by
    intro t e he
    rw [look_snoc] at he
    split at he
    · rename_i x hx; rw [hx]; exact .inl he
    · split at he
      · exact .inr (Option.some.inj he).symm
      · cases he
  refine ⟨h.keep, fun t x he => ?_, fun t x he ho b hb => ?_, fun t t' x x' hn he he' ho b hb hb' => ?_, fun t x he b hb => ?_⟩
  · rcases happ t x he with h1 | rfl
    · exact h.ok t x h1
    · exact Ent.all_ok fun e he => (addAll_aux hks he).elim fun q hq => h.ok q e hq
  · rcases happ t x he with h1 | rfl
    · exact h.mine t x h1 ho b hb
    · cases ho
  · rcases happ t x he with h1 | rfl
    · rcases happ t' x' he' with h2 | rfl
      · exact h.apart t t' x x' hn h1 h2 ho b hb hb'
      · obtain ⟨e, he2, hbe⟩ := hb'
        obtain ⟨q, hq⟩ := addAll_aux hks he2
        have hqt : t ≠ q := fun eq => by
          rw [eq, hq] at h1
          have h3 := Option.some.inj h1
          rw [← h3, hno e he2] at ho
          cases ho
        exact h.apart t q x e hqt h1 hq ho b hb hbe
    · cases ho
  · rcases happ t x he with h1 | rfl
    · exact h.lie t x h1 b hb
    · obtain ⟨e, he2, hbe⟩ := hb
      obtain ⟨q, hq⟩ := addAll_aux hks he2
      exact h.lie q e hq b hbe

@[reducible] def recRd (r : Loop) : Loop := { r with state := .ready, pending := none }
@[reducible] def recBz (r : Loop) : Loop := { r with state := .busy, pending := none }
@[reducible] def recJ (r : Loop) (c : Code) : Loop := { r with state := .done, pending := some c }

section
variable {P : Program} {b : Frame} {n : Nat} {w0 : World} {S : Area} {R : Ending → World → Prop} {k : List Item} {env : List (Nat × Value)} {mem : List (Nat × Ent)}
theorem GS.jmp0 {c : Bool} {x : Option Code} (hc : c = true) (h : GS P b n w0 S R k env mem) : GS P b n w0 S R (((bif c then none else x).map Item.code).toList ++ k) env mem := by
  subst hc; exact h
theorem GS.jmpS {c : Bool} {o x : Option Code} (hc : c = false) (h : GS P b n w0 S R ((x.map Item.code).toList ++ k) env mem) : GS P b n w0 S R (((bif c then o else x).map Item.code).toList ++ k) env mem := by
  subst hc; exact h
theorem GS.jmp1 {c : Bool} {code : Code} {x : Option Code} (hc : c = true) (h : GS P b n w0 S R (.code code :: k) env mem) : GS P b n w0 S R (((bif c then some code else x).map Item.code).toList ++ k) env mem := by
  subst hc; exact h
theorem GS.jmpL {code : Code} (h : GS P b n w0 S R (.code code :: k) env mem) : GS P b n w0 S R (((some code).map Item.code).toList ++ k) env mem := h
theorem GS.cutJ {ι : Type} (I : ι → Prop) (E : ι → List (Nat × Value)) (M : ι → List (Nat × Ent)) {its : List Item}
    (h2 : ∀ x, I x → GS P b n w0 S R k (E x) (M x)) (h1 : (∀ x, I x → GS P b n w0 S R k (E x) (M x)) → GS P b n w0 S R (its ++ k) env mem) : GS P b n w0 S R (its ++ k) env mem := h1 h2
theorem GS.jmpN (h : GS P b n w0 S R k env mem) : GS P b n w0 S R ((((none : Option Code)).map Item.code).toList ++ k) env mem := h
end

end Sx
