/-
  Models, part 12: operations whose run a lemma tells; append of zeros, copy within one slice, a row behind a slice's end, slices.overlaps of two own slices.
-/
import Derived.Test.YtmoaiokgbjkaaaaGxk
import Derived.Laws.Externs
import Derived.Lib.Overlaps
set_option linter.unusedVariables false
set_option linter.unusedSimpArgs false
set_option maxRecDepth 100000
namespace Sx
open Go Go.RowKit

section
variable {P : Program} {b : Frame} {n : Nat} {w0 : World} {S : Area} {R : Ending → World → Prop} {k : List Item} {env : List (Nat × Value)} {mem : List (Nat × Ent)} {ops : Array Oper}

/-- What is asked of the operation's place. -/
def locOK (n : Nat) (ops : Array Oper) (env : List (Nat × Value)) (i : Nat) : Bool :=
  dstIn n (ops.getD i default).dst && notSelect (ops.getD i default).op && ((ops.getD i default).op.operands.toList.all (knows (look env))) && (match wantedS ops (look env) (ops.getD i default) with | some b => b | none => false)

/-- One operation, whose run is told. -/
theorem GR.prim {X : Type} {i : Nat} {v : X → Value} {mem' : X → List (Nat × Ent)} {env' : X → List (Nat × Value)} (live : List Nat) (hi : Nat.blt i ops.size = true) (hloc : locOK n ops env i = true)
    (hrun : ∀ w, Sat w0 S (look mem) w → ∃ x w', (execOp (val (look env)) (ops.getD i default)).run P w = .ok (.value (v x)) w' ∧ Sat w0 S (look (mem' x)) w')
    (henv : ∀ x, envOut live (put (look env) (ops.getD i default).dst (v x)) = some (env' x))
    (h : ∀ x, GR P b n w0 S R ops (i + 1) k (env' x) (mem' x)) : GR P b n w0 S R ops i k env mem := by
  simp only [locOK, Bool.and_eq_true] at hloc
  obtain ⟨⟨⟨h1, h2⟩, h3⟩, h4⟩ := hloc
  have hlt : i < ops.size := by simpa [Nat.blt_eq] using hi
  have ho : ops[i]? = some (ops.getD i default) := by
    rw [Array.getD, dif_pos hlt, Array.getElem?_eq_getElem hlt]; rfl
  have hwt : wantedS ops (look env) (ops.getD i default) = some true := by
    cases hw : wantedS ops (look env) (ops.getD i default) with
    | none => rw [hw] at h4; simp at h4
    | some b => rw [hw] at h4; simp at h4; rw [h4]
  intro a w hf hw
  have hσ : execOp a.eval (ops.getD i default) = execOp (val (look env)) (ops.getD i default) := execOp_congr _ (fun cs b hc => by rw [hc] at h2; simp [notSelect] at h2) fun x hx => hf.eval (List.all_eq_true.1 h3 x (by simpa using hx))
  rw [show ops.size - i = (ops.size - (i + 1)) + 1 by omega, List.range'_succ, wpOpsIn_cons]
  unfold wpOpIn
  simp only [ho, wantedS_sound hf hwt, if_true]
  refine wp_in (fun c hc => by rw [hc] at h2; cases h2) ?_
  obtain ⟨x, w', hr, hs⟩ := hrun w hw
  unfold Oper.wp
  rw [hσ, hr, Oper.upon_value]
  refine h x _ w' ?_ hs
  exact (hf.put (fun t ht => by rw [ht] at h1; simpa [dstIn] using h1) (v x)).less (envOut_look live (henv x))

theorem GA.prim {X : Type} {i m : Nat} {listed : Array Bool} {v : X → Value} {mem' : X → List (Nat × Ent)} {env' : X → List (Nat × Value)} (live : List Nat)
    (hrd : (Region.ready .any ops listed == [i]) = true) (hi : Nat.blt i ops.size = true) (hloc : locOK n ops env i = true)
    (hrun : ∀ w, Sat w0 S (look mem) w → ∃ x w', (execOp (val (look env)) (ops.getD i default)).run P w = .ok (.value (v x)) w' ∧ Sat w0 S (look (mem' x)) w')
    (henv : ∀ x, envOut live (put (look env) (ops.getD i default).dst (v x)) = some (env' x))
    (h : ∀ x, GA P b n w0 S R ops m (listed.setIfInBounds i true) k (env' x) (mem' x)) : GA P b n w0 S R ops (m + 1) listed k env mem := by
  simp only [locOK, Bool.and_eq_true] at hloc
  obtain ⟨⟨⟨h1, h2⟩, h3⟩, h4⟩ := hloc
  have hlt : i < ops.size := by simpa [Nat.blt_eq] using hi
  have ho : ops[i]? = some (ops.getD i default) := by
    rw [Array.getD, dif_pos hlt, Array.getElem?_eq_getElem hlt]; rfl
  have hwt : wantedS ops (look env) (ops.getD i default) = some true := by
    cases hw : wantedS ops (look env) (ops.getD i default) with
    | none => rw [hw] at h4; simp at h4
    | some b => rw [hw] at h4; simp at h4; rw [h4]
  have hready : Region.ready .any ops listed = [i] := eq_of_beq hrd
  intro a w hf hw
  refine ⟨fun e => (by rw [hready] at e; cases e), fun j hj => ?_⟩
  rw [hready] at hj
  obtain rfl := List.mem_singleton.1 hj
  have hσ : execOp a.eval (ops.getD j default) = execOp (val (look env)) (ops.getD j default) := execOp_congr _ (fun cs b hc => by rw [hc] at h2; simp [notSelect] at h2) fun x hx => hf.eval (List.all_eq_true.1 h3 x (by simpa using hx))
  unfold wpOpIn
  simp only [ho, wantedS_sound hf hwt, if_true]
  refine wp_in (fun c hc => by rw [hc] at h2; cases h2) ?_
  obtain ⟨x, w', hr, hs⟩ := hrun w hw
  unfold Oper.wp
  rw [hσ, hr, Oper.upon_value]
  refine h x _ w' ?_ hs
  exact (hf.put (fun t ht => by rw [ht] at h1; simpa [dstIn] using h1) (v x)).less (envOut_look live (henv x))

theorem GS.setMemE {X : Type} {mem' : X → List (Nat × Ent)} (hm : ∀ w, Sat w0 S (look mem) w → ∃ x, Sat w0 S (look (mem' x)) w) (h : ∀ x, GS P b n w0 S R k env (mem' x)) : GS P b n w0 S R k env mem :=
  fun a w hf hw => (hm w hw).elim fun x hx => h x a w hf hx
end

theorem exec_append {P : Program} {σ : Operand → Value} {o : Oper} {s y : Operand} {st yt : TypeId} {v : Value} {w w' : World} (hop : o.op = .call ⟨.builtin .append, #[s, y], #[st, yt]⟩)
    (hr : (Builtin.append_ #[st, yt] o.type #[σ s, σ y]).run P w = .ok v w') : (execOp σ o).run P w = .ok (.value v) w' := by
  simp [execOp, hop, resolve, invoke, builtin, hr]
theorem exec_copy {P : Program} {σ : Operand → Value} {o : Oper} {s y : Operand} {st yt : TypeId} {v : Value} {w w' : World} (hop : o.op = .call ⟨.builtin .copy, #[s, y], #[st, yt]⟩)
    (hr : (Builtin.copy_ #[st, yt] o.type #[σ s, σ y]).run P w = .ok v w') : (execOp σ o).run P w = .ok (.value v) w' := by
  simp [execOp, hop, resolve, invoke, builtin, hr]

/-! ### append of zeros -/

theorem zeroCells_rep (c : Array Value) : ∀ m, (Builtin.zeroCells c m).toList = (List.replicate m c.toList).flatten := by
  intro m
  have h0 : ∀ k, (Builtin.zeroCells c k).toList = (List.range (k * c.size)).map fun i => c[i % c.size]! := fun k => by simp [Builtin.zeroCells]
  induction m with
  | zero => rw [h0]; simp
  | succ m ih =>
    rw [h0] at ih ⊢
    rw [List.replicate_succ', List.flatten_append, ← ih, Nat.succ_mul, List.range_add, List.map_append]
    congr 1
    rw [List.map_map]
    refine List.ext_getElem (by simp) fun i h1 h2 => ?_
    simp only [List.length_map, List.length_range] at h1
    simp [Nat.mul_add_mod_of_lt h1, Nat.mod_eq_of_lt h1, h1]

theorem run_appendZ {P : Program} {st yt ty elem : TypeId} {kn ki : IntKind} {ob : Option Addr} {cap m : Nat} {rows : List (List Value)} {sz by_ : Nat} {z : List Value} {w : World}
    (hu : P.underlying st = some (.slice elem)) (hyt : P.underlying yt = some (.int kn)) (hs : sizeOfT P elem = some sz) (hb : bytesT P elem = some by_) (hz : zeroT P elem = some z) (hzl : z.length = sz) (hsz1 : 1 ≤ sz) (hby : by_ ≤ 1000000)
    (hmine : rows ≠ [] → ∃ a, ob = some a ∧ a.spot = none ∧ RowsAt w a sz rows) (hm : 1 ≤ m) (hfit : cap < rows.length + m) (hroom : (rows.length + m) * (by_ + 1) ≤ 70368744177664) :
    ∃ (ob' : Option Addr) (cap' : Nat) (w' : World), (Builtin.append_ #[st, yt] ty #[.slice ob rows.length cap, .int ki (m : Int)]).run P w = .ok (.slice ob' (rows.length + m) cap') w' ∧
      Eff none (some (.osl ob' cap' elem sz (rows ++ List.replicate m z))) w w' := by
  obtain ⟨inf, hinf, hib⟩ := run_bytesT hb w
  have hinf' : ∀ w, (typeInfo elem).run P w = .ok inf w := fun w => by
    cases hi : P.info? elem with
    | none => simp [bytesT, hi] at hb
    | some i =>
      have h2 : ∀ w0 : World, (typeInfo elem).run P w0 = .ok i w0 := fun w0 => by simp [typeInfo, hi]
      have h3 := hinf
      rw [h2] at h3
      simp only [Result.ok.injEq, and_true] at h3
      subst h3
      exact h2 w
  have hneed : rows.length + m ≤ 70368744177664 := by
    have := Nat.le_mul_of_pos_right (rows.length + m) (show 0 < by_ + 1 by omega)
    omega
  have hrl : ∀ r ∈ rows, r.length = sz := fun r hr => by
    obtain ⟨a, _, _, hR⟩ := hmine (fun e => by rw [e] at hr; cases hr)
    exact hR.lens r hr
  have hcap : ¬ rows.length + m ≤ cap := by omega
  have hns := nextslicecap_le (rows.length + m) cap hfit
  have h3 : (rows.length + m) * by_ ≤ (rows.length + m) * (by_ + 1) := Nat.mul_le_mul_left _ (by omega)
  have hlim : ¬ (Builtin.nextslicecap (rows.length + m) cap * inf.bytes > 2 ^ 48) := by
    rw [hib]
    have h1 : Builtin.nextslicecap (rows.length + m) cap * by_ ≤ (2 * (rows.length + m) + 200) * by_ := Nat.mul_le_mul_right _ hns
    have h2 : (2 * (rows.length + m) + 200) * by_ = 2 * ((rows.length + m) * by_) + 200 * by_ := by rw [Nat.add_mul, Nat.mul_assoc]
    have : (2 : Nat) ^ 48 = 281474976710656 := by decide
    omega
  have hlim0 : ¬ ((m : Int) * (inf.bytes : Int) > 2 ^ 48) := by
    rw [hib]
    have h1 : m * by_ ≤ (rows.length + m) * by_ := Nat.mul_le_mul_right _ (by omega)
    have : (2 : Int) ^ 48 = 281474976710656 := by decide
    rw [this, ← Int.natCast_mul]
    omega
  have hmax : ¬ (((rows.length + m : Nat) : Int) > IntKind.i64.max) := by
    have : IntKind.i64.max = 9223372036854775807 := by decide
    omega
  have hwr : IntKind.i64.wrap (m : Int) = (m : Int) := wrap_i64 (by omega) (by omega)
  have hneg : ¬ ((m : Int) < 0) := by omega
  have hms : ¬ (m * sz = 0) := Nat.mul_ne_zero (by omega) (by omega)
  obtain ⟨zv, hzv, hzc⟩ := run_zeroT hz { w with drawn := w.drawn + 1 }
  have hzs : zv.cells.size = sz := by rw [← hzl, ← hzc]; simp
  let q : Question := .appendCap (rows.length + m) cap elem
  let nc := q.cut (w.tape w.drawn q)
  have hnc : rows.length + m ≤ nc := by
    show rows.length + m ≤ (rows.length + m) + _
    omega
  have hq : (choose (.appendCap (rows.length + m) cap elem)).run P w = .ok nc { w with drawn := w.drawn + 1 } := by
    simp [choose, Sem.run, Question.forced, nc, q]
  have hold : (Builtin.firstCells sz rows.length (.slice ob rows.length cap)).run P { w with drawn := w.drawn + 1 } = .ok rows.flatten.toArray { w with drawn := w.drawn + 1 } := by
    by_cases hc : rows = []
    · rw [hc]
      cases ob <;> simp [Builtin.firstCells, loadCells, loadCellsFrom]
    · obtain ⟨a, rfl, hsp, hR⟩ := hmine hc
      have hl := run_loadCells_list (P := P) { w with drawn := w.drawn + 1 } a rows.flatten (fun j u hj => by
        have := hR.flat j u hj
        obtain ⟨b, o, sp⟩ := a
        simp only at hsp
        subst hsp
        rw [add_plain]
        exact this)
      rw [flatten_len hrl] at hl
      simp only [Builtin.firstCells]
      exact hl
  let new := Builtin.zeroCells zv.cells m
  let rest := Builtin.zeroCells zv.cells (nc - (rows.length + m))
  let arr := rows.flatten.toArray ++ new ++ rest
  have hnew : new.toList = (List.replicate m z).flatten := by rw [← hzc]; exact zeroCells_rep _ _
  have hnl : ∀ r ∈ List.replicate m z, r.length = sz := fun r hr => by rw [List.eq_of_mem_replicate hr]; exact hzl
  have hrest : rest.size = (nc - (rows.length + m)) * sz := by simp [rest, Builtin.zeroCells, hzs]
  have hns2 : new.size = m * sz := by simp [new, Builtin.zeroCells, hzs]
  have hrfl : rows.flatten.length = rows.length * sz := flatten_len hrl
  have harr : arr.size = nc * sz := by
    have e : nc = rows.length + m + (nc - (rows.length + m)) := by omega
    have : nc * sz = rows.length * sz + m * sz + (nc - (rows.length + m)) * sz := by
      rw [← Nat.add_mul, ← Nat.add_mul, ← e]
    simp only [arr, Array.size_append, hrest, hns2, List.size_toArray, hrfl]
    omega
  refine ⟨some ⟨w.heap.size, 0, none⟩, nc, { w with drawn := w.drawn + 1, heap := w.heap.push (.cells arr elem (0, 0)) }, ?_, ⟨?_, ?_, ?_⟩⟩
  · unfold Builtin.append_
    simp only [List.getElem?_toArray, List.getElem?_cons_zero, List.getElem?_cons_succ, Sem.run_bind, run_underlying hu, run_underlying hyt, Result.andThen_ok, run_sizeT hs, Sem.run_pure, if_true, asInt, asIntOf, hwr, hneg, if_false, hinf', hlim0, Int.toNat_natCast, hcap, hmax, false_and, hlim, hq, run_askRoom, hold, Bool.not_true, Bool.false_eq_true, hms, hzv, newRow, run_newObj]
    rfl
  · refine ⟨rfl, rfl, rfl, ?_, fun b hb _ => ?_⟩
    · show w.heap.size ≤ (w.heap.push _).size
      simp
    · show (w.heap.push _)[b]? = _
      rw [Array.getElem?_push, if_neg (by omega)]
  · intro E hE
    cases hE
    have hrow : RowIn { w with drawn := w.drawn + 1, heap := w.heap.push (.cells arr elem (0, 0)) } w.heap.size arr elem :=
      ⟨0, 0, by show (w.heap.push _)[w.heap.size]? = _; simp, Nat.le_refl _, (fun i _ h => by omega), .inl rfl⟩
    refine ⟨⟨by simp only [List.length_append, List.length_replicate]; exact hnc, fun _ => ⟨_, arr, rfl, rfl, hrow, by simp [harr], ?_⟩⟩, fun b hb => ?_⟩
    · refine RowsAt.of_flat rfl (fun r hr => ?_) fun j u hj => ?_
      · rcases List.mem_append.1 hr with h | h
        · exact hrl r h
        · exact hnl r h
      · rw [hrow.cell]
        rw [List.flatten_append, ← hnew] at hj
        have hjl : j < (rows.flatten ++ new.toList).length := by
          rcases Nat.lt_or_ge j (rows.flatten ++ new.toList).length with h | h
          · exact h
          · rw [List.getElem?_eq_none h] at hj; cases hj
        simp only [Nat.zero_add]
        have e : arr.toList = (rows.flatten ++ new.toList) ++ rest.toList := by simp [arr]
        rw [← Array.getElem?_toList, e, List.getElem?_append_left hjl]
        exact hj
    · have : b = w.heap.size := hb.2
      subst this
      show w.heap.size < (w.heap.push _).size
      simp
  · intro E hE b hb
    cases hE
    exact .inl (Nat.le_of_eq (Eq.symm hb.2))

/-! ### copy within an own slice -/

theorem run_copySelf {P : Program} {st yt ty elem : TypeId} {ob : Option Addr} {cap T sz l j dc sc : Nat} {rows : List (List Value)} {w : World} (hu : P.underlying st = some (.slice elem)) (hs : sizeOfT P elem = some sz)
    (he : (Ent.osl ob cap T sz rows).ok w) (hl : l < rows.length) (hj : j ≤ l) (hone : ((rows.drop j).take (rows.length - l)).flatten.all Value.oneCell' = true) :
    ∃ w', (Builtin.copy_ #[st, yt] ty #[.slice (cutOb ob l cap sz) (rows.length - l) dc, .slice (cutOb ob j cap sz) (rows.length - j) sc]).run P w = .ok (.int .i64 ((rows.length - l : Nat) : Int)) w' ∧
      Eff (some (.osl ob cap T sz rows)) (some (.osl ob cap T sz (rows.take l ++ (rows.drop j).take (rows.length - l)))) w w' := by
  have hok := he.1
  have hcap : cap ≠ 0 := by have := hok.1; omega
  obtain ⟨a, arr, rfl, hsp, hrow, hsize, hR⟩ := hok.2 hcap
  obtain ⟨ab, ao, asp⟩ := a
  simp only at hsp hrow hsize
  subst hsp
  have hcl : cap ≠ l := by have := hok.1; omega
  have hcj : cap ≠ j := by have := hok.1; omega
  have hcut : cutOb (some ⟨ab, ao, none⟩) l cap sz = some ⟨ab, ao + l * sz, none⟩ := by unfold cutOb; rw [if_neg hcl, Option.map_some, add_plain]
  have hcut2 : cutOb (some ⟨ab, ao, none⟩) j cap sz = some ⟨ab, ao + j * sz, none⟩ := by unfold cutOb; rw [if_neg hcj, Option.map_some, add_plain]
  generalize hsrc : (rows.drop j).take (rows.length - l) = src at hone ⊢
  have hsl : src.length = rows.length - l := by rw [← hsrc]; simp; omega
  have hS : RowsAt w ⟨ab, ao + j * sz, none⟩ sz src := by rw [← hsrc]; exact hR.cut
  have hfl : src.flatten.length = src.length * sz := flatten_len hS.lens
  have hfirst : (Builtin.firstCells sz (rows.length - l) (.slice (some ⟨ab, ao + j * sz, none⟩) (rows.length - j) sc)).run P w = .ok src.flatten.toArray w := by
    have hl := run_loadCells_list (P := P) w ⟨ab, ao + j * sz, none⟩ src.flatten (fun i u hi => by rw [add_plain]; exact hS.flat i u hi)
    rw [hfl, hsl] at hl
    simp only [Builtin.firstCells]
    exact hl
  have hmul : (l + src.length) * sz ≤ cap * sz := Nat.mul_le_mul_right _ (by have := hok.1; omega)
  rw [Nat.add_mul] at hmul
  have hst := run_storeCells_in P ab (ao + l * sz) T src.flatten 0 arr w hrow (by omega) (fun u hu => List.all_eq_true.1 hone u hu)
  simp only [Nat.add_zero] at hst
  have hal : arr.toList.length = arr.size := by simp
  have hrow' := hrow.setRow (arr' := (splice arr.toList (ao + l * sz) src.flatten).toArray) (by simp only [List.size_toArray]; rw [splice_length (by omega)]; exact hal)
  have hmin : Nat.min (rows.length - j) (rows.length - l) = rows.length - l := Nat.min_eq_right (by omega)
  have hlen : (Builtin.lenOf (.slice (some ⟨ab, ao + j * sz, none⟩) (rows.length - j) sc)).run P w = .ok (rows.length - j) w := by simp [Builtin.lenOf]
  refine ⟨w.setRow ab (splice arr.toList (ao + l * sz) src.flatten).toArray, ?_, ?_, ?_, ?_⟩
  · rw [hcut, hcut2]
    simp [Builtin.copy_, run_underlying hu, hlen, run_sizeT hs, hmin, hfirst, hst, goInt]
  · exact setRow_keep.mono fun k _ hk => ⟨_, rfl, rfl, hcap, hk⟩
  · intro E hE
    cases hE
    have hlens : ∀ r ∈ rows.take l ++ src, r.length = sz := fun r hr => by
      rcases List.mem_append.1 hr with h' | h'
      · exact hR.lens r (List.mem_of_mem_take h')
      · exact hS.lens r h'
    have htot : (rows.take l ++ src).length = rows.length := by simp; omega
    refine ⟨⟨by rw [htot]; exact hok.1, fun _ => ⟨_, _, rfl, rfl, hrow', by simp only [List.size_toArray]; rw [splice_length (by omega)]; simpa using hsize, ?_⟩⟩, fun b hb => by simpa using he.2 b hb⟩
    refine RowsAt.of_flat rfl hlens fun i u hi => ?_
    rw [hrow'.cell]
    show (splice arr.toList (ao + l * sz) src.flatten).toArray[ao + i]? = some u
    rw [List.getElem?_toArray, splice_at (by omega)]
    have htk : (rows.take l).flatten.length = l * sz := by
      have := flatten_len (sz := sz) (fun r hr => hR.lens r (List.mem_of_mem_take (i := l) hr))
      rw [this, List.length_take, Nat.min_eq_left (by omega)]
    have hold : ∀ i u, rows.flatten[i]? = some u → arr.toList[ao + i]? = some u := fun i u hi => by
      have := hR.flat i u hi
      rw [hrow.cell] at this
      simpa using this
    rw [List.flatten_append] at hi
    by_cases h1 : i < l * sz
    · rw [List.getElem?_append_left (by omega)] at hi
      rw [if_pos (by omega)]
      refine hold i u ?_
      have e : rows.flatten = (rows.take l).flatten ++ (rows.drop l).flatten := by rw [← List.flatten_append, List.take_append_drop]
      rw [e, List.getElem?_append_left (by omega)]; exact hi
    · rw [List.getElem?_append_right (by omega), htk] at hi
      have h2 : i - l * sz < src.flatten.length := by
        rcases Nat.lt_or_ge (i - l * sz) src.flatten.length with h | h
        · exact h
        · rw [List.getElem?_eq_none h] at hi; cases hi
      rw [if_neg (by omega), if_pos (by omega), ← hi]
      congr 1
      omega
  · intro E hE b hb
    cases hE
    exact .inr ⟨_, rfl, hb, id⟩

/-! ### A row behind the end -/

theorem osl_more {ob : Option Addr} {cap T sz : Nat} {rows : List (List Value)} {w : World} (h : (Ent.osl ob cap T sz rows).ok w) (hr : rows.length < cap) : ∃ r : List Value, (Ent.osl ob cap T sz (rows ++ [r])).ok w := by
  obtain ⟨a, arr, rfl, hsp, hrow, hsize, hR⟩ := h.1.2 (by omega)
  refine ⟨(arr.toList.drop (a.off + rows.length * sz)).take sz, ⟨by simp; omega, fun _ => ⟨a, arr, rfl, hsp, hrow, hsize, ?_⟩⟩, h.2⟩
  intro i r hi
  rcases Nat.lt_or_ge i rows.length with hl | hl
  · rw [List.getElem?_append_left hl] at hi
    exact hR i r hi
  · rw [List.getElem?_append_right hl] at hi
    have h0 : i - rows.length = 0 := by
      rcases Nat.eq_zero_or_pos (i - rows.length) with h | h
      · exact h
      · rw [List.getElem?_eq_none (by simp; omega)] at hi; cases hi
    rw [h0] at hi
    simp only [List.getElem?_cons_zero, Option.some.injEq] at hi
    subst hi
    have hii : i = rows.length := by omega
    subst hii
    have hmul : (rows.length + 1) * sz ≤ cap * sz := Nat.mul_le_mul_right _ (by omega)
    rw [Nat.add_mul, Nat.one_mul] at hmul
    refine ⟨by simp; omega, fun c v hv => ?_⟩
    rw [hrow.cell]
    rw [List.getElem?_take] at hv
    split at hv
    · rw [List.getElem?_drop] at hv
      rw [← Array.getElem?_toList, ← hv]
      congr 1
      omega
    · cases hv

/-! ### slices.overlaps -/

theorem run_apart {P : Program} {f : FuncId} {fn : Func} {tS tR e : TypeId} {w : World} (hf : P.funcs[f]? = some fn) (hname : (fn.name == "runtime.NumGoroutine") = false) (hb : fn.body.isNone = true) (hn : Extern.findNext fn = none)
    (hx : Extern.find fn = some (Extern.SlicesOverlaps.overlaps #[tS, tS] #[tR])) (ht : P.underlying tS = some (.slice e)) {size : Nat} (hz : sizeOfT P e = some size)
    {ob vob : Option Addr} {cap vcap T T' sz l la ca lb cb : Nat} {rows vrows : List (List Value)} (hs1 : 1 ≤ sz) (hT : T' ≠ byteT) (h1 : (Ent.osl ob cap T sz rows).ok w) (h2 : (Ent.osl vob vcap T' sz vrows).ok w) (hc : cap ≠ 0) (hvc : vcap ≠ 0)
    (hap : ∀ b, (Ent.osl ob cap T sz rows).foot b → ¬ (Ent.osl vob vcap T' sz vrows).foot b) :
    (callFunc f #[.slice vob la ca, .slice (cutOb ob l cap sz) lb cb]).run P w = .ok (.value (.bool false)) w := by
  obtain ⟨a, arr, rfl, hsp, hrow, hsize, hR⟩ := h1.1.2 hc
  obtain ⟨v, varr, rfl, hvsp, hvrow, hvsize, hvR⟩ := h2.1.2 hvc
  have hne : v.block ≠ a.block := fun e => hap a.block ⟨hc, rfl⟩ ⟨hvc, e.symm⟩
  have h1c : 1 * 1 ≤ cap * sz := Nat.mul_le_mul (by omega) hs1
  have h2c : 1 * 1 ≤ vcap * sz := Nat.mul_le_mul (by omega) hs1
  have hcut : ∃ a' : Addr, cutOb (some a) l cap sz = some a' ∧ a'.block = a.block := by
    unfold cutOb
    obtain ⟨ab, ao, asp⟩ := a
    simp only at hsp
    subst hsp
    split
    · exact ⟨_, rfl, rfl⟩
    · exact ⟨_, rfl, by show (Addr.add ⟨ab, ao, none⟩ (l * sz)).block = ab; rw [add_plain]⟩
  obtain ⟨a', ha', hblk⟩ := hcut
  have hsh : w.shape? v.block = some (T', varr.size) := by
    obtain ⟨lo, hi, g1, _⟩ := hvrow
    unfold World.shape?; rw [g1]
  have hsh2 : w.shape? a'.block = some (T, arr.size) := by
    obtain ⟨lo, hi, g1, _⟩ := hrow
    unfold World.shape?; rw [hblk, g1]
  have hfr : ∀ o, w.frozen? ⟨v.block, o, none⟩ = false := fun o => by
    obtain ⟨lo, hi, g1, g2, g3, g4⟩ := hvrow
    have := g4.resolve_right hT
    subst this
    simp only [World.frozen?, g1]
    simp
  have hve : v = ⟨v.block, v.off, none⟩ := by cases v; simp only at hvsp; subst hvsp; rfl
  rw [run_callFunc_extern hf hname hb hn hx, ha', Lib.run_overlaps_apart w tS tR e ht size (run_sizeT hz) v a' la ca lb cb (by rw [hblk]; exact hne) _ _ _ _ hsh hsh2 (by omega) (by rw [hve]; exact hfr _) (hfr _)]
  rfl

theorem exec_func {P : Program} {σ : Operand → Value} {o : Oper} {f : FuncId} {x y : Operand} {st yt : TypeId} {v : Value} {w w' : World} (hop : o.op = .call ⟨.value (.func f), #[x, y], #[st, yt]⟩)
    (hσ : σ (.func f) = .func (.func f) #[] #[]) (hr : (callFunc f #[σ x, σ y]).run P w = .ok (.value v) w') : (execOp σ o).run P w = .ok (.value v) w' := by
  simp [execOp, hop, resolve, invoke, hσ, hr, Deferred.ofValue]

/-! ### Regions, in short: what they ask is shown by the way -/
section
variable {P : Program} {b : Frame} {n : Nat} {w0 : World} {S : Area} {R : Ending → World → Prop} {k : List Item} {env : List (Nat × Value)} {mem : List (Nat × Ent)} {ops : Array Oper}
end

end Sx
