/-
  Models, part 15: shorter texts. What an operation turns is told, not the whole state; what is asked is told by its proof.
-/
import Derived.Test.YtjnbkhnebmlilaaGreatGxm
set_option linter.unusedVariables false
set_option linter.unusedSimpArgs false
set_option maxRecDepth 100000
namespace Sx
open Go Go.RowKit

/-- A list of keys in order, with one more. -/
def pu {α : Type} (k : Nat) (x : α) : List (Nat × α) → List (Nat × α)
  | [] => [(k, x)]
  | (j, y) :: r => match Nat.ble k j with
    | true => (match Nat.beq k j with | true => (k, x) :: r | false => (k, x) :: (j, y) :: r)
    | false => (j, y) :: pu k x r
def pus {α : Type} : List (Nat × α) → List (Nat × α) → List (Nat × α)
  | [], l => l
  | (k, x) :: r, l => pus r (pu k x l)
def isin (k : Nat) : List Nat → Bool
  | [] => false
  | j :: r => match Nat.beq k j with | true => true | false => isin k r
def dls {α : Type} (ds : List Nat) : List (Nat × α) → List (Nat × α)
  | [] => []
  | (j, y) :: r => match isin j ds with | true => dls ds r | false => (j, y) :: dls ds r
/-- Without the keys ds, and with ps. -/
def uE {α : Type} (ds : List Nat) (ps l : List (Nat × α)) : List (Nat × α) := pus ps (dls ds l)
def kys {α : Type} : List (Nat × α) → List Nat
  | [] => []
  | (k, _) :: r => k :: kys r
def kpu : Option Nat → Value → List (Nat × Value)
  | none, _ => []
  | some k, v => [(k, v)]
def kzip : List Nat → List Ent → List (Nat × Ent)
  | k :: r, e :: s => (k, e) :: kzip r s
  | _, _ => []
def kdef : List Nat → List (Nat × Ent)
  | k :: r => (k, .rd none 0 []) :: kdef r
  | [] => []

theorem look_pu {α : Type} (k : Nat) (x : α) : ∀ (l : List (Nat × α)) (t : Nat), look (pu k x l) t = if k = t then some x else look l t
  | [], t => by
    simp only [pu, look]
    cases hb : Nat.beq k t with
    | true => have := Nat.eq_of_beq_eq_true hb; simp [this]
    | false => have : k ≠ t := fun h => by subst h; simp at hb
               simp [this]
  | (j, y) :: r, t => by
    simp only [pu]
    cases hle : Nat.ble k j with
    | true =>
      cases hb : Nat.beq k j with
      | true =>
        have := Nat.eq_of_beq_eq_true hb
        subst this
        simp only [look]
        cases hc : Nat.beq k t with
        | true => have := Nat.eq_of_beq_eq_true hc; simp [this]
        | false => have : k ≠ t := fun h => by subst h; simp at hc
                   simp [this]
      | false =>
        simp only [look]
        cases hc : Nat.beq k t with
        | true => have := Nat.eq_of_beq_eq_true hc; simp [this]
        | false => have : k ≠ t := fun h => by subst h; simp at hc
                   simp [this]
    | false =>
      simp only [look, look_pu k x r t]
      cases hc : Nat.beq j t with
      | true =>
        have h1 := Nat.eq_of_beq_eq_true hc
        have : k ≠ t := fun h => by
          subst h; subst h1
          rw [show Nat.ble j j = true from by simp] at hle; cases hle
        simp [this]
      | false => rfl
theorem dls_nil {α : Type} : ∀ l : List (Nat × α), dls [] l = l
  | [] => rfl
  | (_, _) :: r => by simp only [dls, isin, dls_nil r]

/-! ### Entries more, and other ones -/
section
variable {w0 w : World} {S : Area} {mem : List (Nat × Ent)}
theorem Sat.ac (hw : Sat w0 S (look mem) w) (k0 : Nat) (E : Ent) (k : Nat) (e : Ent) (hc : Cov E e) (hk : look mem k0 = some E := by kernel_rfl) (hE : E.own = false := by kernel_rfl) (ho : e.own = false := by kernel_rfl) : Sat w0 S (look (mem ++ [(k, e)])) w :=
  Sat.addCov hw hk hE ho hc rfl
theorem Sat.da (hw : Sat w0 S (look mem) w) (k : Nat) (E e : Ent) (hc : Cov E e) (hk : look mem k = some E := by kernel_rfl) (ho : e.own = false := by kernel_rfl) : Sat w0 S (look (uE [] [(k, e)] mem)) w := by
  have h := hw.down hk hc ho
  have : look (uE [] [(k, e)] mem) = upd (look mem) k (some e) := by
    funext t
    simp only [uE, dls_nil, pus, look_pu, upd]
    cases hb : Nat.beq k t with
    | true => have := Nat.eq_of_beq_eq_true hb; simp [this]
    | false => have : k ≠ t := fun h => by subst h; simp at hb
               simp [this]
  rw [this]; exact h
theorem Sat.ub (hw : Sat w0 S (look mem) w) (k : Nat) (nk : List Nat) (es : List Ent) (hk : look mem k = some (Sx.bag es) := by kernel_rfl) (hown : es.all Ent.own = true := by kernel_rfl) (hnd : nodupB nk = true := by kernel_rfl) (hlen : nk.length = es.length := by kernel_rfl)
    (hmem : memOut (kys (uE [k] (kdef nk) mem)) (setAll (upd (look mem) k none) nk es) = some (uE [k] (kzip nk es) mem) := by kernel_rfl) : Sat w0 S (look (uE [k] (kzip nk es) mem)) w :=
  unbag_mem hw hk hown hnd hlen hmem
theorem Sat.oc (hw : Sat w0 S (look mem) w) (K : Nat) (e0 : Ent) (K2 : Nat) (e1 : Ent) (hc : Cov e0 e1) (hk : look mem K = some e0 := by kernel_rfl) (ho : e0.own = true := by kernel_rfl)
    (hmem : memOut (kys (uE [K] [(K2, e1)] mem)) (upd (dropKs (look mem) [K]) K2 (some e1)) = some (uE [K] [(K2, e1)] mem) := by kernel_rfl) : Sat w0 S (look (uE [K] [(K2, e1)] mem)) w :=
  own_cov _ hw hk ho hc hmem
theorem Sat.af (hw : Sat w0 S (look mem) w) (k : Nat) {p : Prop} (hp : p) : Sat w0 S (look (mem ++ [(k, Ent.fact p)])) w := Sat.addFact hw rfl hp
theorem Sat.aa (hw : Sat w0 S (look mem) w) (ks : List Nat) (es : List Ent) (k : Nat) (hks : ks.map (look mem) = es.map some := by kernel_rfl) (hro : es.all (fun e => !e.own) = true := by kernel_rfl) : Sat w0 S (look (mem ++ [(k, Ent.all es)])) w :=
  Sat.addAll hw ks hks hro rfl
theorem Sat.ae (hw : Sat w0 S (look mem) w) (k : Nat) (e : Ent) (hE : Emp e) : Sat w0 S (look (mem ++ [(k, e)])) w := Sat.addEmp hw hE rfl
end

/-- Something, and why it holds. -/
structure Q where
  {p : Prop}
  h : p
abbrev qE {α : Type} (a : α) : Q := ⟨(rfl : a = a)⟩
def qps : List Q → List Prop
  | [] => []
  | x :: r => x.p :: qps r
theorem qps_all : ∀ l : List Q, All (qps l)
  | [] => trivial
  | x :: r => ⟨x.h, qps_all r⟩

abbrev hL (k i c : Nat) : Hint := { act := .load k i c [] }
abbrev hR (k i c : Nat) (r : List Value) : Hint := { act := .load k i c r }
abbrev hS (k : Nat) : Hint := { act := .store 0 0 [], key := some k }
abbrev hN (k : Nat) : Hint := { act := .new .var, key := some k }
abbrev hP (v : Value) : Hint := { sp := some v }
abbrev hC (ks : List Nat) (v : Value) : Hint := { act := .call ks v }
abbrev hA (d : Do) : Hint := { act := d }
abbrev hK (d : Do) (k : Nat) : Hint := { act := d, key := some k }

theorem osl_len {α : Type} {ob : Option Addr} {cap T sz : Nat} {f : α → List Value} {L : List α} {w : World} (h : (Ent.osl ob cap T sz (L.map f)).ok w) : L.length ≤ cap := by
  have h := h.1.1; rwa [List.length_map] at h
theorem osl_lenN {α : Type} {ob : Option Addr} {cap T sz : Nat} {f : Hd → α → List Value} {g : Nat → Hd} {L : List α} {w : World} (h : (Ent.osl ob cap T sz (nrows f g L)).ok w) : L.length ≤ cap := by
  have h := h.1.1; rwa [nrows_len] at h

section
variable {P : Program} {b : Frame} {n : Nat} {w0 : World} {S : Area} {R : Ending → World → Prop} {k : List Item} {env : List (Nat × Value)} {mem : List (Nat × Ent)} {ops : Array Oper}

/-- A region, by what it turns. -/
theorem GS.dg {id : Nat} (ds : List Nat) (ps : (Nat → Fr) → List (Nat × Value)) (dm : List Nat) (pm : (Nat → Fr) → List (Nat × Ent)) (hs : List (Nat × Hint)) (qs : (Nat → Fr) → List Q)
    (h : ∀ fr, GS P b n w0 S R k (uE ds (ps fr) env) (uE dm (pm fr) mem))
    (h1 : ∀ fr, symRun P n ops hs 0 ops.size (kys (uE ds (ps fr0) env)) (kys (uE dm (pm fr0) mem)) env mem fr = some (uE ds (ps fr) env, uE dm (pm fr) mem, qps (qs fr)) := by intro fr; kernel_rfl) :
    GS P b n w0 S R (.code (.region id ops false) :: k) env mem :=
  GS.region (RunsTo.mk hs _ _ (fun fr => qps (qs fr)) h1 (fun fr => qps_all _)) h
/-- The same, where no names are found. -/
theorem GS.eg {id : Nat} (ds : List Nat) (ps : List (Nat × Value)) (dm : List Nat) (pm : List (Nat × Ent)) (hs : List (Nat × Hint)) (qs : List Q)
    (h : GS P b n w0 S R k (uE ds ps env) (uE dm pm mem))
    (h1 : ∀ fr, symRun P n ops hs 0 ops.size (kys (uE ds ps env)) (kys (uE dm pm mem)) env mem fr = some (uE ds ps env, uE dm pm mem, qps qs) := by intro fr; kernel_rfl) :
    GS P b n w0 S R (.code (.region id ops false) :: k) env mem :=
  GS.dg ds (fun _ => ps) dm (fun _ => pm) hs (fun _ => qs) (fun _ => h) h1
/-- A region that leaves memory, and asks nothing. -/
theorem GS.ez {id : Nat} (ds : List Nat) (ps : List (Nat × Value)) (hs : List (Nat × Hint))
    (h : GS P b n w0 S R k (uE ds ps env) mem)
    (h1 : ∀ fr, symRun P n ops hs 0 ops.size (kys (uE ds ps env)) (kys mem) env mem fr = some (uE ds ps env, mem, []) := by intro fr; kernel_rfl) :
    GS P b n w0 S R (.code (.region id ops false) :: k) env mem :=
  GS.region (mem' := fun _ => mem) (RunsTo.mk hs _ _ (fun _ => []) h1 (fun _ => trivial)) (fun _ => h)
/-- A region whose order is drawn. -/
theorem GS.xg {id : Nat} (ds : List Nat) (ps : (Nat → Fr) → List (Nat × Value)) (dm : List Nat) (pm : (Nat → Fr) → List (Nat × Ent)) (hs : List (Nat × Hint)) (qs : (Nat → Fr) → List Q)
    (h : ∀ fr, GS P b n w0 S R k (uE ds (ps fr) env) (uE dm (pm fr) mem))
    (hm : P.follows .mixedOrders = true := by kernel_rfl) (hB : lexH .any ops (hintAt hs) ops.size 0 (Array.replicate ops.size false) = true := by kernel_rfl)
    (h1 : ∀ fr, symRun P n ops hs 0 ops.size (kys (uE ds (ps fr0) env)) (kys (uE dm (pm fr0) mem)) env mem fr = some (uE ds (ps fr) env, uE dm (pm fr) mem, qps (qs fr)) := by intro fr; kernel_rfl) :
    GS P b n w0 S R (.code (.region id ops true) :: k) env mem :=
  GS.region (RunsTo.mkd hs _ _ (fun fr => qps (qs fr)) hm hB h1 (fun fr => qps_all _)) h
theorem GS.yg {id : Nat} (ds : List Nat) (ps : List (Nat × Value)) (dm : List Nat) (pm : List (Nat × Ent)) (hs : List (Nat × Hint)) (qs : List Q)
    (h : GS P b n w0 S R k (uE ds ps env) (uE dm pm mem))
    (hm : P.follows .mixedOrders = true := by kernel_rfl) (hB : lexH .any ops (hintAt hs) ops.size 0 (Array.replicate ops.size false) = true := by kernel_rfl)
    (h1 : ∀ fr, symRun P n ops hs 0 ops.size (kys (uE ds ps env)) (kys (uE dm pm mem)) env mem fr = some (uE ds ps env, uE dm pm mem, qps qs) := by intro fr; kernel_rfl) :
    GS P b n w0 S R (.code (.region id ops true) :: k) env mem :=
  GS.xg ds (fun _ => ps) dm (fun _ => pm) hs (fun _ => qs) (fun _ => h) hm hB h1
/-- Some operations of an opened region. -/
theorem GR.du {i : Nat} (g : Nat) (ds : List Nat) (ps : (Nat → Fr) → List (Nat × Value)) (dm : List Nat) (pm : (Nat → Fr) → List (Nat × Ent)) (hs : List (Nat × Hint)) (qs : (Nat → Fr) → List Q)
    (h : ∀ fr, GR P b n w0 S R ops (i + g) k (uE ds (ps fr) env) (uE dm (pm fr) mem))
    (hg : Nat.ble (i + g) ops.size = true := by kernel_rfl)
    (h1 : ∀ fr, symRun P n ops hs i g (kys (uE ds (ps fr0) env)) (kys (uE dm (pm fr0) mem)) env mem fr = some (uE ds (ps fr) env, uE dm (pm fr) mem, qps (qs fr)) := by intro fr; kernel_rfl) :
    GR P b n w0 S R ops i k env mem :=
  GR.run g (Nat.le_of_ble_eq_true hg) (RunsTo.mk hs _ _ (fun fr => qps (qs fr)) h1 (fun fr => qps_all _)) h
theorem GR.eu {i : Nat} (g : Nat) (ds : List Nat) (ps : List (Nat × Value)) (dm : List Nat) (pm : List (Nat × Ent)) (hs : List (Nat × Hint)) (qs : List Q)
    (h : GR P b n w0 S R ops (i + g) k (uE ds ps env) (uE dm pm mem))
    (hg : Nat.ble (i + g) ops.size = true := by kernel_rfl)
    (h1 : ∀ fr, symRun P n ops hs i g (kys (uE ds ps env)) (kys (uE dm pm mem)) env mem fr = some (uE ds ps env, uE dm pm mem, qps qs) := by intro fr; kernel_rfl) :
    GR P b n w0 S R ops i k env mem :=
  GR.du g ds (fun _ => ps) dm (fun _ => pm) hs (fun _ => qs) (fun _ => h) hg h1
theorem GR.dm {i : Nat} (h : GS P b n w0 S R k env mem) (hi : Nat.ble ops.size i = true := by kernel_rfl) : GR P b n w0 S R ops i k env mem := GR.done (Nat.le_of_ble_eq_true hi) h

/-- A call, by its contract. -/
theorem GR.cg {X : Type} {i : Nat} {g : FuncId} {args : Array Value} {v : X → Value} {own ro : List Ent} {es' : X → List Ent} (hc : CallG P g args v own ro es') (ks nk ds dm : List Nat)
    (hr : RoAll (look mem) ks false ro)
    (h : ∀ x, GR P b n w0 S R ops (i + 1) k (uE ds (kpu (ops.getD i default).dst (v x)) env) (uE (ks ++ dm) (kzip nk (es' x)) mem))
    (hi : Nat.blt i ops.size = true := by kernel_rfl)
    (hloc : (dstIn n (ops.getD i default).dst && notSelect (ops.getD i default).op && ((ops.getD i default).op.operands.toList.all (knows (look env))) && (match wantedS ops (look env) (ops.getD i default) with | some b => b | none => false)) = true := by kernel_rfl)
    (hex : runPure P (execOp (val (look env)) (ops.getD i default)) = some (.enter g args) := by kernel_rfl)
    (hnd : (nodupB ks && nodupB nk && own.all Ent.own) = true := by kernel_rfl) (hm : ks.map (look mem) = own.map some := by kernel_rfl) (hlen : ∀ x, nk.length = (es' x).length := by intro x; kernel_rfl)
    (hal : ∀ x, (es' x).all Ent.own = true := by intro x; kernel_rfl)
    (hmem : ∀ x, memOut (kys (uE (ks ++ dm) (kdef nk) mem)) (setAll (dropKs (look mem) ks) nk (es' x)) = some (uE (ks ++ dm) (kzip nk (es' x)) mem) := by intro x; kernel_rfl)
    (henv : ∀ x, envOut (kys (uE ds (kpu (ops.getD i default).dst undef) env)) (put (look env) (ops.getD i default).dst (v x)) = some (uE ds (kpu (ops.getD i default).dst (v x)) env) := by intro x; kernel_rfl) :
    GR P b n w0 S R ops i k env mem :=
  GR.callG ks nk _ _ false hi hloc hex hnd hm hlen (fun _ => hal) hr hmem henv hc h

/-- The same, where nobody wants what is handed back. -/
theorem GR.ch {X : Type} {i : Nat} {g : FuncId} {args : Array Value} {v : X → Value} {own ro : List Ent} {es' : X → List Ent} (hc : CallG P g args v own ro es') (ks nk ds dm : List Nat)
    (hr : RoAll (look mem) ks false ro)
    (h : ∀ x, GR P b n w0 S R ops (i + 1) k (uE ds [] env) (uE (ks ++ dm) (kzip nk (es' x)) mem))
    (hi : Nat.blt i ops.size = true := by kernel_rfl)
    (hloc : (dstIn n (ops.getD i default).dst && notSelect (ops.getD i default).op && ((ops.getD i default).op.operands.toList.all (knows (look env))) && (match wantedS ops (look env) (ops.getD i default) with | some b => b | none => false)) = true := by kernel_rfl)
    (hex : runPure P (execOp (val (look env)) (ops.getD i default)) = some (.enter g args) := by kernel_rfl)
    (hnd : (nodupB ks && nodupB nk && own.all Ent.own) = true := by kernel_rfl) (hm : ks.map (look mem) = own.map some := by kernel_rfl) (hlen : ∀ x, nk.length = (es' x).length := by intro x; kernel_rfl)
    (hal : ∀ x, (es' x).all Ent.own = true := by intro x; kernel_rfl)
    (hmem : ∀ x, memOut (kys (uE (ks ++ dm) (kdef nk) mem)) (setAll (dropKs (look mem) ks) nk (es' x)) = some (uE (ks ++ dm) (kzip nk (es' x)) mem) := by intro x; kernel_rfl)
    (henv : ∀ x, envOut (kys (uE ds [] env)) (put (look env) (ops.getD i default).dst (v x)) = some (uE ds [] env) := by intro x; kernel_rfl) :
    GR P b n w0 S R ops i k env mem :=
  GR.callG ks nk _ _ false hi hloc hex hnd hm hlen (fun _ => hal) hr hmem henv hc h

/-- What is known, spelt otherwise. -/
theorem GS.cv (ps : List (Nat × Value)) (pm : List (Nat × Ent)) (h : GS P b n w0 S R k (uE [] ps env) (uE [] pm mem)) (he : env = uE [] ps env := by kernel_rfl) (hm : mem = uE [] pm mem := by kernel_rfl) : GS P b n w0 S R k env mem :=
  GS.conv he hm h
theorem GR.cv {i : Nat} (ps : List (Nat × Value)) (pm : List (Nat × Ent)) (h : GR P b n w0 S R ops i k (uE [] ps env) (uE [] pm mem)) (he : env = uE [] ps env := by kernel_rfl) (hm : mem = uE [] pm mem := by kernel_rfl) : GR P b n w0 S R ops i k env mem :=
  GR.conv he hm h
/-- One entry, spelt otherwise, by a proof. -/
theorem GS.ce (j : Nat) {α : Type} {x y : α} (f : α → Ent) (hx : x = y) (h : GS P b n w0 S R k env (uE [] [(j, f y)] mem)) (hm : mem = uE [] [(j, f x)] mem := by kernel_rfl) : GS P b n w0 S R k env mem :=
  GS.conv rfl (hm.trans (by rw [hx])) h
theorem GR.ce {i : Nat} (j : Nat) {α : Type} {x y : α} (f : α → Ent) (hx : x = y) (h : GR P b n w0 S R ops i k env (uE [] [(j, f y)] mem)) (hm : mem = uE [] [(j, f x)] mem := by kernel_rfl) : GR P b n w0 S R ops i k env mem :=
  GR.conv rfl (hm.trans (by rw [hx])) h
/-- One value, spelt otherwise, by a proof. -/
theorem GS.ve (j : Nat) {α : Type} {x y : α} (f : α → Value) (hx : x = y) (h : GS P b n w0 S R k (uE [] [(j, f y)] env) mem) (hm : env = uE [] [(j, f x)] env := by kernel_rfl) : GS P b n w0 S R k env mem :=
  GS.conv (hm.trans (by rw [hx])) rfl h
/-- What an entry tells. -/
theorem GS.kn {p : Prop} (j : Nat) (E : Ent) (hE : ∀ w, E.ok w → p) (h : p → GS P b n w0 S R k env mem) (hk : look mem j = some E := by kernel_rfl) : GS P b n w0 S R k env mem :=
  GS.know (fun w hw => hE w (hw.ok j E hk)) h
theorem GR.kn {i : Nat} {p : Prop} (j : Nat) (E : Ent) (hE : ∀ w, E.ok w → p) (h : p → GR P b n w0 S R ops i k env mem) (hk : look mem j = some E := by kernel_rfl) : GR P b n w0 S R ops i k env mem :=
  GR.know (fun w hw => hE w (hw.ok j E hk)) h
/-- A nil slice more. -/
theorem GS.an (j T sz : Nat) (h : GS P b n w0 S R k env (mem ++ [(j, .osl none 0 T sz [])])) : GS P b n w0 S R k env mem :=
  GS.setMem (fun w hw => Sat.addNil hw rfl) h
theorem GR.an {i : Nat} (j T sz : Nat) (h : GR P b n w0 S R ops i k env (mem ++ [(j, .osl none 0 T sz [])])) : GR P b n w0 S R ops i k env mem :=
  GR.setMem (fun w hw => Sat.addNil hw rfl) h
/-- Ways that meet: the state that is gone on with is the one that is handed it. -/
theorem GS.rk {env' : List (Nat × Value)} {mem' : List (Nat × Ent)} (pairs : List (Nat × Nat)) (h : GS P b n w0 S R k env' mem') (he : envOut (kys env') (look env) = some env' := by kernel_rfl) (hm : memBy pairs (look mem) = some mem' := by kernel_rfl)
    (hnd : nodupB (pairs.map Prod.snd) = true := by kernel_rfl) : GS P b n w0 S R k env mem := GS.rekey _ pairs he hm hnd h
def slf : List Nat → List (Nat × Nat)
  | [] => []
  | k :: r => (k, k) :: slf r
theorem GS.rs {env' : List (Nat × Value)} {mem' : List (Nat × Ent)} (h : GS P b n w0 S R k env' mem') (he : envOut (kys env') (look env) = some env' := by kernel_rfl) (hm : memBy (slf (kys mem')) (look mem) = some mem' := by kernel_rfl)
    (hnd : nodupB ((slf (kys mem')).map Prod.snd) = true := by kernel_rfl) : GS P b n w0 S R k env mem := GS.rekey _ _ he hm hnd h
/-- The same, told by what turns. -/
theorem GS.rd (pairs : List (Nat × Nat)) (ds : List Nat) (ps : List (Nat × Value)) (mem' : List (Nat × Ent)) (h : GS P b n w0 S R k (uE ds ps env) mem') (he : envOut (kys (uE ds ps env)) (look env) = some (uE ds ps env) := by kernel_rfl) (hm : memBy pairs (look mem) = some mem' := by kernel_rfl)
    (hnd : nodupB (pairs.map Prod.snd) = true := by kernel_rfl) : GS P b n w0 S R k env mem := GS.rekey _ pairs he hm hnd h
theorem GS.re (ds : List Nat) (ps : List (Nat × Value)) (dm : List Nat) (pm : List (Nat × Ent)) (h : GS P b n w0 S R k (uE ds ps env) (uE dm pm mem)) (he : envOut (kys (uE ds ps env)) (look env) = some (uE ds ps env) := by kernel_rfl)
    (hm : memBy (slf (kys (uE dm pm mem))) (look mem) = some (uE dm pm mem) := by kernel_rfl)
    (hnd : nodupB ((slf (kys (uE dm pm mem))).map Prod.snd) = true := by kernel_rfl) : GS P b n w0 S R k env mem := GS.rekey _ _ he hm hnd h
/-- A condition that is known. -/
theorem GS.cT {c : Operand} {x y : Code} (h : GS P b n w0 S R (.code x :: k) env mem) (hkn : knows (look env) c = true := by kernel_rfl) (hc : val (look env) c = .bool true := by kernel_rfl) : GS P b n w0 S R (.code (.cond c x y) :: k) env mem :=
  GS.cond (t := true) hkn hc (fun _ => h) (fun hf => by cases hf)
theorem GS.cF {c : Operand} {x y : Code} (h : GS P b n w0 S R (.code y :: k) env mem) (hkn : knows (look env) c = true := by kernel_rfl) (hc : val (look env) c = .bool false := by kernel_rfl) : GS P b n w0 S R (.code (.cond c x y) :: k) env mem :=
  GS.cond (t := false) hkn hc (fun hf => by cases hf) (fun _ => h)
theorem GS.cd {c : Operand} {x y : Code} (t : Bool) (ht : t = true → GS P b n w0 S R (.code x :: k) env mem) (hf : t = false → GS P b n w0 S R (.code y :: k) env mem)
    (hkn : knows (look env) c = true := by kernel_rfl) (hc : val (look env) c = .bool t := by kernel_rfl) : GS P b n w0 S R (.code (.cond c x y) :: k) env mem :=
  GS.cond hkn hc ht hf
/-- Ways that meet, or a loop, by what turns. -/
theorem GS.cu {ι : Type} (I : ι → Prop) (ds : List Nat) (ps : ι → List (Nat × Value)) (dm : List Nat) (pm : ι → List (Nat × Ent)) {it : Item}
    (h2 : ∀ x, I x → GS P b n w0 S R k (uE ds (ps x) env) (uE dm (pm x) mem)) (h1 : (∀ x, I x → GS P b n w0 S R k (uE ds (ps x) env) (uE dm (pm x) mem)) → GS P b n w0 S R (it :: k) env mem) : GS P b n w0 S R (it :: k) env mem := h1 h2
theorem GS.li {ι : Type} (I : ι → Prop) (μ : ι → Nat) (ds : List Nat) (ps : ι → List (Nat × Value)) (dm : List Nat) (pm : ι → List (Nat × Ent)) {todo : List Item}
    (round : ∀ x, I x → (∀ y, I y → μ y < μ x → GS P b n w0 S R todo (uE ds (ps y) env) (uE dm (pm y) mem)) → GS P b n w0 S R todo (uE ds (ps x) env) (uE dm (pm x) mem)) (x : ι) (hI : I x)
    (he : env = uE ds (ps x) env := by kernel_rfl) (hm : mem = uE dm (pm x) mem := by kernel_rfl) : GS P b n w0 S R todo env mem :=
  GS.conv he hm (GS.loopInv I μ (fun x => uE ds (ps x) env) (fun x => uE dm (pm x) mem) round x hI)
end

/-- A call's contract, begun. -/
theorem GS.st {P : Program} {f : FuncId} {fn : Func} {c : Code} {args : List Value} {n : Nat} {X : Type} {v : X → Value} {own ro : List Ent} {es' : X → List Ent} (hf : P.funcs[f]? = some fn) (hn : fn.ntmps = n)
    (h : ∀ w, GS P (frameOf f) n w (mayT own ro) (fun e w' => ∃ x, e = .returned (v x) ∧ TurnsG own ro (es' x) w w') [.code c] (argEnv 0 args) (keyed 1 (own ++ ro)))
    (hb : fn.body = some c := by rfl) (hle : Nat.ble args.length n = true := by kernel_rfl) (hr : ro.all (fun e => !e.own) = true := by kernel_rfl) : CallG P f args.toArray v own ro es' :=
  fun w hg => GS.start hf hb hn (Nat.le_of_ble_eq_true hle) (hg.start hr) (h w)
theorem GS.rv {P : Program} {b : Frame} {n : Nat} {w0 : World} {k : List Item} {env : List (Nat × Value)} {mem : List (Nat × Ent)} {fn : Func} {X : Type} {v : X → Value} {own ro : List Ent} {es' : X → List Ent} (ks : List Nat) (qs : List Q) (hf : P.funcs[b.fn]? = some fn) (x : X) (mk : List Nat)
    (hk : (b.kind, b.roundOf, b.defers) = (.normal, none, []) := by kernel_rfl) (hr : resAll P env mem fn.results.toList ks = some ([v x], qps qs) := by kernel_rfl)
    (hnd : nodupB mk = true := by kernel_rfl) (hm : mk.map (look mem) = (es' x).map some := by kernel_rfl) : GS P b n w0 (mayT own ro) (fun e w' => ∃ x, e = .returned (v x) ∧ TurnsG own ro (es' x) w0 w') (.code .ret :: k) env mem :=
  GS.ret ks _ _ hk hf hr (qps_all _) (fun w hs => ⟨x, rfl, hs.turnedG hnd hm⟩)
theorem GS.rw {P : Program} {b : Frame} {n : Nat} {w0 : World} {k : List Item} {env : List (Nat × Value)} {mem : List (Nat × Ent)} {fn : Func} {X : Type} {v : X → Value} {own ro : List Ent} {es' : X → List Ent} (ks : List Nat) (vs : List Value) (qs : List Q) (hf : P.funcs[b.fn]? = some fn) (x : X) (mk : List Nat)
    (hk : (b.kind, b.roundOf, b.defers) = (.normal, none, []) := by kernel_rfl) (hv : tupled vs = v x := by kernel_rfl) (hr : resAll P env mem fn.results.toList ks = some (vs, qps qs) := by kernel_rfl)
    (hnd : nodupB mk = true := by kernel_rfl) (hm : mk.map (look mem) = (es' x).map some := by kernel_rfl) : GS P b n w0 (mayT own ro) (fun e w' => ∃ x, e = .returned (v x) ∧ TurnsG own ro (es' x) w0 w') (.code .ret :: k) env mem :=
  GS.ret ks _ _ hk hf hr (qps_all _) (fun w hs => ⟨x, by rw [hv], hs.turnedG hnd hm⟩)
theorem rR {m : Mem} {ks : List Nat} {e : Ent} (k : Nat) (hk : m k = some e := by kernel_rfl) (hn : ks.contains k = false := by kernel_rfl) :
    (∃ k E, m k = some E ∧ ks.contains k = false ∧ Cov E e ∧ (false = true → E.own = false)) ∨ NilE e := .inl ⟨k, e, hk, hn, Cov.refl e, fun h => by cases h⟩
theorem rV {m : Mem} {ks : List Nat} {e : Ent} (k : Nat) (E : Ent) (hc : Cov E e) (hk : m k = some E := by kernel_rfl) (hn : ks.contains k = false := by kernel_rfl) :
    (∃ k E, m k = some E ∧ ks.contains k = false ∧ Cov E e ∧ (false = true → E.own = false)) ∨ NilE e := .inl ⟨k, E, hk, hn, hc, fun h => by cases h⟩
theorem mm0 {α : Type} {a : α} {l : List α} : a ∈ a :: l := .head _
theorem mm1 {α : Type} {a b0 : α} {l : List α} : a ∈ b0 :: a :: l := .tail _ mm0
theorem mm2 {α : Type} {a b0 b1 : α} {l : List α} : a ∈ b0 :: b1 :: a :: l := .tail _ mm1
theorem mm3 {α : Type} {a b0 b1 b2 : α} {l : List α} : a ∈ b0 :: b1 :: b2 :: a :: l := .tail _ mm2
theorem mm4 {α : Type} {a b0 b1 b2 b3 : α} {l : List α} : a ∈ b0 :: b1 :: b2 :: b3 :: a :: l := .tail _ mm3
theorem mm5 {α : Type} {a b0 b1 b2 b3 b4 : α} {l : List α} : a ∈ b0 :: b1 :: b2 :: b3 :: b4 :: a :: l := .tail _ mm4
theorem mm6 {α : Type} {a b0 b1 b2 b3 b4 b5 : α} {l : List α} : a ∈ b0 :: b1 :: b2 :: b3 :: b4 :: b5 :: a :: l := .tail _ mm5
theorem mm7 {α : Type} {a b0 b1 b2 b3 b4 b5 b6 : α} {l : List α} : a ∈ b0 :: b1 :: b2 :: b3 :: b4 :: b5 :: b6 :: a :: l := .tail _ mm6
theorem mm8 {α : Type} {a b0 b1 b2 b3 b4 b5 b6 b7 : α} {l : List α} : a ∈ b0 :: b1 :: b2 :: b3 :: b4 :: b5 :: b6 :: b7 :: a :: l := .tail _ mm7
theorem mm9 {α : Type} {a b0 b1 b2 b3 b4 b5 b6 b7 b8 : α} {l : List α} : a ∈ b0 :: b1 :: b2 :: b3 :: b4 :: b5 :: b6 :: b7 :: b8 :: a :: l := .tail _ mm8
theorem mm10 {α : Type} {a b0 b1 b2 b3 b4 b5 b6 b7 b8 b9 : α} {l : List α} : a ∈ b0 :: b1 :: b2 :: b3 :: b4 :: b5 :: b6 :: b7 :: b8 :: b9 :: a :: l := .tail _ mm9
theorem mm11 {α : Type} {a b0 b1 b2 b3 b4 b5 b6 b7 b8 b9 b10 : α} {l : List α} : a ∈ b0 :: b1 :: b2 :: b3 :: b4 :: b5 :: b6 :: b7 :: b8 :: b9 :: b10 :: a :: l := .tail _ mm10
theorem mm12 {α : Type} {a b0 b1 b2 b3 b4 b5 b6 b7 b8 b9 b10 b11 : α} {l : List α} : a ∈ b0 :: b1 :: b2 :: b3 :: b4 :: b5 :: b6 :: b7 :: b8 :: b9 :: b10 :: b11 :: a :: l := .tail _ mm11
theorem mm13 {α : Type} {a b0 b1 b2 b3 b4 b5 b6 b7 b8 b9 b10 b11 b12 : α} {l : List α} : a ∈ b0 :: b1 :: b2 :: b3 :: b4 :: b5 :: b6 :: b7 :: b8 :: b9 :: b10 :: b11 :: b12 :: a :: l := .tail _ mm12
theorem mm14 {α : Type} {a b0 b1 b2 b3 b4 b5 b6 b7 b8 b9 b10 b11 b12 b13 : α} {l : List α} : a ∈ b0 :: b1 :: b2 :: b3 :: b4 :: b5 :: b6 :: b7 :: b8 :: b9 :: b10 :: b11 :: b12 :: b13 :: a :: l := .tail _ mm13
theorem mm15 {α : Type} {a b0 b1 b2 b3 b4 b5 b6 b7 b8 b9 b10 b11 b12 b13 b14 : α} {l : List α} : a ∈ b0 :: b1 :: b2 :: b3 :: b4 :: b5 :: b6 :: b7 :: b8 :: b9 :: b10 :: b11 :: b12 :: b13 :: b14 :: a :: l := .tail _ mm14
end Sx
