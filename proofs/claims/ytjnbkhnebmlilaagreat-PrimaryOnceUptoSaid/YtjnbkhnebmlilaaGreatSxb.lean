/-
  The engine, part 2: one operation, run over what is known.
-/
import Derived.Test.YtjnbkhnebmlilaaGreatSxa
set_option linter.unusedVariables false
namespace Sx
open Go Go.RowKit

/-- What a run that touches no memory gives. -/
def runPure (P : Program) {α : Type} : Sem α → Option α
  | .pure a => some a
  | .program k => runPure P (k P)
  | .mark _ k => runPure P k
  | _ => none

theorem runPure_sound {P : Program} {α : Type} (m : Sem α) {a : α} (h : runPure P m = some a) (w : World) : m.run P w = .ok a w := by
  induction m generalizing w with
  | pure b => simp [runPure] at h; subst h; simp [Sem.run]
  | program k ih => simp only [runPure] at h; simp only [Sem.run]; exact ih P h w
  | mark m k ih => simp only [runPure] at h; simp only [Sem.run]; exact ih h w
  | _ => simp [runPure] at h

/-- What a run gives that lays one block of cells (number x) and touches no memory else. -/
def runNew (P : Program) (x : Nat) {α : Type} : Sem α → Option (α × Array Value × TypeId)
  | .new (.cells c T (0, 0)) k => (runPure P (k x)).map fun a => (a, c, T)
  | .program k => runNew P x (k P)
  | .mark _ k => runNew P x k
  | _ => none

theorem runNew_sound {P : Program} {α : Type} (m : Sem α) {a : α} {c : Array Value} {T : TypeId} (w : World) (h : runNew P w.heap.size m = some (a, c, T)) :
    m.run P w = .ok a { w with heap := w.heap.push (.cells c T (0, 0)) } := by
  induction m with
  | new o k ih =>
    simp only [Sem.run]
    unfold runNew at h
    split at h <;> try (simp at h; done)
    rename_i c' T' k' heq
    cases heq
    cases hp : runPure P (k w.heap.size) with
    | none => simp [hp] at h
    | some a' =>
      simp only [hp, Option.map_some, Option.some.injEq, Prod.mk.injEq] at h
      obtain ⟨rfl, rfl, rfl⟩ := h
      exact runPure_sound _ hp _
    all_goals (rename_i heq; cases heq)
  | program k ih => simp only [runNew] at h; simp only [Sem.run]; exact ih P h
  | mark m k ih => simp only [runNew] at h; simp only [Sem.run]; exact ih h
  | _ => simp [runNew] at h

/-- Names for what an operation finds only when it runs: a new block's number; where a slice lies now, and its capacity. -/
structure Fr where
  x : Nat
  ob : Option Addr
  cap : Nat
  /-- where several new slices lie -/
  xs : List (Option Addr × Nat)
  /-- where the slices of a new slice's elements lie -/
  hs : Nat → Nat → Option Addr × Nat

inductive Form where
  /-- a variable -/
  | var
  /-- a slice of so many elements of so many cells -/
  | row (n sz : Nat)

inductive Do where
  | pure
  /-- load: the entry that is read; of a slice's element i, which reads r, from cell c on -/
  | load (k : Nat) (i c : Nat) (r : List Value)
  | store (i c : Nat) (r : List Value)
  | new (f : Form)
  /-- the address of a slice's element; k: the entry -/
  | idx (k j : Nat)
  /-- the address of an array's element -/
  | arr (j : Nat)
  | div
  | shift
  /-- a call of a function that makes new blocks at most and hands back v -/
  | call (ks : List Nat) (v : Value)
  /-- an element of a string or an array -/
  | elt (j : Nat)
  /-- s[l:h:m] -/
  | cut (l h m : Nat)
  | makeSlice (n c : Nat)
  /-- append; k2: the entry that is appended, or none (nil, a string) -/
  | app (k2 : Option Nat)
  /-- copy into an own slice -/
  | copy (k2 : Option Nat)
  /-- []byte(s) -/
  | bytes
  /-- string(b); k: the entry, bs: its bytes -/
  | text (k : Nat) (bs : List UInt8)
  | cat
  /-- == or != on structs or arrays -/
  | eq
  /-- is a slice nil? -/
  | nilq
  /-- a call of a function that makes one new entry -/
  | calln (ks : List Nat) (v : Fr → Value) (e' : Fr → Ent)
  /-- a call of a function that turns one own entry, and reads others, which lie apart from it -/
  | callo (ks : List Nat) (v : Fr → Value) (e' : Ent → Fr → Ent)
  /-- a call of a function that hands back slices, new ones or such as it read; the entry holds them all -/
  | calla (ks : List Nat) (v : Fr → Value) (e' : Fr → Ent)
  /-- append(s[:l], s[j:]...), s own; m: the second cut's end -/
  | appSelf (l j m : Nat)
  /-- clear(s[l:..:m]) behind what an own slice has -/
  | clearS (l m : Nat)
  /-- load: a cell, or an array, of a block of the entry k, wherever it lies in it; what it reads -/
  | loadC (k : Nat) (cs : List Value)
  /-- store into an own block, wherever -/
  | storeC
  /-- == on arrays of integers -/
  | eqA (l1 l2 : List Int)
  /-- string(b[l:hh:m]); k: b's entry; bs: the bytes -/
  | textC (k l hh m : Nat) (bs : List UInt8)
  /-- a constant's bytes are marked: []byte of a constant -/
  | markS
  /-- append to a slice without room: s's entry, and y's -/
  | appC (k1 : Nat) (k2 : Option Nat)
  /-- copy into a cut, from l on, of an own slice; y's entry -/
  | copyAt (l : Nat) (k2 : Option Nat)
  /-- a call that turns nothing, whose value speaks of its arguments -/
  | callv (ks : List Nat) (v : Array Value → Value)
  /-- a new map; its length; a key's value; a key's value put; a key taken out -/
  | mapNew (k : IntKind)
  | mapLen (k : Nat)
  | mapGet (k : Nat)
  | mapPut
  | mapDel
  /-- a key of a map gets an element; what becomes of the entry is told -/
  | ins (mk : Option Ent → Value → Value → Ent)

/-- What is foretold of an operation: what it does, which entry it may turn, and how its value is to be spelt. -/
structure Hint where
  act : Do := .pure
  key : Option Nat := none
  sp : Option Value := none
  /-- the same, where it needs a name found when it runs -/
  spf : Option (Fr → Value) := none

def Hint.spAt (h : Hint) (f : Fr) : Option Value := match h.spf with | some g => some (g f) | none => h.sp

def Do.reads : Do → List Nat
  | .load k .. => [k]
  | .idx k _ => [k]
  | .call ks _ => ks
  | .calln ks _ _ => ks
  | .callo ks _ _ => ks
  | .calla ks _ _ => ks
  | .app (some k) => [k]
  | .copy (some k) => [k]
  | .text k _ => [k]
  | .loadC k _ => [k]
  | .textC k .. => [k]
  | .appC k1 (some k2) => [k1, k2]
  | .appC k1 none => [k1]
  | .callv ks _ => ks
  | .copyAt _ (some k) => [k]
  | .mapLen k => [k]
  | .mapGet k => [k]
  | _ => []

abbrev Loc := Option (Value × Option Ent × List Prop)

def sizeOfT (P : Program) (t : TypeId) : Option Nat := (P.info? t).map (·.size)

def aggT (P : Program) (t : TypeId) : Option Bool :=
  match P.underlying t with
  | some (.struct _) | some (.array _ _) => some true
  | some _ => some false
  | none => none

/-- What a variable of type t reads as, whose first cells these are. -/
def readVar (P : Program) (t : TypeId) (cs : List Value) : Option Value :=
  match sizeOfT P t, aggT P t with
  | some n, some true => match Nat.ble n cs.length with | true => some (.agg (cs.take n).toArray) | false => none
  | some _, some false => cs.head?
  | _, _ => none

def opLoad (P : Program) (t : TypeId) (x : Value) (e : Option Ent) (i c : Nat) (r : List Value) : Option (Value × List Prop) :=
  match x, e with
  | .pointer (some ⟨b, off, none⟩), some (.cells b' _ vs) => (readVar P t (vs.drop off)).map fun v => (v, [b = b'])
  | .pointer (some ⟨b, off, none⟩), some (.rd ob sz rows) =>
    (readVar P t (r.drop c)).map fun v => (v, [b = blk ob, off = offs ob + (i * sz + c), rows[i]? = some r])
  | .pointer (some ⟨b, off, none⟩), some (.osl ob _ _ sz rows) =>
    (readVar P t (r.drop c)).map fun v => (v, [b = blk ob, off = offs ob + (i * sz + c), rows[i]? = some r])
  | _, _ => none

/-- These cells, those from place c on turned. -/
def splice (vs : List Value) (c : Nat) (new : List Value) : List Value := vs.take c ++ new ++ vs.drop (c + new.length)

def opStore (P : Program) (t : TypeId) (x v : Value) (e : Option Ent) (i c : Nat) (r : List Value) : Option (Option Ent × List Prop) :=
  match sizeOfT P t with
  | none => none
  | some n =>
    match Nat.beq v.cells.toList.length n with
    | false => none
    | true =>
      match x, e with
      | .pointer (some ⟨b, off, none⟩), some (.cells b' T vs) =>
        match Nat.ble (off + n) vs.length with
        | true => some (some (.cells b' T (splice vs off v.cells.toList)), [b = b', v.cells.toList.all Value.oneCell' = true])
        | false => none
      | .pointer (some ⟨b, off, none⟩), some (.osl ob cap T sz rows) =>
        match Nat.ble (c + n) r.length with
        | true => some (some (.osl ob cap T sz (rows.set i (splice r c v.cells.toList))), [b = blk ob, off = offs ob + (i * sz + c), rows[i]? = some r, v.cells.toList.all Value.oneCell' = true])
        | false => none
      | _, _ => none

def chunks (sz : Nat) : Nat → List Value → List (List Value)
  | 0, _ => []
  | n + 1, l => l.take sz :: chunks sz n (l.drop sz)

def opNew (P : Program) (f : Form) (x : Nat) (m : Sem Next) : Loc :=
  match runNew P x m with
  | some (.value v, c, T) =>
    match f with
    | .var => some (v, some (.cells x T c.toList), [])
    | .row n sz => match Nat.beq c.toList.length (n * sz) with
      | true => some (v, some (.osl (some ⟨x, 0, none⟩) n T sz (chunks sz n c.toList)), [])
      | false => none
  | _ => none

def opIdx (P : Program) (t : TypeId) (x ix : Value) (e : Option Ent) (j : Nat) : Option (Value × List Prop) :=
  match P.underlying t, x, ix with
  | some (.slice elem), .slice ob n _, .int _ i =>
    match sizeOfT P elem, e with
    | some s, some (.rd ob' sz rows) => match Nat.beq s sz with
      | true => some (.pointer (some ⟨blk ob, offs ob + j * sz, none⟩), [ob = ob', n = rows.length, i = (j : Int), j < n])
      | false => none
    | some s, some (.osl ob' _ _ sz rows) => match Nat.beq s sz with
      | true => some (.pointer (some ⟨blk ob, offs ob + j * sz, none⟩), [ob = ob', n = rows.length, i = (j : Int), j < n])
      | false => none
    | _, _ => none
  | _, _, _ => none

def opArr (P : Program) (t : TypeId) (x ix : Value) (j : Nat) : Option (Value × List Prop) :=
  match P.underlying t, x, ix with
  | some (.array len elem), .pointer (some ⟨b, off, none⟩), .int _ i =>
    (sizeOfT P elem).map fun sz => (.pointer (some ⟨b, off + j * sz, none⟩), [i = (j : Int), j < len])
  | _, _, _ => none

def opDiv (op : BinOp) (x y : Value) : Option (Value × List Prop) :=
  match op, x, y with
  | .quo, .int k a, .int k' b => match decide (k = k') with
    | true => some (.int k (k.wrap (a.tdiv b)), [b ≠ 0])
    | false => none
  | .rem, .int k a, .int k' b => match decide (k = k') with
    | true => some (.int k (a.tmod b), [b ≠ 0])
    | false => none
  | _, _, _ => none

def opShift (op : BinOp) (x y : Value) : Option (Value × List Prop) :=
  match op, x, y with
  | .shl, .int k a, .int _ b => some (.int k (k.wrap (a * 2 ^ (min b.toNat k.bits))), [0 ≤ b])
  | .shr, .int k a, .int _ b => some (.int k (a.fdiv (2 ^ (min b.toNat k.bits))), [0 ≤ b])
  | _, _, _ => none

def CallOK (P : Program) (f : FuncId) (args : Array Value) (v : Value) (es : List (Option Ent)) : Prop :=
  ∀ w, (∀ E, some E ∈ es → E.ok w) → Calls P f args w fun e w' => e = .returned v ∧ Keep (fun _ => False) w w'

/-- A call that makes one new entry. -/
def CallN (P : Program) (g : FuncId) (args : Array Value) (v : Fr → Value) (e' : Fr → Ent) (es : List (Option Ent)) : Prop :=
  ∀ w, (∀ E, some E ∈ es → E.ok w) → Calls P g args w fun e w' => ∃ f, e = .returned (v f) ∧ Keep (fun _ => False) w w' ∧ (e' f).ok w' ∧ ∀ b, (e' f).foot b → w.heap.size ≤ b

/-- A call that turns the own entry E. -/
def CallO (P : Program) (g : FuncId) (args : Array Value) (v : Fr → Value) (e' : Fr → Ent) (E : Ent) (es : List (Option Ent)) : Prop :=
  E.own = true ∧ ∀ w, E.ok w → (∀ E', some E' ∈ es → E'.ok w ∧ ∀ b, E.foot b → ¬ E'.foot b) →
    Calls P g args w fun e w' => ∃ f, e = .returned (v f) ∧ Keep E.foot w w' ∧ (e' f).ok w' ∧ ∀ b, (e' f).foot b → w.heap.size ≤ b ∨ E.foot b

/-- A call that hands back slices, new ones or such as it read. -/
def CallA (P : Program) (g : FuncId) (args : Array Value) (v : Fr → Value) (e' : Fr → Ent) (es : List (Option Ent)) : Prop :=
  (∀ f, (e' f).own = false) ∧ (∀ E, some E ∈ es → E.own = false) ∧ ∀ w, (∀ E, some E ∈ es → E.ok w) →
    Calls P g args w fun e w' => ∃ f, e = .returned (v f) ∧ Keep (fun _ => False) w w' ∧ (e' f).ok w' ∧ ∀ b, (e' f).foot b → w.heap.size ≤ b ∨ ∃ E, some E ∈ es ∧ E.foot b

def opElt (P : Program) (t : TypeId) (x ix : Value) (j : Nat) : Option (Value × List Prop) :=
  match P.underlying t, x, ix with
  | some .string, .string s, .int _ i => some (.int .u8 ((s.data.getD j 0).toNat : Int), [i = (j : Int), j < s.size])
  | some (.array len elem), .agg cs, .int _ i =>
    match sizeOfT P elem, aggT P elem with
    | some sz, some true => some (.agg (cs.extract (j * sz) (j * sz + sz)), [i = (j : Int), j < len])
    | some sz, some false => some (cs.getD (j * sz) undef, [i = (j : Int), j < len, j * sz < cs.size])
    | _, _ => none
  | _, _, _ => none

/-- What is asked of a bound of a slice expression: that it is this number; if it is left out, that this number is the one that stands for it. -/
def boundIs (σ : Operand → Value) (o : Option Operand) (j dflt : Nat) : Option Prop :=
  match o with
  | none => some (j = dflt)
  | some x => match σ x with
    | .int _ i => some (i = (j : Int))
    | _ => none

def opCut (P : Program) (σ : Operand → Value) (t : TypeId) (x : Value) (lo hi mx : Option Operand) (l h m : Nat) : Option (Value × List Prop) :=
  match P.underlying t, x with
  | some .string, .string s =>
    match mx, boundIs σ lo l 0, boundIs σ hi h s.size with
    | none, some p, some q => some (.string (s.extract l h), [p, q, l ≤ h, h ≤ s.size])
    | _, _, _ => none
  | some (.slice elem), .slice ob n cap =>
    match sizeOfT P elem, boundIs σ lo l 0, boundIs σ hi h n, boundIs σ mx m cap with
    | some sz, some p, some q, some r => some (.slice (if m = l then ob else ob.map (·.add (l * sz))) (h - l) (m - l), [p, q, r, l ≤ h, h ≤ m, m ≤ cap, hi = none → mx = none])
    | _, _, _, _ => none
  | some (.array n elem), .pointer (some a) =>
    match sizeOfT P elem, boundIs σ lo l 0, boundIs σ hi h n, boundIs σ mx m n with
    | some sz, some p, some q, some r => some (.slice (some (if m = l then a else a.add (l * sz))) (h - l) (m - l), [p, q, r, l ≤ h, h ≤ m, m ≤ n, hi = none → mx = none])
    | _, _, _, _ => none
  | _, _ => none

def bytesT (P : Program) (t : TypeId) : Option Nat := (P.info? t).map (·.bytes)

def zeroT (P : Program) (t : TypeId) : Option (List Value) := match P.info? t with
  | some i => i.zero.map (·.cells.toList)
  | none => none

def opMake (P : Program) (t : TypeId) (x : Nat) (ln cp : Value) (n c : Nat) : Loc :=
  match P.underlying t, ln, cp with
  | some (.slice elem), .int _ i, .int _ i' =>
    match sizeOfT P elem, bytesT P elem, zeroT P elem with
    | some sz, some by_, some z => match Nat.beq z.length sz, Nat.ble 1 sz with
      | true, true => some (.slice (some ⟨x, 0, none⟩) n c, some (.osl (some ⟨x, 0, none⟩) c elem sz (List.replicate n z)), [i = (n : Int), i' = (c : Int), n ≤ c, c * by_ ≤ 281474976710656, c ≤ 9223372036854775807])
      | _, _ => none
    | _, _, _ => none
  | _, _, _ => none

/-- Bytes as rows. -/
def encB (l : List UInt8) : List (List Value) := l.map fun b => [.int .u8 (b.toNat : Int)]

/-- The rows of what is appended or copied. -/
def srcRows (y : Value) (e2 : Option Ent) (sz : Nat) : Option (List (List Value) × List Prop) :=
  match y, e2 with
  | .slice ob n _, none => some ([], [ob = none, n = 0])
  | .slice ob n _, some (.rd ob' sz' rows) => match Nat.beq sz sz' with | true => some (rows, [ob = ob', n = rows.length]) | false => none
  | .slice ob n _, some (.osl ob' _ _ sz' rows) => match Nat.beq sz sz' with | true => some (rows, [ob = ob', n = rows.length]) | false => none
  | .string s, none => match Nat.beq sz 1 with | true => some (encB s.data.toList, []) | false => none
  | _, _ => none

def notIntT (P : Program) (t : TypeId) : Bool := match P.underlying t with
  | some (.int _) | none => false
  | _ => true

def opApp (P : Program) (ats : Array TypeId) (s y : Value) (f : Fr) (e e2 : Option Ent) : Loc :=
  match ats.toList, s with
  | [st, yt], .slice ob n cap =>
    match P.underlying st, notIntT P yt with
    | some (.slice elem), true =>
      match sizeOfT P elem, bytesT P elem, zeroT P elem with
      | some sz, some by_, some z =>
        match Nat.beq z.length sz && Nat.ble 1 sz && Nat.ble by_ 1000000, srcRows y e2 sz with
        | true, some (src, os) =>
          match e with
          | some (.osl ob' cap' T sz' rows) => match Nat.beq T elem && Nat.beq sz' sz with
            | true => some (.slice f.ob (n + src.length) f.cap, some (.osl f.ob f.cap elem sz (rows ++ src)),
                os ++ [ob = ob', cap = cap', n = rows.length, (rows.length + src.length) * (by_ + 1) ≤ 70368744177664, src.flatten.all Value.oneCell' = true])
            | false => none
          | none => some (.slice f.ob (n + src.length) f.cap, some (.osl f.ob f.cap elem sz src),
                os ++ [n = 0, cap = 0, src.length * (by_ + 1) ≤ 70368744177664])
          | _ => none
        | _, _ => none
      | _, _, _ => none
    | _, _ => none
  | _, _ => none

/-- Append to a slice that has no room: it is only read. -/
def opAppC (P : Program) (ats : Array TypeId) (s y : Value) (f : Fr) (e1 e2 : Option Ent) : Loc :=
  match ats.toList, s with
  | [st, yt], .slice ob n cap =>
    match P.underlying st, notIntT P yt with
    | some (.slice elem), true =>
      match sizeOfT P elem, bytesT P elem, zeroT P elem with
      | some sz, some by_, some z =>
        match Nat.beq z.length sz && Nat.ble 1 sz && Nat.ble by_ 1000000, srcRows y e2 sz with
        | true, some (src, os) =>
          match e1 with
          | some (.rd ob' sz' rows) => match Nat.beq sz' sz with
            | true => some (.slice f.ob (n + src.length) f.cap, some (.osl f.ob f.cap elem sz (rows ++ src)),
                os ++ [ob = ob', n = rows.length, cap = rows.length, 1 ≤ src.length, (rows.length + src.length) * (by_ + 1) ≤ 70368744177664])
            | false => none
          | _ => none
        | _, _ => none
      | _, _, _ => none
    | _, _ => none
  | _, _ => none

/-- Where a cut lies. -/
def cutOb (ob : Option Addr) (l m sz : Nat) : Option Addr := if m = l then ob else ob.map (·.add (l * sz))

def opAppSelf (P : Program) (ats : Array TypeId) (s y : Value) (f : Fr) (e : Option Ent) (l j m : Nat) : Loc :=
  match ats.toList, s, y, e with
  | [st, yt], .slice ob n cap, .slice ob2 n2 _, some (.osl ob' cap' T sz' rows) =>
    match P.underlying st, notIntT P yt with
    | some (.slice elem), true =>
      match sizeOfT P elem, bytesT P elem, zeroT P elem with
      | some sz, some by_, some z =>
        match Nat.beq z.length sz && Nat.ble 1 sz && Nat.ble by_ 1000000 && Nat.beq T elem && Nat.beq sz' sz with
        | true => some (.slice ob (l + (rows.length - j)) cap, some (.osl ob cap elem sz (rows.take l ++ rows.drop j)),
            [ob = ob', cap = cap', n = l, l ≤ rows.length, j ≤ rows.length, rows.length ≤ m, ob2 = cutOb ob j m sz, n2 = rows.length - j, (l + (rows.length - j)) * (by_ + 1) ≤ 70368744177664, rows.flatten.all Value.oneCell' = true, l + (rows.length - j) ≤ cap])
        | false => none
      | _, _, _ => none
    | _, _ => none
  | _, _, _, _ => none

def opClear (P : Program) (ats : Array TypeId) (s : Value) (e : Option Ent) (l m : Nat) : Option (Value × List Prop) :=
  match ats.toList, s, e with
  | [st], .slice ob2 k _, some (.osl ob cap T sz rows) =>
    match P.underlying st with
    | some (.slice elem) =>
      match sizeOfT P elem, zeroT P elem with
      | some sz', some z => match Nat.beq z.length sz && Nat.beq sz' sz && z.all Value.oneCell' with
        | true => some (.tuple #[], [ob2 = cutOb ob l m sz, rows.length ≤ l, l + k ≤ m, m ≤ cap])
        | false => none
      | _, _ => none
    | _ => none
  | _, _, _ => none

def opCopy (P : Program) (ats : Array TypeId) (s y : Value) (e e2 : Option Ent) : Loc :=
  match ats.toList, s, e with
  | st :: _, .slice ob n _, some (.osl ob' cap T sz rows) =>
    match P.underlying st with
    | some (.slice elem) =>
      match sizeOfT P elem with
      | some sz' => match Nat.beq sz sz', srcRows y e2 sz with
        | true, some (src, os) => some (.int .i64 ((Nat.min src.length rows.length : Nat) : Int), some (.osl ob cap T sz (src.take rows.length ++ rows.drop src.length)), os ++ [ob = ob', n = rows.length, src.flatten.all Value.oneCell' = true])
        | _, _ => none
      | none => none
    | _ => none
  | _, _, _ => none

/-- Copy into a cut of an own slice that has room for all of it. -/
def opCopyAt (P : Program) (ats : Array TypeId) (s y : Value) (e e2 : Option Ent) (l : Nat) : Loc :=
  match ats.toList, s, e with
  | st :: _, .slice ob n _, some (.osl ob' cap T sz rows) =>
    match P.underlying st with
    | some (.slice elem) =>
      match sizeOfT P elem with
      | some sz' => match Nat.beq sz sz', srcRows y e2 sz with
        | true, some (src, os) => some (.int .i64 (src.length : Int), some (.osl ob' cap T sz (rows.take l ++ (src ++ rows.drop (l + src.length)))),
            os ++ [ob = cutOb ob' l cap sz, n = rows.length - l, 1 ≤ src.length, l + src.length ≤ rows.length, src.flatten.all Value.oneCell' = true])
        | _, _ => none
      | none => none
    | _ => none
  | _, _, _ => none

def opBytes (P : Program) (t : TypeId) (x : Value) (f : Fr) : Loc :=
  match P.underlying t, x with
  | some (.slice elem), .string s => match P.underlying elem, Nat.beq elem byteT with
    | some (.int .u8), true => some (.slice (some ⟨f.x, 0, none⟩) s.size f.cap, some (.osl (some ⟨f.x, 0, none⟩) f.cap elem 1 (encB s.data.toList)), [])
    | _, _ => none
  | _, _ => none

def opText (P : Program) (st dt : TypeId) (x : Value) (e : Option Ent) (bs : List UInt8) : Option (Value × List Prop) :=
  match P.underlying st, P.underlying dt with
  | some (.slice elem), some .string => match P.underlying elem, x, e with
    | some (.int .u8), .slice ob n _, some (.rd ob' 1 rows) => some (.string ⟨bs.toArray⟩, [ob = ob', n = rows.length, rows = encB bs])
    | some (.int .u8), .slice ob n _, some (.osl ob' _ _ 1 rows) => some (.string ⟨bs.toArray⟩, [ob = ob', n = rows.length, rows = encB bs])
    | _, _, _ => none
  | _, _ => none

def opTextC (P : Program) (st dt : TypeId) (x : Value) (e : Option Ent) (l hh m : Nat) (bs : List UInt8) : Option (Value × List Prop) :=
  match P.underlying st, P.underlying dt with
  | some (.slice elem), some .string => match P.underlying elem, x, e with
    | some (.int .u8), .slice ob2 n _, some (.rd ob 1 rows) => some (.string ⟨bs.toArray⟩, [ob2 = cutOb ob l m 1, n = bs.length, l ≤ hh, hh ≤ m, (rows.drop l).take (hh - l) = encB bs])
    | some (.int .u8), .slice ob2 n _, some (.osl ob _ _ 1 rows) => some (.string ⟨bs.toArray⟩, [ob2 = cutOb ob l m 1, n = bs.length, l ≤ hh, hh ≤ m, (rows.drop l).take (hh - l) = encB bs])
    | _, _, _ => none
  | _, _ => none

def opMark (P : Program) (s t : TypeId) (x : Value) (e : Option Ent) : Loc :=
  match decide (s = t), P.underlying s, x, e with
  | true, some (.slice elem), .slice (some a) n c, some (.osl ob cap T sz rows) =>
    match P.underlying elem, Nat.beq T byteT with
    | some (.int .u8), true => some (.slice (some a) n c, some (.osl ob cap T sz rows), [ob = some a, cap ≠ 0])
    | _, _ => none
  | _, _, _, _ => none

def partV (P : Program) (t : TypeId) (cs : Array Value) (off : Nat) : Option Value :=
  match aggT P t with
  | some true => (sizeOfT P t).map fun n => .agg (cs.extract off (off + n))
  | some false => cs[off]?
  | none => none

/-- Are two values the same, as Go's == has it: spelt out. -/
def eqV (P : Program) : Nat → TypeId → Value → Value → Option Bool
  | 0, _, _, _ => none
  | d + 1, t, x, y =>
    match P.underlying t, x, y with
    | some .bool, .bool a, .bool b => some (a == b)
    | some (.int _), .int k a, .int k' b => match decide (k = k') with | true => some (a == b) | false => none
    | some .string, .string a, .string b => some (a == b)
    | some (.struct fs), .agg xs, .agg ys => match P.stoodInHeld t with
      | true => none
      | false => fs.toList.foldr (fun f (r : Option Bool) =>
          match r with
          | none => none
          | some c => match decide (f.name = "_") with
            | true => some c
            | false => match partV P f.type xs f.offset, partV P f.type ys f.offset with
              | some a, some b => match eqV P d f.type a b with
                | some q => some (q && c)
                | none => none
              | _, _ => none) (some true)
    | _, _, _ => none

def opEq (P : Program) (op : BinOp) (t : TypeId) (x y : Value) : Option Value :=
  match op, x, y with
  | .eql, .agg xs, .agg ys => match P.eqGuardType P.depth t with | false => (eqV P 20 t (.agg xs) (.agg ys)).map .bool | true => none
  | .neq, .agg xs, .agg ys => match P.eqGuardType P.depth t with | false => (eqV P 20 t (.agg xs) (.agg ys)).map fun b => .bool !b | true => none
  | _, _, _ => none

def opLoadC (P : Program) (t : TypeId) (x : Value) (e : Option Ent) (cs : List Value) : Option (Value × List Prop) :=
  match x, e, sizeOfT P t, aggT P t with
  | .pointer (some ⟨b, off, none⟩), some (.cells b' _ vs), some n, some true => some (.agg cs.toArray, [b = b', cs.length = n, (vs.drop off).take n = cs])
  | .pointer (some ⟨b, off, none⟩), some (.cells b' _ vs), some _, some false =>
    match cs with
    | [v] => some (v, [b = b', vs[off]? = some v])
    | _ => none
  | .pointer (some ⟨b, off, none⟩), some (.rd ob sz [vs]), some n, some true => some (.agg cs.toArray, [b = blk ob, offs ob ≤ off, cs.length = n, (vs.drop (off - offs ob)).take n = cs])
  | .pointer (some ⟨b, off, none⟩), some (.rd ob sz [vs]), some _, some false =>
    match cs with
    | [v] => some (v, [b = blk ob, offs ob ≤ off, vs[off - offs ob]? = some v])
    | _ => none
  | _, _, _, _ => none

def opStoreC (P : Program) (t : TypeId) (x v : Value) (e : Option Ent) : Option (Option Ent × List Prop) :=
  match sizeOfT P t, x, e with
  | some n, .pointer (some ⟨b, off, none⟩), some (.cells b' T vs) =>
    some (some (.cells b' T (splice vs off v.cells.toList)), [b = b', v.cells.toList.length = n, off + n ≤ vs.length, v.cells.toList.all Value.oneCell' = true])
  | _, _, _ => none

def opEqA (P : Program) (t : TypeId) (x y : Value) (l1 l2 : List Int) : Option (Value × List Prop) :=
  match P.underlying t, x, y with
  | some (.array n elem), .agg xs, .agg ys =>
    match P.underlying elem, sizeOfT P elem, P.eqGuardType P.depth t with
    | some (.int k), some 1, false => some (.bool (l1 == l2), [xs = (l1.map (Value.int k)).toArray, ys = (l2.map (Value.int k)).toArray, l1.length = n, l2.length = n])
    | _, _, _ => none
  | _, _, _ => none

/-! Maps as pairs. -/
def kget : List (ByteArray × Int) → ByteArray → Int
  | [], _ => 0
  | p :: r, k => bif k == p.1 then p.2 else kget r k
def kput : List (ByteArray × Int) → ByteArray → Int → List (ByteArray × Int)
  | [], k, v => [(k, v)]
  | p :: r, k, v => bif k == p.1 then (k, v) :: r else p :: kput r k v
def kdel : List (ByteArray × Int) → ByteArray → List (ByteArray × Int)
  | [], _ => []
  | p :: r, k => bif k == p.1 then r else p :: kdel r k

def zeroV (P : Program) (t : TypeId) : Option Value := (P.info? t).bind (·.zero)
def mapT (P : Program) (t : TypeId) : Option IntKind := match P.underlying t with
  | some (.map kt et) => match P.underlying kt, P.underlying et with
    | some .string, some (.int k) => match zeroV P et with
      | some (.int k' z) => match decide (k = k') && decide (z = 0) with | true => some k | false => none
      | _ => none
    | _, _ => none
  | _ => none

def opMapLen (P : Program) (ats : Array TypeId) (x : Value) (e : Option Ent) : Option (Value × List Prop) :=
  match ats.toList, x, e with
  | [t], .map (some b), some (.map b' k kv) => match mapT P t with
    | some k' => some (.int .i64 ((kv.length : Nat) : Int), [b = b', k = k'])
    | none => none
  | _, _, _ => none
def opMapGet (P : Program) (t : TypeId) (x ix : Value) (e : Option Ent) : Option (Value × List Prop) :=
  match x, ix, e with
  | .map (some b), .string s, some (.map b' k kv) => match mapT P t with
    | some k' => some (.int k (kget kv s), [b = b', k = k'])
    | none => none
  | _, _, _ => none
def opMapPut (P : Program) (t : TypeId) (x ix v : Value) (e : Option Ent) : Option (Option Ent × List Prop) :=
  match x, ix, v, e with
  | .map (some b), .string s, .int kz z, some (.map b' k kv) => match mapT P t with
    | some k' => some (some (.map b' k (kput kv s z)), [b = b', k = k', kz = k])
    | none => none
  | _, _, _, _ => none
def opMapDel (P : Program) (ats : Array TypeId) (x ix : Value) (e : Option Ent) : Loc :=
  match ats.toList, x, ix, e with
  | [t, _], .map (some b), .string s, some (.map b' k kv) => match mapT P t with
    | some k' => some (.tuple #[], some (.map b' k (kdel kv s)), [b = b', k = k'])
    | none => none
  | _, _, _, _ => none

def noEnt (l : Option (Value × List Prop)) (e : Option Ent) : Loc := l.map fun (v, os) => (v, e, os)

/-- What an element for a key makes of a map's entry. -/
def TellIns (P : Program) (t : TypeId) (m k x : Value) (e : Option Ent) (e' : Ent) : Prop := ∀ w, (∀ E, e = some E → E.ok w) → ∃ w', (Instr.mapUpdate t m k x).run P w = .ok () w' ∧ Eff e (some e') w w'

def symAct (P : Program) (d : Do) (f : Fr) (σ : Operand → Value) (o : Oper) (e : Option Ent) (rd : Nat → Option Ent) : Loc :=
  match d, o.op with
  | .pure, _ => match runPure P (execOp σ o) with
    | some (.value v) => some (v, e, [])
    | some .skip => some (undef, e, [])
    | _ => none
  | .load k i c r, .load t x => noEnt (opLoad P t (σ x) (rd k) i c r) e
  | .store i c r, .store t x v => (opStore P t (σ x) (σ v) e i c r).map fun (e', os) => (undef, e', os)
  | .new fm, _ => match e with | none => opNew P fm f.x (execOp σ o) | some _ => none
  | .idx k j, .indexAddr t x ix => noEnt (opIdx P t (σ x) (σ ix) (rd k) j) e
  | .arr j, .indexAddr t x ix => noEnt (opArr P t (σ x) (σ ix) j) e
  | .div, .binOp op _ x y _ => noEnt (opDiv op (σ x) (σ y)) e
  | .shift, .binOp op _ x y _ => noEnt (opShift op (σ x) (σ y)) e
  | .elt j, .index t x ix => noEnt (opElt P t (σ x) (σ ix) j) e
  | .cut l h m, .slice t x lo hi mx => noEnt (opCut P σ t (σ x) lo hi mx l h m) e
  | .makeSlice n c, .makeSlice t ln cp => match e with | none => opMake P t f.x (σ ln) (σ cp) n c | some _ => none
  | .app k2, .call ⟨.builtin .append, args, ats⟩ => match args.toList with
    | [s, y] => opApp P ats (σ s) (σ y) f e (k2.bind rd)
    | _ => none
  | .appC k1 k2, .call ⟨.builtin .append, args, ats⟩ => match e, args.toList with
    | none, [s, y] => opAppC P ats (σ s) (σ y) f (rd k1) (k2.bind rd)
    | _, _ => none
  | .appSelf l j m, .call ⟨.builtin .append, args, ats⟩ => match args.toList with
    | [s, y] => opAppSelf P ats (σ s) (σ y) f e l j m
    | _ => none
  | .clearS l m, .call ⟨.builtin .clear, args, ats⟩ => match args.toList with
    | [s] => noEnt (opClear P ats (σ s) e l m) e
    | _ => none
  | .copy k2, .call ⟨.builtin .copy, args, ats⟩ => match args.toList with
    | [s, y] => opCopy P ats (σ s) (σ y) e (k2.bind rd)
    | _ => none
  | .copyAt l k2, .call ⟨.builtin .copy, args, ats⟩ => match args.toList with
    | [s, y] => opCopyAt P ats (σ s) (σ y) e (k2.bind rd) l
    | _ => none
  | .bytes, .convert s t x => match e, P.underlying s with | none, some _ => opBytes P t (σ x) f | _, _ => none
  | .text k bs, .convert s t x => noEnt (opText P s t (σ x) (rd k) bs) e
  | .cat, .binOp .add _ x y _ => match σ x, σ y with
    | .string a, .string b => some (.string (a ++ b), e, [a.size + b.size ≤ 9223372036854775807])
    | _, _ => none
  | .eq, .binOp op t x y _ => (opEq P op t (σ x) (σ y)).map fun v => (v, e, [])
  | .nilq, .binOp .eql t x y _ => match P.underlying t, σ x, σ y with
    | some (.slice _), .slice ob _ _, .slice none 0 0 => some (.bool ob.isNone, e, [])
    | _, _, _ => none
  | .call ks v, .call _ => match runPure P (execOp σ o) with
    | some (.enter g args) => some (v, e, [CallOK P g args v (ks.map rd)])
    | _ => none
  | .callv ks v, .call _ => match runPure P (execOp σ o) with
    | some (.enter g args) => some (v args, e, [CallOK P g args (v args) (ks.map rd)])
    | _ => none
  | .calln ks v e', .call _ => match e with
    | some _ => none
    | none => match runPure P (execOp σ o) with
      | some (.enter g args) => some (v f, some (e' f), [CallN P g args v e' (ks.map rd)])
      | _ => none
  | .calla ks v e', .call _ => match e with
    | some _ => none
    | none => match runPure P (execOp σ o) with
      | some (.enter g args) => some (v f, some (e' f), [CallA P g args v e' (ks.map rd)])
      | _ => none
  | .callo ks v e', .call _ => match e with
    | none => none
    | some E => match runPure P (execOp σ o) with
      | some (.enter g args) => some (v f, some (e' E f), [CallO P g args v (e' E) E (ks.map rd)])
      | _ => none
  | .loadC k cs, .load t x => noEnt (opLoadC P t (σ x) (rd k) cs) e
  | .storeC, .store t x v => (opStoreC P t (σ x) (σ v) e).map fun (e', os) => (undef, e', os)
  | .eqA l1 l2, .binOp .eql t x y _ => noEnt (opEqA P t (σ x) (σ y) l1 l2) e
  | .textC k l hh m bs, .convert s t x => noEnt (opTextC P s t (σ x) (rd k) l hh m bs) e
  | .markS, .convert s t x => opMark P s t (σ x) e
  | .mapNew k, .makeMap t none => match e with | none => some (.map (some f.x), some (.map f.x k []), [k = k]) | some _ => none
  | .mapLen k, .call ⟨.builtin .len, args, ats⟩ => match args.toList with
    | [m] => noEnt (opMapLen P ats (σ m) (rd k)) e
    | _ => none
  | .mapGet k, .lookup t x ix false => noEnt (opMapGet P t (σ x) (σ ix) (rd k)) e
  | .mapPut, .mapUpdate t m k v => (opMapPut P t (σ m) (σ k) (σ v) e).map fun (e', os) => (undef, e', os)
  | .mapDel, .call ⟨.builtin .delete, args, ats⟩ => match args.toList with
    | [m, k] => opMapDel P ats (σ m) (σ k) e
    | _ => none
  | .ins mk, .insert t m k x => some (undef, some (mk e (σ k) (σ x)), [TellIns P t (σ m) (σ k) (σ x) e (mk e (σ k) (σ x))])
  | .ins mk, .mapUpdate t m k x => some (undef, some (mk e (σ k) (σ x)), [TellIns P t (σ m) (σ k) (σ x) e (mk e (σ k) (σ x))])
  | _, _ => none

/-- Is what a call reads another entry than the one that it turns? -/
def keyOK (h : Hint) : Bool := match h.act, h.key with
  | .callo ks _ _, some k => !ks.contains k
  | _, _ => true

def symOp (P : Program) (h : Hint) (f : Fr) (σ : Operand → Value) (o : Oper) (e : Option Ent) (rd : Nat → Option Ent) : Loc :=
  match keyOK h with
  | false => none
  | true => match symAct P h.act f σ o e rd, h.spAt f with
    | some (v, e', os), some v' => some (v', e', os ++ [v = v'])
    | r, _ => r

end Sx
