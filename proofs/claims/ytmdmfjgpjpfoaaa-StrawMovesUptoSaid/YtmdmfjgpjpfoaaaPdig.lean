/-
  CHAPTER 1: plain facts on Jenkins' mix; nothing of the program stands here.
-/
import Derived.Test.YtmdmfjgpjpfoaaaSxg
import Derived.Test.YtmdmfjgpjpfoaaaRows
set_option linter.unusedVariables false
namespace Go.Proofs.Ytmdmfjgpjpfoaaa
open Go Go.RowKit Sx

/-- (a - b - c) ^ c>>k on 32 bits. -/
def mixR (a b c : Int) (k : Nat) : Int := ixor .u32 (IntKind.u32.wrap (IntKind.u32.wrap (a - b) - c)) (Int.fdiv c (2 ^ k))
/-- (a - b - c) ^ c<<k. -/
def mixL (a b c : Int) (k : Nat) : Int := ixor .u32 (IntKind.u32.wrap (IntKind.u32.wrap (a - b) - c)) (IntKind.u32.wrap (c * 2 ^ k))

/-- One round of MIX. -/
def mixRound (k1 k2 k3 : Nat) (t : Int × Int × Int) : Int × Int × Int :=
  let a := mixR t.1 t.2.1 t.2.2 k1
  let b := mixL t.2.1 t.2.2 a k2
  let c := mixR t.2.2 a b k3
  (a, b, c)

def mixF (t : Int × Int × Int) : Int × Int × Int := mixRound 3 10 15 (mixRound 12 16 5 (mixRound 13 8 13 t))

/-- MIX, its parts. -/
def mixA (x y z : Int) : Int := (mixF (x, y, z)).1
def mixB (x y z : Int) : Int := (mixF (x, y, z)).2.1
def mixC (x y z : Int) : Int := (mixF (x, y, z)).2.2

theorem mix_steps {x y z a1 b1 c1 a2 b2 c2 a3 b3 c3 : Int} (h1 : a1 = mixR x y z 13) (h2 : b1 = mixL y z a1 8) (h3 : c1 = mixR z a1 b1 13) (h4 : a2 = mixR a1 b1 c1 12) (h5 : b2 = mixL b1 c1 a2 16) (h6 : c2 = mixR c1 a2 b2 5)
    (h7 : a3 = mixR a2 b2 c2 3) (h8 : b3 = mixL b2 c2 a3 10) (h9 : c3 = mixR c2 a3 b3 15) : a3 = mixA x y z ∧ b3 = mixB x y z ∧ c3 = mixC x y z := by
  subst h1; subst h2; subst h3; subst h4; subst h5; subst h6; subst h7; subst h8; subst h9
  exact ⟨rfl, rfl, rfl⟩

def seedN : Int := 1315423911
def hash1F (a : Int) : Int :=
  let h := ixor .u32 1315423911 a
  let b1 := mixA a 231232 h
  let h1 := mixC a 231232 h
  mixC 1232 a h1

def hash2F (a b : Int) : Int :=
  let h := ixor .u32 (ixor .u32 1315423911 a) b
  let a1 := mixA a b h
  let b1 := mixB a b h
  let h1 := mixC a b h
  let h2 := mixC 231232 a1 h1
  mixC b1 1232 h2

def hash3F (a b c : Int) : Int :=
  let h := ixor .u32 (ixor .u32 (ixor .u32 1315423911 a) b) c
  let a1 := mixA a b h
  let b1 := mixB a b h
  let h1 := mixC a b h
  let c1 := mixA c 231232 h1
  let x1 := mixB c 231232 h1
  let h2 := mixC c 231232 h1
  let y1 := mixA 1232 a1 h2
  let h3 := mixC 1232 a1 h2
  let h4 := mixC b1 x1 h3
  mixC y1 c1 h4

end Go.Proofs.Ytmdmfjgpjpfoaaa
