/-
 CHAPTER 18o: the functions do what their models say (3).
-/
import Derived.Test.YtjnbkhnebmlilaaGreatE18o
import Derived.Test.YtjnbkhnebmlilaaGreatW18ob
set_option linter.unusedVariables false
set_option linter.unusedSimpArgs false
set_option maxRecDepth 100000
set_option maxHeartbeats 8000000
namespace Go.Proofs.YtjnbkhnebmlilaaGreat
open Go Go.RowKit Sx

theorem w_slices_BinarySearchFunc___api_Last_api_Last_int_ (F : Nat) (c : Option Addr) (d : Nat) (a0 : List S_api_Last) (a1 : Int) (a2c0b : Nat) {y : Int × Bool} (hm : m_slices_BinarySearchFunc___api_Last_api_Last_int_ F a0 a1 = some y) : CallG Tryz.prog 76 #[.slice c a0.length d,vI a1,.func (.func 77) #[] #[pA a2c0b 0]] (X := Unit) (fun (_ : Unit) => .tuple #[vI y.1,.bool y.2]) [] [r94 c a0,.rd (some ⟨a2c0b,0,none⟩) 1 [[.func (.func 53) #[] #[]]]] (fun (_ : Unit) => []) := by
 rw [m_slices_BinarySearchFunc___api_Last_api_Last_int_] at hm
 refine GS.st Tryz.func76 Tryz.ntmps76 (fun w => ?_)
 refine GS.seq ?_
 refine GS.ez [] [] [] ?_
 refine GS.seq ?_
 refine GS.ez [] [(8,vI (a0.length : Int))] [] ?_
 refine GS.seq ?_
 refine GS.ez [] [(9,vI 0),(10,vI (a0.length : Int))] [] ?_
 refine GS.seq ?_
 refine GS.block ?_
 refine GS.loop ?_
 refine loopW_elim hm (fun st62 hst64 hm => ?_)
 refine GS.li (ι := Nat × Int × Int) (fun ⟨e,a,b⟩ => loopW st62 e (a,b) = some y) (fun ⟨e,a,b⟩ => e) [] (fun ⟨e,a,b⟩ => [(9,vI a),(10,vI b)]) [] (fun ⟨e,a,b⟩ => []) ?_ ⟨F,0,(a0.length : Int)⟩ hm
 rintro ⟨e,a,b⟩ hm h
 cases e with
 | zero => cases hm
 | succ e =>
  replace hm := (hst64 _ _).symm.trans hm
  try dsimp only at hm
  refine GS.seq ?_
  refine GS.seq ?_
  refine GS.ez [] [(17,.bool (decide (a < b)))] [] ?_
  refine GS.cd (decide (a < b)) (fun i => ?_) (fun i => ?_)
  ·replace hm := br_t i hm
   refine GS.skip ?_
   refine GS.block ?_
   refine GS.seq ?_
   refine grd_elim hm (fun n hm => ?_)
   refine GS.eg [17] [(11,vI (IntKind.i64.wrap (Int.fdiv (IntKind.u64.wrap (a + b)) (2 ^ 1))))] [] [] [(2,hP (vI (a + b)))] [⟨(I64.w n : oW (a + b))⟩] ?_
   refine GS.seq ?_
   refine grd_elim hm (fun j hm => ?_)
   refine bnd_elim hm (fun f o hm => ?_)
   refine GS.eg [] [(31,.bool (decide (f < 0)))] [] [] [(3,hA (.idx 1 (Int.toNat (IntKind.i64.wrap (Int.fdiv (IntKind.u64.wrap (a + b)) (2 ^ 1)))))),(4,hR 1 (Int.toNat (IntKind.i64.wrap (Int.fdiv (IntKind.u64.wrap (a + b)) (2 ^ 1)))) 0 [vI ((a0.getD (Int.toNat (IntKind.i64.wrap (Int.fdiv (IntKind.u64.wrap (a + b)) (2 ^ 1)))) dS_api_Last).Client),vI ((a0.getD (Int.toNat (IntKind.i64.wrap (Int.fdiv (IntKind.u64.wrap (a + b)) (2 ^ 1)))) dS_api_Last).Number),vI ((a0.getD (Int.toNat (IntKind.i64.wrap (Int.fdiv (IntKind.u64.wrap (a + b)) (2 ^ 1)))) dS_api_Last).Errno),vI (((a0.getD (Int.toNat (IntKind.i64.wrap (Int.fdiv (IntKind.u64.wrap (a + b)) (2 ^ 1)))) dS_api_Last).Version).Epoch),vI (((a0.getD (Int.toNat (IntKind.i64.wrap (Int.fdiv (IntKind.u64.wrap (a + b)) (2 ^ 1)))) dS_api_Last).Version).N)]),(6,hC [2] (vI f))] [qE c,⟨(mlen S_api_Last.row a0 : a0.length = (List.map S_api_Last.row a0).length)⟩,⟨j.eq⟩,⟨j.2⟩,qE (blk c),qE (offs c + (Int.toNat (IntKind.i64.wrap (Int.fdiv (IntKind.u64.wrap (a + b)) (2 ^ 1)))) * 5),⟨(map_at S_api_Last.row dS_api_Last j.2 : (List.map S_api_Last.row a0)[(Int.toNat (IntKind.i64.wrap (Int.fdiv (IntKind.u64.wrap (a + b)) (2 ^ 1))))]? = some [vI ((a0.getD (Int.toNat (IntKind.i64.wrap (Int.fdiv (IntKind.u64.wrap (a + b)) (2 ^ 1)))) dS_api_Last).Client),vI ((a0.getD (Int.toNat (IntKind.i64.wrap (Int.fdiv (IntKind.u64.wrap (a + b)) (2 ^ 1)))) dS_api_Last).Number),vI ((a0.getD (Int.toNat (IntKind.i64.wrap (Int.fdiv (IntKind.u64.wrap (a + b)) (2 ^ 1)))) dS_api_Last).Errno),vI (((a0.getD (Int.toNat (IntKind.i64.wrap (Int.fdiv (IntKind.u64.wrap (a + b)) (2 ^ 1)))) dS_api_Last).Version).Epoch),vI (((a0.getD (Int.toNat (IntKind.i64.wrap (Int.fdiv (IntKind.u64.wrap (a + b)) (2 ^ 1)))) dS_api_Last).Version).N)])⟩,⟨(w_pglog_look_api_Last_int__1 F (a0.getD (Int.toNat (IntKind.i64.wrap (Int.fdiv (IntKind.u64.wrap (a + b)) (2 ^ 1)))) dS_api_Last) a1 a2c0b o).ok (es := [some (.rd (some ⟨a2c0b,0,none⟩) 1 [[.func (.func 53) #[] #[]]])]) ⟨(.inl ⟨_,mm0,Cov.refl _⟩),trivial⟩⟩] ?_
   refine GS.cd (decide (f < 0)) (fun k => ?_) (fun k => ?_)
   ·replace hm := br_t k hm
    refine grd_elim hm (fun p hm => ?_)
    refine GS.eg [11,31] [(9,vI ((IntKind.i64.wrap (Int.fdiv (IntKind.u64.wrap (a + b)) (2 ^ 1))) + 1))] [] [] [(1,hP (vI ((IntKind.i64.wrap (Int.fdiv (IntKind.u64.wrap (a + b)) (2 ^ 1))) + 1)))] [⟨(I64.w p : oW ((IntKind.i64.wrap (Int.fdiv (IntKind.u64.wrap (a + b)) (2 ^ 1))) + 1))⟩] ?_
    refine GS.inBlock ?_
    refine GS.inLoop ?_
    exact GS.rs (h ⟨e,((IntKind.i64.wrap (Int.fdiv (IntKind.u64.wrap (a + b)) (2 ^ 1))) + 1),b⟩ hm (Nat.lt_succ_self _))
   ·replace hm := br_f k hm
    refine GS.ez [11,31] [(10,vI (IntKind.i64.wrap (Int.fdiv (IntKind.u64.wrap (a + b)) (2 ^ 1))))] [] ?_
    refine GS.inBlock ?_
    refine GS.inLoop ?_
    exact GS.rs (h ⟨e,a,(IntKind.i64.wrap (Int.fdiv (IntKind.u64.wrap (a + b)) (2 ^ 1)))⟩ hm (Nat.lt_succ_self _))
  ·replace hm := br_f i hm
   refine GS.exit rfl ?_
   refine GS.seq ?_
   refine br_elim hm (fun l hm => ?_) (fun l hm => ?_)
   ·skip
    refine grd_elim hm (fun m hm => ?_)
    refine bnd_elim hm (fun g q hm => ?_)
    refine GS.eg [0,1,2,8,9,10,17] [(6,vI a),(7,.bool (g == 0))] [1,2] [] [(4,hP (.bool true)),(8,hA (.idx 1 (Int.toNat a))),(9,hR 1 (Int.toNat a) 0 [vI ((a0.getD (Int.toNat a) dS_api_Last).Client),vI ((a0.getD (Int.toNat a) dS_api_Last).Number),vI ((a0.getD (Int.toNat a) dS_api_Last).Errno),vI (((a0.getD (Int.toNat a) dS_api_Last).Version).Epoch),vI (((a0.getD (Int.toNat a) dS_api_Last).Version).N)]),(11,hC [2] (vI g))] [⟨bool_eq l⟩,qE c,⟨(mlen S_api_Last.row a0 : a0.length = (List.map S_api_Last.row a0).length)⟩,⟨m.eq⟩,⟨m.2⟩,qE (blk c),qE (offs c + (Int.toNat a) * 5),⟨(map_at S_api_Last.row dS_api_Last m.2 : (List.map S_api_Last.row a0)[(Int.toNat a)]? = some [vI ((a0.getD (Int.toNat a) dS_api_Last).Client),vI ((a0.getD (Int.toNat a) dS_api_Last).Number),vI ((a0.getD (Int.toNat a) dS_api_Last).Errno),vI (((a0.getD (Int.toNat a) dS_api_Last).Version).Epoch),vI (((a0.getD (Int.toNat a) dS_api_Last).Version).N)])⟩,⟨(w_pglog_look_api_Last_int__1 F (a0.getD (Int.toNat a) dS_api_Last) a1 a2c0b q).ok (es := [some (.rd (some ⟨a2c0b,0,none⟩) 1 [[.func (.func 53) #[] #[]]])]) ⟨(.inl ⟨_,mm0,Cov.refl _⟩),trivial⟩⟩] ?_
    have hy := Option.some.inj hm
    subst hy
    exact GS.rw [0,0] [vI a,.bool (g == 0)] [] Tryz.func76 () []
   ·skip
    refine GS.eg [0,1,2,8,9,10,17] [(6,vI a),(7,.bool false)] [1,2] [] [(4,hP (.bool false))] [⟨bool_eq l⟩] ?_
    have hy := Option.some.inj hm
    subst hy
    exact GS.rw [0,0] [vI a,.bool false] [] Tryz.func76 () []

theorem w_pglog_look_api_Last_int_ (F : Nat) (a : Option Addr) (c : Nat) (a0 : List S_api_Last) (a2 : Int) {y : Int × Bool} (hm : m_pglog_look_api_Last_int_ F a0 a2 = some y) : CallG Tryz.prog 52 #[.slice a a0.length c,.func (.func 53) #[] #[],vI a2] (X := Unit) (fun (_ : Unit) => .tuple #[vI y.1,.bool y.2]) [] [r94 a a0] (fun (_ : Unit) => []) := by
 rw [m_pglog_look_api_Last_int_] at hm
 refine GS.st Tryz.func52 Tryz.ntmps52 (fun w => ?_)
 refine GS.seq ?_
 refine GS.dg [1] (fun b => [(4,pA ((b 0).x) 0)]) [] (fun b => [(2,.cells ((b 0).x) 115 [.func (.func 53) #[] #[]])]) [(0,hN 2)] (fun b => []) (fun b => ?_)
 refine GS.seq ?_
 refine bnd_elim hm (fun y3 e4 hm => ?_)
 refine GS.eg [0,2,4] [(6,vI y3.1),(7,.bool y3.2)] [1,2] [] [(3,hC [1,2] (.tuple #[vI y3.1,.bool y3.2]))] [⟨(w_slices_BinarySearchFunc___api_Last_api_Last_int_ F a c a0 a2 (b 0).x e4).ok (es := [some (r94 a a0),some (.cells ((b 0).x) 115 [.func (.func 53) #[] #[]])]) ⟨(.inl ⟨_,mm0,Cov.refl _⟩),(.inl ⟨_,mm1,Cov.cells_rd⟩),trivial⟩⟩] ?_
 have hy := Option.some.inj hm
 subst hy
 exact GS.rw [0,0] [vI y3.1,.bool y3.2] [] Tryz.func52 () []

theorem w_pglog_itemName (F : Nat) (a0 : S_api_Item) {y : ByteArray} (hm : m_pglog_itemName F a0 = some y) : CallG Tryz.prog 56 #[.agg ((kc33 a0.Name a0.Version.Epoch a0.Version.N a0.Crc)).toArray] (X := Unit) (fun (_ : Unit) => .string y) [] [] (fun (_ : Unit) => []) := by
 rw [m_pglog_itemName] at hm
 refine GS.st Tryz.func56 Tryz.ntmps56 (fun w => ?_)
 refine GS.seq ?_
 refine GS.dg [0] (fun a => [(1,pA ((a 0).x) 0)]) [] (fun a => [(1,.cells ((a 0).x) 91 (kc33 a0.Name a0.Version.Epoch a0.Version.N a0.Crc))]) [(0,hN 1)] (fun a => []) (fun a => ?_)
 refine GS.seq ?_
 refine GS.eg [1] [(2,.string a0.Name)] [1] [] [(1,hL 1 0 0)] [qE ((a 0).x)] ?_
 have hy := Option.some.inj hm
 subst hy
 exact GS.rv [0] [] Tryz.func56 () []

theorem w_cmp_isNaN_string_ (F : Nat) (a0 : ByteArray) {y : Bool} (hm : m_cmp_isNaN_string_ F a0 = some y) : CallG Tryz.prog 107 #[.string a0] (X := Unit) (fun (_ : Unit) => .bool y) [] [] (fun (_ : Unit) => []) := by
 rw [m_cmp_isNaN_string_] at hm
 refine GS.st Tryz.func107 Tryz.ntmps107 (fun w => ?_)
 refine GS.seq ?_
 refine GS.ez [] [] [] ?_
 refine GS.seq ?_
 refine GS.ez [0] [(2,.bool (!(a0.toList == a0.toList)))] [] ?_
 have hy := Option.some.inj hm
 subst hy
 exact GS.rv [0] [] Tryz.func107 () []

theorem w_cmp_Compare_string_ (F : Nat) (a0 a1 : ByteArray) {y : Int} (hm : m_cmp_Compare_string_ F a0 a1 = some y) : CallG Tryz.prog 82 #[.string a0,.string a1] (X := Unit) (fun (_ : Unit) => vI y) [] [] (fun (_ : Unit) => []) := by
 rw [m_cmp_Compare_string_] at hm
 refine GS.st Tryz.func82 Tryz.ntmps82 (fun w => ?_)
 refine GS.seq ?_
 refine GS.ez [] [] [] ?_
 refine GS.seq ?_
 refine bnd_elim hm (fun y3 e4 hm => ?_)
 refine GS.eg [] [(5,.bool y3)] [] [] [(1,hC [] (.bool y3))] [⟨(w_cmp_isNaN_string_ F a0 e4).ok (es := []) trivial⟩] ?_
 refine GS.seq ?_
 refine bnd_elim hm (fun y6 e7 hm => ?_)
 refine GS.eg [] [(6,.bool y6)] [] [] [(1,hC [] (.bool y6))] [⟨(w_cmp_isNaN_string_ F a1 e7).ok (es := []) trivial⟩] ?_
 refine GS.seq ?_
 refine GS.seq ?_
 refine GS.ez [5] [(11,.bool y3)] [] ?_
 refine GS.cd y3 (fun h9 => ?_) (fun h9 => ?_)
 ·replace hm := br_t h9 hm
  refine GS.seq ?_
  refine GS.seq ?_
  refine GS.ez [0,1,6,11] [(12,.bool y6)] [] ?_
  refine GS.cd y6 (fun a => ?_) (fun a => ?_)
  ·replace hm := br_t a hm
   refine GS.seq ?_
   refine GS.ez [12] [(4,vI 0)] [] ?_
   have hy := Option.some.inj hm
   subst hy
   exact GS.rv [0] [] Tryz.func82 () []
  ·replace hm := br_f a hm
   refine GS.skip ?_
   refine GS.seq ?_
   refine GS.ez [12] [(4,vI (-1))] [] ?_
   have hy := Option.some.inj hm
   subst hy
   exact GS.rv [0] [] Tryz.func82 () []
 ·replace hm := br_f h9 hm
  refine GS.skip ?_
  refine GS.seq ?_
  refine GS.seq ?_
  refine GS.ez [6,11] [(13,.bool y6)] [] ?_
  refine GS.cd y6 (fun b => ?_) (fun b => ?_)
  ·replace hm := br_t b hm
   refine GS.seq ?_
   refine GS.ez [0,1,13] [(4,vI 1)] [] ?_
   have hy := Option.some.inj hm
   subst hy
   exact GS.rv [0] [] Tryz.func82 () []
  ·replace hm := br_f b hm
   refine GS.skip ?_
   refine GS.seq ?_
   refine GS.seq ?_
   refine GS.ez [13] [(16,.bool (Op.bytesLess a0.toList a1.toList))] [] ?_
   refine GS.cd (Op.bytesLess a0.toList a1.toList) (fun c => ?_) (fun c => ?_)
   ·replace hm := br_t c hm
    refine GS.seq ?_
    refine GS.ez [0,1,16] [(4,vI (-1))] [] ?_
    have hy := Option.some.inj hm
    subst hy
    exact GS.rv [0] [] Tryz.func82 () []
   ·replace hm := br_f c hm
    refine GS.skip ?_
    refine GS.seq ?_
    refine GS.seq ?_
    refine GS.ez [0,1,16] [(19,.bool (!(Op.bytesLess a0.toList a1.toList || a0.toList == a1.toList)))] [] ?_
    refine GS.cd (!(Op.bytesLess a0.toList a1.toList || a0.toList == a1.toList)) (fun d => ?_) (fun d => ?_)
    ·replace hm := br_t d hm
     refine GS.seq ?_
     refine GS.ez [19] [(4,vI 1)] [] ?_
     have hy := Option.some.inj hm
     subst hy
     exact GS.rv [0] [] Tryz.func82 () []
    ·replace hm := br_f d hm
     refine GS.skip ?_
     refine GS.seq ?_
     refine GS.ez [19] [(4,vI 0)] [] ?_
     have hy := Option.some.inj hm
     subst hy
     exact GS.rv [0] [] Tryz.func82 () []

theorem w_pglog_look_api_Item_string__1 (F : Nat) (a0 : S_api_Item) (a1 : ByteArray) (a : Nat) {y : Int} (hm : m_pglog_look_api_Item_string__1 F a0 a1 = some y) : CallG Tryz.prog 81 #[.agg ((kc33 a0.Name a0.Version.Epoch a0.Version.N a0.Crc)).toArray,.string a1,pA a 0] (X := Unit) (fun (_ : Unit) => vI y) [] [.rd (some ⟨a,0,none⟩) 1 [[.func (.func 56) #[] #[]]]] (fun (_ : Unit) => []) := by
 rw [m_pglog_look_api_Item_string__1] at hm
 refine GS.st Tryz.func81 Tryz.ntmps81 (fun w => ?_)
 refine GS.seq ?_
 refine GS.dg [0] (fun b => [(3,pA ((b 0).x) 0)]) [] (fun b => [(2,.cells ((b 0).x) 91 (kc33 a0.Name a0.Version.Epoch a0.Version.N a0.Crc))]) [(0,hN 2)] (fun b => []) (fun b => ?_)
 refine GS.seq ?_
 refine bnd_elim hm (fun y3 e4 hm => ?_)
 refine bnd_elim hm (fun y5 e6 hm => ?_)
 refine GS.eg [1,2,3] [(5,vI y5)] [1,2] [] [(0,hR 1 0 0 [.func (.func 56) #[] #[]]),(1,hL 2 0 0),(2,hC [] (.string y3)),(4,hC [] (vI y5))] [qE a,qE (offs (some ⟨a,0,none⟩) + (0 * 1 + 0)),qE (some ([.func (.func 56) #[] #[]] : List Value)),qE ((b 0).x),⟨(w_pglog_itemName F a0 e4).ok (es := []) trivial⟩,⟨(w_cmp_Compare_string_ F y3 a1 e6).ok (es := []) trivial⟩] ?_
 have hy := Option.some.inj hm
 subst hy
 exact GS.rv [0] [] Tryz.func81 () []

theorem w_slices_BinarySearchFunc___api_Item_api_Item_string_ (F : Nat) (c : Option Addr) (d : Nat) (a0 : List S_api_Item) (a1 : ByteArray) (a2c0b : Nat) {y : Int × Bool} (hm : m_slices_BinarySearchFunc___api_Item_api_Item_string_ F a0 a1 = some y) : CallG Tryz.prog 80 #[.slice c a0.length d,.string a1,.func (.func 81) #[] #[pA a2c0b 0]] (X := Unit) (fun (_ : Unit) => .tuple #[vI y.1,.bool y.2]) [] [r91 c a0,.rd (some ⟨a2c0b,0,none⟩) 1 [[.func (.func 56) #[] #[]]]] (fun (_ : Unit) => []) := by
 rw [m_slices_BinarySearchFunc___api_Item_api_Item_string_] at hm
 refine GS.st Tryz.func80 Tryz.ntmps80 (fun w => ?_)
 refine GS.seq ?_
 refine GS.ez [] [] [] ?_
 refine GS.seq ?_
 refine GS.ez [] [(8,vI (a0.length : Int))] [] ?_
 refine GS.seq ?_
 refine GS.ez [] [(9,vI 0),(10,vI (a0.length : Int))] [] ?_
 refine GS.seq ?_
 refine GS.block ?_
 refine GS.loop ?_
 refine loopW_elim hm (fun st62 hst64 hm => ?_)
 refine GS.li (ι := Nat × Int × Int) (fun ⟨e,a,b⟩ => loopW st62 e (a,b) = some y) (fun ⟨e,a,b⟩ => e) [] (fun ⟨e,a,b⟩ => [(9,vI a),(10,vI b)]) [] (fun ⟨e,a,b⟩ => []) ?_ ⟨F,0,(a0.length : Int)⟩ hm
 rintro ⟨e,a,b⟩ hm h
 cases e with
 | zero => cases hm
 | succ e =>
  replace hm := (hst64 _ _).symm.trans hm
  try dsimp only at hm
  refine GS.seq ?_
  refine GS.seq ?_
  refine GS.ez [] [(17,.bool (decide (a < b)))] [] ?_
  refine GS.cd (decide (a < b)) (fun i => ?_) (fun i => ?_)
  ·replace hm := br_t i hm
   refine GS.skip ?_
   refine GS.block ?_
   refine GS.seq ?_
   refine grd_elim hm (fun n hm => ?_)
   refine GS.eg [17] [(11,vI (IntKind.i64.wrap (Int.fdiv (IntKind.u64.wrap (a + b)) (2 ^ 1))))] [] [] [(2,hP (vI (a + b)))] [⟨(I64.w n : oW (a + b))⟩] ?_
   refine GS.seq ?_
   refine grd_elim hm (fun j hm => ?_)
   refine bnd_elim hm (fun f o hm => ?_)
   refine GS.eg [] [(31,.bool (decide (f < 0)))] [] [] [(3,hA (.idx 1 (Int.toNat (IntKind.i64.wrap (Int.fdiv (IntKind.u64.wrap (a + b)) (2 ^ 1)))))),(4,hR 1 (Int.toNat (IntKind.i64.wrap (Int.fdiv (IntKind.u64.wrap (a + b)) (2 ^ 1)))) 0 [.string ((a0.getD (Int.toNat (IntKind.i64.wrap (Int.fdiv (IntKind.u64.wrap (a + b)) (2 ^ 1)))) dS_api_Item).Name),vI (((a0.getD (Int.toNat (IntKind.i64.wrap (Int.fdiv (IntKind.u64.wrap (a + b)) (2 ^ 1)))) dS_api_Item).Version).Epoch),vI (((a0.getD (Int.toNat (IntKind.i64.wrap (Int.fdiv (IntKind.u64.wrap (a + b)) (2 ^ 1)))) dS_api_Item).Version).N),.int .u32 ((a0.getD (Int.toNat (IntKind.i64.wrap (Int.fdiv (IntKind.u64.wrap (a + b)) (2 ^ 1)))) dS_api_Item).Crc)]),(6,hC [2] (vI f))] [qE c,⟨(mlen S_api_Item.row a0 : a0.length = (List.map S_api_Item.row a0).length)⟩,⟨j.eq⟩,⟨j.2⟩,qE (blk c),qE (offs c + (Int.toNat (IntKind.i64.wrap (Int.fdiv (IntKind.u64.wrap (a + b)) (2 ^ 1)))) * 4),⟨(map_at S_api_Item.row dS_api_Item j.2 : (List.map S_api_Item.row a0)[(Int.toNat (IntKind.i64.wrap (Int.fdiv (IntKind.u64.wrap (a + b)) (2 ^ 1))))]? = some [.string ((a0.getD (Int.toNat (IntKind.i64.wrap (Int.fdiv (IntKind.u64.wrap (a + b)) (2 ^ 1)))) dS_api_Item).Name),vI (((a0.getD (Int.toNat (IntKind.i64.wrap (Int.fdiv (IntKind.u64.wrap (a + b)) (2 ^ 1)))) dS_api_Item).Version).Epoch),vI (((a0.getD (Int.toNat (IntKind.i64.wrap (Int.fdiv (IntKind.u64.wrap (a + b)) (2 ^ 1)))) dS_api_Item).Version).N),.int .u32 ((a0.getD (Int.toNat (IntKind.i64.wrap (Int.fdiv (IntKind.u64.wrap (a + b)) (2 ^ 1)))) dS_api_Item).Crc)])⟩,⟨(w_pglog_look_api_Item_string__1 F (a0.getD (Int.toNat (IntKind.i64.wrap (Int.fdiv (IntKind.u64.wrap (a + b)) (2 ^ 1)))) dS_api_Item) a1 a2c0b o).ok (es := [some (.rd (some ⟨a2c0b,0,none⟩) 1 [[.func (.func 56) #[] #[]]])]) ⟨(.inl ⟨_,mm0,Cov.refl _⟩),trivial⟩⟩] ?_
   refine GS.cd (decide (f < 0)) (fun k => ?_) (fun k => ?_)
   ·replace hm := br_t k hm
    refine grd_elim hm (fun p hm => ?_)
    refine GS.eg [11,31] [(9,vI ((IntKind.i64.wrap (Int.fdiv (IntKind.u64.wrap (a + b)) (2 ^ 1))) + 1))] [] [] [(1,hP (vI ((IntKind.i64.wrap (Int.fdiv (IntKind.u64.wrap (a + b)) (2 ^ 1))) + 1)))] [⟨(I64.w p : oW ((IntKind.i64.wrap (Int.fdiv (IntKind.u64.wrap (a + b)) (2 ^ 1))) + 1))⟩] ?_
    refine GS.inBlock ?_
    refine GS.inLoop ?_
    exact GS.rs (h ⟨e,((IntKind.i64.wrap (Int.fdiv (IntKind.u64.wrap (a + b)) (2 ^ 1))) + 1),b⟩ hm (Nat.lt_succ_self _))
   ·replace hm := br_f k hm
    refine GS.ez [11,31] [(10,vI (IntKind.i64.wrap (Int.fdiv (IntKind.u64.wrap (a + b)) (2 ^ 1))))] [] ?_
    refine GS.inBlock ?_
    refine GS.inLoop ?_
    exact GS.rs (h ⟨e,a,(IntKind.i64.wrap (Int.fdiv (IntKind.u64.wrap (a + b)) (2 ^ 1)))⟩ hm (Nat.lt_succ_self _))
  ·replace hm := br_f i hm
   refine GS.exit rfl ?_
   refine GS.seq ?_
   refine br_elim hm (fun l hm => ?_) (fun l hm => ?_)
   ·skip
    refine grd_elim hm (fun m hm => ?_)
    refine bnd_elim hm (fun g q hm => ?_)
    refine GS.eg [0,1,2,8,9,10,17] [(6,vI a),(7,.bool (g == 0))] [1,2] [] [(4,hP (.bool true)),(8,hA (.idx 1 (Int.toNat a))),(9,hR 1 (Int.toNat a) 0 [.string ((a0.getD (Int.toNat a) dS_api_Item).Name),vI (((a0.getD (Int.toNat a) dS_api_Item).Version).Epoch),vI (((a0.getD (Int.toNat a) dS_api_Item).Version).N),.int .u32 ((a0.getD (Int.toNat a) dS_api_Item).Crc)]),(11,hC [2] (vI g))] [⟨bool_eq l⟩,qE c,⟨(mlen S_api_Item.row a0 : a0.length = (List.map S_api_Item.row a0).length)⟩,⟨m.eq⟩,⟨m.2⟩,qE (blk c),qE (offs c + (Int.toNat a) * 4),⟨(map_at S_api_Item.row dS_api_Item m.2 : (List.map S_api_Item.row a0)[(Int.toNat a)]? = some [.string ((a0.getD (Int.toNat a) dS_api_Item).Name),vI (((a0.getD (Int.toNat a) dS_api_Item).Version).Epoch),vI (((a0.getD (Int.toNat a) dS_api_Item).Version).N),.int .u32 ((a0.getD (Int.toNat a) dS_api_Item).Crc)])⟩,⟨(w_pglog_look_api_Item_string__1 F (a0.getD (Int.toNat a) dS_api_Item) a1 a2c0b q).ok (es := [some (.rd (some ⟨a2c0b,0,none⟩) 1 [[.func (.func 56) #[] #[]]])]) ⟨(.inl ⟨_,mm0,Cov.refl _⟩),trivial⟩⟩] ?_
    have hy := Option.some.inj hm
    subst hy
    exact GS.rw [0,0] [vI a,.bool (g == 0)] [] Tryz.func80 () []
   ·skip
    refine GS.eg [0,1,2,8,9,10,17] [(6,vI a),(7,.bool false)] [1,2] [] [(4,hP (.bool false))] [⟨bool_eq l⟩] ?_
    have hy := Option.some.inj hm
    subst hy
    exact GS.rw [0,0] [vI a,.bool false] [] Tryz.func80 () []

theorem w_pglog_look_api_Item_string_ (F : Nat) (a : Option Addr) (c : Nat) (a0 : List S_api_Item) (a2 : ByteArray) {y : Int × Bool} (hm : m_pglog_look_api_Item_string_ F a0 a2 = some y) : CallG Tryz.prog 55 #[.slice a a0.length c,.func (.func 56) #[] #[],.string a2] (X := Unit) (fun (_ : Unit) => .tuple #[vI y.1,.bool y.2]) [] [r91 a a0] (fun (_ : Unit) => []) := by
 rw [m_pglog_look_api_Item_string_] at hm
 refine GS.st Tryz.func55 Tryz.ntmps55 (fun w => ?_)
 refine GS.seq ?_
 refine GS.dg [1] (fun b => [(4,pA ((b 0).x) 0)]) [] (fun b => [(2,.cells ((b 0).x) 118 [.func (.func 56) #[] #[]])]) [(0,hN 2)] (fun b => []) (fun b => ?_)
 refine GS.seq ?_
 refine bnd_elim hm (fun y3 e4 hm => ?_)
 refine GS.eg [0,2,4] [(6,vI y3.1),(7,.bool y3.2)] [1,2] [] [(3,hC [1,2] (.tuple #[vI y3.1,.bool y3.2]))] [⟨(w_slices_BinarySearchFunc___api_Item_api_Item_string_ F a c a0 a2 (b 0).x e4).ok (es := [some (r91 a a0),some (.cells ((b 0).x) 118 [.func (.func 56) #[] #[]])]) ⟨(.inl ⟨_,mm0,Cov.refl _⟩),(.inl ⟨_,mm1,Cov.cells_rd⟩),trivial⟩⟩] ?_
 have hy := Option.some.inj hm
 subst hy
 exact GS.rw [0,0] [vI y3.1,.bool y3.2] [] Tryz.func55 () []

theorem w_slices_Delete___api_Item_api_Item_ (F : Nat) (c : Option Addr) (b : Nat) (a0 : List S_api_Item) (a1 a2 : Int) (d : a0.length ≤ b) {y : List S_api_Item} (hm : m_slices_Delete___api_Item_api_Item_ F a0 a1 a2 = some y) : CallG Tryz.prog 57 #[.slice c a0.length b,vI a1,vI a2] (X := Option Addr × Nat) (fun ⟨x0,x1⟩ => .slice x0 y.length x1) [o91 c b a0] [] (fun ⟨x0,x1⟩ => [o91 x0 x1 y]) := by
 rw [m_slices_Delete___api_Item_api_Item_] at hm
 refine GS.st Tryz.func57 Tryz.ntmps57 (fun w => ?_)
 refine GS.seq ?_
 refine GS.ez [] [] [] ?_
 refine GS.seq ?_
 refine grd_elim hm (fun g3 hm => ?_)
 refine grd_elim hm (fun g4 hm => ?_)
 refine GS.eg [] [] [] [] [(5,{ act := .cut (Int.toNat a1) (Int.toNat a2) a0.length,sp := some (.slice (cutOb c (Int.toNat a1) a0.length 4) ((Int.toNat a2) - (Int.toNat a1)) (a0.length - (Int.toNat a1))) })] [⟨g4.eq⟩,⟨g3.eq⟩,qE (a0.length : Int),⟨g4.2⟩,⟨g3.2⟩,⟨((Nat.le_trans (Nat.le_refl _) d) : a0.length ≤ b)⟩,⟨((by intro h; first | rfl | cases h) : (some (Operand.tmp 10) : Option Operand) = none → (some (Operand.tmp 12) : Option Operand) = none)⟩,⟨(rfl : (.slice (if a0.length = (Int.toNat a1) then c else (c).map (fun a => a.add ((Int.toNat a1) * 4))) ((Int.toNat a2) - (Int.toNat a1)) (a0.length - (Int.toNat a1)) : Value) = .slice (cutOb c (Int.toNat a1) a0.length 4) ((Int.toNat a2) - (Int.toNat a1)) (a0.length - (Int.toNat a1)))⟩] ?_
 refine GS.seq ?_
 refine GS.seq ?_
 refine GS.ez [] [(16,.bool (a1 == a2))] [] ?_
 refine GS.cd (a1 == a2) (fun h6 => ?_) (fun h6 => ?_)
 ·replace hm := br_t h6 hm
  refine GS.seq ?_
  refine GS.ez [0,1,2,16] [(6,.slice c a0.length b)] [] ?_
  have hy := Option.some.inj hm
  subst hy
  exact GS.rv [0] [] Tryz.func57 ⟨c,b⟩ [1]
 ·replace hm := br_f h6 hm
  refine GS.skip ?_
  refine GS.seq ?_
  refine GS.ez [16] [(7,vI (a0.length : Int))] [] ?_
  refine GS.seq ?_
  refine grd_elim hm (fun f hm => ?_)
  refine grd_elim hm (fun i hm => ?_)
  refine grd_elim hm (fun j hm => ?_)
  refine GS.xg [1,2] (fun e => [(0,.slice c ((a0.take (Int.toNat a1) ++ a0.drop (Int.toNat a2)).length) b)]) [] (fun e => [(1,.osl c b 91 4 ((List.map S_api_Item.row a0).take (Int.toNat a1) ++ (List.map S_api_Item.row a0).drop (Int.toNat a2)))]) [(2,{ act := .cut 0 (Int.toNat a1) b,sp := some (.slice c (Int.toNat a1) b) }),(5,{ act := .cut (Int.toNat a2) a0.length b,sp := some (.slice (cutOb c (Int.toNat a2) b 4) (a0.length - (Int.toNat a2)) (b - (Int.toNat a2))) }),(6,{ act := .appSelf (Int.toNat a1) (Int.toNat a2) b,key := some 1,sp := some (.slice c ((a0.take (Int.toNat a1) ++ a0.drop (Int.toNat a2)).length) b) })] (fun e => [qE 0,⟨f.eq⟩,qE b,⟨((Nat.zero_le _) : 0 ≤ (Int.toNat a1))⟩,⟨((Nat.le_trans f.2 d) : (Int.toNat a1) ≤ b)⟩,⟨((Nat.le_refl _) : b ≤ b)⟩,⟨((by intro h; first | rfl | cases h) : (some (Operand.tmp 21) : Option Operand) = none → (none : Option Operand) = none)⟩,⟨(cut_zero _ _ _ _ : (.slice (if b = 0 then c else (c).map (fun a => a.add (0 * 4))) ((Int.toNat a1) - 0) (b - 0) : Value) = .slice c (Int.toNat a1) b)⟩,⟨g3.eq⟩,qE a0.length,qE b,⟨g3.2⟩,⟨((Nat.le_trans (Nat.le_refl _) d) : a0.length ≤ b)⟩,⟨((Nat.le_refl _) : b ≤ b)⟩,⟨((by intro h; first | rfl | cases h) : (none : Option Operand) = none → (none : Option Operand) = none)⟩,⟨(rfl : (.slice (if b = (Int.toNat a2) then c else (c).map (fun a => a.add ((Int.toNat a2) * 4))) (a0.length - (Int.toNat a2)) (b - (Int.toNat a2)) : Value) = .slice (cutOb c (Int.toNat a2) b 4) (a0.length - (Int.toNat a2)) (b - (Int.toNat a2)))⟩,qE c,qE b,qE (Int.toNat a1),⟨((by rw [(mlen S_api_Item.row a0).symm]; exact f.2) : (Int.toNat a1) ≤ (List.map S_api_Item.row a0).length)⟩,⟨((by rw [(mlen S_api_Item.row a0).symm]; exact (Nat.le_trans g3.2 (Nat.le_refl _))) : (Int.toNat a2) ≤ (List.map S_api_Item.row a0).length)⟩,⟨((by rw [(mlen S_api_Item.row a0).symm]; exact (Nat.le_trans (Nat.le_refl _) d)) : (List.map S_api_Item.row a0).length ≤ b)⟩,qE (cutOb c (Int.toNat a2) b 4),⟨((by rw [(mlen S_api_Item.row a0).symm]) : a0.length - (Int.toNat a2) = (List.map S_api_Item.row a0).length - (Int.toNat a2))⟩,⟨((by rw [(mlen S_api_Item.row a0).symm]; exact i) : ((Int.toNat a1) + ((List.map S_api_Item.row a0).length - (Int.toNat a2))) * (40 + 1) ≤ 70368744177664)⟩,⟨((all_one S_api_Item.row _ (fun _ => rfl)) : (List.map S_api_Item.row a0).flatten.all Value.oneCell' = true)⟩,⟨((by rw [(mlen S_api_Item.row a0).symm]; exact (by have h1 := j; have h2 : a0.length ≤ b := d; have h3 : (Int.toNat a2) ≤ a0.length := (Nat.le_trans g3.2 (Nat.le_refl _)); omega)) : (Int.toNat a1) + ((List.map S_api_Item.row a0).length - (Int.toNat a2)) ≤ b)⟩,⟨(slen (by rw [(mlen S_api_Item.row a0).symm]; simp only [List.length_append,List.length_take,List.length_drop]; have : (Int.toNat a1) ≤ a0.length := f.2; omega) : ((.slice c ((Int.toNat a1) + ((List.map S_api_Item.row a0).length - (Int.toNat a2))) b) : Value) = .slice c ((a0.take (Int.toNat a1) ++ a0.drop (Int.toNat a2)).length) b)⟩]) (fun e => ?_)
  refine GS.ce 1 (fun rr : List (List Value) => .osl c b 91 4 rr) (show (List.map S_api_Item.row a0).take (Int.toNat a1) ++ (List.map S_api_Item.row a0).drop (Int.toNat a2) = List.map S_api_Item.row (a0.take (Int.toNat a1) ++ a0.drop (Int.toNat a2)) from (by rw [show List.map S_api_Item.row a0 = List.map S_api_Item.row a0 from rfl]; simp only [List.map_append,List.map_take,List.map_drop])) ?_
  refine GS.seq ?_
  refine grd_elim hm (fun g hm => ?_)
  refine GS.eg [7] [] [] [] [(4,{ act := .cut ((a0.take (Int.toNat a1) ++ a0.drop (Int.toNat a2)).length) a0.length b,sp := some (.slice (cutOb c (a0.take (Int.toNat a1) ++ a0.drop (Int.toNat a2)).length b 4) (a0.length - ((a0.take (Int.toNat a1) ++ a0.drop (Int.toNat a2)).length)) (b - ((a0.take (Int.toNat a1) ++ a0.drop (Int.toNat a2)).length))) }),(5,hK (.clearS (a0.take (Int.toNat a1) ++ a0.drop (Int.toNat a2)).length b) 1)] [qE (((a0.take (Int.toNat a1) ++ a0.drop (Int.toNat a2)).length : Nat) : Int),qE (a0.length : Int),qE b,⟨g⟩,⟨d⟩,⟨((Nat.le_refl _) : b ≤ b)⟩,⟨((by intro h; first | rfl | cases h) : (some (Operand.tmp 30) : Option Operand) = none → (none : Option Operand) = none)⟩,⟨(rfl : (.slice (if b = (a0.take (Int.toNat a1) ++ a0.drop (Int.toNat a2)).length then c else (c).map (fun a => a.add ((a0.take (Int.toNat a1) ++ a0.drop (Int.toNat a2)).length * 4))) (a0.length - ((a0.take (Int.toNat a1) ++ a0.drop (Int.toNat a2)).length)) (b - ((a0.take (Int.toNat a1) ++ a0.drop (Int.toNat a2)).length)) : Value) = .slice (cutOb c (a0.take (Int.toNat a1) ++ a0.drop (Int.toNat a2)).length b 4) (a0.length - ((a0.take (Int.toNat a1) ++ a0.drop (Int.toNat a2)).length)) (b - ((a0.take (Int.toNat a1) ++ a0.drop (Int.toNat a2)).length)))⟩,qE (cutOb c (a0.take (Int.toNat a1) ++ a0.drop (Int.toNat a2)).length b 4),⟨((by rw [(mlen S_api_Item.row (a0.take (Int.toNat a1) ++ a0.drop (Int.toNat a2))).symm]; exact Nat.le_refl _) : (List.map S_api_Item.row (a0.take (Int.toNat a1) ++ a0.drop (Int.toNat a2))).length ≤ (a0.take (Int.toNat a1) ++ a0.drop (Int.toNat a2)).length)⟩,⟨((by have h1 : a0.length ≤ b := d; have h2 : (a0.take (Int.toNat a1) ++ a0.drop (Int.toNat a2)).length ≤ a0.length := g; omega) : (a0.take (Int.toNat a1) ++ a0.drop (Int.toNat a2)).length + (a0.length - ((a0.take (Int.toNat a1) ++ a0.drop (Int.toNat a2)).length)) ≤ b)⟩,⟨((Nat.le_refl _) : b ≤ b)⟩] ?_
  refine GS.seq ?_
  refine GS.ez [0] [(6,.slice c ((a0.take (Int.toNat a1) ++ a0.drop (Int.toNat a2)).length) b)] [] ?_
  have hy := Option.some.inj hm
  subst hy
  exact GS.rv [0] [] Tryz.func57 ⟨c,b⟩ [1]

end Go.Proofs.YtjnbkhnebmlilaaGreat
