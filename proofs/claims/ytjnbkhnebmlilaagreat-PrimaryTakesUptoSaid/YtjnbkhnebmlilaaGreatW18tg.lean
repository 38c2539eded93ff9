/-
  CHAPTER 18t: the functions do what their models say (7).
-/
import Derived.Test.YtjnbkhnebmlilaaGreatE18t
import Derived.Test.YtjnbkhnebmlilaaGreatW18tf
import Derived.Test.YtjnbkhnebmlilaaGreatI18
set_option linter.unusedVariables false
set_option linter.unusedSimpArgs false
set_option maxRecDepth 100000
set_option maxHeartbeats 8000000
namespace Go.Proofs.YtjnbkhnebmlilaaGreat
open Go Go.RowKit Sx

theorem w_slices_BinarySearchFunc___api_Item_api_Item_string__2 (F : Nat) (c : Option Addr) (d : Nat) (a0 : List S_api_Item) (a1 : ByteArray) (a2c0b : Nat) {y : Int × Bool} (hm : m_slices_BinarySearchFunc___api_Item_api_Item_string__2 F a0 a1 = some y) : CallG Tryz.prog 80 #[.slice c a0.length d,.string a1,.func (.func 81) #[] #[pA a2c0b 0]] (X := Unit) (fun (_ : Unit) => .tuple #[vI y.1,.bool y.2]) [] [r91 c a0,.rd (some ⟨a2c0b,0,none⟩) 1 [[.func (.func 56) #[] #[]]]] (fun (_ : Unit) => []) := by
  intro w hg
  rw [m_slices_BinarySearchFunc___api_Item_api_Item_string__2] at hm
  refine GS.start (S := mayT [] [r91 c a0,.rd (some ⟨a2c0b,0,none⟩) 1 [[.func (.func 56) #[] #[]]]]) (mem := [(1,r91 c a0),(2,.rd (some ⟨a2c0b,0,none⟩) 1 [[.func (.func 56) #[] #[]]])]) Tryz.func80 rfl Tryz.ntmps80 (Nat.le_of_ble_eq_true rfl) (hg.start rfl) ?_
  refine GS.conv (env' := [(0,.slice c a0.length d),(1,.string a1),(2,.func (.func 81) #[] #[pA a2c0b 0])]) rfl rfl ?_
  refine GS.seq ?_
  refine GS.tzM (fun _ => [(0,.slice c a0.length d),(1,.string a1),(2,.func (.func 81) #[] #[pA a2c0b 0])]) [] ?_
  intro _
  refine GS.seq ?_
  refine GS.tzM (fun _ => [(0,.slice c a0.length d),(1,.string a1),(2,.func (.func 81) #[] #[pA a2c0b 0]),(8,vI (a0.length : Int))]) [] ?_
  intro _
  refine GS.seq ?_
  refine GS.tzM (fun _ => [(0,.slice c a0.length d),(1,.string a1),(2,.func (.func 81) #[] #[pA a2c0b 0]),(8,vI (a0.length : Int)),(9,vI 0),(10,vI (a0.length : Int))]) [] ?_
  intro _
  refine GS.seq ?_
  refine GS.block ?_
  refine GS.loop ?_
  refine GS.rekey (env' := [(0,.slice c a0.length d),(1,.string a1),(2,.func (.func 81) #[] #[pA a2c0b 0]),(8,vI (a0.length : Int)),(9,vI 0),(10,vI (a0.length : Int))]) (mem' := [(1,r91 c a0),(2,.rd (some ⟨a2c0b,0,none⟩) 1 [[.func (.func 56) #[] #[]]])]) [0,1,2,8,9,10] [(1,1),(2,2)] (by kernel_rfl) (by kernel_rfl) rfl ?_
  refine loopW_elim hm (fun st62 hst64 hm => ?_)
  refine GS.loopInv (ι := Nat × Int × Int) (I := fun ⟨e,a,b⟩ => loopW st62 e (a,b) = some y) (μ := fun ⟨e,a,b⟩ => e) (E := fun ⟨e,a,b⟩ => [(0,.slice c a0.length d),(1,.string a1),(2,.func (.func 81) #[] #[pA a2c0b 0]),(8,vI (a0.length : Int)),(9,vI a),(10,vI b)]) (M := fun ⟨e,a,b⟩ => [(1,r91 c a0),(2,.rd (some ⟨a2c0b,0,none⟩) 1 [[.func (.func 56) #[] #[]]])]) ?_ ⟨F,0,(a0.length : Int)⟩ hm
  rintro ⟨e,a,b⟩ hm h
  cases e with
  | zero => cases hm
  | succ e =>
    replace hm := (hst64 _ _).symm.trans hm
    try dsimp only at hm
    refine GS.seq ?_
    refine GS.seq ?_
    refine GS.tzM (fun _ => [(0,.slice c a0.length d),(1,.string a1),(2,.func (.func 81) #[] #[pA a2c0b 0]),(8,vI (a0.length : Int)),(9,vI a),(10,vI b),(17,.bool (decide (a < b)))]) [] ?_
    intro _
    refine GS.cond (t := decide (a < b)) rfl rfl (fun i => ?_) (fun i => ?_)
    · replace hm := br_t i hm
      refine GS.skip ?_
      refine GS.block ?_
      refine GS.seq ?_
      refine grd_elim hm (fun n hm => ?_)
      refine GS.tgM (fun _ => [(0,.slice c a0.length d),(1,.string a1),(2,.func (.func 81) #[] #[pA a2c0b 0]),(8,vI (a0.length : Int)),(9,vI a),(10,vI b),(11,vI (IntKind.i64.wrap (Int.fdiv (IntKind.u64.wrap (a + b)) (2 ^ 1))))]) [(2,{ sp := some (vI (a + b)) })] (fun _ => [oW (a + b)]) (fun _ => ⟨I64.w n,trivial⟩) ?_
      intro _
      refine GS.seq ?_
      refine grd_elim hm (fun j hm => ?_)
      refine bnd_elim hm (fun f o hm => ?_)
      refine GS.tgM (fun _ => [(0,.slice c a0.length d),(1,.string a1),(2,.func (.func 81) #[] #[pA a2c0b 0]),(8,vI (a0.length : Int)),(9,vI a),(10,vI b),(11,vI (IntKind.i64.wrap (Int.fdiv (IntKind.u64.wrap (a + b)) (2 ^ 1)))),(31,.bool (decide (f < 0)))]) [(3,{ act := .idx 1 (Int.toNat (IntKind.i64.wrap (Int.fdiv (IntKind.u64.wrap (a + b)) (2 ^ 1)))) }),(4,{ act := .load 1 (Int.toNat (IntKind.i64.wrap (Int.fdiv (IntKind.u64.wrap (a + b)) (2 ^ 1)))) 0 [.string ((a0.getD (Int.toNat (IntKind.i64.wrap (Int.fdiv (IntKind.u64.wrap (a + b)) (2 ^ 1)))) dS_api_Item).Name),vI (((a0.getD (Int.toNat (IntKind.i64.wrap (Int.fdiv (IntKind.u64.wrap (a + b)) (2 ^ 1)))) dS_api_Item).Version).Epoch),vI (((a0.getD (Int.toNat (IntKind.i64.wrap (Int.fdiv (IntKind.u64.wrap (a + b)) (2 ^ 1)))) dS_api_Item).Version).N),.int .u32 ((a0.getD (Int.toNat (IntKind.i64.wrap (Int.fdiv (IntKind.u64.wrap (a + b)) (2 ^ 1)))) dS_api_Item).Crc)] }),(6,{ act := .call [2] (vI f) })] (fun _ => [c = c,a0.length = (List.map S_api_Item.row a0).length,((IntKind.i64.wrap (Int.fdiv (IntKind.u64.wrap (a + b)) (2 ^ 1))) : Int) = (((Int.toNat (IntKind.i64.wrap (Int.fdiv (IntKind.u64.wrap (a + b)) (2 ^ 1)))) : Nat) : Int),(Int.toNat (IntKind.i64.wrap (Int.fdiv (IntKind.u64.wrap (a + b)) (2 ^ 1)))) < a0.length,blk c = blk c,offs c + (Int.toNat (IntKind.i64.wrap (Int.fdiv (IntKind.u64.wrap (a + b)) (2 ^ 1)))) * 4 = offs c + ((Int.toNat (IntKind.i64.wrap (Int.fdiv (IntKind.u64.wrap (a + b)) (2 ^ 1)))) * 4 + 0),(List.map S_api_Item.row a0)[(Int.toNat (IntKind.i64.wrap (Int.fdiv (IntKind.u64.wrap (a + b)) (2 ^ 1))))]? = some [.string ((a0.getD (Int.toNat (IntKind.i64.wrap (Int.fdiv (IntKind.u64.wrap (a + b)) (2 ^ 1)))) dS_api_Item).Name),vI (((a0.getD (Int.toNat (IntKind.i64.wrap (Int.fdiv (IntKind.u64.wrap (a + b)) (2 ^ 1)))) dS_api_Item).Version).Epoch),vI (((a0.getD (Int.toNat (IntKind.i64.wrap (Int.fdiv (IntKind.u64.wrap (a + b)) (2 ^ 1)))) dS_api_Item).Version).N),.int .u32 ((a0.getD (Int.toNat (IntKind.i64.wrap (Int.fdiv (IntKind.u64.wrap (a + b)) (2 ^ 1)))) dS_api_Item).Crc)],CallOK Tryz.prog 81 #[.agg ((kc3 ((a0.getD (Int.toNat (IntKind.i64.wrap (Int.fdiv (IntKind.u64.wrap (a + b)) (2 ^ 1)))) dS_api_Item).Name) (((a0.getD (Int.toNat (IntKind.i64.wrap (Int.fdiv (IntKind.u64.wrap (a + b)) (2 ^ 1)))) dS_api_Item).Version).Epoch) (((a0.getD (Int.toNat (IntKind.i64.wrap (Int.fdiv (IntKind.u64.wrap (a + b)) (2 ^ 1)))) dS_api_Item).Version).N) ((a0.getD (Int.toNat (IntKind.i64.wrap (Int.fdiv (IntKind.u64.wrap (a + b)) (2 ^ 1)))) dS_api_Item).Crc))).toArray,.string a1,pA a2c0b 0] (vI f) [some (.rd (some ⟨a2c0b,0,none⟩) 1 [[.func (.func 56) #[] #[]]])]]) (fun _ => ⟨rfl,mlen S_api_Item.row a0,j.eq,j.2,rfl,rfl,map_at S_api_Item.row dS_api_Item j.2,(by have h1 := w_pglog_look_api_Item_string__1 F (a0.getD (Int.toNat (IntKind.i64.wrap (Int.fdiv (IntKind.u64.wrap (a + b)) (2 ^ 1)))) dS_api_Item) a1 a2c0b o; exact h1.ok ⟨(.inl ⟨.rd (some ⟨a2c0b,0,none⟩) 1 [[.func (.func 56) #[] #[]]],.head _,Cov.refl _⟩),trivial⟩),trivial⟩) ?_
      intro _
      refine GS.cond (t := decide (f < 0)) rfl rfl (fun k => ?_) (fun k => ?_)
      · replace hm := br_t k hm
        refine grd_elim hm (fun p hm => ?_)
        refine GS.tgM (fun _ => [(0,.slice c a0.length d),(1,.string a1),(2,.func (.func 81) #[] #[pA a2c0b 0]),(8,vI (a0.length : Int)),(9,vI ((IntKind.i64.wrap (Int.fdiv (IntKind.u64.wrap (a + b)) (2 ^ 1))) + 1)),(10,vI b)]) [(1,{ sp := some (vI ((IntKind.i64.wrap (Int.fdiv (IntKind.u64.wrap (a + b)) (2 ^ 1))) + 1)) })] (fun _ => [oW ((IntKind.i64.wrap (Int.fdiv (IntKind.u64.wrap (a + b)) (2 ^ 1))) + 1)]) (fun _ => ⟨I64.w p,trivial⟩) ?_
        intro _
        refine GS.inBlock ?_
        refine GS.inLoop ?_
        refine GS.rekey (env' := [(0,.slice c a0.length d),(1,.string a1),(2,.func (.func 81) #[] #[pA a2c0b 0]),(8,vI (a0.length : Int)),(9,vI ((IntKind.i64.wrap (Int.fdiv (IntKind.u64.wrap (a + b)) (2 ^ 1))) + 1)),(10,vI b)]) (mem' := [(1,r91 c a0),(2,.rd (some ⟨a2c0b,0,none⟩) 1 [[.func (.func 56) #[] #[]]])]) [0,1,2,8,9,10] [(1,1),(2,2)] (by kernel_rfl) (by kernel_rfl) rfl ?_
        exact h ⟨e,((IntKind.i64.wrap (Int.fdiv (IntKind.u64.wrap (a + b)) (2 ^ 1))) + 1),b⟩ hm (Nat.lt_succ_self _)
      · replace hm := br_f k hm
        refine GS.tzM (fun _ => [(0,.slice c a0.length d),(1,.string a1),(2,.func (.func 81) #[] #[pA a2c0b 0]),(8,vI (a0.length : Int)),(9,vI a),(10,vI (IntKind.i64.wrap (Int.fdiv (IntKind.u64.wrap (a + b)) (2 ^ 1))))]) [] ?_
        intro _
        refine GS.inBlock ?_
        refine GS.inLoop ?_
        refine GS.rekey (env' := [(0,.slice c a0.length d),(1,.string a1),(2,.func (.func 81) #[] #[pA a2c0b 0]),(8,vI (a0.length : Int)),(9,vI a),(10,vI (IntKind.i64.wrap (Int.fdiv (IntKind.u64.wrap (a + b)) (2 ^ 1))))]) (mem' := [(1,r91 c a0),(2,.rd (some ⟨a2c0b,0,none⟩) 1 [[.func (.func 56) #[] #[]]])]) [0,1,2,8,9,10] [(1,1),(2,2)] (by kernel_rfl) (by kernel_rfl) rfl ?_
        exact h ⟨e,a,(IntKind.i64.wrap (Int.fdiv (IntKind.u64.wrap (a + b)) (2 ^ 1)))⟩ hm (Nat.lt_succ_self _)
    · replace hm := br_f i hm
      refine GS.exit rfl ?_
      refine GS.seq ?_
      refine br_elim hm (fun l hm => ?_) (fun l hm => ?_)
      · skip
        refine grd_elim hm (fun m hm => ?_)
        refine bnd_elim hm (fun g q hm => ?_)
        refine GS.tg (fun _ => [(6,vI a),(7,.bool (g == 0))]) (fun _ => []) [(4,{ sp := some (.bool true) }),(8,{ act := .idx 1 (Int.toNat a) }),(9,{ act := .load 1 (Int.toNat a) 0 [.string ((a0.getD (Int.toNat a) dS_api_Item).Name),vI (((a0.getD (Int.toNat a) dS_api_Item).Version).Epoch),vI (((a0.getD (Int.toNat a) dS_api_Item).Version).N),.int .u32 ((a0.getD (Int.toNat a) dS_api_Item).Crc)] }),(11,{ act := .call [2] (vI g) })] (fun _ => [((.bool (decide (a < (a0.length : Int)))) : Value) = .bool true,c = c,a0.length = (List.map S_api_Item.row a0).length,(a : Int) = (((Int.toNat a) : Nat) : Int),(Int.toNat a) < a0.length,blk c = blk c,offs c + (Int.toNat a) * 4 = offs c + ((Int.toNat a) * 4 + 0),(List.map S_api_Item.row a0)[(Int.toNat a)]? = some [.string ((a0.getD (Int.toNat a) dS_api_Item).Name),vI (((a0.getD (Int.toNat a) dS_api_Item).Version).Epoch),vI (((a0.getD (Int.toNat a) dS_api_Item).Version).N),.int .u32 ((a0.getD (Int.toNat a) dS_api_Item).Crc)],CallOK Tryz.prog 81 #[.agg ((kc3 ((a0.getD (Int.toNat a) dS_api_Item).Name) (((a0.getD (Int.toNat a) dS_api_Item).Version).Epoch) (((a0.getD (Int.toNat a) dS_api_Item).Version).N) ((a0.getD (Int.toNat a) dS_api_Item).Crc))).toArray,.string a1,pA a2c0b 0] (vI g) [some (.rd (some ⟨a2c0b,0,none⟩) 1 [[.func (.func 56) #[] #[]]])]]) (fun _ => ⟨bool_eq l,rfl,mlen S_api_Item.row a0,m.eq,m.2,rfl,rfl,map_at S_api_Item.row dS_api_Item m.2,(by have h1 := w_pglog_look_api_Item_string__1 F (a0.getD (Int.toNat a) dS_api_Item) a1 a2c0b q; exact h1.ok ⟨(.inl ⟨.rd (some ⟨a2c0b,0,none⟩) 1 [[.func (.func 56) #[] #[]]],.head _,Cov.refl _⟩),trivial⟩),trivial⟩) ?_
        intro _
        have hy := Option.some.inj hm
        subst hy
        refine GS.ret (fn := Tryz.f80) [0,0] [vI a,.bool (g == 0)] [] rfl Tryz.func80 (by kernel_rfl) trivial (fun w' hs => ?_)
        exact ⟨(),rfl,hs.turnedG (ks := []) rfl rfl⟩
      · skip
        refine GS.tg (fun _ => [(6,vI a),(7,.bool false)]) (fun _ => []) [(4,{ sp := some (.bool false) })] (fun _ => [((.bool (decide (a < (a0.length : Int)))) : Value) = .bool false]) (fun _ => ⟨bool_eq l,trivial⟩) ?_
        intro _
        have hy := Option.some.inj hm
        subst hy
        refine GS.ret (fn := Tryz.f80) [0,0] [vI a,.bool false] [] rfl Tryz.func80 (by kernel_rfl) trivial (fun w' hs => ?_)
        exact ⟨(),rfl,hs.turnedG (ks := []) rfl rfl⟩

theorem w_pglog_look_api_Item_string__2 (F : Nat) (a : Option Addr) (c : Nat) (a0 : List S_api_Item) (a2 : ByteArray) {y : Int × Bool} (hm : m_pglog_look_api_Item_string__2 F a0 a2 = some y) : CallG Tryz.prog 55 #[.slice a a0.length c,.func (.func 56) #[] #[],.string a2] (X := Unit) (fun (_ : Unit) => .tuple #[vI y.1,.bool y.2]) [] [r91 a a0] (fun (_ : Unit) => []) := by
  intro w hg
  rw [m_pglog_look_api_Item_string__2] at hm
  refine GS.start (S := mayT [] [r91 a a0]) (mem := [(1,r91 a a0)]) Tryz.func55 rfl Tryz.ntmps55 (Nat.le_of_ble_eq_true rfl) (hg.start rfl) ?_
  refine GS.conv (env' := [(0,.slice a a0.length c),(1,.func (.func 56) #[] #[]),(2,.string a2)]) rfl rfl ?_
  refine GS.seq ?_
  refine GS.tz (fun b => [(0,.slice a a0.length c),(2,.string a2),(4,pA ((b 0).x) 0)]) (fun b => [(1,r91 a a0),(2,.cells ((b 0).x) 118 [.func (.func 56) #[] #[]])]) [(0,{ act := .new .var,key := some 2 })] ?_
  intro b
  refine GS.seq ?_
  refine bnd_elim hm (fun y3 e4 hm => ?_)
  refine GS.tg (fun _ => [(6,vI y3.1),(7,.bool y3.2)]) (fun _ => []) [(3,{ act := .call [1,2] (.tuple #[vI y3.1,.bool y3.2]) })] (fun _ => [CallOK Tryz.prog 80 #[.slice a a0.length c,.string a2,.func (.func 81) #[] #[pA ((b 0).x) 0]] (.tuple #[vI y3.1,.bool y3.2]) [some (r91 a a0),some (.cells ((b 0).x) 118 [.func (.func 56) #[] #[]])]]) (fun _ => ⟨(by have h1 := w_slices_BinarySearchFunc___api_Item_api_Item_string__2 F a c a0 a2 (b 0).x e4; exact h1.ok ⟨(.inl ⟨r91 a a0,.head _,Cov.refl _⟩),(.inl ⟨.cells ((b 0).x) 118 [.func (.func 56) #[] #[]],(.tail _ (.head _)),Cov.cells_rd⟩),trivial⟩),trivial⟩) ?_
  intro _
  have hy := Option.some.inj hm
  subst hy
  refine GS.ret (fn := Tryz.f55) [0,0] [vI y3.1,.bool y3.2] [] rfl Tryz.func55 (by kernel_rfl) trivial (fun w' hs => ?_)
  exact ⟨(),rfl,hs.turnedG (ks := []) rfl rfl⟩

theorem w_slices_Delete___api_Item_api_Item_ (F : Nat) (c : Option Addr) (b : Nat) (a0 : List S_api_Item) (a1 : Int) (a2 : Int) (d : a0.length ≤ b) {y : List S_api_Item} (hm : m_slices_Delete___api_Item_api_Item_ F a0 a1 a2 = some y) : CallG Tryz.prog 57 #[.slice c a0.length b,vI a1,vI a2] (X := Option Addr × Nat) (fun ⟨x0,x1⟩ => .slice x0 y.length x1) [o91 c b a0] [] (fun ⟨x0,x1⟩ => [o91 x0 x1 y]) := by
  intro w hg
  rw [m_slices_Delete___api_Item_api_Item_] at hm
  refine GS.start (S := mayT [o91 c b a0] []) (mem := [(1,o91 c b a0)]) Tryz.func57 rfl Tryz.ntmps57 (Nat.le_of_ble_eq_true rfl) (hg.start rfl) ?_
  refine GS.conv (env' := [(0,.slice c a0.length b),(1,vI a1),(2,vI a2)]) rfl rfl ?_
  refine GS.seq ?_
  refine GS.tzM (fun _ => [(0,.slice c a0.length b),(1,vI a1),(2,vI a2)]) [] ?_
  intro _
  refine GS.seq ?_
  refine grd_elim hm (fun g3 hm => ?_)
  refine grd_elim hm (fun g4 hm => ?_)
  refine GS.tgM (fun _ => [(0,.slice c a0.length b),(1,vI a1),(2,vI a2)]) [(5,{ act := .cut (Int.toNat a1) (Int.toNat a2) a0.length,sp := some (.slice (cutOb c (Int.toNat a1) a0.length 4) ((Int.toNat a2) - (Int.toNat a1)) (a0.length - (Int.toNat a1))) })] (fun _ => [a1 = (((Int.toNat a1) : Nat) : Int),a2 = (((Int.toNat a2) : Nat) : Int),(a0.length : Int) = (a0.length : Int),(Int.toNat a1) ≤ (Int.toNat a2),(Int.toNat a2) ≤ a0.length,a0.length ≤ b,(some (Operand.tmp 10) : Option Operand) = none → (some (Operand.tmp 12) : Option Operand) = none,(.slice (if a0.length = (Int.toNat a1) then c else (c).map (fun a => a.add ((Int.toNat a1) * 4))) ((Int.toNat a2) - (Int.toNat a1)) (a0.length - (Int.toNat a1)) : Value) = .slice (cutOb c (Int.toNat a1) a0.length 4) ((Int.toNat a2) - (Int.toNat a1)) (a0.length - (Int.toNat a1))]) (fun _ => ⟨g4.eq,g3.eq,rfl,g4.2,g3.2,(Nat.le_trans (Nat.le_refl _) d),(by intro h; first | rfl | cases h),rfl,trivial⟩) ?_
  intro _
  refine GS.seq ?_
  refine GS.seq ?_
  refine GS.tzM (fun _ => [(0,.slice c a0.length b),(1,vI a1),(2,vI a2),(16,.bool (a1 == a2))]) [] ?_
  intro _
  refine GS.cond (t := a1 == a2) rfl rfl (fun h6 => ?_) (fun h6 => ?_)
  · replace hm := br_t h6 hm
    refine GS.seq ?_
    refine GS.tzM (fun _ => [(6,.slice c a0.length b)]) [] ?_
    intro _
    have hy := Option.some.inj hm
    subst hy
    refine GS.ret (fn := Tryz.f57) [0] [.slice c a0.length b] [] rfl Tryz.func57 (by kernel_rfl) trivial (fun w' hs => ?_)
    exact ⟨⟨c,b⟩,rfl,hs.turnedG (ks := [1]) rfl rfl⟩
  · replace hm := br_f h6 hm
    refine GS.skip ?_
    refine GS.seq ?_
    refine GS.tzM (fun _ => [(0,.slice c a0.length b),(1,vI a1),(2,vI a2),(7,vI (a0.length : Int))]) [] ?_
    intro _
    refine GS.seq ?_
    refine grd_elim hm (fun f hm => ?_)
    refine grd_elim hm (fun i hm => ?_)
    refine grd_elim hm (fun j hm => ?_)
    refine GS.region (env' := fun e => [(0,.slice c ((a0.take (Int.toNat a1) ++ a0.drop (Int.toNat a2)).length) b),(7,vI (a0.length : Int))]) (mem' := fun e => [(1,.osl c b 91 4 ((List.map S_api_Item.row a0).take (Int.toNat a1) ++ (List.map S_api_Item.row a0).drop (Int.toNat a2)))]) (RunsTo.mkd [(2,{ act := .cut 0 (Int.toNat a1) b,sp := some (.slice c (Int.toNat a1) b) }),(5,{ act := .cut (Int.toNat a2) a0.length b,sp := some (.slice (cutOb c (Int.toNat a2) b 4) (a0.length - (Int.toNat a2)) (b - (Int.toNat a2))) }),(6,{ act := .appSelf (Int.toNat a1) (Int.toNat a2) b,key := some 1,sp := some (.slice c ((a0.take (Int.toNat a1) ++ a0.drop (Int.toNat a2)).length) b) })] [0,7] [1] (fun e => [0 = 0,a1 = (((Int.toNat a1) : Nat) : Int),b = b,0 ≤ (Int.toNat a1),(Int.toNat a1) ≤ b,b ≤ b,(some (Operand.tmp 21) : Option Operand) = none → (none : Option Operand) = none,(.slice (if b = 0 then c else (c).map (fun a => a.add (0 * 4))) ((Int.toNat a1) - 0) (b - 0) : Value) = .slice c (Int.toNat a1) b,a2 = (((Int.toNat a2) : Nat) : Int),a0.length = a0.length,b = b,(Int.toNat a2) ≤ a0.length,a0.length ≤ b,b ≤ b,(none : Option Operand) = none → (none : Option Operand) = none,(.slice (if b = (Int.toNat a2) then c else (c).map (fun a => a.add ((Int.toNat a2) * 4))) (a0.length - (Int.toNat a2)) (b - (Int.toNat a2)) : Value) = .slice (cutOb c (Int.toNat a2) b 4) (a0.length - (Int.toNat a2)) (b - (Int.toNat a2)),c = c,b = b,(Int.toNat a1) = (Int.toNat a1),(Int.toNat a1) ≤ (List.map S_api_Item.row a0).length,(Int.toNat a2) ≤ (List.map S_api_Item.row a0).length,(List.map S_api_Item.row a0).length ≤ b,(cutOb c (Int.toNat a2) b 4) = cutOb c (Int.toNat a2) b 4,a0.length - (Int.toNat a2) = (List.map S_api_Item.row a0).length - (Int.toNat a2),((Int.toNat a1) + ((List.map S_api_Item.row a0).length - (Int.toNat a2))) * (40 + 1) ≤ 70368744177664,(List.map S_api_Item.row a0).flatten.all Value.oneCell' = true,(Int.toNat a1) + ((List.map S_api_Item.row a0).length - (Int.toNat a2)) ≤ b,((.slice c ((Int.toNat a1) + ((List.map S_api_Item.row a0).length - (Int.toNat a2))) b) : Value) = .slice c ((a0.take (Int.toNat a1) ++ a0.drop (Int.toNat a2)).length) b]) (by kernel_rfl) (by kernel_rfl) (fun e => by kernel_rfl) (fun e => ⟨rfl,f.eq,rfl,(Nat.zero_le _),(Nat.le_trans f.2 d),(Nat.le_refl _),(by intro h; first | rfl | cases h),cut_zero _ _ _ _,g3.eq,rfl,rfl,g3.2,(Nat.le_trans (Nat.le_refl _) d),(Nat.le_refl _),(by intro h; first | rfl | cases h),rfl,rfl,rfl,rfl,(by rw [(mlen S_api_Item.row a0).symm]; exact f.2),(by rw [(mlen S_api_Item.row a0).symm]; exact (Nat.le_trans g3.2 (Nat.le_refl _))),(by rw [(mlen S_api_Item.row a0).symm]; exact (Nat.le_trans (Nat.le_refl _) d)),rfl,(by rw [(mlen S_api_Item.row a0).symm]),(by rw [(mlen S_api_Item.row a0).symm]; exact i),(all_one S_api_Item.row _ (fun _ => rfl)),(by rw [(mlen S_api_Item.row a0).symm]; exact (by have h1 := j; have h2 : a0.length ≤ b := d; have h3 : (Int.toNat a2) ≤ a0.length := (Nat.le_trans g3.2 (Nat.le_refl _)); omega)),slen (by rw [(mlen S_api_Item.row a0).symm]; simp only [List.length_append,List.length_take,List.length_drop]; have : (Int.toNat a1) ≤ a0.length := f.2; omega),trivial⟩)) ?_
    intro e
    refine GS.conv (mem' := [(1,o91 c b (a0.take (Int.toNat a1) ++ a0.drop (Int.toNat a2)))]) rfl (congrArg (fun rr : List (List Value) => ([(1,.osl c b 91 4 rr)] : List (Nat × Ent))) (show (List.map S_api_Item.row a0).take (Int.toNat a1) ++ (List.map S_api_Item.row a0).drop (Int.toNat a2) = List.map S_api_Item.row (a0.take (Int.toNat a1) ++ a0.drop (Int.toNat a2)) from (by rw [show List.map S_api_Item.row a0 = List.map S_api_Item.row a0 from rfl]; simp only [List.map_append,List.map_take,List.map_drop]))) ?_
    refine GS.seq ?_
    refine grd_elim hm (fun g hm => ?_)
    refine GS.tgM (fun _ => [(0,.slice c ((a0.take (Int.toNat a1) ++ a0.drop (Int.toNat a2)).length) b)]) [(4,{ act := .cut ((a0.take (Int.toNat a1) ++ a0.drop (Int.toNat a2)).length) a0.length b,sp := some (.slice (cutOb c (a0.take (Int.toNat a1) ++ a0.drop (Int.toNat a2)).length b 4) (a0.length - ((a0.take (Int.toNat a1) ++ a0.drop (Int.toNat a2)).length)) (b - ((a0.take (Int.toNat a1) ++ a0.drop (Int.toNat a2)).length))) }),(5,{ act := .clearS (a0.take (Int.toNat a1) ++ a0.drop (Int.toNat a2)).length b,key := some 1 })] (fun _ => [(((a0.take (Int.toNat a1) ++ a0.drop (Int.toNat a2)).length : Nat) : Int) = (((a0.take (Int.toNat a1) ++ a0.drop (Int.toNat a2)).length : Nat) : Int),(a0.length : Int) = (a0.length : Int),b = b,(a0.take (Int.toNat a1) ++ a0.drop (Int.toNat a2)).length ≤ a0.length,a0.length ≤ b,b ≤ b,(some (Operand.tmp 30) : Option Operand) = none → (none : Option Operand) = none,(.slice (if b = (a0.take (Int.toNat a1) ++ a0.drop (Int.toNat a2)).length then c else (c).map (fun a => a.add ((a0.take (Int.toNat a1) ++ a0.drop (Int.toNat a2)).length * 4))) (a0.length - ((a0.take (Int.toNat a1) ++ a0.drop (Int.toNat a2)).length)) (b - ((a0.take (Int.toNat a1) ++ a0.drop (Int.toNat a2)).length)) : Value) = .slice (cutOb c (a0.take (Int.toNat a1) ++ a0.drop (Int.toNat a2)).length b 4) (a0.length - ((a0.take (Int.toNat a1) ++ a0.drop (Int.toNat a2)).length)) (b - ((a0.take (Int.toNat a1) ++ a0.drop (Int.toNat a2)).length)),cutOb c (a0.take (Int.toNat a1) ++ a0.drop (Int.toNat a2)).length b 4 = cutOb c (a0.take (Int.toNat a1) ++ a0.drop (Int.toNat a2)).length b 4,(List.map S_api_Item.row (a0.take (Int.toNat a1) ++ a0.drop (Int.toNat a2))).length ≤ (a0.take (Int.toNat a1) ++ a0.drop (Int.toNat a2)).length,(a0.take (Int.toNat a1) ++ a0.drop (Int.toNat a2)).length + (a0.length - ((a0.take (Int.toNat a1) ++ a0.drop (Int.toNat a2)).length)) ≤ b,b ≤ b]) (fun _ => ⟨rfl,rfl,rfl,g,d,(Nat.le_refl _),(by intro h; first | rfl | cases h),rfl,rfl,(by rw [(mlen S_api_Item.row (a0.take (Int.toNat a1) ++ a0.drop (Int.toNat a2))).symm]; exact Nat.le_refl _),(by have h1 : a0.length ≤ b := d; have h2 : (a0.take (Int.toNat a1) ++ a0.drop (Int.toNat a2)).length ≤ a0.length := g; omega),(Nat.le_refl _),trivial⟩) ?_
    intro _
    refine GS.seq ?_
    refine GS.tzM (fun _ => [(6,.slice c ((a0.take (Int.toNat a1) ++ a0.drop (Int.toNat a2)).length) b)]) [] ?_
    intro _
    have hy := Option.some.inj hm
    subst hy
    refine GS.ret (fn := Tryz.f57) [0] [.slice c ((a0.take (Int.toNat a1) ++ a0.drop (Int.toNat a2)).length) b] [] rfl Tryz.func57 (by kernel_rfl) trivial (fun w' hs => ?_)
    exact ⟨⟨c,b⟩,rfl,hs.turnedG (ks := [1]) rfl rfl⟩

theorem w_pglog_Append_2 (F : Nat) (C : Int) (m : S_api_Version) (l : Option Addr) (A : Nat) (n : List S_api_Entry) (d : Option Addr) (o : Nat) (k : List S_api_Last) (e : Option Addr) (q : Nat) (j : List S_api_Item) (a1 : S_api_Entry) (a2 : Int) {y : Int × S_api_Version × List S_api_Entry × List S_api_Last × List S_api_Item × Int} (hm : m_pglog_Append_2 F C m n k j a1 a2 = some y) : CallG Tryz.prog 33 #[.agg ((kc0 C m.Epoch m.N l n.length A d k.length o e j.length q)).toArray,.agg ((kc1 a1.Version.Epoch a1.Version.N a1.Remove a1.Errno a1.Name a1.Client a1.Number)).toArray,.int .u32 a2] (X := Option Addr × Nat × Option Addr × Nat × Option Addr × Nat) (fun ⟨x0,x1,x2,x3,x4,x5⟩ => .tuple #[.agg ((kc0 y.1 y.2.1.Epoch y.2.1.N x0 y.2.2.1.length x1 x2 y.2.2.2.1.length x3 x4 y.2.2.2.2.1.length x5)).toArray,vI y.2.2.2.2.2]) [] [r31 l n,r94 d k,r91 e j] (fun ⟨x0,x1,x2,x3,x4,x5⟩ => [o31 x0 x1 y.2.2.1,o94 x2 x3 y.2.2.2.1,o91 x4 x5 y.2.2.2.2.1]) := by
  intro w hg
  rw [m_pglog_Append_2] at hm
  refine GS.start (S := mayT [] [r31 l n,r94 d k,r91 e j]) (mem := [(1,r31 l n),(2,r94 d k),(3,r91 e j)]) Tryz.func33 rfl Tryz.ntmps33 (Nat.le_of_ble_eq_true rfl) (hg.start rfl) ?_
  refine GS.conv (env' := [(0,.agg ((kc0 C m.Epoch m.N l n.length A d k.length o e j.length q)).toArray),(1,.agg ((kc1 a1.Version.Epoch a1.Version.N a1.Remove a1.Errno a1.Name a1.Client a1.Number)).toArray),(2,.int .u32 a2)]) rfl rfl ?_
  refine GS.seq ?_
  refine GS.tz (fun b => [(2,.int .u32 a2),(3,pA ((b 0).x) 0),(4,pA ((b 1).x) 0),(6,pA ((b 2).x) 0)]) (fun b => [(1,r31 l n),(2,r94 d k),(3,r91 e j),(4,.cells ((b 0).x) 28 (kc0 C m.Epoch m.N l n.length A d k.length o e j.length q)),(5,.cells ((b 1).x) 31 (kc1 a1.Version.Epoch a1.Version.N a1.Remove a1.Errno a1.Name a1.Client a1.Number)),(6,.cells ((b 2).x) 28 (kc6))]) [(0,{ act := .new .var,key := some 4 }),(1,{ act := .new .var,key := some 5 }),(2,{ act := .new .var,key := some 6 })] ?_
  intro b
  refine GS.seq ?_
  refine bnd_elim hm (fun y3 e4 hm => ?_)
  refine GS.tgM (fun ad => [(2,.int .u32 a2),(3,pA ((b 0).x) 0),(4,pA ((b 1).x) 0),(6,pA ((b 2).x) 0),(9,.bool y3.2)]) [(0,{ act := .load 4 0 0 [] }),(2,{ act := .load 5 0 0 [] }),(3,{ act := .call [1,2,3] (.tuple #[.agg ((kc3 y3.1.Name y3.1.Version.Epoch y3.1.Version.N y3.1.Crc)).toArray,.bool y3.2]) }),(7,{ act := .new .var,key := some 7 }),(8,{ act := .store 0 0 [],key := some 7 })] (fun ad => [(b 0).x = (b 0).x,(b 1).x = (b 1).x,CallOK Tryz.prog 37 #[.agg ((kc0 C m.Epoch m.N l n.length A d k.length o e j.length q)).toArray,.string a1.Name] (.tuple #[.agg ((kc3 y3.1.Name y3.1.Version.Epoch y3.1.Version.N y3.1.Crc)).toArray,.bool y3.2]) [some (r31 l n),some (r94 d k),some (r91 e j)],(ad 7).x = (ad 7).x,oC (.agg ((kc3 y3.1.Name y3.1.Version.Epoch y3.1.Version.N y3.1.Crc)).toArray)]) (fun ad => ⟨rfl,rfl,(by have h1 := w_pglog_Find_2 F C m l A n d o k e q j a1.Name e4; exact h1.ok ⟨(.inl ⟨r31 l n,.head _,Cov.refl _⟩),(.inl ⟨r94 d k,(.tail _ (.head _)),Cov.refl _⟩),(.inl ⟨r91 e j,(.tail _ (.tail _ (.head _))),Cov.refl _⟩),trivial⟩),rfl,rfl,trivial⟩) ?_
  intro ad
  refine GS.seq ?_
  refine GS.block ?_
  refine GS.seq ?_
  refine jn_elim hm (fun a7 az hm => ?_)
  refine GS.cut (ι := Bool) (I := fun (V : Bool) => a7 V = some y) (E := fun (V : Bool) => [(2,.int .u32 a2),(3,pA ((b 0).x) 0),(4,pA ((b 1).x) 0),(6,pA ((b 2).x) 0),(9,.bool y3.2),(23,.bool V)]) (M := fun (V : Bool) => [(1,r31 l n),(2,r94 d k),(3,r91 e j),(4,.cells ((b 0).x) 28 (kc0 C m.Epoch m.N l n.length A d k.length o e j.length q)),(5,.cells ((b 1).x) 31 (kc1 a1.Version.Epoch a1.Version.N a1.Remove a1.Errno a1.Name a1.Client a1.Number)),(6,.cells ((b 2).x) 28 (kc6))]) ?_ ?_
  rotate_left
  · intro aj
    refine bnd_elim hm (fun y6 e7 hm => ?_)
    refine bnd_elim hm (fun y8 e9 hm => ?_)
    refine br_elim hm (fun af hm => ?_) (fun af hm => ?_)
    · skip
      refine GS.rM (env' := fun _ => [(2,.int .u32 a2),(3,pA ((b 0).x) 0),(4,pA ((b 1).x) 0),(6,pA ((b 2).x) 0),(9,.bool y3.2),(23,.bool true)]) (RunsTo.mkd [(1,{ act := .load 5 0 0 [] }),(2,{ act := .load 4 0 0 [] }),(3,{ act := .call [1,2,3] (.agg #[vI y6.Epoch,vI y6.N]) }),(4,{ act := .call [] (vI y8) }),(6,{ sp := some (.bool true) })] [2,3,4,6,9,23] [1,2,3,4,5,6] (fun _ => [(b 1).x = (b 1).x,(b 0).x = (b 0).x,CallOK Tryz.prog 30 #[.agg ((kc0 C m.Epoch m.N l n.length A d k.length o e j.length q)).toArray] (.agg #[vI y6.Epoch,vI y6.N]) [some (r31 l n),some (r94 d k),some (r91 e j)],CallOK Tryz.prog 31 #[.agg #[vI a1.Version.Epoch,vI a1.Version.N],.agg #[vI y6.Epoch,vI y6.N]] (vI y8) [],((.bool (decide (y8 ≤ 0))) : Value) = .bool true]) (by kernel_rfl) (by kernel_rfl) (fun _ => by kernel_rfl) (fun _ => ⟨rfl,rfl,(by have h1 := w_pglog_Head_2 F C m l A n d o k e q j e7; exact h1.ok ⟨(.inl ⟨r31 l n,.head _,Cov.refl _⟩),(.inl ⟨r94 d k,(.tail _ (.head _)),Cov.refl _⟩),(.inl ⟨r91 e j,(.tail _ (.tail _ (.head _))),Cov.refl _⟩),trivial⟩),(by have h1 := w_pglog_Cmp_2 F a1.Version y6 e9; exact h1.ok trivial),bool_eq af,trivial⟩)) ?_
      intro _
      refine GS.rekey (env' := [(2,.int .u32 a2),(3,pA ((b 0).x) 0),(4,pA ((b 1).x) 0),(6,pA ((b 2).x) 0),(9,.bool y3.2),(23,.bool true)]) (mem' := [(1,r31 l n),(2,r94 d k),(3,r91 e j),(4,.cells ((b 0).x) 28 (kc0 C m.Epoch m.N l n.length A d k.length o e j.length q)),(5,.cells ((b 1).x) 31 (kc1 a1.Version.Epoch a1.Version.N a1.Remove a1.Errno a1.Name a1.Client a1.Number)),(6,.cells ((b 2).x) 28 (kc6))]) [2,3,4,6,9,23] [(1,1),(2,2),(3,3),(4,4),(5,5),(6,6)] (by kernel_rfl) (by kernel_rfl) rfl ?_
      exact aj true hm
    · skip
      refine br_elim hm (fun ak hm => ?_) (fun ak hm => ?_)
      · skip
        refine GS.rM (env' := fun _ => [(2,.int .u32 a2),(3,pA ((b 0).x) 0),(4,pA ((b 1).x) 0),(6,pA ((b 2).x) 0),(9,.bool y3.2),(23,.bool true)]) (RunsTo.mkd [(1,{ act := .load 5 0 0 [] }),(2,{ act := .load 4 0 0 [] }),(3,{ act := .call [1,2,3] (.agg #[vI y6.Epoch,vI y6.N]) }),(4,{ act := .call [] (vI y8) }),(6,{ sp := some (.bool false) }),(8,{ act := .load 5 0 0 [] }),(11,{ sp := some (.bool true) })] [2,3,4,6,9,23] [1,2,3,4,5,6] (fun _ => [(b 1).x = (b 1).x,(b 0).x = (b 0).x,CallOK Tryz.prog 30 #[.agg ((kc0 C m.Epoch m.N l n.length A d k.length o e j.length q)).toArray] (.agg #[vI y6.Epoch,vI y6.N]) [some (r31 l n),some (r94 d k),some (r91 e j)],CallOK Tryz.prog 31 #[.agg #[vI a1.Version.Epoch,vI a1.Version.N],.agg #[vI y6.Epoch,vI y6.N]] (vI y8) [],((.bool (decide (y8 ≤ 0))) : Value) = .bool false,(b 1).x = (b 1).x,((.bool (decide (a1.Client < 0))) : Value) = .bool true]) (by kernel_rfl) (by kernel_rfl) (fun _ => by kernel_rfl) (fun _ => ⟨rfl,rfl,(by have h1 := w_pglog_Head_2 F C m l A n d o k e q j e7; exact h1.ok ⟨(.inl ⟨r31 l n,.head _,Cov.refl _⟩),(.inl ⟨r94 d k,(.tail _ (.head _)),Cov.refl _⟩),(.inl ⟨r91 e j,(.tail _ (.tail _ (.head _))),Cov.refl _⟩),trivial⟩),(by have h1 := w_pglog_Cmp_2 F a1.Version y6 e9; exact h1.ok trivial),bool_eq af,rfl,bool_eq ak,trivial⟩)) ?_
        intro _
        refine GS.rekey (env' := [(2,.int .u32 a2),(3,pA ((b 0).x) 0),(4,pA ((b 1).x) 0),(6,pA ((b 2).x) 0),(9,.bool y3.2),(23,.bool true)]) (mem' := [(1,r31 l n),(2,r94 d k),(3,r91 e j),(4,.cells ((b 0).x) 28 (kc0 C m.Epoch m.N l n.length A d k.length o e j.length q)),(5,.cells ((b 1).x) 31 (kc1 a1.Version.Epoch a1.Version.N a1.Remove a1.Errno a1.Name a1.Client a1.Number)),(6,.cells ((b 2).x) 28 (kc6))]) [2,3,4,6,9,23] [(1,1),(2,2),(3,3),(4,4),(5,5),(6,6)] (by kernel_rfl) (by kernel_rfl) rfl ?_
        exact aj true hm
      · skip
        refine GS.rM (env' := fun _ => [(2,.int .u32 a2),(3,pA ((b 0).x) 0),(4,pA ((b 1).x) 0),(6,pA ((b 2).x) 0),(9,.bool y3.2),(23,.bool (decide (a1.Number < 0)))]) (RunsTo.mkd [(1,{ act := .load 5 0 0 [] }),(2,{ act := .load 4 0 0 [] }),(3,{ act := .call [1,2,3] (.agg #[vI y6.Epoch,vI y6.N]) }),(4,{ act := .call [] (vI y8) }),(6,{ sp := some (.bool false) }),(8,{ act := .load 5 0 0 [] }),(11,{ sp := some (.bool false) }),(13,{ act := .load 5 0 0 [] })] [2,3,4,6,9,23] [1,2,3,4,5,6] (fun _ => [(b 1).x = (b 1).x,(b 0).x = (b 0).x,CallOK Tryz.prog 30 #[.agg ((kc0 C m.Epoch m.N l n.length A d k.length o e j.length q)).toArray] (.agg #[vI y6.Epoch,vI y6.N]) [some (r31 l n),some (r94 d k),some (r91 e j)],CallOK Tryz.prog 31 #[.agg #[vI a1.Version.Epoch,vI a1.Version.N],.agg #[vI y6.Epoch,vI y6.N]] (vI y8) [],((.bool (decide (y8 ≤ 0))) : Value) = .bool false,(b 1).x = (b 1).x,((.bool (decide (a1.Client < 0))) : Value) = .bool false,(b 1).x = (b 1).x]) (by kernel_rfl) (by kernel_rfl) (fun _ => by kernel_rfl) (fun _ => ⟨rfl,rfl,(by have h1 := w_pglog_Head_2 F C m l A n d o k e q j e7; exact h1.ok ⟨(.inl ⟨r31 l n,.head _,Cov.refl _⟩),(.inl ⟨r94 d k,(.tail _ (.head _)),Cov.refl _⟩),(.inl ⟨r91 e j,(.tail _ (.tail _ (.head _))),Cov.refl _⟩),trivial⟩),(by have h1 := w_pglog_Cmp_2 F a1.Version y6 e9; exact h1.ok trivial),bool_eq af,rfl,bool_eq ak,rfl,trivial⟩)) ?_
        intro _
        refine GS.rekey (env' := [(2,.int .u32 a2),(3,pA ((b 0).x) 0),(4,pA ((b 1).x) 0),(6,pA ((b 2).x) 0),(9,.bool y3.2),(23,.bool (decide (a1.Number < 0)))]) (mem' := [(1,r31 l n),(2,r94 d k),(3,r91 e j),(4,.cells ((b 0).x) 28 (kc0 C m.Epoch m.N l n.length A d k.length o e j.length q)),(5,.cells ((b 1).x) 31 (kc1 a1.Version.Epoch a1.Version.N a1.Remove a1.Errno a1.Name a1.Client a1.Number)),(6,.cells ((b 2).x) 28 (kc6))]) [2,3,4,6,9,23] [(1,1),(2,2),(3,3),(4,4),(5,5),(6,6)] (by kernel_rfl) (by kernel_rfl) rfl ?_
        exact aj (decide (a1.Number < 0)) hm
  · rintro V hm
    replace hm := (az _).symm.trans hm
    try dsimp only at hm
    refine GS.cond (t := V) rfl rfl (fun al => ?_) (fun al => ?_)
    · replace hm := br_t al hm
      refine GS.seq ?_
      refine GS.tg (fun _ => [(6,pA ((b 2).x) 0),(7,vI 22)]) (fun _ => [(6,.cells ((b 2).x) 28 (kc6))]) [(1,{ act := .store 0 0 [],key := some 6 })] (fun _ => [(b 2).x = (b 2).x,oC (.agg ((kc6)).toArray)]) (fun _ => ⟨rfl,rfl,trivial⟩) ?_
      intro _
      refine GS.setMem (mem' := [(6,.cells ((b 2).x) 28 (kc6)),(8,o31 none 0 ([] : List S_api_Entry))]) (fun w hw => Sat.addNil hw rfl) ?_
      refine GS.setMem (mem' := [(6,.cells ((b 2).x) 28 (kc6)),(8,o31 none 0 ([] : List S_api_Entry)),(9,o94 none 0 ([] : List S_api_Last))]) (fun w hw => Sat.addNil hw rfl) ?_
      refine GS.setMem (mem' := [(6,.cells ((b 2).x) 28 (kc6)),(8,o31 none 0 ([] : List S_api_Entry)),(9,o94 none 0 ([] : List S_api_Last)),(10,o91 none 0 ([] : List S_api_Item))]) (fun w hw => Sat.addNil hw rfl) ?_
      have hy := Option.some.inj hm
      subst hy
      refine GS.ret (fn := Tryz.f33) [6,0] [.agg ((kc6)).toArray,vI 22] [(b 2).x = (b 2).x] rfl Tryz.func33 (by kernel_rfl) ⟨rfl,trivial⟩ (fun w' hs => ?_)
      exact ⟨⟨none,0,none,0,none,0⟩,rfl,hs.turnedG (ks := [8,9,10]) rfl rfl⟩
    · replace hm := br_f al hm
      refine GS.seq ?_
      refine bnd_elim hm (fun ag a8 hm => ?_)
      refine GS.tgM (fun _ => [(2,.int .u32 a2),(3,pA ((b 0).x) 0),(4,pA ((b 1).x) 0),(6,pA ((b 2).x) 0),(9,.bool y3.2),(41,.bool (!ag))]) [(1,{ act := .load 5 0 0 [] }),(2,{ act := .call [] (.bool ag) })] (fun _ => [(b 1).x = (b 1).x,CallOK Tryz.prog 38 #[.string a1.Name] (.bool ag) []]) (fun _ => ⟨rfl,(by have h1 := w_place_Good_2 F a1.Name a8; exact h1.ok trivial),trivial⟩) ?_
      intro _
      refine GS.cond (t := !ag) rfl rfl (fun am => ?_) (fun am => ?_)
      · replace hm := br_t am hm
        refine GS.seq ?_
        refine GS.tg (fun _ => [(6,pA ((b 2).x) 0),(7,vI 36)]) (fun _ => [(6,.cells ((b 2).x) 28 (kc6))]) [(1,{ act := .store 0 0 [],key := some 6 })] (fun _ => [(b 2).x = (b 2).x,oC (.agg ((kc6)).toArray)]) (fun _ => ⟨rfl,rfl,trivial⟩) ?_
        intro _
        refine GS.setMem (mem' := [(6,.cells ((b 2).x) 28 (kc6)),(8,o31 none 0 ([] : List S_api_Entry))]) (fun w hw => Sat.addNil hw rfl) ?_
        refine GS.setMem (mem' := [(6,.cells ((b 2).x) 28 (kc6)),(8,o31 none 0 ([] : List S_api_Entry)),(9,o94 none 0 ([] : List S_api_Last))]) (fun w hw => Sat.addNil hw rfl) ?_
        refine GS.setMem (mem' := [(6,.cells ((b 2).x) 28 (kc6)),(8,o31 none 0 ([] : List S_api_Entry)),(9,o94 none 0 ([] : List S_api_Last)),(10,o91 none 0 ([] : List S_api_Item))]) (fun w hw => Sat.addNil hw rfl) ?_
        have hy := Option.some.inj hm
        subst hy
        refine GS.ret (fn := Tryz.f33) [6,0] [.agg ((kc6)).toArray,vI 36] [(b 2).x = (b 2).x] rfl Tryz.func33 (by kernel_rfl) ⟨rfl,trivial⟩ (fun w' hs => ?_)
        exact ⟨⟨none,0,none,0,none,0⟩,rfl,hs.turnedG (ks := [8,9,10]) rfl rfl⟩
      · replace hm := br_f am hm
        refine GS.seq ?_
        refine jn_elim hm (fun a9 a0 hm => ?_)
        refine GS.cut (ι := Bool) (I := fun (W : Bool) => a9 W = some y) (E := fun (W : Bool) => [(2,.int .u32 a2),(3,pA ((b 0).x) 0),(4,pA ((b 1).x) 0),(6,pA ((b 2).x) 0),(47,.bool W)]) (M := fun (W : Bool) => [(1,r31 l n),(2,r94 d k),(3,r91 e j),(4,.cells ((b 0).x) 28 (kc0 C m.Epoch m.N l n.length A d k.length o e j.length q)),(5,.cells ((b 1).x) 31 (kc1 a1.Version.Epoch a1.Version.N a1.Remove a1.Errno a1.Name a1.Client a1.Number)),(6,.cells ((b 2).x) 28 (kc6))]) ?_ ?_
        rotate_left
        · intro ah
          refine br_elim hm (fun ae hm => ?_) (fun ae hm => ?_)
          · skip
            refine br_elim hm (fun ai hm => ?_) (fun ai hm => ?_)
            · skip
              refine br_elim hm (fun an hm => ?_) (fun an hm => ?_)
              · skip
                refine GS.tgM (fun _ => [(2,.int .u32 a2),(3,pA ((b 0).x) 0),(4,pA ((b 1).x) 0),(6,pA ((b 2).x) 0),(47,.bool (decide ((j.length : Int) ≥ 32)))]) [(1,{ act := .load 5 0 0 [] }),(3,{ sp := some (.bool true) }),(5,{ act := .load 5 0 0 [] }),(8,{ sp := some (.bool true) }),(12,{ sp := some (.bool true) }),(14,{ act := .load 4 0 0 [] })] (fun _ => [(b 1).x = (b 1).x,((.bool (a1.Errno == 0)) : Value) = .bool true,(b 1).x = (b 1).x,((.bool (!a1.Remove)) : Value) = .bool true,((.bool (!y3.2)) : Value) = .bool true,(b 0).x = (b 0).x]) (fun _ => ⟨rfl,bool_eq ae,rfl,bool_eq ai,bool_eq an,rfl,trivial⟩) ?_
                intro _
                refine GS.rekey (env' := [(2,.int .u32 a2),(3,pA ((b 0).x) 0),(4,pA ((b 1).x) 0),(6,pA ((b 2).x) 0),(47,.bool (decide ((j.length : Int) ≥ 32)))]) (mem' := [(1,r31 l n),(2,r94 d k),(3,r91 e j),(4,.cells ((b 0).x) 28 (kc0 C m.Epoch m.N l n.length A d k.length o e j.length q)),(5,.cells ((b 1).x) 31 (kc1 a1.Version.Epoch a1.Version.N a1.Remove a1.Errno a1.Name a1.Client a1.Number)),(6,.cells ((b 2).x) 28 (kc6))]) [2,3,4,6,47] [(1,1),(2,2),(3,3),(4,4),(5,5),(6,6)] (by kernel_rfl) (by kernel_rfl) rfl ?_
                exact ah (decide ((j.length : Int) ≥ 32)) hm
              · skip
                refine GS.tgM (fun _ => [(2,.int .u32 a2),(3,pA ((b 0).x) 0),(4,pA ((b 1).x) 0),(6,pA ((b 2).x) 0),(47,.bool false)]) [(1,{ act := .load 5 0 0 [] }),(3,{ sp := some (.bool true) }),(5,{ act := .load 5 0 0 [] }),(8,{ sp := some (.bool true) }),(12,{ sp := some (.bool false) })] (fun _ => [(b 1).x = (b 1).x,((.bool (a1.Errno == 0)) : Value) = .bool true,(b 1).x = (b 1).x,((.bool (!a1.Remove)) : Value) = .bool true,((.bool (!y3.2)) : Value) = .bool false]) (fun _ => ⟨rfl,bool_eq ae,rfl,bool_eq ai,bool_eq an,trivial⟩) ?_
                intro _
                refine GS.rekey (env' := [(2,.int .u32 a2),(3,pA ((b 0).x) 0),(4,pA ((b 1).x) 0),(6,pA ((b 2).x) 0),(47,.bool false)]) (mem' := [(1,r31 l n),(2,r94 d k),(3,r91 e j),(4,.cells ((b 0).x) 28 (kc0 C m.Epoch m.N l n.length A d k.length o e j.length q)),(5,.cells ((b 1).x) 31 (kc1 a1.Version.Epoch a1.Version.N a1.Remove a1.Errno a1.Name a1.Client a1.Number)),(6,.cells ((b 2).x) 28 (kc6))]) [2,3,4,6,47] [(1,1),(2,2),(3,3),(4,4),(5,5),(6,6)] (by kernel_rfl) (by kernel_rfl) rfl ?_
                exact ah false hm
            · skip
              refine GS.tgM (fun _ => [(2,.int .u32 a2),(3,pA ((b 0).x) 0),(4,pA ((b 1).x) 0),(6,pA ((b 2).x) 0),(47,.bool false)]) [(1,{ act := .load 5 0 0 [] }),(3,{ sp := some (.bool true) }),(5,{ act := .load 5 0 0 [] }),(8,{ sp := some (.bool false) })] (fun _ => [(b 1).x = (b 1).x,((.bool (a1.Errno == 0)) : Value) = .bool true,(b 1).x = (b 1).x,((.bool (!a1.Remove)) : Value) = .bool false]) (fun _ => ⟨rfl,bool_eq ae,rfl,bool_eq ai,trivial⟩) ?_
              intro _
              refine GS.rekey (env' := [(2,.int .u32 a2),(3,pA ((b 0).x) 0),(4,pA ((b 1).x) 0),(6,pA ((b 2).x) 0),(47,.bool false)]) (mem' := [(1,r31 l n),(2,r94 d k),(3,r91 e j),(4,.cells ((b 0).x) 28 (kc0 C m.Epoch m.N l n.length A d k.length o e j.length q)),(5,.cells ((b 1).x) 31 (kc1 a1.Version.Epoch a1.Version.N a1.Remove a1.Errno a1.Name a1.Client a1.Number)),(6,.cells ((b 2).x) 28 (kc6))]) [2,3,4,6,47] [(1,1),(2,2),(3,3),(4,4),(5,5),(6,6)] (by kernel_rfl) (by kernel_rfl) rfl ?_
              exact ah false hm
          · skip
            refine GS.tgM (fun _ => [(2,.int .u32 a2),(3,pA ((b 0).x) 0),(4,pA ((b 1).x) 0),(6,pA ((b 2).x) 0),(47,.bool false)]) [(1,{ act := .load 5 0 0 [] }),(3,{ sp := some (.bool false) })] (fun _ => [(b 1).x = (b 1).x,((.bool (a1.Errno == 0)) : Value) = .bool false]) (fun _ => ⟨rfl,bool_eq ae,trivial⟩) ?_
            intro _
            refine GS.rekey (env' := [(2,.int .u32 a2),(3,pA ((b 0).x) 0),(4,pA ((b 1).x) 0),(6,pA ((b 2).x) 0),(47,.bool false)]) (mem' := [(1,r31 l n),(2,r94 d k),(3,r91 e j),(4,.cells ((b 0).x) 28 (kc0 C m.Epoch m.N l n.length A d k.length o e j.length q)),(5,.cells ((b 1).x) 31 (kc1 a1.Version.Epoch a1.Version.N a1.Remove a1.Errno a1.Name a1.Client a1.Number)),(6,.cells ((b 2).x) 28 (kc6))]) [2,3,4,6,47] [(1,1),(2,2),(3,3),(4,4),(5,5),(6,6)] (by kernel_rfl) (by kernel_rfl) rfl ?_
            exact ah false hm
        · rintro W hm
          replace hm := (a0 _).symm.trans hm
          try dsimp only at hm
          refine GS.cond (t := W) rfl rfl (fun ao => ?_) (fun ao => ?_)
          · replace hm := br_t ao hm
            refine GS.seq ?_
            refine GS.tg (fun _ => [(6,pA ((b 2).x) 0),(7,vI 28)]) (fun _ => [(6,.cells ((b 2).x) 28 (kc6))]) [(1,{ act := .store 0 0 [],key := some 6 })] (fun _ => [(b 2).x = (b 2).x,oC (.agg ((kc6)).toArray)]) (fun _ => ⟨rfl,rfl,trivial⟩) ?_
            intro _
            refine GS.setMem (mem' := [(6,.cells ((b 2).x) 28 (kc6)),(8,o31 none 0 ([] : List S_api_Entry))]) (fun w hw => Sat.addNil hw rfl) ?_
            refine GS.setMem (mem' := [(6,.cells ((b 2).x) 28 (kc6)),(8,o31 none 0 ([] : List S_api_Entry)),(9,o94 none 0 ([] : List S_api_Last))]) (fun w hw => Sat.addNil hw rfl) ?_
            refine GS.setMem (mem' := [(6,.cells ((b 2).x) 28 (kc6)),(8,o31 none 0 ([] : List S_api_Entry)),(9,o94 none 0 ([] : List S_api_Last)),(10,o91 none 0 ([] : List S_api_Item))]) (fun w hw => Sat.addNil hw rfl) ?_
            have hy := Option.some.inj hm
            subst hy
            refine GS.ret (fn := Tryz.f33) [6,0] [.agg ((kc6)).toArray,vI 28] [(b 2).x = (b 2).x] rfl Tryz.func33 (by kernel_rfl) ⟨rfl,trivial⟩ (fun w' hs => ?_)
            exact ⟨⟨none,0,none,0,none,0⟩,rfl,hs.turnedG (ks := [8,9,10]) rfl rfl⟩
          · replace hm := br_f ao hm
            refine GS.skip ?_
            refine GS.inBlock ?_
            refine GS.seq ?_
            refine bnd_elim hm (fun a ba hm => ?_)
            refine GS.open_ ?_
            refine GR.rM (i := 0) 1 (env' := fun _ => [(2,.int .u32 a2),(3,pA ((b 0).x) 0),(4,pA ((b 1).x) 0),(6,pA ((b 2).x) 0),(67,.agg ((kc0 C m.Epoch m.N l n.length A d k.length o e j.length q)).toArray)]) (by kernel_rfl) (RunsTo.mk [(0,{ act := .load 4 0 0 [] })] [2,3,4,6,67] [1,2,3,4,5,6] (fun _ => [(b 0).x = (b 0).x]) (fun _ => by kernel_rfl) (fun _ => ⟨rfl,trivial⟩)) ?_
            intro _
            refine GR.callG (X := Option Addr × Nat × Option Addr × Nat × Option Addr × Nat) (i := 1) (g := 32) (ro := [r31 l n,r94 d k,r91 e j]) (mem' := fun ⟨aa,ab,G,H,r,v⟩ => [(1,r31 l n),(2,r94 d k),(3,r91 e j),(4,.cells ((b 0).x) 28 (kc0 C m.Epoch m.N l n.length A d k.length o e j.length q)),(5,.cells ((b 1).x) 31 (kc1 a1.Version.Epoch a1.Version.N a1.Remove a1.Errno a1.Name a1.Client a1.Number)),(6,.cells ((b 2).x) 28 (kc6)),(8,o31 aa ab a.2.2.1),(9,o94 G H a.2.2.2.1),(10,o91 r v a.2.2.2.2)]) (env' := fun ⟨aa,ab,G,H,r,v⟩ => [(2,.int .u32 a2),(3,pA ((b 0).x) 0),(4,pA ((b 1).x) 0),(6,pA ((b 2).x) 0),(68,.agg ((kc0 a.1 a.2.1.Epoch a.2.1.N aa a.2.2.1.length ab G a.2.2.2.1.length H r a.2.2.2.2.length v)).toArray)]) [] [8,9,10] [2,3,4,6,68] [1,2,3,4,5,6,8,9,10] false (by kernel_rfl) (by kernel_rfl) (by kernel_rfl) (by kernel_rfl) (by kernel_rfl) (fun _ => rfl) (fun _ _ => rfl) ⟨(.inl ⟨1,_,rfl,rfl,Cov.refl _,fun h => by cases h⟩),(.inl ⟨2,_,rfl,rfl,Cov.refl _,fun h => by cases h⟩),(.inl ⟨3,_,rfl,rfl,Cov.refl _,fun h => by cases h⟩),trivial⟩ (by rintro ⟨aa,ab,G,H,r,v⟩; kernel_rfl) (by rintro ⟨aa,ab,G,H,r,v⟩; kernel_rfl) (w_pglog_Copy_4 F C m l A n d o k e q j ba) ?_
            rintro ⟨aa,ab,G,H,r,v⟩
            refine GR.ru (i := 2) 1 (env' := fun _ => [(2,.int .u32 a2),(3,pA ((b 0).x) 0),(4,pA ((b 1).x) 0),(6,pA ((b 2).x) 0)]) (mem' := fun _ => [(4,.cells ((b 0).x) 28 (kc0 a.1 a.2.1.Epoch a.2.1.N aa a.2.2.1.length ab G a.2.2.2.1.length H r a.2.2.2.2.length v)),(5,.cells ((b 1).x) 31 (kc1 a1.Version.Epoch a1.Version.N a1.Remove a1.Errno a1.Name a1.Client a1.Number)),(6,.cells ((b 2).x) 28 (kc6)),(8,o31 aa ab a.2.2.1),(9,o94 G H a.2.2.2.1),(10,o91 r v a.2.2.2.2)]) (by kernel_rfl) (RunsTo.mk [(2,{ act := .store 0 0 [],key := some 4 })] [2,3,4,6] [4,5,6,8,9,10] (fun _ => [(b 0).x = (b 0).x,oC (.agg ((kc0 a.1 a.2.1.Epoch a.2.1.N aa a.2.2.1.length ab G a.2.2.2.1.length H r a.2.2.2.2.length v)).toArray)]) (fun _ => by kernel_rfl) (fun _ => ⟨rfl,rfl,trivial⟩)) ?_
            intro _
            refine GR.dn (by kernel_rfl) ?_
            refine GS.seq ?_
            refine grd_elim hm (fun bb hm => ?_)
            refine GS.tg (fun c => [(2,.int .u32 a2),(3,pA ((b 0).x) 0),(4,pA ((b 1).x) 0),(6,pA ((b 2).x) 0)]) (fun c => [(4,.cells ((b 0).x) 28 (kc0 a.1 a.2.1.Epoch a.2.1.N ((c 4).ob) ((a.2.2.1 ++ [a1]).length) ((c 4).cap) G a.2.2.2.1.length H r a.2.2.2.2.length v)),(5,.cells ((b 1).x) 31 (kc1 a1.Version.Epoch a1.Version.N a1.Remove a1.Errno a1.Name a1.Client a1.Number)),(6,.cells ((b 2).x) 28 (kc6)),(8,.osl ((c 4).ob) ((c 4).cap) 31 7 ((List.map S_api_Entry.row a.2.2.1) ++ ([[vI a1.Version.Epoch,vI a1.Version.N,.bool a1.Remove,vI a1.Errno,.string a1.Name,vI a1.Client,vI a1.Number]] : List (List Value)))),(9,o94 G H a.2.2.2.1),(10,o91 r v a.2.2.2.2)]) [(1,{ act := .load 4 0 0 [] }),(2,{ act := .load 5 0 0 [] }),(3,{ act := .new (.row 1 7),key := some 11,spf := some (fun f => .slice (some (Addr.mk f.x 0 none)) ([a1].length) 1) }),(4,{ act := .app (some 11),key := some 8,spf := some (fun f => .slice (f.ob) ((a.2.2.1 ++ [a1]).length) (f.cap)) }),(6,{ act := .store 0 0 [],key := some 4 })] (fun c => [(b 0).x = (b 0).x,(b 1).x = (b 1).x,((.slice (some (Addr.mk (c 3).x 0 none)) 1 1) : Value) = .slice (some (Addr.mk (c 3).x 0 none)) ([a1].length) 1,(some (Addr.mk (c 3).x 0 none)) = (some (Addr.mk (c 3).x 0 none)),[a1].length = ([[vI a1.Version.Epoch,vI a1.Version.N,.bool a1.Remove,vI a1.Errno,.string a1.Name,vI a1.Client,vI a1.Number]] : List (List Value)).length,aa = aa,ab = ab,a.2.2.1.length = (List.map S_api_Entry.row a.2.2.1).length,((List.map S_api_Entry.row a.2.2.1).length + ([[vI a1.Version.Epoch,vI a1.Version.N,.bool a1.Remove,vI a1.Errno,.string a1.Name,vI a1.Client,vI a1.Number]] : List (List Value)).length) * (64 + 1) ≤ 70368744177664,([[vI a1.Version.Epoch,vI a1.Version.N,.bool a1.Remove,vI a1.Errno,.string a1.Name,vI a1.Client,vI a1.Number]] : List (List Value)).flatten.all Value.oneCell' = true,((.slice ((c 4).ob) (a.2.2.1.length + ([[vI a1.Version.Epoch,vI a1.Version.N,.bool a1.Remove,vI a1.Errno,.string a1.Name,vI a1.Client,vI a1.Number]] : List (List Value)).length) ((c 4).cap)) : Value) = .slice ((c 4).ob) ((a.2.2.1 ++ [a1]).length) ((c 4).cap),(b 0).x = (b 0).x,oC (.slice ((c 4).ob) ((a.2.2.1 ++ [a1]).length) ((c 4).cap))]) (fun c => ⟨rfl,rfl,rfl,rfl,(by rw [show ([[vI a1.Version.Epoch,vI a1.Version.N,.bool a1.Remove,vI a1.Errno,.string a1.Name,vI a1.Client,vI a1.Number]] : List (List Value)) = List.map S_api_Entry.row [a1] from rfl]; exact mlen S_api_Entry.row [a1]),rfl,rfl,mlen S_api_Entry.row a.2.2.1,appb bb (mlen S_api_Entry.row a.2.2.1).symm (by rw [show ([[vI a1.Version.Epoch,vI a1.Version.N,.bool a1.Remove,vI a1.Errno,.string a1.Name,vI a1.Client,vI a1.Number]] : List (List Value)) = List.map S_api_Entry.row [a1] from rfl]; exact (mlen S_api_Entry.row [a1]).symm),(by rw [show ([[vI a1.Version.Epoch,vI a1.Version.N,.bool a1.Remove,vI a1.Errno,.string a1.Name,vI a1.Client,vI a1.Number]] : List (List Value)) = List.map S_api_Entry.row [a1] from (show ([[vI a1.Version.Epoch,vI a1.Version.N,.bool a1.Remove,vI a1.Errno,.string a1.Name,vI a1.Client,vI a1.Number]] : List (List Value)) = List.map S_api_Entry.row [a1] from rfl)]; exact all_one S_api_Entry.row _ (fun _ => rfl)),slen (by simp),rfl,rfl,trivial⟩) ?_
            intro c
            refine GS.conv (mem' := [(4,.cells ((b 0).x) 28 (kc0 a.1 a.2.1.Epoch a.2.1.N ((c 4).ob) ((a.2.2.1 ++ [a1]).length) ((c 4).cap) G a.2.2.2.1.length H r a.2.2.2.2.length v)),(5,.cells ((b 1).x) 31 (kc1 a1.Version.Epoch a1.Version.N a1.Remove a1.Errno a1.Name a1.Client a1.Number)),(6,.cells ((b 2).x) 28 (kc6)),(8,o31 ((c 4).ob) ((c 4).cap) (a.2.2.1 ++ [a1])),(9,o94 G H a.2.2.2.1),(10,o91 r v a.2.2.2.2)]) rfl (congrArg (fun rr : List (List Value) => ([(4,.cells ((b 0).x) 28 (kc0 a.1 a.2.1.Epoch a.2.1.N ((c 4).ob) ((a.2.2.1 ++ [a1]).length) ((c 4).cap) G a.2.2.2.1.length H r a.2.2.2.2.length v)),(5,.cells ((b 1).x) 31 (kc1 a1.Version.Epoch a1.Version.N a1.Remove a1.Errno a1.Name a1.Client a1.Number)),(6,.cells ((b 2).x) 28 (kc6)),(8,.osl ((c 4).ob) ((c 4).cap) 31 7 rr),(9,o94 G H a.2.2.2.1),(10,o91 r v a.2.2.2.2)] : List (Nat × Ent))) (show (List.map S_api_Entry.row a.2.2.1) ++ ([[vI a1.Version.Epoch,vI a1.Version.N,.bool a1.Remove,vI a1.Errno,.string a1.Name,vI a1.Client,vI a1.Number]] : List (List Value)) = List.map S_api_Entry.row (a.2.2.1 ++ [a1]) from (by rw [show List.map S_api_Entry.row a.2.2.1 = List.map S_api_Entry.row a.2.2.1 from rfl,show ([[vI a1.Version.Epoch,vI a1.Version.N,.bool a1.Remove,vI a1.Errno,.string a1.Name,vI a1.Client,vI a1.Number]] : List (List Value)) = List.map S_api_Entry.row [a1] from (show ([[vI a1.Version.Epoch,vI a1.Version.N,.bool a1.Remove,vI a1.Errno,.string a1.Name,vI a1.Client,vI a1.Number]] : List (List Value)) = List.map S_api_Entry.row [a1] from rfl)]; exact mapp S_api_Entry.row _ _))) ?_
            refine GS.seq ?_
            refine GS.tg (fun K => [(2,.int .u32 a2),(3,pA ((b 0).x) 0),(4,pA ((b 1).x) 0),(6,pA ((b 2).x) 0),(10,pA ((K 9).x) 0)]) (fun K => [(4,.cells ((b 0).x) 28 (kc0 a.1 a.2.1.Epoch a.2.1.N ((c 4).ob) ((a.2.2.1 ++ [a1]).length) ((c 4).cap) G a.2.2.2.1.length H r a.2.2.2.2.length v)),(5,.cells ((b 1).x) 31 (kc1 a1.Version.Epoch a1.Version.N a1.Remove a1.Errno a1.Name a1.Client a1.Number)),(6,.cells ((b 2).x) 28 (kc6)),(8,o31 ((c 4).ob) ((c 4).cap) (a.2.2.1 ++ [a1])),(9,o94 G H a.2.2.2.1),(10,o91 r v a.2.2.2.2),(12,.cells ((K 9).x) 94 (kc4 a1.Client a1.Number a1.Errno a1.Version.Epoch a1.Version.N))]) [(1,{ act := .load 5 0 0 [] }),(3,{ act := .load 5 0 0 [] }),(5,{ act := .load 5 0 0 [] }),(7,{ act := .load 5 0 0 [] }),(9,{ act := .new .var,key := some 12 }),(10,{ act := .store 0 0 [],key := some 12 })] (fun K => [(b 1).x = (b 1).x,(b 1).x = (b 1).x,(b 1).x = (b 1).x,(b 1).x = (b 1).x,(K 9).x = (K 9).x,oC (.agg ((kc4 a1.Client a1.Number a1.Errno a1.Version.Epoch a1.Version.N)).toArray)]) (fun K => ⟨rfl,rfl,rfl,rfl,rfl,rfl,trivial⟩) ?_
            intro K
            refine GS.seq ?_
            refine GS.seq ?_
            refine bnd_elim hm (fun D bc hm => ?_)
            refine GS.tgM (fun _ => [(2,.int .u32 a2),(3,pA ((b 0).x) 0),(4,pA ((b 1).x) 0),(6,pA ((b 2).x) 0),(10,pA ((K 9).x) 0),(11,vI D.1),(12,.bool D.2)]) [(1,{ act := .load 4 0 0 [] }),(3,{ act := .load 5 0 0 [] }),(4,{ act := .call [9] (.tuple #[vI D.1,.bool D.2]) })] (fun _ => [(b 0).x = (b 0).x,(b 1).x = (b 1).x,CallOK Tryz.prog 52 #[.slice G a.2.2.2.1.length H,.func (.func 53) #[] #[],vI a1.Client] (.tuple #[vI D.1,.bool D.2]) [some (o94 G H a.2.2.2.1)]]) (fun _ => ⟨rfl,rfl,(by have h1 := w_pglog_look_api_Last_int__2 F G H a.2.2.2.1 a1.Client bc; exact h1.ok ⟨(.inl ⟨o94 G H a.2.2.2.1,.head _,Cov.osl_rd⟩),trivial⟩),trivial⟩) ?_
            intro _
            refine GS.seq ?_
            refine GS.tzM (fun _ => [(2,.int .u32 a2),(3,pA ((b 0).x) 0),(4,pA ((b 1).x) 0),(6,pA ((b 2).x) 0),(10,pA ((K 9).x) 0),(11,vI D.1),(92,.bool D.2)]) [] ?_
            intro _
            refine jn_elim hm (fun bd a3 hm => ?_)
            refine GS.cut (ι := List S_api_Last × Option Addr × Nat) (I := fun ⟨z,s,u⟩ => bd z = some y) (E := fun ⟨z,s,u⟩ => [(2,.int .u32 a2),(3,pA ((b 0).x) 0),(4,pA ((b 1).x) 0),(6,pA ((b 2).x) 0)]) (M := fun ⟨z,s,u⟩ => [(4,.cells ((b 0).x) 28 (kc0 a.1 a.2.1.Epoch a.2.1.N ((c 4).ob) ((a.2.2.1 ++ [a1]).length) ((c 4).cap) s z.length u r a.2.2.2.2.length v)),(5,.cells ((b 1).x) 31 (kc1 a1.Version.Epoch a1.Version.N a1.Remove a1.Errno a1.Name a1.Client a1.Number)),(6,.cells ((b 2).x) 28 (kc6)),(8,o31 ((c 4).ob) ((c 4).cap) (a.2.2.1 ++ [a1])),(9,o94 s u z),(10,o91 r v a.2.2.2.2)]) ?_ ?_
            rotate_left
            · intro a4
              refine GS.cond (t := D.2) rfl rfl (fun ap => ?_) (fun ap => ?_)
              · replace hm := br_t ap hm
                refine grd_elim hm (fun aq hm => ?_)
                refine GS.tg (fun _ => [(2,.int .u32 a2),(3,pA ((b 0).x) 0),(4,pA ((b 1).x) 0),(6,pA ((b 2).x) 0)]) (fun _ => [(4,.cells ((b 0).x) 28 (kc0 a.1 a.2.1.Epoch a.2.1.N ((c 4).ob) ((a.2.2.1 ++ [a1]).length) ((c 4).cap) G a.2.2.2.1.length H r a.2.2.2.2.length v)),(5,.cells ((b 1).x) 31 (kc1 a1.Version.Epoch a1.Version.N a1.Remove a1.Errno a1.Name a1.Client a1.Number)),(6,.cells ((b 2).x) 28 (kc6)),(8,o31 ((c 4).ob) ((c 4).cap) (a.2.2.1 ++ [a1])),(9,.osl G H 94 5 ((List.map S_api_Last.row a.2.2.2.1).set (Int.toNat D.1) [vI a1.Client,vI a1.Number,vI a1.Errno,vI a1.Version.Epoch,vI a1.Version.N])),(10,o91 r v a.2.2.2.2)]) [(1,{ act := .load 4 0 0 [] }),(3,{ act := .load 12 0 0 [] }),(4,{ act := .idx 9 (Int.toNat D.1) }),(5,{ act := .store (Int.toNat D.1) 0 [vI ((a.2.2.2.1.getD (Int.toNat D.1) dS_api_Last).Client),vI ((a.2.2.2.1.getD (Int.toNat D.1) dS_api_Last).Number),vI ((a.2.2.2.1.getD (Int.toNat D.1) dS_api_Last).Errno),vI (((a.2.2.2.1.getD (Int.toNat D.1) dS_api_Last).Version).Epoch),vI (((a.2.2.2.1.getD (Int.toNat D.1) dS_api_Last).Version).N)],key := some 9 })] (fun _ => [(b 0).x = (b 0).x,(K 9).x = (K 9).x,G = G,a.2.2.2.1.length = (List.map S_api_Last.row a.2.2.2.1).length,(D.1 : Int) = (((Int.toNat D.1) : Nat) : Int),(Int.toNat D.1) < a.2.2.2.1.length,blk G = blk G,offs G + (Int.toNat D.1) * 5 = offs G + ((Int.toNat D.1) * 5 + 0),(List.map S_api_Last.row a.2.2.2.1)[(Int.toNat D.1)]? = some [vI ((a.2.2.2.1.getD (Int.toNat D.1) dS_api_Last).Client),vI ((a.2.2.2.1.getD (Int.toNat D.1) dS_api_Last).Number),vI ((a.2.2.2.1.getD (Int.toNat D.1) dS_api_Last).Errno),vI (((a.2.2.2.1.getD (Int.toNat D.1) dS_api_Last).Version).Epoch),vI (((a.2.2.2.1.getD (Int.toNat D.1) dS_api_Last).Version).N)],oC (.agg ((kc4 a1.Client a1.Number a1.Errno a1.Version.Epoch a1.Version.N)).toArray)]) (fun _ => ⟨rfl,rfl,rfl,mlen S_api_Last.row a.2.2.2.1,aq.eq,aq.2,rfl,rfl,map_at S_api_Last.row dS_api_Last aq.2,rfl,trivial⟩) ?_
                intro _
                refine GS.conv (mem' := [(4,.cells ((b 0).x) 28 (kc0 a.1 a.2.1.Epoch a.2.1.N ((c 4).ob) ((a.2.2.1 ++ [a1]).length) ((c 4).cap) G a.2.2.2.1.length H r a.2.2.2.2.length v)),(5,.cells ((b 1).x) 31 (kc1 a1.Version.Epoch a1.Version.N a1.Remove a1.Errno a1.Name a1.Client a1.Number)),(6,.cells ((b 2).x) 28 (kc6)),(8,o31 ((c 4).ob) ((c 4).cap) (a.2.2.1 ++ [a1])),(9,o94 G H (a.2.2.2.1.set (Int.toNat D.1) (S_api_Last.mk a1.Client a1.Number a1.Errno a1.Version))),(10,o91 r v a.2.2.2.2)]) rfl (congrArg (fun rr : List (List Value) => ([(4,.cells ((b 0).x) 28 (kc0 a.1 a.2.1.Epoch a.2.1.N ((c 4).ob) ((a.2.2.1 ++ [a1]).length) ((c 4).cap) G a.2.2.2.1.length H r a.2.2.2.2.length v)),(5,.cells ((b 1).x) 31 (kc1 a1.Version.Epoch a1.Version.N a1.Remove a1.Errno a1.Name a1.Client a1.Number)),(6,.cells ((b 2).x) 28 (kc6)),(8,o31 ((c 4).ob) ((c 4).cap) (a.2.2.1 ++ [a1])),(9,.osl G H 94 5 rr),(10,o91 r v a.2.2.2.2)] : List (Nat × Ent))) (show (List.map S_api_Last.row a.2.2.2.1).set (Int.toNat D.1) [vI a1.Client,vI a1.Number,vI a1.Errno,vI a1.Version.Epoch,vI a1.Version.N] = List.map S_api_Last.row (a.2.2.2.1.set (Int.toNat D.1) (S_api_Last.mk a1.Client a1.Number a1.Errno a1.Version)) from mset S_api_Last.row a.2.2.2.1 (Int.toNat D.1) (S_api_Last.mk a1.Client a1.Number a1.Errno a1.Version))) ?_
                refine GS.conv (mem' := [(4,.cells ((b 0).x) 28 (kc0 a.1 a.2.1.Epoch a.2.1.N ((c 4).ob) ((a.2.2.1 ++ [a1]).length) ((c 4).cap) G ((a.2.2.2.1.set (Int.toNat D.1) (S_api_Last.mk a1.Client a1.Number a1.Errno a1.Version)).length) H r a.2.2.2.2.length v)),(5,.cells ((b 1).x) 31 (kc1 a1.Version.Epoch a1.Version.N a1.Remove a1.Errno a1.Name a1.Client a1.Number)),(6,.cells ((b 2).x) 28 (kc6)),(8,o31 ((c 4).ob) ((c 4).cap) (a.2.2.1 ++ [a1])),(9,o94 G H (a.2.2.2.1.set (Int.toNat D.1) (S_api_Last.mk a1.Client a1.Number a1.Errno a1.Version))),(10,o91 r v a.2.2.2.2)]) rfl (by simp []) ?_
                refine GS.rekey (env' := [(2,.int .u32 a2),(3,pA ((b 0).x) 0),(4,pA ((b 1).x) 0),(6,pA ((b 2).x) 0)]) (mem' := [(4,.cells ((b 0).x) 28 (kc0 a.1 a.2.1.Epoch a.2.1.N ((c 4).ob) ((a.2.2.1 ++ [a1]).length) ((c 4).cap) G ((a.2.2.2.1.set (Int.toNat D.1) (S_api_Last.mk a1.Client a1.Number a1.Errno a1.Version)).length) H r a.2.2.2.2.length v)),(5,.cells ((b 1).x) 31 (kc1 a1.Version.Epoch a1.Version.N a1.Remove a1.Errno a1.Name a1.Client a1.Number)),(6,.cells ((b 2).x) 28 (kc6)),(8,o31 ((c 4).ob) ((c 4).cap) (a.2.2.1 ++ [a1])),(9,o94 G H (a.2.2.2.1.set (Int.toNat D.1) (S_api_Last.mk a1.Client a1.Number a1.Errno a1.Version))),(10,o91 r v a.2.2.2.2)]) [2,3,4,6] [(4,4),(5,5),(6,6),(8,8),(9,9),(10,10)] (by kernel_rfl) (by kernel_rfl) rfl ?_
                exact a4 ⟨(a.2.2.2.1.set (Int.toNat D.1) (S_api_Last.mk a1.Client a1.Number a1.Errno a1.Version)),G,H⟩ hm
              · replace hm := br_f ap hm
                refine grd_elim hm (fun be hm => ?_)
                refine grd_elim hm (fun bf hm => ?_)
                refine grd_elim hm (fun bg hm => ?_)
                refine grd_elim hm (fun bh hm => ?_)
                refine GS.open_ ?_
                refine GR.ru (i := 0) 5 (env' := fun L => [(2,.int .u32 a2),(3,pA ((b 0).x) 0),(4,pA ((b 1).x) 0),(6,pA ((b 2).x) 0),(99,.slice G a.2.2.2.1.length H),(100,vI D.1),(102,.slice (some (Addr.mk (L 4).x 0 none)) ([(S_api_Last.mk a1.Client a1.Number a1.Errno a1.Version)].length) 1)]) (mem' := fun L => [(4,.cells ((b 0).x) 28 (kc0 a.1 a.2.1.Epoch a.2.1.N ((c 4).ob) ((a.2.2.1 ++ [a1]).length) ((c 4).cap) G a.2.2.2.1.length H r a.2.2.2.2.length v)),(5,.cells ((b 1).x) 31 (kc1 a1.Version.Epoch a1.Version.N a1.Remove a1.Errno a1.Name a1.Client a1.Number)),(6,.cells ((b 2).x) 28 (kc6)),(8,o31 ((c 4).ob) ((c 4).cap) (a.2.2.1 ++ [a1])),(9,o94 G H a.2.2.2.1),(10,o91 r v a.2.2.2.2),(13,.osl (some (Addr.mk (L 4).x 0 none)) 1 94 5 ([[vI a1.Client,vI a1.Number,vI a1.Errno,vI a1.Version.Epoch,vI a1.Version.N]] : List (List Value)))]) (by kernel_rfl) (RunsTo.mk [(1,{ act := .load 4 0 0 [] }),(3,{ act := .load 12 0 0 [] }),(4,{ act := .new (.row 1 5),key := some 13,spf := some (fun f => .slice (some (Addr.mk f.x 0 none)) ([(S_api_Last.mk a1.Client a1.Number a1.Errno a1.Version)].length) 1) })] [2,3,4,6,99,100,102] [4,5,6,8,9,10,13] (fun L => [(b 0).x = (b 0).x,(K 9).x = (K 9).x,((.slice (some (Addr.mk (L 4).x 0 none)) 1 1) : Value) = .slice (some (Addr.mk (L 4).x 0 none)) ([(S_api_Last.mk a1.Client a1.Number a1.Errno a1.Version)].length) 1]) (fun L => by kernel_rfl) (fun L => ⟨rfl,rfl,rfl,trivial⟩)) ?_
                intro L
                refine GR.conv (mem' := [(4,.cells ((b 0).x) 28 (kc0 a.1 a.2.1.Epoch a.2.1.N ((c 4).ob) ((a.2.2.1 ++ [a1]).length) ((c 4).cap) G a.2.2.2.1.length H r a.2.2.2.2.length v)),(5,.cells ((b 1).x) 31 (kc1 a1.Version.Epoch a1.Version.N a1.Remove a1.Errno a1.Name a1.Client a1.Number)),(6,.cells ((b 2).x) 28 (kc6)),(8,o31 ((c 4).ob) ((c 4).cap) (a.2.2.1 ++ [a1])),(9,o94 G H a.2.2.2.1),(10,o91 r v a.2.2.2.2),(13,o94 (some (Addr.mk (L 4).x 0 none)) 1 [(S_api_Last.mk a1.Client a1.Number a1.Errno a1.Version)])]) rfl (congrArg (fun rr : List (List Value) => ([(4,.cells ((b 0).x) 28 (kc0 a.1 a.2.1.Epoch a.2.1.N ((c 4).ob) ((a.2.2.1 ++ [a1]).length) ((c 4).cap) G a.2.2.2.1.length H r a.2.2.2.2.length v)),(5,.cells ((b 1).x) 31 (kc1 a1.Version.Epoch a1.Version.N a1.Remove a1.Errno a1.Name a1.Client a1.Number)),(6,.cells ((b 2).x) 28 (kc6)),(8,o31 ((c 4).ob) ((c 4).cap) (a.2.2.1 ++ [a1])),(9,o94 G H a.2.2.2.1),(10,o91 r v a.2.2.2.2),(13,.osl (some (Addr.mk (L 4).x 0 none)) 1 94 5 rr)] : List (Nat × Ent))) (show ([[vI a1.Client,vI a1.Number,vI a1.Errno,vI a1.Version.Epoch,vI a1.Version.N]] : List (List Value)) = List.map S_api_Last.row [(S_api_Last.mk a1.Client a1.Number a1.Errno a1.Version)] from rfl)) ?_
                refine GR.callG (X := Option Addr × Nat) (i := 5) (g := 54) (ro := []) (mem' := fun ⟨Y,Z⟩ => [(4,.cells ((b 0).x) 28 (kc0 a.1 a.2.1.Epoch a.2.1.N ((c 4).ob) ((a.2.2.1 ++ [a1]).length) ((c 4).cap) G a.2.2.2.1.length H r a.2.2.2.2.length v)),(5,.cells ((b 1).x) 31 (kc1 a1.Version.Epoch a1.Version.N a1.Remove a1.Errno a1.Name a1.Client a1.Number)),(6,.cells ((b 2).x) 28 (kc6)),(8,o31 ((c 4).ob) ((c 4).cap) (a.2.2.1 ++ [a1])),(10,o91 r v a.2.2.2.2),(14,o94 Y Z (a.2.2.2.1.take (Int.toNat D.1) ++ ([(S_api_Last.mk a1.Client a1.Number a1.Errno a1.Version)] ++ a.2.2.2.1.drop (Int.toNat D.1))))]) (env' := fun ⟨Y,Z⟩ => [(2,.int .u32 a2),(3,pA ((b 0).x) 0),(4,pA ((b 1).x) 0),(6,pA ((b 2).x) 0),(103,.slice Y ((a.2.2.2.1.take (Int.toNat D.1) ++ ([(S_api_Last.mk a1.Client a1.Number a1.Errno a1.Version)] ++ a.2.2.2.1.drop (Int.toNat D.1))).length) Z)]) [9,13] [14] [2,3,4,6,103] [4,5,6,8,10,14] false (by kernel_rfl) (by kernel_rfl) (by kernel_rfl) (by kernel_rfl) (by kernel_rfl) (fun _ => rfl) (fun _ _ => rfl) trivial (by rintro ⟨Y,Z⟩; kernel_rfl) (by rintro ⟨Y,Z⟩; kernel_rfl) (ins54_ok G H a.2.2.2.1 D.1 (some (Addr.mk (L 4).x 0 none)) 1 [(S_api_Last.mk a1.Client a1.Number a1.Errno a1.Version)] be bf bg bh) ?_
                rintro ⟨Y,Z⟩
                refine GR.ru (i := 6) 2 (env' := fun _ => [(2,.int .u32 a2),(3,pA ((b 0).x) 0),(4,pA ((b 1).x) 0),(6,pA ((b 2).x) 0)]) (mem' := fun _ => [(4,.cells ((b 0).x) 28 (kc0 a.1 a.2.1.Epoch a.2.1.N ((c 4).ob) ((a.2.2.1 ++ [a1]).length) ((c 4).cap) Y ((a.2.2.2.1.take (Int.toNat D.1) ++ ([(S_api_Last.mk a1.Client a1.Number a1.Errno a1.Version)] ++ a.2.2.2.1.drop (Int.toNat D.1))).length) Z r a.2.2.2.2.length v)),(5,.cells ((b 1).x) 31 (kc1 a1.Version.Epoch a1.Version.N a1.Remove a1.Errno a1.Name a1.Client a1.Number)),(6,.cells ((b 2).x) 28 (kc6)),(8,o31 ((c 4).ob) ((c 4).cap) (a.2.2.1 ++ [a1])),(10,o91 r v a.2.2.2.2),(14,o94 Y Z (a.2.2.2.1.take (Int.toNat D.1) ++ ([(S_api_Last.mk a1.Client a1.Number a1.Errno a1.Version)] ++ a.2.2.2.1.drop (Int.toNat D.1))))]) (by kernel_rfl) (RunsTo.mk [(7,{ act := .store 0 0 [],key := some 4 })] [2,3,4,6] [4,5,6,8,10,14] (fun _ => [(b 0).x = (b 0).x,oC (.slice Y ((a.2.2.2.1.take (Int.toNat D.1) ++ ([(S_api_Last.mk a1.Client a1.Number a1.Errno a1.Version)] ++ a.2.2.2.1.drop (Int.toNat D.1))).length) Z)]) (fun _ => by kernel_rfl) (fun _ => ⟨rfl,rfl,trivial⟩)) ?_
                intro _
                refine GR.dn (by kernel_rfl) ?_
                refine GS.rekey (env' := [(2,.int .u32 a2),(3,pA ((b 0).x) 0),(4,pA ((b 1).x) 0),(6,pA ((b 2).x) 0)]) (mem' := [(4,.cells ((b 0).x) 28 (kc0 a.1 a.2.1.Epoch a.2.1.N ((c 4).ob) ((a.2.2.1 ++ [a1]).length) ((c 4).cap) Y ((a.2.2.2.1.take (Int.toNat D.1) ++ ([(S_api_Last.mk a1.Client a1.Number a1.Errno a1.Version)] ++ a.2.2.2.1.drop (Int.toNat D.1))).length) Z r a.2.2.2.2.length v)),(5,.cells ((b 1).x) 31 (kc1 a1.Version.Epoch a1.Version.N a1.Remove a1.Errno a1.Name a1.Client a1.Number)),(6,.cells ((b 2).x) 28 (kc6)),(8,o31 ((c 4).ob) ((c 4).cap) (a.2.2.1 ++ [a1])),(9,o94 Y Z (a.2.2.2.1.take (Int.toNat D.1) ++ ([(S_api_Last.mk a1.Client a1.Number a1.Errno a1.Version)] ++ a.2.2.2.1.drop (Int.toNat D.1)))),(10,o91 r v a.2.2.2.2)]) [2,3,4,6] [(4,4),(5,5),(6,6),(8,8),(9,14),(10,10)] (by kernel_rfl) (by kernel_rfl) rfl ?_
                exact a4 ⟨(a.2.2.2.1.take (Int.toNat D.1) ++ ([(S_api_Last.mk a1.Client a1.Number a1.Errno a1.Version)] ++ a.2.2.2.1.drop (Int.toNat D.1))),Y,Z⟩ hm
            · rintro ⟨z,s,u⟩ hm
              replace hm := (a3 _).symm.trans hm
              try dsimp only at hm
              refine GS.seq ?_
              refine GS.seq ?_
              refine GS.tgM (fun _ => [(2,.int .u32 a2),(3,pA ((b 0).x) 0),(4,pA ((b 1).x) 0),(6,pA ((b 2).x) 0),(107,.bool (a1.Errno != 0))]) [(1,{ act := .load 5 0 0 [] })] (fun _ => [(b 1).x = (b 1).x]) (fun _ => ⟨rfl,trivial⟩) ?_
              intro _
              refine GS.cond (t := a1.Errno != 0) rfl rfl (fun ar => ?_) (fun ar => ?_)
              · replace hm := br_t ar hm
                refine GS.seq ?_
                refine GS.tg (fun _ => [(6,pA ((b 2).x) 0),(7,vI 0)]) (fun _ => [(6,.cells ((b 2).x) 28 (kc0 a.1 a.2.1.Epoch a.2.1.N ((c 4).ob) ((a.2.2.1 ++ [a1]).length) ((c 4).cap) s z.length u r a.2.2.2.2.length v)),(8,o31 ((c 4).ob) ((c 4).cap) (a.2.2.1 ++ [a1])),(9,o94 s u z),(10,o91 r v a.2.2.2.2)]) [(0,{ act := .load 4 0 0 [] }),(1,{ act := .store 0 0 [],key := some 6 })] (fun _ => [(b 0).x = (b 0).x,(b 2).x = (b 2).x,oC (.agg ((kc0 a.1 a.2.1.Epoch a.2.1.N ((c 4).ob) ((a.2.2.1 ++ [a1]).length) ((c 4).cap) s z.length u r a.2.2.2.2.length v)).toArray)]) (fun _ => ⟨rfl,rfl,rfl,trivial⟩) ?_
                intro _
                have hy := Option.some.inj hm
                subst hy
                refine GS.ret (fn := Tryz.f33) [6,0] [.agg ((kc0 a.1 a.2.1.Epoch a.2.1.N ((c 4).ob) ((a.2.2.1 ++ [a1]).length) ((c 4).cap) s z.length u r a.2.2.2.2.length v)).toArray,vI 0] [(b 2).x = (b 2).x] rfl Tryz.func33 (by kernel_rfl) ⟨rfl,trivial⟩ (fun w' hs => ?_)
                exact ⟨⟨(c 4).ob,(c 4).cap,s,u,r,v⟩,rfl,hs.turnedG (ks := [8,9,10]) rfl rfl⟩
              · replace hm := br_f ar hm
                refine GS.skip ?_
                refine GS.seq ?_
                refine bnd_elim hm (fun B bi hm => ?_)
                refine GS.tgM (fun _ => [(2,.int .u32 a2),(3,pA ((b 0).x) 0),(4,pA ((b 1).x) 0),(6,pA ((b 2).x) 0),(13,vI B.1),(14,.bool B.2)]) [(1,{ act := .load 4 0 0 [] }),(3,{ act := .load 5 0 0 [] }),(4,{ act := .call [10] (.tuple #[vI B.1,.bool B.2]) })] (fun _ => [(b 0).x = (b 0).x,(b 1).x = (b 1).x,CallOK Tryz.prog 55 #[.slice r a.2.2.2.2.length v,.func (.func 56) #[] #[],.string a1.Name] (.tuple #[vI B.1,.bool B.2]) [some (o91 r v a.2.2.2.2)]]) (fun _ => ⟨rfl,rfl,(by have h1 := w_pglog_look_api_Item_string__2 F r v a.2.2.2.2 a1.Name bi; exact h1.ok ⟨(.inl ⟨o91 r v a.2.2.2.2,.head _,Cov.osl_rd⟩),trivial⟩),trivial⟩) ?_
                intro _
                refine GS.seq ?_
                refine GS.tg (fun J => [(3,pA ((b 0).x) 0),(4,pA ((b 1).x) 0),(6,pA ((b 2).x) 0),(13,vI B.1),(14,.bool B.2),(15,pA ((J 6).x) 0)]) (fun J => [(4,.cells ((b 0).x) 28 (kc0 a.1 a.2.1.Epoch a.2.1.N ((c 4).ob) ((a.2.2.1 ++ [a1]).length) ((c 4).cap) s z.length u r a.2.2.2.2.length v)),(5,.cells ((b 1).x) 31 (kc1 a1.Version.Epoch a1.Version.N a1.Remove a1.Errno a1.Name a1.Client a1.Number)),(6,.cells ((b 2).x) 28 (kc6)),(8,o31 ((c 4).ob) ((c 4).cap) (a.2.2.1 ++ [a1])),(9,o94 s u z),(10,o91 r v a.2.2.2.2),(15,.cells ((J 6).x) 91 (kc3 a1.Name a1.Version.Epoch a1.Version.N a2))]) [(1,{ act := .load 5 0 0 [] }),(3,{ act := .load 5 0 0 [] }),(6,{ act := .new .var,key := some 15 }),(7,{ act := .store 0 0 [],key := some 15 })] (fun J => [(b 1).x = (b 1).x,(b 1).x = (b 1).x,(J 6).x = (J 6).x,oC (.agg ((kc3 a1.Name a1.Version.Epoch a1.Version.N a2)).toArray)]) (fun J => ⟨rfl,rfl,rfl,rfl,trivial⟩) ?_
                intro J
                refine GS.seq ?_
                refine GS.block ?_
                refine GS.seq ?_
                refine jn_elim hm (fun bj a5 hm => ?_)
                refine GS.cut (ι := Bool) (I := fun (P : Bool) => bj P = some y) (E := fun (P : Bool) => [(3,pA ((b 0).x) 0),(4,pA ((b 1).x) 0),(6,pA ((b 2).x) 0),(13,vI B.1),(14,.bool B.2),(15,pA ((J 6).x) 0),(130,.bool P)]) (M := fun (P : Bool) => [(4,.cells ((b 0).x) 28 (kc0 a.1 a.2.1.Epoch a.2.1.N ((c 4).ob) ((a.2.2.1 ++ [a1]).length) ((c 4).cap) s z.length u r a.2.2.2.2.length v)),(5,.cells ((b 1).x) 31 (kc1 a1.Version.Epoch a1.Version.N a1.Remove a1.Errno a1.Name a1.Client a1.Number)),(6,.cells ((b 2).x) 28 (kc6)),(8,o31 ((c 4).ob) ((c 4).cap) (a.2.2.1 ++ [a1])),(9,o94 s u z),(10,o91 r v a.2.2.2.2),(15,.cells ((J 6).x) 91 (kc3 a1.Name a1.Version.Epoch a1.Version.N a2))]) ?_ ?_
                rotate_left
                · intro a6
                  refine br_elim hm (fun au hm => ?_) (fun au hm => ?_)
                  · skip
                    refine GS.tgM (fun _ => [(3,pA ((b 0).x) 0),(4,pA ((b 1).x) 0),(6,pA ((b 2).x) 0),(13,vI B.1),(14,.bool B.2),(15,pA ((J 6).x) 0),(130,.bool B.2)]) [(1,{ act := .load 5 0 0 [] }),(2,{ sp := some (.bool true) })] (fun _ => [(b 1).x = (b 1).x,((.bool a1.Remove) : Value) = .bool true]) (fun _ => ⟨rfl,bool_eq au,trivial⟩) ?_
                    intro _
                    refine GS.rekey (env' := [(3,pA ((b 0).x) 0),(4,pA ((b 1).x) 0),(6,pA ((b 2).x) 0),(13,vI B.1),(14,.bool B.2),(15,pA ((J 6).x) 0),(130,.bool B.2)]) (mem' := [(4,.cells ((b 0).x) 28 (kc0 a.1 a.2.1.Epoch a.2.1.N ((c 4).ob) ((a.2.2.1 ++ [a1]).length) ((c 4).cap) s z.length u r a.2.2.2.2.length v)),(5,.cells ((b 1).x) 31 (kc1 a1.Version.Epoch a1.Version.N a1.Remove a1.Errno a1.Name a1.Client a1.Number)),(6,.cells ((b 2).x) 28 (kc6)),(8,o31 ((c 4).ob) ((c 4).cap) (a.2.2.1 ++ [a1])),(9,o94 s u z),(10,o91 r v a.2.2.2.2),(15,.cells ((J 6).x) 91 (kc3 a1.Name a1.Version.Epoch a1.Version.N a2))]) [3,4,6,13,14,15,130] [(4,4),(5,5),(6,6),(8,8),(9,9),(10,10),(15,15)] (by kernel_rfl) (by kernel_rfl) rfl ?_
                    exact a6 B.2 hm
                  · skip
                    refine GS.tgM (fun _ => [(3,pA ((b 0).x) 0),(4,pA ((b 1).x) 0),(6,pA ((b 2).x) 0),(13,vI B.1),(14,.bool B.2),(15,pA ((J 6).x) 0),(130,.bool false)]) [(1,{ act := .load 5 0 0 [] }),(2,{ sp := some (.bool false) })] (fun _ => [(b 1).x = (b 1).x,((.bool a1.Remove) : Value) = .bool false]) (fun _ => ⟨rfl,bool_eq au,trivial⟩) ?_
                    intro _
                    refine GS.rekey (env' := [(3,pA ((b 0).x) 0),(4,pA ((b 1).x) 0),(6,pA ((b 2).x) 0),(13,vI B.1),(14,.bool B.2),(15,pA ((J 6).x) 0),(130,.bool false)]) (mem' := [(4,.cells ((b 0).x) 28 (kc0 a.1 a.2.1.Epoch a.2.1.N ((c 4).ob) ((a.2.2.1 ++ [a1]).length) ((c 4).cap) s z.length u r a.2.2.2.2.length v)),(5,.cells ((b 1).x) 31 (kc1 a1.Version.Epoch a1.Version.N a1.Remove a1.Errno a1.Name a1.Client a1.Number)),(6,.cells ((b 2).x) 28 (kc6)),(8,o31 ((c 4).ob) ((c 4).cap) (a.2.2.1 ++ [a1])),(9,o94 s u z),(10,o91 r v a.2.2.2.2),(15,.cells ((J 6).x) 91 (kc3 a1.Name a1.Version.Epoch a1.Version.N a2))]) [3,4,6,13,14,15,130] [(4,4),(5,5),(6,6),(8,8),(9,9),(10,10),(15,15)] (by kernel_rfl) (by kernel_rfl) rfl ?_
                    exact a6 false hm
                · rintro P hm
                  replace hm := (a5 _).symm.trans hm
                  try dsimp only at hm
                  refine GS.cond (t := P) rfl rfl (fun av => ?_) (fun av => ?_)
                  · replace hm := br_t av hm
                    refine grd_elim hm (fun bk hm => ?_)
                    refine bnd_elim hm (fun ac bl hm => ?_)
                    refine GS.know (p := a.2.2.2.2.length ≤ v) (fun w hw => by first | (have h := (hw.ok 10 _ rfl).1.1; rw [List.length_map] at h; exact h) | simpa using (hw.ok 10 _ rfl).1.1) (fun bm => ?_)
                    refine GS.open_ ?_
                    refine GR.ru (i := 0) 5 (env' := fun _ => [(3,pA ((b 0).x) 0),(6,pA ((b 2).x) 0),(137,.slice r a.2.2.2.2.length v),(138,vI B.1),(140,vI (B.1 + 1))]) (mem' := fun _ => [(4,.cells ((b 0).x) 28 (kc0 a.1 a.2.1.Epoch a.2.1.N ((c 4).ob) ((a.2.2.1 ++ [a1]).length) ((c 4).cap) s z.length u r a.2.2.2.2.length v)),(6,.cells ((b 2).x) 28 (kc6)),(8,o31 ((c 4).ob) ((c 4).cap) (a.2.2.1 ++ [a1])),(9,o94 s u z),(10,o91 r v a.2.2.2.2)]) (by kernel_rfl) (RunsTo.mk [(1,{ act := .load 4 0 0 [] }),(4,{ sp := some (vI (B.1 + 1)) })] [3,6,137,138,140] [4,6,8,9,10] (fun _ => [(b 0).x = (b 0).x,oW (B.1 + 1)]) (fun _ => by kernel_rfl) (fun _ => ⟨rfl,I64.w bk,trivial⟩)) ?_
                    intro _
                    refine GR.callG (X := Option Addr × Nat) (i := 5) (g := 57) (ro := []) (mem' := fun ⟨Q,R⟩ => [(4,.cells ((b 0).x) 28 (kc0 a.1 a.2.1.Epoch a.2.1.N ((c 4).ob) ((a.2.2.1 ++ [a1]).length) ((c 4).cap) s z.length u r a.2.2.2.2.length v)),(6,.cells ((b 2).x) 28 (kc6)),(8,o31 ((c 4).ob) ((c 4).cap) (a.2.2.1 ++ [a1])),(9,o94 s u z),(16,o91 Q R ac)]) (env' := fun ⟨Q,R⟩ => [(3,pA ((b 0).x) 0),(6,pA ((b 2).x) 0),(141,.slice Q ac.length R)]) [10] [16] [3,6,141] [4,6,8,9,16] false (by kernel_rfl) (by kernel_rfl) (by kernel_rfl) (by kernel_rfl) (by kernel_rfl) (fun _ => rfl) (fun _ _ => rfl) trivial (by rintro ⟨Q,R⟩; kernel_rfl) (by rintro ⟨Q,R⟩; kernel_rfl) (w_slices_Delete___api_Item_api_Item_ F r v a.2.2.2.2 B.1 (B.1 + 1) bm bl) ?_
                    rintro ⟨Q,R⟩
                    refine GR.ru (i := 6) 2 (env' := fun _ => [(3,pA ((b 0).x) 0),(6,pA ((b 2).x) 0)]) (mem' := fun _ => [(4,.cells ((b 0).x) 28 (kc0 a.1 a.2.1.Epoch a.2.1.N ((c 4).ob) ((a.2.2.1 ++ [a1]).length) ((c 4).cap) s z.length u Q ac.length R)),(6,.cells ((b 2).x) 28 (kc6)),(8,o31 ((c 4).ob) ((c 4).cap) (a.2.2.1 ++ [a1])),(9,o94 s u z),(16,o91 Q R ac)]) (by kernel_rfl) (RunsTo.mk [(7,{ act := .store 0 0 [],key := some 4 })] [3,6] [4,6,8,9,16] (fun _ => [(b 0).x = (b 0).x,oC (.slice Q ac.length R)]) (fun _ => by kernel_rfl) (fun _ => ⟨rfl,rfl,trivial⟩)) ?_
                    intro _
                    refine GR.dn (by kernel_rfl) ?_
                    refine GS.inBlock ?_
                    refine GS.seq ?_
                    refine GS.tg (fun _ => [(6,pA ((b 2).x) 0),(7,vI 0)]) (fun _ => [(6,.cells ((b 2).x) 28 (kc0 a.1 a.2.1.Epoch a.2.1.N ((c 4).ob) ((a.2.2.1 ++ [a1]).length) ((c 4).cap) s z.length u Q ac.length R)),(8,o31 ((c 4).ob) ((c 4).cap) (a.2.2.1 ++ [a1])),(9,o94 s u z),(16,o91 Q R ac)]) [(0,{ act := .load 4 0 0 [] }),(1,{ act := .store 0 0 [],key := some 6 })] (fun _ => [(b 0).x = (b 0).x,(b 2).x = (b 2).x,oC (.agg ((kc0 a.1 a.2.1.Epoch a.2.1.N ((c 4).ob) ((a.2.2.1 ++ [a1]).length) ((c 4).cap) s z.length u Q ac.length R)).toArray)]) (fun _ => ⟨rfl,rfl,rfl,trivial⟩) ?_
                    intro _
                    have hy := Option.some.inj hm
                    subst hy
                    refine GS.ret (fn := Tryz.f33) [6,0] [.agg ((kc0 a.1 a.2.1.Epoch a.2.1.N ((c 4).ob) ((a.2.2.1 ++ [a1]).length) ((c 4).cap) s z.length u Q ac.length R)).toArray,vI 0] [(b 2).x = (b 2).x] rfl Tryz.func33 (by kernel_rfl) ⟨rfl,trivial⟩ (fun w' hs => ?_)
                    exact ⟨⟨(c 4).ob,(c 4).cap,s,u,Q,R⟩,rfl,hs.turnedG (ks := [8,9,16]) rfl rfl⟩
                  · replace hm := br_f av hm
                    refine GS.seq ?_
                    refine GS.tg (fun _ => [(3,pA ((b 0).x) 0),(6,pA ((b 2).x) 0),(13,vI B.1),(14,.bool B.2),(15,pA ((J 6).x) 0),(143,.bool a1.Remove)]) (fun _ => [(4,.cells ((b 0).x) 28 (kc0 a.1 a.2.1.Epoch a.2.1.N ((c 4).ob) ((a.2.2.1 ++ [a1]).length) ((c 4).cap) s z.length u r a.2.2.2.2.length v)),(6,.cells ((b 2).x) 28 (kc6)),(8,o31 ((c 4).ob) ((c 4).cap) (a.2.2.1 ++ [a1])),(9,o94 s u z),(10,o91 r v a.2.2.2.2),(15,.cells ((J 6).x) 91 (kc3 a1.Name a1.Version.Epoch a1.Version.N a2))]) [(1,{ act := .load 5 0 0 [] })] (fun _ => [(b 1).x = (b 1).x]) (fun _ => ⟨rfl,trivial⟩) ?_
                    intro _
                    refine GS.cond (t := a1.Remove) rfl rfl (fun aw => ?_) (fun aw => ?_)
                    · replace hm := br_t aw hm
                      refine GS.skip ?_
                      refine GS.inBlock ?_
                      refine GS.seq ?_
                      refine GS.tg (fun _ => [(6,pA ((b 2).x) 0),(7,vI 0)]) (fun _ => [(6,.cells ((b 2).x) 28 (kc0 a.1 a.2.1.Epoch a.2.1.N ((c 4).ob) ((a.2.2.1 ++ [a1]).length) ((c 4).cap) s z.length u r a.2.2.2.2.length v)),(8,o31 ((c 4).ob) ((c 4).cap) (a.2.2.1 ++ [a1])),(9,o94 s u z),(10,o91 r v a.2.2.2.2)]) [(0,{ act := .load 4 0 0 [] }),(1,{ act := .store 0 0 [],key := some 6 })] (fun _ => [(b 0).x = (b 0).x,(b 2).x = (b 2).x,oC (.agg ((kc0 a.1 a.2.1.Epoch a.2.1.N ((c 4).ob) ((a.2.2.1 ++ [a1]).length) ((c 4).cap) s z.length u r a.2.2.2.2.length v)).toArray)]) (fun _ => ⟨rfl,rfl,rfl,trivial⟩) ?_
                      intro _
                      have hy := Option.some.inj hm
                      subst hy
                      refine GS.ret (fn := Tryz.f33) [6,0] [.agg ((kc0 a.1 a.2.1.Epoch a.2.1.N ((c 4).ob) ((a.2.2.1 ++ [a1]).length) ((c 4).cap) s z.length u r a.2.2.2.2.length v)).toArray,vI 0] [(b 2).x = (b 2).x] rfl Tryz.func33 (by kernel_rfl) ⟨rfl,trivial⟩ (fun w' hs => ?_)
                      exact ⟨⟨(c 4).ob,(c 4).cap,s,u,r,v⟩,rfl,hs.turnedG (ks := [8,9,10]) rfl rfl⟩
                    · replace hm := br_f aw hm
                      refine GS.seq ?_
                      refine GS.tzM (fun _ => [(3,pA ((b 0).x) 0),(6,pA ((b 2).x) 0),(13,vI B.1),(15,pA ((J 6).x) 0),(146,.bool B.2)]) [] ?_
                      intro _
                      refine GS.cond (t := B.2) rfl rfl (fun ax => ?_) (fun ax => ?_)
                      · replace hm := br_t ax hm
                        refine grd_elim hm (fun ay hm => ?_)
                        refine GS.tg (fun _ => [(3,pA ((b 0).x) 0),(6,pA ((b 2).x) 0)]) (fun _ => [(4,.cells ((b 0).x) 28 (kc0 a.1 a.2.1.Epoch a.2.1.N ((c 4).ob) ((a.2.2.1 ++ [a1]).length) ((c 4).cap) s z.length u r a.2.2.2.2.length v)),(6,.cells ((b 2).x) 28 (kc6)),(8,o31 ((c 4).ob) ((c 4).cap) (a.2.2.1 ++ [a1])),(9,o94 s u z),(10,.osl r v 91 4 ((List.map S_api_Item.row a.2.2.2.2).set (Int.toNat B.1) [.string a1.Name,vI a1.Version.Epoch,vI a1.Version.N,.int .u32 a2]))]) [(1,{ act := .load 4 0 0 [] }),(3,{ act := .load 15 0 0 [] }),(4,{ act := .idx 10 (Int.toNat B.1) }),(5,{ act := .store (Int.toNat B.1) 0 [.string ((a.2.2.2.2.getD (Int.toNat B.1) dS_api_Item).Name),vI (((a.2.2.2.2.getD (Int.toNat B.1) dS_api_Item).Version).Epoch),vI (((a.2.2.2.2.getD (Int.toNat B.1) dS_api_Item).Version).N),.int .u32 ((a.2.2.2.2.getD (Int.toNat B.1) dS_api_Item).Crc)],key := some 10 })] (fun _ => [(b 0).x = (b 0).x,(J 6).x = (J 6).x,r = r,a.2.2.2.2.length = (List.map S_api_Item.row a.2.2.2.2).length,(B.1 : Int) = (((Int.toNat B.1) : Nat) : Int),(Int.toNat B.1) < a.2.2.2.2.length,blk r = blk r,offs r + (Int.toNat B.1) * 4 = offs r + ((Int.toNat B.1) * 4 + 0),(List.map S_api_Item.row a.2.2.2.2)[(Int.toNat B.1)]? = some [.string ((a.2.2.2.2.getD (Int.toNat B.1) dS_api_Item).Name),vI (((a.2.2.2.2.getD (Int.toNat B.1) dS_api_Item).Version).Epoch),vI (((a.2.2.2.2.getD (Int.toNat B.1) dS_api_Item).Version).N),.int .u32 ((a.2.2.2.2.getD (Int.toNat B.1) dS_api_Item).Crc)],oC (.agg ((kc3 a1.Name a1.Version.Epoch a1.Version.N a2)).toArray)]) (fun _ => ⟨rfl,rfl,rfl,mlen S_api_Item.row a.2.2.2.2,ay.eq,ay.2,rfl,rfl,map_at S_api_Item.row dS_api_Item ay.2,rfl,trivial⟩) ?_
                        intro _
                        refine GS.conv (mem' := [(4,.cells ((b 0).x) 28 (kc0 a.1 a.2.1.Epoch a.2.1.N ((c 4).ob) ((a.2.2.1 ++ [a1]).length) ((c 4).cap) s z.length u r a.2.2.2.2.length v)),(6,.cells ((b 2).x) 28 (kc6)),(8,o31 ((c 4).ob) ((c 4).cap) (a.2.2.1 ++ [a1])),(9,o94 s u z),(10,o91 r v (a.2.2.2.2.set (Int.toNat B.1) (S_api_Item.mk a1.Name (S_api_Version.mk a1.Version.Epoch a1.Version.N) a2)))]) rfl (congrArg (fun rr : List (List Value) => ([(4,.cells ((b 0).x) 28 (kc0 a.1 a.2.1.Epoch a.2.1.N ((c 4).ob) ((a.2.2.1 ++ [a1]).length) ((c 4).cap) s z.length u r a.2.2.2.2.length v)),(6,.cells ((b 2).x) 28 (kc6)),(8,o31 ((c 4).ob) ((c 4).cap) (a.2.2.1 ++ [a1])),(9,o94 s u z),(10,.osl r v 91 4 rr)] : List (Nat × Ent))) (show (List.map S_api_Item.row a.2.2.2.2).set (Int.toNat B.1) [.string a1.Name,vI a1.Version.Epoch,vI a1.Version.N,.int .u32 a2] = List.map S_api_Item.row (a.2.2.2.2.set (Int.toNat B.1) (S_api_Item.mk a1.Name (S_api_Version.mk a1.Version.Epoch a1.Version.N) a2)) from mset S_api_Item.row a.2.2.2.2 (Int.toNat B.1) (S_api_Item.mk a1.Name (S_api_Version.mk a1.Version.Epoch a1.Version.N) a2))) ?_
                        refine GS.inBlock ?_
                        refine GS.seq ?_
                        refine GS.conv (mem' := [(4,.cells ((b 0).x) 28 (kc0 a.1 a.2.1.Epoch a.2.1.N ((c 4).ob) ((a.2.2.1 ++ [a1]).length) ((c 4).cap) s z.length u r ((a.2.2.2.2.set (Int.toNat B.1) (S_api_Item.mk a1.Name (S_api_Version.mk a1.Version.Epoch a1.Version.N) a2)).length) v)),(6,.cells ((b 2).x) 28 (kc6)),(8,o31 ((c 4).ob) ((c 4).cap) (a.2.2.1 ++ [a1])),(9,o94 s u z),(10,o91 r v (a.2.2.2.2.set (Int.toNat B.1) (S_api_Item.mk a1.Name (S_api_Version.mk a1.Version.Epoch a1.Version.N) a2)))]) rfl (congrArg (fun ehole : Ent => ([(4,ehole),(6,.cells ((b 2).x) 28 (kc6)),(8,o31 ((c 4).ob) ((c 4).cap) (a.2.2.1 ++ [a1])),(9,o94 s u z),(10,o91 r v (a.2.2.2.2.set (Int.toNat B.1) (S_api_Item.mk a1.Name (S_api_Version.mk a1.Version.Epoch a1.Version.N) a2)))] : List (Nat × Ent))) (show ((.cells ((b 0).x) 28 (kc0 a.1 a.2.1.Epoch a.2.1.N ((c 4).ob) ((a.2.2.1 ++ [a1]).length) ((c 4).cap) s z.length u r a.2.2.2.2.length v)) : Ent) = .cells ((b 0).x) 28 (kc0 a.1 a.2.1.Epoch a.2.1.N ((c 4).ob) ((a.2.2.1 ++ [a1]).length) ((c 4).cap) s z.length u r ((a.2.2.2.2.set (Int.toNat B.1) (S_api_Item.mk a1.Name (S_api_Version.mk a1.Version.Epoch a1.Version.N) a2)).length) v) from (by simp []))) ?_
                        refine GS.tg (fun _ => [(6,pA ((b 2).x) 0),(7,vI 0)]) (fun _ => [(6,.cells ((b 2).x) 28 (kc0 a.1 a.2.1.Epoch a.2.1.N ((c 4).ob) ((a.2.2.1 ++ [a1]).length) ((c 4).cap) s z.length u r ((a.2.2.2.2.set (Int.toNat B.1) (S_api_Item.mk a1.Name (S_api_Version.mk a1.Version.Epoch a1.Version.N) a2)).length) v)),(8,o31 ((c 4).ob) ((c 4).cap) (a.2.2.1 ++ [a1])),(9,o94 s u z),(10,o91 r v (a.2.2.2.2.set (Int.toNat B.1) (S_api_Item.mk a1.Name (S_api_Version.mk a1.Version.Epoch a1.Version.N) a2)))]) [(0,{ act := .load 4 0 0 [] }),(1,{ act := .store 0 0 [],key := some 6 })] (fun _ => [(b 0).x = (b 0).x,(b 2).x = (b 2).x,oC (.agg ((kc0 a.1 a.2.1.Epoch a.2.1.N ((c 4).ob) ((a.2.2.1 ++ [a1]).length) ((c 4).cap) s z.length u r ((a.2.2.2.2.set (Int.toNat B.1) (S_api_Item.mk a1.Name (S_api_Version.mk a1.Version.Epoch a1.Version.N) a2)).length) v)).toArray)]) (fun _ => ⟨rfl,rfl,rfl,trivial⟩) ?_
                        intro _
                        have hy := Option.some.inj hm
                        subst hy
                        refine GS.ret (fn := Tryz.f33) [6,0] [.agg ((kc0 a.1 a.2.1.Epoch a.2.1.N ((c 4).ob) ((a.2.2.1 ++ [a1]).length) ((c 4).cap) s z.length u r ((a.2.2.2.2.set (Int.toNat B.1) (S_api_Item.mk a1.Name (S_api_Version.mk a1.Version.Epoch a1.Version.N) a2)).length) v)).toArray,vI 0] [(b 2).x = (b 2).x] rfl Tryz.func33 (by kernel_rfl) ⟨rfl,trivial⟩ (fun w' hs => ?_)
                        exact ⟨⟨(c 4).ob,(c 4).cap,s,u,r,v⟩,rfl,hs.turnedG (ks := [8,9,10]) rfl rfl⟩
                      · replace hm := br_f ax hm
                        refine grd_elim hm (fun bn hm => ?_)
                        refine grd_elim hm (fun bo hm => ?_)
                        refine grd_elim hm (fun bp hm => ?_)
                        refine grd_elim hm (fun bq hm => ?_)
                        refine GS.open_ ?_
                        refine GR.ru (i := 0) 5 (env' := fun O => [(3,pA ((b 0).x) 0),(6,pA ((b 2).x) 0),(124,.slice r a.2.2.2.2.length v),(125,vI B.1),(127,.slice (some (Addr.mk (O 4).x 0 none)) ([(S_api_Item.mk a1.Name (S_api_Version.mk a1.Version.Epoch a1.Version.N) a2)].length) 1)]) (mem' := fun O => [(4,.cells ((b 0).x) 28 (kc0 a.1 a.2.1.Epoch a.2.1.N ((c 4).ob) ((a.2.2.1 ++ [a1]).length) ((c 4).cap) s z.length u r a.2.2.2.2.length v)),(6,.cells ((b 2).x) 28 (kc6)),(8,o31 ((c 4).ob) ((c 4).cap) (a.2.2.1 ++ [a1])),(9,o94 s u z),(10,o91 r v a.2.2.2.2),(16,.osl (some (Addr.mk (O 4).x 0 none)) 1 91 4 ([[.string a1.Name,vI a1.Version.Epoch,vI a1.Version.N,.int .u32 a2]] : List (List Value)))]) (by kernel_rfl) (RunsTo.mk [(1,{ act := .load 4 0 0 [] }),(3,{ act := .load 15 0 0 [] }),(4,{ act := .new (.row 1 4),key := some 16,spf := some (fun f => .slice (some (Addr.mk f.x 0 none)) ([(S_api_Item.mk a1.Name (S_api_Version.mk a1.Version.Epoch a1.Version.N) a2)].length) 1) })] [3,6,124,125,127] [4,6,8,9,10,16] (fun O => [(b 0).x = (b 0).x,(J 6).x = (J 6).x,((.slice (some (Addr.mk (O 4).x 0 none)) 1 1) : Value) = .slice (some (Addr.mk (O 4).x 0 none)) ([(S_api_Item.mk a1.Name (S_api_Version.mk a1.Version.Epoch a1.Version.N) a2)].length) 1]) (fun O => by kernel_rfl) (fun O => ⟨rfl,rfl,rfl,trivial⟩)) ?_
                        intro O
                        refine GR.conv (mem' := [(4,.cells ((b 0).x) 28 (kc0 a.1 a.2.1.Epoch a.2.1.N ((c 4).ob) ((a.2.2.1 ++ [a1]).length) ((c 4).cap) s z.length u r a.2.2.2.2.length v)),(6,.cells ((b 2).x) 28 (kc6)),(8,o31 ((c 4).ob) ((c 4).cap) (a.2.2.1 ++ [a1])),(9,o94 s u z),(10,o91 r v a.2.2.2.2),(16,o91 (some (Addr.mk (O 4).x 0 none)) 1 [(S_api_Item.mk a1.Name (S_api_Version.mk a1.Version.Epoch a1.Version.N) a2)])]) rfl (congrArg (fun rr : List (List Value) => ([(4,.cells ((b 0).x) 28 (kc0 a.1 a.2.1.Epoch a.2.1.N ((c 4).ob) ((a.2.2.1 ++ [a1]).length) ((c 4).cap) s z.length u r a.2.2.2.2.length v)),(6,.cells ((b 2).x) 28 (kc6)),(8,o31 ((c 4).ob) ((c 4).cap) (a.2.2.1 ++ [a1])),(9,o94 s u z),(10,o91 r v a.2.2.2.2),(16,.osl (some (Addr.mk (O 4).x 0 none)) 1 91 4 rr)] : List (Nat × Ent))) (show ([[.string a1.Name,vI a1.Version.Epoch,vI a1.Version.N,.int .u32 a2]] : List (List Value)) = List.map S_api_Item.row [(S_api_Item.mk a1.Name (S_api_Version.mk a1.Version.Epoch a1.Version.N) a2)] from rfl)) ?_
                        refine GR.callG (X := Option Addr × Nat) (i := 5) (g := 58) (ro := []) (mem' := fun ⟨T,U⟩ => [(4,.cells ((b 0).x) 28 (kc0 a.1 a.2.1.Epoch a.2.1.N ((c 4).ob) ((a.2.2.1 ++ [a1]).length) ((c 4).cap) s z.length u r a.2.2.2.2.length v)),(6,.cells ((b 2).x) 28 (kc6)),(8,o31 ((c 4).ob) ((c 4).cap) (a.2.2.1 ++ [a1])),(9,o94 s u z),(17,o91 T U (a.2.2.2.2.take (Int.toNat B.1) ++ ([(S_api_Item.mk a1.Name (S_api_Version.mk a1.Version.Epoch a1.Version.N) a2)] ++ a.2.2.2.2.drop (Int.toNat B.1))))]) (env' := fun ⟨T,U⟩ => [(3,pA ((b 0).x) 0),(6,pA ((b 2).x) 0),(128,.slice T ((a.2.2.2.2.take (Int.toNat B.1) ++ ([(S_api_Item.mk a1.Name (S_api_Version.mk a1.Version.Epoch a1.Version.N) a2)] ++ a.2.2.2.2.drop (Int.toNat B.1))).length) U)]) [10,16] [17] [3,6,128] [4,6,8,9,17] false (by kernel_rfl) (by kernel_rfl) (by kernel_rfl) (by kernel_rfl) (by kernel_rfl) (fun _ => rfl) (fun _ _ => rfl) trivial (by rintro ⟨T,U⟩; kernel_rfl) (by rintro ⟨T,U⟩; kernel_rfl) (ins58_ok r v a.2.2.2.2 B.1 (some (Addr.mk (O 4).x 0 none)) 1 [(S_api_Item.mk a1.Name (S_api_Version.mk a1.Version.Epoch a1.Version.N) a2)] bn bo bp bq) ?_
                        rintro ⟨T,U⟩
                        refine GR.ru (i := 6) 2 (env' := fun _ => [(3,pA ((b 0).x) 0),(6,pA ((b 2).x) 0)]) (mem' := fun _ => [(4,.cells ((b 0).x) 28 (kc0 a.1 a.2.1.Epoch a.2.1.N ((c 4).ob) ((a.2.2.1 ++ [a1]).length) ((c 4).cap) s z.length u T ((a.2.2.2.2.take (Int.toNat B.1) ++ ([(S_api_Item.mk a1.Name (S_api_Version.mk a1.Version.Epoch a1.Version.N) a2)] ++ a.2.2.2.2.drop (Int.toNat B.1))).length) U)),(6,.cells ((b 2).x) 28 (kc6)),(8,o31 ((c 4).ob) ((c 4).cap) (a.2.2.1 ++ [a1])),(9,o94 s u z),(17,o91 T U (a.2.2.2.2.take (Int.toNat B.1) ++ ([(S_api_Item.mk a1.Name (S_api_Version.mk a1.Version.Epoch a1.Version.N) a2)] ++ a.2.2.2.2.drop (Int.toNat B.1))))]) (by kernel_rfl) (RunsTo.mk [(7,{ act := .store 0 0 [],key := some 4 })] [3,6] [4,6,8,9,17] (fun _ => [(b 0).x = (b 0).x,oC (.slice T ((a.2.2.2.2.take (Int.toNat B.1) ++ ([(S_api_Item.mk a1.Name (S_api_Version.mk a1.Version.Epoch a1.Version.N) a2)] ++ a.2.2.2.2.drop (Int.toNat B.1))).length) U)]) (fun _ => by kernel_rfl) (fun _ => ⟨rfl,rfl,trivial⟩)) ?_
                        intro _
                        refine GR.dn (by kernel_rfl) ?_
                        refine GS.inBlock ?_
                        refine GS.seq ?_
                        refine GS.tg (fun _ => [(6,pA ((b 2).x) 0),(7,vI 0)]) (fun _ => [(6,.cells ((b 2).x) 28 (kc0 a.1 a.2.1.Epoch a.2.1.N ((c 4).ob) ((a.2.2.1 ++ [a1]).length) ((c 4).cap) s z.length u T ((a.2.2.2.2.take (Int.toNat B.1) ++ ([(S_api_Item.mk a1.Name (S_api_Version.mk a1.Version.Epoch a1.Version.N) a2)] ++ a.2.2.2.2.drop (Int.toNat B.1))).length) U)),(8,o31 ((c 4).ob) ((c 4).cap) (a.2.2.1 ++ [a1])),(9,o94 s u z),(17,o91 T U (a.2.2.2.2.take (Int.toNat B.1) ++ ([(S_api_Item.mk a1.Name (S_api_Version.mk a1.Version.Epoch a1.Version.N) a2)] ++ a.2.2.2.2.drop (Int.toNat B.1))))]) [(0,{ act := .load 4 0 0 [] }),(1,{ act := .store 0 0 [],key := some 6 })] (fun _ => [(b 0).x = (b 0).x,(b 2).x = (b 2).x,oC (.agg ((kc0 a.1 a.2.1.Epoch a.2.1.N ((c 4).ob) ((a.2.2.1 ++ [a1]).length) ((c 4).cap) s z.length u T ((a.2.2.2.2.take (Int.toNat B.1) ++ ([(S_api_Item.mk a1.Name (S_api_Version.mk a1.Version.Epoch a1.Version.N) a2)] ++ a.2.2.2.2.drop (Int.toNat B.1))).length) U)).toArray)]) (fun _ => ⟨rfl,rfl,rfl,trivial⟩) ?_
                        intro _
                        have hy := Option.some.inj hm
                        subst hy
                        refine GS.ret (fn := Tryz.f33) [6,0] [.agg ((kc0 a.1 a.2.1.Epoch a.2.1.N ((c 4).ob) ((a.2.2.1 ++ [a1]).length) ((c 4).cap) s z.length u T ((a.2.2.2.2.take (Int.toNat B.1) ++ ([(S_api_Item.mk a1.Name (S_api_Version.mk a1.Version.Epoch a1.Version.N) a2)] ++ a.2.2.2.2.drop (Int.toNat B.1))).length) U)).toArray,vI 0] [(b 2).x = (b 2).x] rfl Tryz.func33 (by kernel_rfl) ⟨rfl,trivial⟩ (fun w' hs => ?_)
                        exact ⟨⟨(c 4).ob,(c 4).cap,s,u,T,U⟩,rfl,hs.turnedG (ks := [8,9,17]) rfl rfl⟩

end Go.Proofs.YtjnbkhnebmlilaaGreat
