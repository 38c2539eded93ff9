/-
 CHAPTER 18r: the functions do what their models say (6).
-/
import Derived.Test.YtjnbkhnebmlilaaE18r
import Derived.Test.YtjnbkhnebmlilaaW18re
set_option linter.unusedVariables false
set_option linter.unusedSimpArgs false
set_option maxRecDepth 100000
set_option maxHeartbeats 8000000
namespace Go.Proofs.Ytjnbkhnebmlilaa
open Go Go.RowKit Sx

theorem w_pglog_Cmp_2 (F : Nat) (a0 a1 : S_api_Version) {y : Int} (hm : m_pglog_Cmp_2 F a0 a1 = some y) : CallG Try.prog 16 #[.agg #[vI a0.Epoch,vI a0.N],.agg #[vI a1.Epoch,vI a1.N]] (X := Unit) (fun (_ : Unit) => vI y) [] [] (fun (_ : Unit) => []) := by
 intro w hg
 rw [m_pglog_Cmp_2] at hm
 refine GS.start (S := mayT [] []) (mem := []) Try.func16 rfl Try.ntmps16 (Nat.le_of_ble_eq_true rfl) (hg.start rfl) ?_
 refine GS.conv (env' := [(0,.agg #[vI a0.Epoch,vI a0.N]),(1,.agg #[vI a1.Epoch,vI a1.N])]) rfl rfl ?_
 refine GS.seq ?_
 refine GS.tz (fun a => [(2,pA ((a 0).x) 0),(3,pA ((a 1).x) 0)]) (fun a => [(1,.cells ((a 0).x) 26 [vI a0.Epoch,vI a0.N]),(2,.cells ((a 1).x) 26 [vI a1.Epoch,vI a1.N])]) [(0,{ act := .new .var,key := some 1 }),(1,{ act := .new .var,key := some 2 })] ?_
 intro a
 refine GS.seq ?_
 refine GS.seq ?_
 refine bnd_elim hm (fun y3 e4 hm => ?_)
 refine GS.tgM (fun _ => [(2,pA ((a 0).x) 0),(3,pA ((a 1).x) 0),(5,vI y3)]) [(1,{ act := .load 1 0 0 [] }),(3,{ act := .load 2 0 0 [] }),(4,{ act := .call [] (vI y3) })] (fun _ => [(a 0).x = (a 0).x,(a 1).x = (a 1).x,CallOK Try.prog 30 #[vI a0.Epoch,vI a1.Epoch] (vI y3) []]) (fun _ => ⟨rfl,rfl,(by have h1 := w_cmp_Compare_int__2 F a0.Epoch a1.Epoch e4; exact h1.ok trivial),trivial⟩) ?_
 intro _
 refine GS.seq ?_
 refine GS.tzM (fun _ => [(2,pA ((a 0).x) 0),(3,pA ((a 1).x) 0),(5,vI y3),(12,.bool (y3 != 0))]) [] ?_
 intro _
 refine GS.cond (t := y3 != 0) rfl rfl (fun h6 => ?_) (fun h6 => ?_)
 ·replace hm := br_t h6 hm
  refine GS.seq ?_
  refine GS.tz (fun _ => [(4,vI y3)]) (fun _ => []) [] ?_
  intro _
  have hy := Option.some.inj hm
  subst hy
  refine GS.ret (fn := Try.f16) [0] [vI y3] [] rfl Try.func16 (by kernel_rfl) trivial (fun w' hs => ?_)
  exact ⟨(),rfl,hs.turnedG (ks := []) rfl rfl⟩
 ·replace hm := br_f h6 hm
  refine GS.skip ?_
  refine GS.seq ?_
  refine bnd_elim hm (fun y9 b hm => ?_)
  refine GS.tg (fun _ => [(4,vI y9)]) (fun _ => []) [(1,{ act := .load 1 0 0 [] }),(3,{ act := .load 2 0 0 [] }),(4,{ act := .call [] (vI y9) })] (fun _ => [(a 0).x = (a 0).x,(a 1).x = (a 1).x,CallOK Try.prog 30 #[vI a0.N,vI a1.N] (vI y9) []]) (fun _ => ⟨rfl,rfl,(by have h1 := w_cmp_Compare_int__2 F a0.N a1.N b; exact h1.ok trivial),trivial⟩) ?_
  intro _
  have hy := Option.some.inj hm
  subst hy
  refine GS.ret (fn := Try.f16) [0] [vI y9] [] rfl Try.func16 (by kernel_rfl) trivial (fun w' hs => ?_)
  exact ⟨(),rfl,hs.turnedG (ks := []) rfl rfl⟩

theorem w_pglog_itemName (F : Nat) (a0 : S_api_Item) {y : ByteArray} (hm : m_pglog_itemName F a0 = some y) : CallG Try.prog 18 #[.agg ((kc45 a0.Name a0.Version.Epoch a0.Version.N a0.Crc)).toArray] (X := Unit) (fun (_ : Unit) => .string y) [] [] (fun (_ : Unit) => []) := by
 intro w hg
 rw [m_pglog_itemName] at hm
 refine GS.start (S := mayT [] []) (mem := []) Try.func18 rfl Try.ntmps18 (Nat.le_of_ble_eq_true rfl) (hg.start rfl) ?_
 refine GS.conv (env' := [(0,.agg ((kc45 a0.Name a0.Version.Epoch a0.Version.N a0.Crc)).toArray)]) rfl rfl ?_
 refine GS.seq ?_
 refine GS.tz (fun a => [(1,pA ((a 0).x) 0)]) (fun a => [(1,.cells ((a 0).x) 76 (kc45 a0.Name a0.Version.Epoch a0.Version.N a0.Crc))]) [(0,{ act := .new .var,key := some 1 })] ?_
 intro a
 refine GS.seq ?_
 refine GS.tg (fun _ => [(2,.string a0.Name)]) (fun _ => []) [(1,{ act := .load 1 0 0 [] })] (fun _ => [(a 0).x = (a 0).x]) (fun _ => ⟨rfl,trivial⟩) ?_
 intro _
 have hy := Option.some.inj hm
 subst hy
 refine GS.ret (fn := Try.f18) [0] [.string a0.Name] [] rfl Try.func18 (by kernel_rfl) trivial (fun w' hs => ?_)
 exact ⟨(),rfl,hs.turnedG (ks := []) rfl rfl⟩

theorem w_pglog_rising_api_Item_string__2 (F : Nat) (b : Option Addr) (c : Nat) (a0 : List S_api_Item) {y : Bool} (hm : m_pglog_rising_api_Item_string__2 F a0 = some y) : CallG Try.prog 17 #[.slice b a0.length c,.func (.func 18) #[] #[]] (X := Unit) (fun (_ : Unit) => .bool y) [] [r76 b a0] (fun (_ : Unit) => []) := by
 intro w hg
 rw [m_pglog_rising_api_Item_string__2] at hm
 refine GS.start (S := mayT [] [r76 b a0]) (mem := [(1,r76 b a0)]) Try.func17 rfl Try.ntmps17 (Nat.le_of_ble_eq_true rfl) (hg.start rfl) ?_
 refine GS.conv (env' := [(0,.slice b a0.length c),(1,.func (.func 18) #[] #[])]) rfl rfl ?_
 refine GS.seq ?_
 refine GS.tzM (fun _ => [(0,.slice b a0.length c),(1,.func (.func 18) #[] #[])]) [] ?_
 intro _
 refine GS.seq ?_
 refine GS.seq ?_
 refine GS.tzM (fun _ => [(0,.slice b a0.length c),(1,.func (.func 18) #[] #[]),(5,vI 1)]) [] ?_
 intro _
 refine GS.block ?_
 refine GS.loop ?_
 refine grd_elim hm (fun l hm => ?_)
 refine GS.rekey (env' := [(0,.slice b a0.length c),(1,.func (.func 18) #[] #[]),(5,vI 1)]) (mem' := [(1,r76 b a0)]) [0,1,5] [(1,1)] (by kernel_rfl) (by kernel_rfl) rfl ?_
 refine loopL_elim hm (fun st49 fn50 hst51 hfn52 hm => ?_)
 refine GS.loopInv (ι := List S_api_Item × Nat) (I := fun ⟨d,a⟩ => a0.drop a = d ∧ loopL st49 fn50 d a () = some y) (μ := fun ⟨d,a⟩ => d.length) (E := fun ⟨d,a⟩ => [(0,.slice b a0.length c),(1,.func (.func 18) #[] #[]),(5,vI (a : Int))]) (M := fun ⟨d,a⟩ => [(1,r76 b a0)]) ?_ ⟨(a0.drop 1),1⟩ ⟨rfl,hm⟩
 rintro ⟨d,a⟩ ⟨f,hm⟩ k
 cases d with
 | nil =>
  replace hm := (hfn52 _ _).symm.trans hm
  try dsimp only at hm
  refine GS.seq ?_
  refine GS.seq ?_
  refine GS.tzM (fun _ => [(0,.slice b a0.length c),(1,.func (.func 18) #[] #[]),(5,vI (a : Int)),(9,.bool (decide ((a : Int) < (a0.length : Int))))]) [] ?_
  intro _
  refine GS.cond (t := decide ((a : Int) < (a0.length : Int))) rfl rfl (fun m => absb m (drop_dec0 f)) (fun _ => ?_)
  refine GS.exit rfl ?_
  refine GS.seq ?_
  refine GS.tz (fun _ => [(4,.bool true)]) (fun _ => []) [] ?_
  intro _
  have hy := Option.some.inj hm
  subst hy
  refine GS.ret (fn := Try.f17) [0] [.bool true] [] rfl Try.func17 (by kernel_rfl) trivial (fun w' hs => ?_)
  exact ⟨(),rfl,hs.turnedG (ks := []) rfl rfl⟩
 | cons e d =>
  replace hm := (hst51 _ _ _ _).symm.trans hm
  try dsimp only at hm
  refine GS.seq ?_
  refine GS.seq ?_
  refine GS.tzM (fun _ => [(0,.slice b a0.length c),(1,.func (.func 18) #[] #[]),(5,vI (a : Int)),(9,.bool (decide ((a : Int) < (a0.length : Int))))]) [] ?_
  intro _
  refine GS.cond (t := decide ((a : Int) < (a0.length : Int))) rfl rfl (fun _ => ?_) (fun n => absb (drop_dec f) n)
  refine GS.skip ?_
  refine GS.seq ?_
  refine GS.block ?_
  refine GS.seq ?_
  refine grd_elim hm (fun o hm => ?_)
  refine grd_elim hm (fun i hm => ?_)
  refine bnd_elim hm (fun g p hm => ?_)
  refine bnd_elim hm (fun h q hm => ?_)
  refine GS.rM (env' := fun _ => [(0,.slice b a0.length c),(1,.func (.func 18) #[] #[]),(5,vI (a : Int)),(25,.bool (!(Op.bytesLess g.toList h.toList)))]) (RunsTo.mkd [(3,{ sp := some (vI ((a : Int) - 1)) }),(4,{ act := .idx 1 (Int.toNat ((a : Int) - 1)) }),(5,{ act := .load 1 (Int.toNat ((a : Int) - 1)) 0 [.string ((a0.getD (Int.toNat ((a : Int) - 1)) dS_api_Item).Name),vI (((a0.getD (Int.toNat ((a : Int) - 1)) dS_api_Item).Version).Epoch),vI (((a0.getD (Int.toNat ((a : Int) - 1)) dS_api_Item).Version).N),.int .u32 ((a0.getD (Int.toNat ((a : Int) - 1)) dS_api_Item).Crc)] }),(6,{ act := .call [] (.string g) }),(10,{ act := .idx 1 a }),(11,{ act := .load 1 a 0 [.string e.Name,vI e.Version.Epoch,vI e.Version.N,.int .u32 e.Crc] }),(12,{ act := .call [] (.string h) })] [0,1,5,25] [1] (fun _ => [oW ((a : Int) - 1),b = b,a0.length = (List.map S_api_Item.row a0).length,(((a : Int) - 1) : Int) = (((Int.toNat ((a : Int) - 1)) : Nat) : Int),(Int.toNat ((a : Int) - 1)) < a0.length,blk b = blk b,offs b + (Int.toNat ((a : Int) - 1)) * 4 = offs b + ((Int.toNat ((a : Int) - 1)) * 4 + 0),(List.map S_api_Item.row a0)[(Int.toNat ((a : Int) - 1))]? = some [.string ((a0.getD (Int.toNat ((a : Int) - 1)) dS_api_Item).Name),vI (((a0.getD (Int.toNat ((a : Int) - 1)) dS_api_Item).Version).Epoch),vI (((a0.getD (Int.toNat ((a : Int) - 1)) dS_api_Item).Version).N),.int .u32 ((a0.getD (Int.toNat ((a : Int) - 1)) dS_api_Item).Crc)],CallOK Try.prog 18 #[.agg ((kc45 ((a0.getD (Int.toNat ((a : Int) - 1)) dS_api_Item).Name) (((a0.getD (Int.toNat ((a : Int) - 1)) dS_api_Item).Version).Epoch) (((a0.getD (Int.toNat ((a : Int) - 1)) dS_api_Item).Version).N) ((a0.getD (Int.toNat ((a : Int) - 1)) dS_api_Item).Crc))).toArray] (.string g) [],b = b,a0.length = (List.map S_api_Item.row a0).length,((a : Int) : Int) = (a : Int),a < a0.length,blk b = blk b,offs b + a * 4 = offs b + (a * 4 + 0),(List.map S_api_Item.row a0)[a]? = some [.string e.Name,vI e.Version.Epoch,vI e.Version.N,.int .u32 e.Crc],CallOK Try.prog 18 #[.agg ((kc45 e.Name e.Version.Epoch e.Version.N e.Crc)).toArray] (.string h) []]) (by kernel_rfl) (by kernel_rfl) (fun _ => by kernel_rfl) (fun _ => ⟨I64.w o,rfl,mlen S_api_Item.row a0,i.eq,i.2,rfl,rfl,map_at S_api_Item.row dS_api_Item i.2,(by have h1 := w_pglog_itemName F (a0.getD (Int.toNat ((a : Int) - 1)) dS_api_Item) p; exact h1.ok trivial),rfl,mlen S_api_Item.row a0,rfl,(drop_lt f),rfl,rfl,map_drop S_api_Item.row f,(by have h1 := w_pglog_itemName F e q; exact h1.ok trivial),trivial⟩)) ?_
  intro _
  refine GS.cond (t := !(Op.bytesLess g.toList h.toList)) rfl rfl (fun j => ?_) (fun j => ?_)
  ·replace hm := br_t j hm
   refine GS.seq ?_
   refine GS.tz (fun _ => [(4,.bool false)]) (fun _ => []) [] ?_
   intro _
   have hy := Option.some.inj hm
   subst hy
   refine GS.ret (fn := Try.f17) [0] [.bool false] [] rfl Try.func17 (by kernel_rfl) trivial (fun w' hs => ?_)
   exact ⟨(),rfl,hs.turnedG (ks := []) rfl rfl⟩
  ·replace hm := br_f j hm
   refine GS.skip ?_
   refine GS.inBlock ?_
   refine GS.tgM (fun _ => [(0,.slice b a0.length c),(1,.func (.func 18) #[] #[]),(5,vI ((a + 1 : Nat) : Int))]) [(1,{ sp := some (vI ((a + 1 : Nat) : Int)) })] (fun _ => [((vI (IntKind.i64.wrap ((a : Int) + 1))) : Value) = vI ((a + 1 : Nat) : Int)]) (fun _ => ⟨natw (drop_lt f) l,trivial⟩) ?_
   intro _
   refine GS.inLoop ?_
   refine GS.rekey (env' := [(0,.slice b a0.length c),(1,.func (.func 18) #[] #[]),(5,vI ((a + 1 : Nat) : Int))]) (mem' := [(1,r76 b a0)]) [0,1,5] [(1,1)] (by kernel_rfl) (by kernel_rfl) rfl ?_
   exact k ⟨d,a + 1⟩ ⟨drop_next f,hm⟩ (Nat.lt_succ_self _)

theorem w_pglog_lastClient (F : Nat) (a0 : S_api_Last) {y : Int} (hm : m_pglog_lastClient F a0 = some y) : CallG Try.prog 20 #[.agg ((kc46 a0.Client a0.Number a0.Errno a0.Version.Epoch a0.Version.N)).toArray] (X := Unit) (fun (_ : Unit) => vI y) [] [] (fun (_ : Unit) => []) := by
 intro w hg
 rw [m_pglog_lastClient] at hm
 refine GS.start (S := mayT [] []) (mem := []) Try.func20 rfl Try.ntmps20 (Nat.le_of_ble_eq_true rfl) (hg.start rfl) ?_
 refine GS.conv (env' := [(0,.agg ((kc46 a0.Client a0.Number a0.Errno a0.Version.Epoch a0.Version.N)).toArray)]) rfl rfl ?_
 refine GS.seq ?_
 refine GS.tz (fun a => [(1,pA ((a 0).x) 0)]) (fun a => [(1,.cells ((a 0).x) 80 (kc46 a0.Client a0.Number a0.Errno a0.Version.Epoch a0.Version.N))]) [(0,{ act := .new .var,key := some 1 })] ?_
 intro a
 refine GS.seq ?_
 refine GS.tg (fun _ => [(2,vI a0.Client)]) (fun _ => []) [(1,{ act := .load 1 0 0 [] })] (fun _ => [(a 0).x = (a 0).x]) (fun _ => ⟨rfl,trivial⟩) ?_
 intro _
 have hy := Option.some.inj hm
 subst hy
 refine GS.ret (fn := Try.f20) [0] [vI a0.Client] [] rfl Try.func20 (by kernel_rfl) trivial (fun w' hs => ?_)
 exact ⟨(),rfl,hs.turnedG (ks := []) rfl rfl⟩

theorem w_pglog_rising_api_Last_int__2 (F : Nat) (b : Option Addr) (c : Nat) (a0 : List S_api_Last) {y : Bool} (hm : m_pglog_rising_api_Last_int__2 F a0 = some y) : CallG Try.prog 19 #[.slice b a0.length c,.func (.func 20) #[] #[]] (X := Unit) (fun (_ : Unit) => .bool y) [] [r80 b a0] (fun (_ : Unit) => []) := by
 intro w hg
 rw [m_pglog_rising_api_Last_int__2] at hm
 refine GS.start (S := mayT [] [r80 b a0]) (mem := [(1,r80 b a0)]) Try.func19 rfl Try.ntmps19 (Nat.le_of_ble_eq_true rfl) (hg.start rfl) ?_
 refine GS.conv (env' := [(0,.slice b a0.length c),(1,.func (.func 20) #[] #[])]) rfl rfl ?_
 refine GS.seq ?_
 refine GS.tzM (fun _ => [(0,.slice b a0.length c),(1,.func (.func 20) #[] #[])]) [] ?_
 intro _
 refine GS.seq ?_
 refine GS.seq ?_
 refine GS.tzM (fun _ => [(0,.slice b a0.length c),(1,.func (.func 20) #[] #[]),(5,vI 1)]) [] ?_
 intro _
 refine GS.block ?_
 refine GS.loop ?_
 refine grd_elim hm (fun l hm => ?_)
 refine GS.rekey (env' := [(0,.slice b a0.length c),(1,.func (.func 20) #[] #[]),(5,vI 1)]) (mem' := [(1,r80 b a0)]) [0,1,5] [(1,1)] (by kernel_rfl) (by kernel_rfl) rfl ?_
 refine loopL_elim hm (fun st49 fn50 hst51 hfn52 hm => ?_)
 refine GS.loopInv (ι := List S_api_Last × Nat) (I := fun ⟨e,a⟩ => a0.drop a = e ∧ loopL st49 fn50 e a () = some y) (μ := fun ⟨e,a⟩ => e.length) (E := fun ⟨e,a⟩ => [(0,.slice b a0.length c),(1,.func (.func 20) #[] #[]),(5,vI (a : Int))]) (M := fun ⟨e,a⟩ => [(1,r80 b a0)]) ?_ ⟨(a0.drop 1),1⟩ ⟨rfl,hm⟩
 rintro ⟨e,a⟩ ⟨f,hm⟩ k
 cases e with
 | nil =>
  replace hm := (hfn52 _ _).symm.trans hm
  try dsimp only at hm
  refine GS.seq ?_
  refine GS.seq ?_
  refine GS.tzM (fun _ => [(0,.slice b a0.length c),(1,.func (.func 20) #[] #[]),(5,vI (a : Int)),(9,.bool (decide ((a : Int) < (a0.length : Int))))]) [] ?_
  intro _
  refine GS.cond (t := decide ((a : Int) < (a0.length : Int))) rfl rfl (fun m => absb m (drop_dec0 f)) (fun _ => ?_)
  refine GS.exit rfl ?_
  refine GS.seq ?_
  refine GS.tz (fun _ => [(4,.bool true)]) (fun _ => []) [] ?_
  intro _
  have hy := Option.some.inj hm
  subst hy
  refine GS.ret (fn := Try.f19) [0] [.bool true] [] rfl Try.func19 (by kernel_rfl) trivial (fun w' hs => ?_)
  exact ⟨(),rfl,hs.turnedG (ks := []) rfl rfl⟩
 | cons d e =>
  replace hm := (hst51 _ _ _ _).symm.trans hm
  try dsimp only at hm
  refine GS.seq ?_
  refine GS.seq ?_
  refine GS.tzM (fun _ => [(0,.slice b a0.length c),(1,.func (.func 20) #[] #[]),(5,vI (a : Int)),(9,.bool (decide ((a : Int) < (a0.length : Int))))]) [] ?_
  intro _
  refine GS.cond (t := decide ((a : Int) < (a0.length : Int))) rfl rfl (fun _ => ?_) (fun n => absb (drop_dec f) n)
  refine GS.skip ?_
  refine GS.seq ?_
  refine GS.block ?_
  refine GS.seq ?_
  refine grd_elim hm (fun o hm => ?_)
  refine grd_elim hm (fun i hm => ?_)
  refine bnd_elim hm (fun g p hm => ?_)
  refine bnd_elim hm (fun h q hm => ?_)
  refine GS.rM (env' := fun _ => [(0,.slice b a0.length c),(1,.func (.func 20) #[] #[]),(5,vI (a : Int)),(25,.bool (decide (g ≥ h)))]) (RunsTo.mkd [(3,{ sp := some (vI ((a : Int) - 1)) }),(4,{ act := .idx 1 (Int.toNat ((a : Int) - 1)) }),(5,{ act := .load 1 (Int.toNat ((a : Int) - 1)) 0 [vI ((a0.getD (Int.toNat ((a : Int) - 1)) dS_api_Last).Client),vI ((a0.getD (Int.toNat ((a : Int) - 1)) dS_api_Last).Number),vI ((a0.getD (Int.toNat ((a : Int) - 1)) dS_api_Last).Errno),vI (((a0.getD (Int.toNat ((a : Int) - 1)) dS_api_Last).Version).Epoch),vI (((a0.getD (Int.toNat ((a : Int) - 1)) dS_api_Last).Version).N)] }),(6,{ act := .call [] (vI g) }),(10,{ act := .idx 1 a }),(11,{ act := .load 1 a 0 [vI d.Client,vI d.Number,vI d.Errno,vI d.Version.Epoch,vI d.Version.N] }),(12,{ act := .call [] (vI h) })] [0,1,5,25] [1] (fun _ => [oW ((a : Int) - 1),b = b,a0.length = (List.map S_api_Last.row a0).length,(((a : Int) - 1) : Int) = (((Int.toNat ((a : Int) - 1)) : Nat) : Int),(Int.toNat ((a : Int) - 1)) < a0.length,blk b = blk b,offs b + (Int.toNat ((a : Int) - 1)) * 5 = offs b + ((Int.toNat ((a : Int) - 1)) * 5 + 0),(List.map S_api_Last.row a0)[(Int.toNat ((a : Int) - 1))]? = some [vI ((a0.getD (Int.toNat ((a : Int) - 1)) dS_api_Last).Client),vI ((a0.getD (Int.toNat ((a : Int) - 1)) dS_api_Last).Number),vI ((a0.getD (Int.toNat ((a : Int) - 1)) dS_api_Last).Errno),vI (((a0.getD (Int.toNat ((a : Int) - 1)) dS_api_Last).Version).Epoch),vI (((a0.getD (Int.toNat ((a : Int) - 1)) dS_api_Last).Version).N)],CallOK Try.prog 20 #[.agg ((kc46 ((a0.getD (Int.toNat ((a : Int) - 1)) dS_api_Last).Client) ((a0.getD (Int.toNat ((a : Int) - 1)) dS_api_Last).Number) ((a0.getD (Int.toNat ((a : Int) - 1)) dS_api_Last).Errno) (((a0.getD (Int.toNat ((a : Int) - 1)) dS_api_Last).Version).Epoch) (((a0.getD (Int.toNat ((a : Int) - 1)) dS_api_Last).Version).N))).toArray] (vI g) [],b = b,a0.length = (List.map S_api_Last.row a0).length,((a : Int) : Int) = (a : Int),a < a0.length,blk b = blk b,offs b + a * 5 = offs b + (a * 5 + 0),(List.map S_api_Last.row a0)[a]? = some [vI d.Client,vI d.Number,vI d.Errno,vI d.Version.Epoch,vI d.Version.N],CallOK Try.prog 20 #[.agg ((kc46 d.Client d.Number d.Errno d.Version.Epoch d.Version.N)).toArray] (vI h) []]) (by kernel_rfl) (by kernel_rfl) (fun _ => by kernel_rfl) (fun _ => ⟨I64.w o,rfl,mlen S_api_Last.row a0,i.eq,i.2,rfl,rfl,map_at S_api_Last.row dS_api_Last i.2,(by have h1 := w_pglog_lastClient F (a0.getD (Int.toNat ((a : Int) - 1)) dS_api_Last) p; exact h1.ok trivial),rfl,mlen S_api_Last.row a0,rfl,(drop_lt f),rfl,rfl,map_drop S_api_Last.row f,(by have h1 := w_pglog_lastClient F d q; exact h1.ok trivial),trivial⟩)) ?_
  intro _
  refine GS.cond (t := decide (g ≥ h)) rfl rfl (fun j => ?_) (fun j => ?_)
  ·replace hm := br_t j hm
   refine GS.seq ?_
   refine GS.tz (fun _ => [(4,.bool false)]) (fun _ => []) [] ?_
   intro _
   have hy := Option.some.inj hm
   subst hy
   refine GS.ret (fn := Try.f19) [0] [.bool false] [] rfl Try.func19 (by kernel_rfl) trivial (fun w' hs => ?_)
   exact ⟨(),rfl,hs.turnedG (ks := []) rfl rfl⟩
  ·replace hm := br_f j hm
   refine GS.skip ?_
   refine GS.inBlock ?_
   refine GS.tgM (fun _ => [(0,.slice b a0.length c),(1,.func (.func 20) #[] #[]),(5,vI ((a + 1 : Nat) : Int))]) [(1,{ sp := some (vI ((a + 1 : Nat) : Int)) })] (fun _ => [((vI (IntKind.i64.wrap ((a : Int) + 1))) : Value) = vI ((a + 1 : Nat) : Int)]) (fun _ => ⟨natw (drop_lt f) l,trivial⟩) ?_
   intro _
   refine GS.inLoop ?_
   refine GS.rekey (env' := [(0,.slice b a0.length c),(1,.func (.func 20) #[] #[]),(5,vI ((a + 1 : Nat) : Int))]) (mem' := [(1,r80 b a0)]) [0,1,5] [(1,1)] (by kernel_rfl) (by kernel_rfl) rfl ?_
   exact k ⟨e,a + 1⟩ ⟨drop_next f,hm⟩ (Nat.lt_succ_self _)

theorem w_place_Good_2 (F : Nat) (a0 : ByteArray) {y : Bool} (hm : m_place_Good_2 F a0 = some y) : CallG Try.prog 21 #[.string a0] (X := Unit) (fun (_ : Unit) => .bool y) [] [] (fun (_ : Unit) => []) := by
 intro w hg
 rw [m_place_Good_2] at hm
 refine GS.start (S := mayT [] []) (mem := []) Try.func21 rfl Try.ntmps21 (Nat.le_of_ble_eq_true rfl) (hg.start rfl) ?_
 refine GS.conv (env' := [(0,.string a0)]) rfl rfl ?_
 refine GS.seq ?_
 refine GS.tzM (fun _ => [(0,.string a0)]) [] ?_
 intro _
 refine GS.seq ?_
 refine GS.seq ?_
 refine GS.tzM (fun _ => [(0,.string a0),(6,vI (a0.size : Int)),(7,vI 0)]) [] ?_
 intro _
 refine GS.block ?_
 refine GS.loop ?_
 refine grd_elim hm (fun k hm => ?_)
 refine GS.rekey (env' := [(0,.string a0),(6,vI (a0.size : Int)),(7,vI 0)]) (mem' := []) [0,6,7] [] (by kernel_rfl) (by kernel_rfl) rfl ?_
 refine loopC_elim hm (fun st53 fn54 hst55 hfn56 hm => ?_)
 refine GS.loopInv (ι := Nat × Nat) (I := fun ⟨b,a⟩ => (((a0.size : Int)) - (a : Int) : Int).toNat = b ∧ loopC st53 fn54 b a () = some y) (μ := fun ⟨b,a⟩ => b) (E := fun ⟨b,a⟩ => [(0,.string a0),(6,vI (a0.size : Int)),(7,vI (a : Int))]) (M := fun ⟨b,a⟩ => []) ?_ ⟨(Int.toNat ((a0.size : Int) - (0 : Int))),0⟩ ⟨rfl,hm⟩
 rintro ⟨b,a⟩ ⟨d,hm⟩ h
 cases b with
 | zero =>
  replace hm := (hfn56 _ _).symm.trans hm
  try dsimp only at hm
  refine GS.seq ?_
  refine GS.tzM (fun _ => [(0,.string a0),(6,vI (a0.size : Int)),(7,vI (a : Int)),(8,.bool (decide ((a : Int) < (a0.size : Int))))]) [] ?_
  intro _
  refine GS.seq ?_
  refine GS.cond (t := decide ((a : Int) < (a0.size : Int))) rfl rfl (fun l => absb l (cnt0 d)) (fun _ => ?_)
  refine GS.exit rfl ?_
  refine GS.seq ?_
  refine br_elim hm (fun e hm => ?_) (fun e hm => ?_)
  ·skip
   refine GS.tgM (fun _ => [(2,.bool (decide ((a0.size : Int) ≤ 64)))]) [(2,{ sp := some (.bool true) })] (fun _ => [((.bool (!(a0.toList == (ByteArray.mk #[]).toList))) : Value) = .bool true]) (fun _ => ⟨bool_eq e,trivial⟩) ?_
   intro _
   have hy := Option.some.inj hm
   subst hy
   refine GS.ret (fn := Try.f21) [0] [.bool (decide ((a0.size : Int) ≤ 64))] [] rfl Try.func21 (by kernel_rfl) trivial (fun w' hs => ?_)
   exact ⟨(),rfl,hs.turnedG (ks := []) rfl rfl⟩
  ·skip
   refine GS.tgM (fun _ => [(2,.bool false)]) [(2,{ sp := some (.bool false) })] (fun _ => [((.bool (!(a0.toList == (ByteArray.mk #[]).toList))) : Value) = .bool false]) (fun _ => ⟨bool_eq e,trivial⟩) ?_
   intro _
   have hy := Option.some.inj hm
   subst hy
   refine GS.ret (fn := Try.f21) [0] [.bool false] [] rfl Try.func21 (by kernel_rfl) trivial (fun w' hs => ?_)
   exact ⟨(),rfl,hs.turnedG (ks := []) rfl rfl⟩
 | succ b =>
  replace hm := (hst55 _ _ _).symm.trans hm
  try dsimp only at hm
  refine GS.seq ?_
  refine GS.tzM (fun _ => [(0,.string a0),(6,vI (a0.size : Int)),(7,vI (a : Int)),(8,.bool (decide ((a : Int) < (a0.size : Int))))]) [] ?_
  intro _
  refine GS.seq ?_
  refine GS.cond (t := decide ((a : Int) < (a0.size : Int))) rfl rfl (fun _ => ?_) (fun m => absb (cnt1 d) m)
  refine GS.skip ?_
  refine GS.seq ?_
  refine GS.block ?_
  refine GS.seq ?_
  refine GS.tzM (fun _ => [(0,.string a0),(3,vI (a : Int)),(6,vI (a0.size : Int)),(7,vI (a : Int))]) [] ?_
  intro _
  refine GS.seq ?_
  refine grd_elim hm (fun n hm => ?_)
  refine GS.tgM (fun _ => [(0,.string a0),(4,.int .u8 (((a0.data.getD a 0).toNat : Nat) : Int)),(6,vI (a0.size : Int)),(7,vI (a : Int))]) [(2,{ act := .elt a })] (fun _ => [((a : Int) : Int) = (a : Int),a < a0.size]) (fun _ => ⟨rfl,n,trivial⟩) ?_
  intro _
  refine GS.block ?_
  refine GS.seq ?_
  refine GS.seq ?_
  refine GS.tzM (fun _ => [(0,.string a0),(4,.int .u8 (((a0.data.getD a 0).toNat : Nat) : Int)),(6,vI (a0.size : Int)),(7,vI (a : Int)),(13,.bool (decide ((((a0.data.getD a 0).toNat : Nat) : Int) < 33)))]) [] ?_
  intro _
  refine jn_elim hm (fun o i hm => ?_)
  refine GS.cut (ι := Bool) (I := fun (c : Bool) => o c = some y) (E := fun (c : Bool) => [(0,.string a0),(6,vI (a0.size : Int)),(7,vI (a : Int)),(13,.bool c)]) (M := fun (c : Bool) => []) ?_ ?_
  rotate_left
  ·intro j
   refine GS.cond (t := decide ((((a0.data.getD a 0).toNat : Nat) : Int) < 33)) rfl rfl (fun f => ?_) (fun f => ?_)
   ·replace hm := br_t f hm
    refine GS.skip ?_
    refine GS.rekey (env' := [(0,.string a0),(6,vI (a0.size : Int)),(7,vI (a : Int)),(13,.bool (decide ((((a0.data.getD a 0).toNat : Nat) : Int) < 33)))]) (mem' := []) [0,6,7,13] [] (by kernel_rfl) (by kernel_rfl) rfl ?_
    exact j (decide ((((a0.data.getD a 0).toNat : Nat) : Int) < 33)) hm
   ·replace hm := br_f f hm
    refine GS.tzM (fun _ => [(0,.string a0),(6,vI (a0.size : Int)),(7,vI (a : Int)),(13,.bool (decide ((((a0.data.getD a 0).toNat : Nat) : Int) > 126)))]) [] ?_
    intro _
    refine GS.rekey (env' := [(0,.string a0),(6,vI (a0.size : Int)),(7,vI (a : Int)),(13,.bool (decide ((((a0.data.getD a 0).toNat : Nat) : Int) > 126)))]) (mem' := []) [0,6,7,13] [] (by kernel_rfl) (by kernel_rfl) rfl ?_
    exact j (decide ((((a0.data.getD a 0).toNat : Nat) : Int) > 126)) hm
  ·rintro c hm
   replace hm := (i _).symm.trans hm
   try dsimp only at hm
   refine GS.cond (t := c) rfl rfl (fun g => ?_) (fun g => ?_)
   ·replace hm := br_t g hm
    refine GS.seq ?_
    refine GS.tzM (fun _ => [(2,.bool false)]) [] ?_
    intro _
    have hy := Option.some.inj hm
    subst hy
    refine GS.ret (fn := Try.f21) [0] [.bool false] [] rfl Try.func21 (by kernel_rfl) trivial (fun w' hs => ?_)
    exact ⟨(),rfl,hs.turnedG (ks := []) rfl rfl⟩
   ·replace hm := br_f g hm
    refine GS.skip ?_
    refine GS.inBlock ?_
    refine GS.inBlock ?_
    refine GS.tgM (fun _ => [(0,.string a0),(6,vI (a0.size : Int)),(7,vI ((a + 1 : Nat) : Int))]) [(0,{ sp := some (vI ((a + 1 : Nat) : Int)) })] (fun _ => [((vI (IntKind.i64.wrap ((a : Int) + 1))) : Value) = vI ((a + 1 : Nat) : Int)]) (fun _ => ⟨natwB (cnt1 d) k,trivial⟩) ?_
    intro _
    refine GS.inLoop ?_
    refine GS.rekey (env' := [(0,.string a0),(6,vI (a0.size : Int)),(7,vI ((a + 1 : Nat) : Int))]) (mem' := []) [0,6,7] [] (by kernel_rfl) (by kernel_rfl) rfl ?_
    exact h ⟨b,a + 1⟩ ⟨cntN d,hm⟩ (Nat.lt_succ_self _)

theorem w_pglog_Check_2 (F : Nat) (o : Int) (h : S_api_Version) (e : Option Addr) (j : Nat) (f : List S_api_Entry) (a : Option Addr) (i : Nat) (d : List S_api_Last) (b : Option Addr) (g : Nat) (c : List S_api_Item) {y : Int} (hm : m_pglog_Check_2 F o h f d c = some y) : CallG Try.prog 10 #[.agg ((kc43 o h.Epoch h.N e f.length j a d.length i b c.length g)).toArray] (X := Unit) (fun (_ : Unit) => vI y) [] [r52 e f,r80 a d,r76 b c] (fun (_ : Unit) => []) := by
 intro w hg
 rw [m_pglog_Check_2] at hm
 refine GS.start (S := mayT [] [r52 e f,r80 a d,r76 b c]) (mem := [(1,r52 e f),(2,r80 a d),(3,r76 b c)]) Try.func10 rfl Try.ntmps10 (Nat.le_of_ble_eq_true rfl) (hg.start rfl) ?_
 refine GS.conv (env' := [(0,.agg ((kc43 o h.Epoch h.N e f.length j a d.length i b c.length g)).toArray)]) rfl rfl ?_
 refine GS.seq ?_
 refine GS.tz (fun n => [(1,pA ((n 0).x) 0)]) (fun n => [(1,r52 e f),(2,r80 a d),(3,r76 b c),(4,.cells ((n 0).x) 31 (kc43 o h.Epoch h.N e f.length j a d.length i b c.length g))]) [(0,{ act := .new .var,key := some 4 })] ?_
 intro n
 refine GS.seq ?_
 refine GS.seq ?_
 refine jn_elim hm (fun J7 bg hm => ?_)
 refine GS.cut (ι := Bool) (I := fun (O : Bool) => J7 O = some y) (E := fun (O : Bool) => [(1,pA ((n 0).x) 0),(23,.bool O)]) (M := fun (O : Bool) => [(1,r52 e f),(2,r80 a d),(3,r76 b c),(4,.cells ((n 0).x) 31 (kc43 o h.Epoch h.N e f.length j a d.length i b c.length g))]) ?_ ?_
 rotate_left
 ·intro H8
  refine br_elim hm (fun h3 hm => ?_) (fun h3 hm => ?_)
  ·skip
   refine GS.tgM (fun _ => [(1,pA ((n 0).x) 0),(23,.bool true)]) [(1,{ act := .load 4 0 0 [] }),(3,{ sp := some (.bool true) })] (fun _ => [(n 0).x = (n 0).x,((.bool (decide (o < 0))) : Value) = .bool true]) (fun _ => ⟨rfl,bool_eq h3,trivial⟩) ?_
   intro _
   refine GS.rekey (env' := [(1,pA ((n 0).x) 0),(23,.bool true)]) (mem' := [(1,r52 e f),(2,r80 a d),(3,r76 b c),(4,.cells ((n 0).x) 31 (kc43 o h.Epoch h.N e f.length j a d.length i b c.length g))]) [1,23] [(1,1),(2,2),(3,3),(4,4)] (by kernel_rfl) (by kernel_rfl) rfl ?_
   exact H8 true hm
  ·skip
   refine bnd_elim hm (fun y4 e5 hm => ?_)
   refine br_elim hm (fun h6 hm => ?_) (fun h6 hm => ?_)
   ·skip
    refine GS.tgM (fun _ => [(1,pA ((n 0).x) 0),(23,.bool true)]) [(1,{ act := .load 4 0 0 [] }),(3,{ sp := some (.bool false) }),(5,{ act := .load 4 0 0 [] }),(6,{ act := .call [] (.bool y4) }),(8,{ sp := some (.bool true) })] (fun _ => [(n 0).x = (n 0).x,((.bool (decide (o < 0))) : Value) = .bool false,(n 0).x = (n 0).x,CallOK Try.prog 15 #[.agg #[vI h.Epoch,vI h.N]] (.bool y4) [],((.bool y4) : Value) = .bool true]) (fun _ => ⟨rfl,bool_eq h3,rfl,(by have h1 := w_pglog_below_2 F h e5; exact h1.ok trivial),bool_eq h6,trivial⟩) ?_
    intro _
    refine GS.rekey (env' := [(1,pA ((n 0).x) 0),(23,.bool true)]) (mem' := [(1,r52 e f),(2,r80 a d),(3,r76 b c),(4,.cells ((n 0).x) 31 (kc43 o h.Epoch h.N e f.length j a d.length i b c.length g))]) [1,23] [(1,1),(2,2),(3,3),(4,4)] (by kernel_rfl) (by kernel_rfl) rfl ?_
    exact H8 true hm
   ·skip
    refine GS.tgM (fun _ => [(1,pA ((n 0).x) 0),(23,.bool (decide ((c.length : Int) > 32)))]) [(1,{ act := .load 4 0 0 [] }),(3,{ sp := some (.bool false) }),(5,{ act := .load 4 0 0 [] }),(6,{ act := .call [] (.bool y4) }),(8,{ sp := some (.bool false) }),(10,{ act := .load 4 0 0 [] })] (fun _ => [(n 0).x = (n 0).x,((.bool (decide (o < 0))) : Value) = .bool false,(n 0).x = (n 0).x,CallOK Try.prog 15 #[.agg #[vI h.Epoch,vI h.N]] (.bool y4) [],((.bool y4) : Value) = .bool false,(n 0).x = (n 0).x]) (fun _ => ⟨rfl,bool_eq h3,rfl,(by have h1 := w_pglog_below_2 F h e5; exact h1.ok trivial),bool_eq h6,rfl,trivial⟩) ?_
    intro _
    refine GS.rekey (env' := [(1,pA ((n 0).x) 0),(23,.bool (decide ((c.length : Int) > 32)))]) (mem' := [(1,r52 e f),(2,r80 a d),(3,r76 b c),(4,.cells ((n 0).x) 31 (kc43 o h.Epoch h.N e f.length j a d.length i b c.length g))]) [1,23] [(1,1),(2,2),(3,3),(4,4)] (by kernel_rfl) (by kernel_rfl) rfl ?_
    exact H8 (decide ((c.length : Int) > 32)) hm
 ·rintro O hm
  replace hm := (bg _).symm.trans hm
  try dsimp only at hm
  refine GS.cond (t := O) rfl rfl (fun ao => ?_) (fun ao => ?_)
  ·replace hm := br_t ao hm
   refine GS.seq ?_
   refine GS.tz (fun _ => [(2,vI 22)]) (fun _ => []) [] ?_
   intro _
   have hy := Option.some.inj hm
   subst hy
   refine GS.ret (fn := Try.f10) [0] [vI 22] [] rfl Try.func10 (by kernel_rfl) trivial (fun w' hs => ?_)
   exact ⟨(),rfl,hs.turnedG (ks := []) rfl rfl⟩
  ·replace hm := br_f ao hm
   refine GS.skip ?_
   refine GS.seq ?_
   refine GS.tg (fun k => [(1,pA ((n 0).x) 0),(3,pA ((k 2).x) 0)]) (fun k => [(1,r52 e f),(2,r80 a d),(3,r76 b c),(4,.cells ((n 0).x) 31 (kc43 o h.Epoch h.N e f.length j a d.length i b c.length g)),(5,.cells ((k 2).x) 26 [vI h.Epoch,vI h.N])]) [(1,{ act := .load 4 0 0 [] }),(2,{ act := .new .var,key := some 5 }),(3,{ act := .store 0 0 [],key := some 5 })] (fun k => [(n 0).x = (n 0).x,(k 2).x = (k 2).x,oC (.agg #[vI h.Epoch,vI h.N])]) (fun k => ⟨rfl,rfl,rfl,trivial⟩) ?_
   intro k
   refine GS.seq ?_
   refine GS.seq ?_
   refine GS.tgM (fun _ => [(1,pA ((n 0).x) 0),(3,pA ((k 2).x) 0),(27,.slice e f.length j),(28,vI (f.length : Int)),(29,vI 0)]) [(1,{ act := .load 4 0 0 [] })] (fun _ => [(n 0).x = (n 0).x]) (fun _ => ⟨rfl,trivial⟩) ?_
   intro _
   refine GS.block ?_
   refine GS.loop ?_
   refine grd_elim hm (fun bh hm => ?_)
   refine GS.rekey (env' := [(1,pA ((n 0).x) 0),(3,pA ((k 2).x) 0),(27,.slice e f.length j),(28,vI (f.length : Int)),(29,vI 0)]) (mem' := [(1,r52 e f),(2,r80 a d),(3,r76 b c),(4,.cells ((n 0).x) 31 (kc43 o h.Epoch h.N e f.length j a d.length i b c.length g)),(5,.cells ((k 2).x) 26 [vI h.Epoch,vI h.N])]) [1,3,27,28,29] [(1,1),(2,2),(3,3),(4,4),(5,5)] (by kernel_rfl) (by kernel_rfl) rfl ?_
   refine loopL_elim hm (fun st73 fn74 hst75 hfn76 hm => ?_)
   refine GS.loopInv (ι := List S_api_Entry × Nat × Int × Int) (I := fun ⟨K,r,l,m⟩ => f.drop r = K ∧ loopL st73 fn74 K r (l,m) = some y) (μ := fun ⟨K,r,l,m⟩ => K.length) (E := fun ⟨K,r,l,m⟩ => [(1,pA ((n 0).x) 0),(3,pA ((k 2).x) 0),(27,.slice e f.length j),(28,vI (f.length : Int)),(29,vI (r : Int))]) (M := fun ⟨K,r,l,m⟩ => [(1,r52 e f),(2,r80 a d),(3,r76 b c),(4,.cells ((n 0).x) 31 (kc43 o h.Epoch h.N e f.length j a d.length i b c.length g)),(5,.cells ((k 2).x) 26 [vI l,vI m])]) ?_ ⟨f,0,h.Epoch,h.N⟩ ⟨List.drop_zero ..,hm⟩
   rintro ⟨K,r,l,m⟩ ⟨U,hm⟩ az
   cases K with
   | nil =>
    replace hm := (hfn76 _ _).symm.trans hm
    try dsimp only at hm
    refine GS.seq ?_
    refine GS.tzM (fun _ => [(1,pA ((n 0).x) 0),(3,pA ((k 2).x) 0),(27,.slice e f.length j),(28,vI (f.length : Int)),(29,vI (r : Int)),(30,.bool (decide ((r : Int) < (f.length : Int))))]) [] ?_
    intro _
    refine GS.seq ?_
    refine GS.cond (t := decide ((r : Int) < (f.length : Int))) rfl rfl (fun bi => absb bi (drop_dec0 U)) (fun _ => ?_)
    refine GS.exit rfl ?_
    refine GS.seq ?_
    refine GS.seq ?_
    refine jn_elim hm (fun bj a0 hm => ?_)
    refine GS.cut (ι := Bool) (I := fun (P : Bool) => bj P = some y) (E := fun (P : Bool) => [(1,pA ((n 0).x) 0),(3,pA ((k 2).x) 0),(55,.bool P)]) (M := fun (P : Bool) => [(1,r52 e f),(2,r80 a d),(3,r76 b c),(4,.cells ((n 0).x) 31 (kc43 o h.Epoch h.N e f.length j a d.length i b c.length g)),(5,.cells ((k 2).x) 26 [vI l,vI m])]) ?_ ?_
    rotate_left
    ·intro a1
     refine bnd_elim hm (fun ad a2 hm => ?_)
     refine br_elim hm (fun ap hm => ?_) (fun ap hm => ?_)
     ·skip
      refine GS.tgM (fun _ => [(1,pA ((n 0).x) 0),(3,pA ((k 2).x) 0),(55,.bool true)]) [(1,{ act := .load 4 0 0 [] }),(2,{ act := .call [3] (.bool ad) }),(4,{ sp := some (.bool true) })] (fun _ => [(n 0).x = (n 0).x,CallOK Try.prog 17 #[.slice b c.length g,.func (.func 18) #[] #[]] (.bool ad) [some (r76 b c)],((.bool (!ad)) : Value) = .bool true]) (fun _ => ⟨rfl,(by have h1 := w_pglog_rising_api_Item_string__2 F b g c a2; exact h1.ok ⟨(.inl ⟨r76 b c,.head _,Cov.refl _⟩),trivial⟩),bool_eq ap,trivial⟩) ?_
      intro _
      refine GS.rekey (env' := [(1,pA ((n 0).x) 0),(3,pA ((k 2).x) 0),(55,.bool true)]) (mem' := [(1,r52 e f),(2,r80 a d),(3,r76 b c),(4,.cells ((n 0).x) 31 (kc43 o h.Epoch h.N e f.length j a d.length i b c.length g)),(5,.cells ((k 2).x) 26 [vI l,vI m])]) [1,3,55] [(1,1),(2,2),(3,3),(4,4),(5,5)] (by kernel_rfl) (by kernel_rfl) rfl ?_
      exact a1 true hm
     ·skip
      refine bnd_elim hm (fun af bk hm => ?_)
      refine GS.tgM (fun _ => [(1,pA ((n 0).x) 0),(3,pA ((k 2).x) 0),(55,.bool (!af))]) [(1,{ act := .load 4 0 0 [] }),(2,{ act := .call [3] (.bool ad) }),(4,{ sp := some (.bool false) }),(6,{ act := .load 4 0 0 [] }),(7,{ act := .call [2] (.bool af) })] (fun _ => [(n 0).x = (n 0).x,CallOK Try.prog 17 #[.slice b c.length g,.func (.func 18) #[] #[]] (.bool ad) [some (r76 b c)],((.bool (!ad)) : Value) = .bool false,(n 0).x = (n 0).x,CallOK Try.prog 19 #[.slice a d.length i,.func (.func 20) #[] #[]] (.bool af) [some (r80 a d)]]) (fun _ => ⟨rfl,(by have h1 := w_pglog_rising_api_Item_string__2 F b g c a2; exact h1.ok ⟨(.inl ⟨r76 b c,.head _,Cov.refl _⟩),trivial⟩),bool_eq ap,rfl,(by have h1 := w_pglog_rising_api_Last_int__2 F a i d bk; exact h1.ok ⟨(.inl ⟨r80 a d,.head _,Cov.refl _⟩),trivial⟩),trivial⟩) ?_
      intro _
      refine GS.rekey (env' := [(1,pA ((n 0).x) 0),(3,pA ((k 2).x) 0),(55,.bool (!af))]) (mem' := [(1,r52 e f),(2,r80 a d),(3,r76 b c),(4,.cells ((n 0).x) 31 (kc43 o h.Epoch h.N e f.length j a d.length i b c.length g)),(5,.cells ((k 2).x) 26 [vI l,vI m])]) [1,3,55] [(1,1),(2,2),(3,3),(4,4),(5,5)] (by kernel_rfl) (by kernel_rfl) rfl ?_
      exact a1 (!af) hm
    ·rintro P hm
     replace hm := (a0 _).symm.trans hm
     try dsimp only at hm
     refine GS.cond (t := P) rfl rfl (fun aq => ?_) (fun aq => ?_)
     ·replace hm := br_t aq hm
      refine GS.seq ?_
      refine GS.tz (fun _ => [(2,vI 22)]) (fun _ => []) [] ?_
      intro _
      have hy := Option.some.inj hm
      subst hy
      refine GS.ret (fn := Try.f10) [0] [vI 22] [] rfl Try.func10 (by kernel_rfl) trivial (fun w' hs => ?_)
      exact ⟨(),rfl,hs.turnedG (ks := []) rfl rfl⟩
     ·replace hm := br_f aq hm
      refine GS.skip ?_
      refine GS.seq ?_
      refine GS.seq ?_
      refine GS.tgM (fun _ => [(1,pA ((n 0).x) 0),(3,pA ((k 2).x) 0),(57,.slice b c.length g),(58,vI (c.length : Int)),(59,vI 0)]) [(1,{ act := .load 4 0 0 [] })] (fun _ => [(n 0).x = (n 0).x]) (fun _ => ⟨rfl,trivial⟩) ?_
      intro _
      refine GS.block ?_
      refine GS.loop ?_
      refine grd_elim hm (fun a3 hm => ?_)
      refine GS.rekey (env' := [(1,pA ((n 0).x) 0),(3,pA ((k 2).x) 0),(57,.slice b c.length g),(58,vI (c.length : Int)),(59,vI 0)]) (mem' := [(1,r52 e f),(2,r80 a d),(3,r76 b c),(4,.cells ((n 0).x) 31 (kc43 o h.Epoch h.N e f.length j a d.length i b c.length g)),(5,.cells ((k 2).x) 26 [vI l,vI m])]) [1,3,57,58,59] [(1,1),(2,2),(3,3),(4,4),(5,5)] (by kernel_rfl) (by kernel_rfl) rfl ?_
      refine loopL_elim hm (fun st157 fn158 hst159 hfn160 hm => ?_)
      refine GS.loopInv (ι := List S_api_Item × Nat) (I := fun ⟨C,q⟩ => c.drop q = C ∧ loopL st157 fn158 C q () = some y) (μ := fun ⟨C,q⟩ => C.length) (E := fun ⟨C,q⟩ => [(1,pA ((n 0).x) 0),(3,pA ((k 2).x) 0),(57,.slice b c.length g),(58,vI (c.length : Int)),(59,vI (q : Int))]) (M := fun ⟨C,q⟩ => [(1,r52 e f),(2,r80 a d),(3,r76 b c),(4,.cells ((n 0).x) 31 (kc43 o h.Epoch h.N e f.length j a d.length i b c.length g)),(5,.cells ((k 2).x) 26 [vI l,vI m])]) ?_ ⟨c,0⟩ ⟨List.drop_zero ..,hm⟩
      rintro ⟨C,q⟩ ⟨Q,hm⟩ ar
      cases C with
      | nil =>
       replace hm := (hfn160 _ _).symm.trans hm
       try dsimp only at hm
       refine GS.seq ?_
       refine GS.tzM (fun _ => [(1,pA ((n 0).x) 0),(3,pA ((k 2).x) 0),(57,.slice b c.length g),(58,vI (c.length : Int)),(59,vI (q : Int)),(60,.bool (decide ((q : Int) < (c.length : Int))))]) [] ?_
       intro _
       refine GS.seq ?_
       refine GS.cond (t := decide ((q : Int) < (c.length : Int))) rfl rfl (fun a4 => absb a4 (drop_dec0 Q)) (fun _ => ?_)
       refine GS.exit rfl ?_
       refine GS.seq ?_
       refine GS.seq ?_
       refine GS.tg (fun _ => [(3,pA ((k 2).x) 0),(87,.slice a d.length i),(88,vI (d.length : Int)),(89,vI 0)]) (fun _ => [(2,r80 a d),(5,.cells ((k 2).x) 26 [vI l,vI m])]) [(1,{ act := .load 4 0 0 [] })] (fun _ => [(n 0).x = (n 0).x]) (fun _ => ⟨rfl,trivial⟩) ?_
       intro _
       refine GS.block ?_
       refine GS.loop ?_
       refine grd_elim hm (fun a5 hm => ?_)
       refine GS.rekey (env' := [(3,pA ((k 2).x) 0),(87,.slice a d.length i),(88,vI (d.length : Int)),(89,vI 0)]) (mem' := [(2,r80 a d),(5,.cells ((k 2).x) 26 [vI l,vI m])]) [3,87,88,89] [(2,2),(5,5)] (by kernel_rfl) (by kernel_rfl) rfl ?_
       refine loopL_elim hm (fun st218 fn219 hst220 hfn221 hm => ?_)
       refine GS.loopInv (ι := List S_api_Last × Nat) (I := fun ⟨D,p⟩ => d.drop p = D ∧ loopL st218 fn219 D p () = some y) (μ := fun ⟨D,p⟩ => D.length) (E := fun ⟨D,p⟩ => [(3,pA ((k 2).x) 0),(87,.slice a d.length i),(88,vI (d.length : Int)),(89,vI (p : Int))]) (M := fun ⟨D,p⟩ => [(2,r80 a d),(5,.cells ((k 2).x) 26 [vI l,vI m])]) ?_ ⟨d,0⟩ ⟨List.drop_zero ..,hm⟩
       rintro ⟨D,p⟩ ⟨R,hm⟩ au
       cases D with
       | nil =>
        replace hm := (hfn221 _ _).symm.trans hm
        try dsimp only at hm
        refine GS.seq ?_
        refine GS.tzM (fun _ => [(3,pA ((k 2).x) 0),(87,.slice a d.length i),(88,vI (d.length : Int)),(89,vI (p : Int)),(90,.bool (decide ((p : Int) < (d.length : Int))))]) [] ?_
        intro _
        refine GS.seq ?_
        refine GS.cond (t := decide ((p : Int) < (d.length : Int))) rfl rfl (fun a6 => absb a6 (drop_dec0 R)) (fun _ => ?_)
        refine GS.exit rfl ?_
        refine GS.seq ?_
        refine GS.tz (fun _ => [(2,vI 0)]) (fun _ => []) [] ?_
        intro _
        have hy := Option.some.inj hm
        subst hy
        refine GS.ret (fn := Try.f10) [0] [vI 0] [] rfl Try.func10 (by kernel_rfl) trivial (fun w' hs => ?_)
        exact ⟨(),rfl,hs.turnedG (ks := []) rfl rfl⟩
       | cons z D =>
        replace hm := (hst220 _ _ _ _).symm.trans hm
        try dsimp only at hm
        refine GS.seq ?_
        refine GS.tzM (fun _ => [(3,pA ((k 2).x) 0),(87,.slice a d.length i),(88,vI (d.length : Int)),(89,vI (p : Int)),(90,.bool (decide ((p : Int) < (d.length : Int))))]) [] ?_
        intro _
        refine GS.seq ?_
        refine GS.cond (t := decide ((p : Int) < (d.length : Int))) rfl rfl (fun _ => ?_) (fun a7 => absb (drop_dec R) a7)
        refine GS.skip ?_
        refine GS.seq ?_
        refine GS.block ?_
        refine GS.seq ?_
        refine GS.tg (fun B => [(3,pA ((k 2).x) 0),(9,pA ((B 2).x) 0),(87,.slice a d.length i),(88,vI (d.length : Int)),(89,vI (p : Int))]) (fun B => [(2,r80 a d),(5,.cells ((k 2).x) 26 [vI l,vI m]),(6,.cells ((B 2).x) 80 (kc46 z.Client z.Number z.Errno z.Version.Epoch z.Version.N))]) [(0,{ act := .idx 2 p }),(1,{ act := .load 2 p 0 [vI z.Client,vI z.Number,vI z.Errno,vI z.Version.Epoch,vI z.Version.N] }),(2,{ act := .new .var,key := some 6 }),(3,{ act := .store 0 0 [],key := some 6 })] (fun B => [a = a,d.length = (List.map S_api_Last.row d).length,((p : Int) : Int) = (p : Int),p < d.length,blk a = blk a,offs a + p * 5 = offs a + (p * 5 + 0),(List.map S_api_Last.row d)[p]? = some [vI z.Client,vI z.Number,vI z.Errno,vI z.Version.Epoch,vI z.Version.N],(B 2).x = (B 2).x,oC (.agg ((kc46 z.Client z.Number z.Errno z.Version.Epoch z.Version.N)).toArray)]) (fun B => ⟨rfl,mlen S_api_Last.row d,rfl,(drop_lt R),rfl,rfl,map_drop S_api_Last.row R,rfl,rfl,trivial⟩) ?_
        intro B
        refine GS.seq ?_
        refine jn_elim hm (fun a8 av hm => ?_)
        refine GS.cut (ι := Bool) (I := fun (G : Bool) => a8 G = some y) (E := fun (G : Bool) => [(3,pA ((k 2).x) 0),(87,.slice a d.length i),(88,vI (d.length : Int)),(89,vI (p : Int)),(102,.bool G)]) (M := fun (G : Bool) => [(2,r80 a d),(5,.cells ((k 2).x) 26 [vI l,vI m])]) ?_ ?_
        rotate_left
        ·intro am
         refine bnd_elim hm (fun V an hm => ?_)
         refine br_elim hm (fun ag hm => ?_) (fun ag hm => ?_)
         ·skip
          refine GS.tg (fun _ => [(3,pA ((k 2).x) 0),(87,.slice a d.length i),(88,vI (d.length : Int)),(89,vI (p : Int)),(102,.bool true)]) (fun _ => [(2,r80 a d),(5,.cells ((k 2).x) 26 [vI l,vI m])]) [(1,{ act := .load 6 0 0 [] }),(2,{ act := .call [] (.bool V) }),(3,{ sp := some (.bool true) })] (fun _ => [(B 2).x = (B 2).x,CallOK Try.prog 15 #[.agg #[vI z.Version.Epoch,vI z.Version.N]] (.bool V) [],((.bool V) : Value) = .bool true]) (fun _ => ⟨rfl,(by have h1 := w_pglog_below_2 F z.Version an; exact h1.ok trivial),bool_eq ag,trivial⟩) ?_
          intro _
          refine GS.rekey (env' := [(3,pA ((k 2).x) 0),(87,.slice a d.length i),(88,vI (d.length : Int)),(89,vI (p : Int)),(102,.bool true)]) (mem' := [(2,r80 a d),(5,.cells ((k 2).x) 26 [vI l,vI m])]) [3,87,88,89,102] [(2,2),(5,5)] (by kernel_rfl) (by kernel_rfl) rfl ?_
          exact am true hm
         ·skip
          refine bnd_elim hm (fun W a9 hm => ?_)
          refine GS.tg (fun _ => [(3,pA ((k 2).x) 0),(87,.slice a d.length i),(88,vI (d.length : Int)),(89,vI (p : Int)),(102,.bool (decide (W > 0)))]) (fun _ => [(2,r80 a d),(5,.cells ((k 2).x) 26 [vI l,vI m])]) [(1,{ act := .load 6 0 0 [] }),(2,{ act := .call [] (.bool V) }),(3,{ sp := some (.bool false) }),(5,{ act := .load 6 0 0 [] }),(6,{ act := .load 5 0 0 [] }),(7,{ act := .call [] (vI W) })] (fun _ => [(B 2).x = (B 2).x,CallOK Try.prog 15 #[.agg #[vI z.Version.Epoch,vI z.Version.N]] (.bool V) [],((.bool V) : Value) = .bool false,(B 2).x = (B 2).x,(k 2).x = (k 2).x,CallOK Try.prog 16 #[.agg #[vI z.Version.Epoch,vI z.Version.N],.agg #[vI l,vI m]] (vI W) []]) (fun _ => ⟨rfl,(by have h1 := w_pglog_below_2 F z.Version an; exact h1.ok trivial),bool_eq ag,rfl,rfl,(by have h1 := w_pglog_Cmp_2 F z.Version (S_api_Version.mk l m) a9; exact h1.ok trivial),trivial⟩) ?_
          intro _
          refine GS.rekey (env' := [(3,pA ((k 2).x) 0),(87,.slice a d.length i),(88,vI (d.length : Int)),(89,vI (p : Int)),(102,.bool (decide (W > 0)))]) (mem' := [(2,r80 a d),(5,.cells ((k 2).x) 26 [vI l,vI m])]) [3,87,88,89,102] [(2,2),(5,5)] (by kernel_rfl) (by kernel_rfl) rfl ?_
          exact am (decide (W > 0)) hm
        ·rintro G hm
         replace hm := (av _).symm.trans hm
         try dsimp only at hm
         refine GS.cond (t := G) rfl rfl (fun ah => ?_) (fun ah => ?_)
         ·replace hm := br_t ah hm
          refine GS.seq ?_
          refine GS.tz (fun _ => [(2,vI 22)]) (fun _ => []) [] ?_
          intro _
          have hy := Option.some.inj hm
          subst hy
          refine GS.ret (fn := Try.f10) [0] [vI 22] [] rfl Try.func10 (by kernel_rfl) trivial (fun w' hs => ?_)
          exact ⟨(),rfl,hs.turnedG (ks := []) rfl rfl⟩
         ·replace hm := br_f ah hm
          refine GS.skip ?_
          refine GS.inBlock ?_
          refine GS.tgM (fun _ => [(3,pA ((k 2).x) 0),(87,.slice a d.length i),(88,vI (d.length : Int)),(89,vI ((p + 1 : Nat) : Int))]) [(0,{ sp := some (vI ((p + 1 : Nat) : Int)) })] (fun _ => [((vI (IntKind.i64.wrap ((p : Int) + 1))) : Value) = vI ((p + 1 : Nat) : Int)]) (fun _ => ⟨natw (drop_lt R) a5,trivial⟩) ?_
          intro _
          refine GS.inLoop ?_
          refine GS.rekey (env' := [(3,pA ((k 2).x) 0),(87,.slice a d.length i),(88,vI (d.length : Int)),(89,vI ((p + 1 : Nat) : Int))]) (mem' := [(2,r80 a d),(5,.cells ((k 2).x) 26 [vI l,vI m])]) [3,87,88,89] [(2,2),(5,5)] (by kernel_rfl) (by kernel_rfl) rfl ?_
          exact au ⟨D,p + 1⟩ ⟨drop_next R,hm⟩ (Nat.lt_succ_self _)
      | cons v C =>
       replace hm := (hst159 _ _ _ _).symm.trans hm
       try dsimp only at hm
       refine GS.seq ?_
       refine GS.tzM (fun _ => [(1,pA ((n 0).x) 0),(3,pA ((k 2).x) 0),(57,.slice b c.length g),(58,vI (c.length : Int)),(59,vI (q : Int)),(60,.bool (decide ((q : Int) < (c.length : Int))))]) [] ?_
       intro _
       refine GS.seq ?_
       refine GS.cond (t := decide ((q : Int) < (c.length : Int))) rfl rfl (fun _ => ?_) (fun ba => absb (drop_dec Q) ba)
       refine GS.skip ?_
       refine GS.seq ?_
       refine GS.block ?_
       refine GS.seq ?_
       refine GS.tg (fun u => [(1,pA ((n 0).x) 0),(3,pA ((k 2).x) 0),(7,pA ((u 2).x) 0),(57,.slice b c.length g),(58,vI (c.length : Int)),(59,vI (q : Int))]) (fun u => [(1,r52 e f),(2,r80 a d),(3,r76 b c),(4,.cells ((n 0).x) 31 (kc43 o h.Epoch h.N e f.length j a d.length i b c.length g)),(5,.cells ((k 2).x) 26 [vI l,vI m]),(6,.cells ((u 2).x) 76 (kc45 v.Name v.Version.Epoch v.Version.N v.Crc))]) [(0,{ act := .idx 3 q }),(1,{ act := .load 3 q 0 [.string v.Name,vI v.Version.Epoch,vI v.Version.N,.int .u32 v.Crc] }),(2,{ act := .new .var,key := some 6 }),(3,{ act := .store 0 0 [],key := some 6 })] (fun u => [b = b,c.length = (List.map S_api_Item.row c).length,((q : Int) : Int) = (q : Int),q < c.length,blk b = blk b,offs b + q * 4 = offs b + (q * 4 + 0),(List.map S_api_Item.row c)[q]? = some [.string v.Name,vI v.Version.Epoch,vI v.Version.N,.int .u32 v.Crc],(u 2).x = (u 2).x,oC (.agg ((kc45 v.Name v.Version.Epoch v.Version.N v.Crc)).toArray)]) (fun u => ⟨rfl,mlen S_api_Item.row c,rfl,(drop_lt Q),rfl,rfl,map_drop S_api_Item.row Q,rfl,rfl,trivial⟩) ?_
       intro u
       refine GS.seq ?_
       refine jn_elim hm (fun bb aw hm => ?_)
       refine GS.cut (ι := Bool) (I := fun (J : Bool) => bb J = some y) (E := fun (J : Bool) => [(1,pA ((n 0).x) 0),(3,pA ((k 2).x) 0),(57,.slice b c.length g),(58,vI (c.length : Int)),(59,vI (q : Int)),(84,.bool J)]) (M := fun (J : Bool) => [(1,r52 e f),(2,r80 a d),(3,r76 b c),(4,.cells ((n 0).x) 31 (kc43 o h.Epoch h.N e f.length j a d.length i b c.length g)),(5,.cells ((k 2).x) 26 [vI l,vI m])]) ?_ ?_
       rotate_left
       ·intro aa
        refine bnd_elim hm (fun H ab hm => ?_)
        refine br_elim hm (fun Y hm => ?_) (fun Y hm => ?_)
        ·skip
         refine GS.tg (fun _ => [(1,pA ((n 0).x) 0),(3,pA ((k 2).x) 0),(57,.slice b c.length g),(58,vI (c.length : Int)),(59,vI (q : Int)),(84,.bool true)]) (fun _ => [(1,r52 e f),(2,r80 a d),(3,r76 b c),(4,.cells ((n 0).x) 31 (kc43 o h.Epoch h.N e f.length j a d.length i b c.length g)),(5,.cells ((k 2).x) 26 [vI l,vI m])]) [(1,{ act := .load 6 0 0 [] }),(2,{ act := .call [] (.bool H) }),(4,{ sp := some (.bool true) })] (fun _ => [(u 2).x = (u 2).x,CallOK Try.prog 21 #[.string v.Name] (.bool H) [],((.bool (!H)) : Value) = .bool true]) (fun _ => ⟨rfl,(by have h1 := w_place_Good_2 F v.Name ab; exact h1.ok trivial),bool_eq Y,trivial⟩) ?_
         intro _
         refine GS.rekey (env' := [(1,pA ((n 0).x) 0),(3,pA ((k 2).x) 0),(57,.slice b c.length g),(58,vI (c.length : Int)),(59,vI (q : Int)),(84,.bool true)]) (mem' := [(1,r52 e f),(2,r80 a d),(3,r76 b c),(4,.cells ((n 0).x) 31 (kc43 o h.Epoch h.N e f.length j a d.length i b c.length g)),(5,.cells ((k 2).x) 26 [vI l,vI m])]) [1,3,57,58,59,84] [(1,1),(2,2),(3,3),(4,4),(5,5)] (by kernel_rfl) (by kernel_rfl) rfl ?_
         exact aa true hm
        ·skip
         refine bnd_elim hm (fun L ai hm => ?_)
         refine br_elim hm (fun ac hm => ?_) (fun ac hm => ?_)
         ·skip
          refine GS.tg (fun _ => [(1,pA ((n 0).x) 0),(3,pA ((k 2).x) 0),(57,.slice b c.length g),(58,vI (c.length : Int)),(59,vI (q : Int)),(84,.bool true)]) (fun _ => [(1,r52 e f),(2,r80 a d),(3,r76 b c),(4,.cells ((n 0).x) 31 (kc43 o h.Epoch h.N e f.length j a d.length i b c.length g)),(5,.cells ((k 2).x) 26 [vI l,vI m])]) [(1,{ act := .load 6 0 0 [] }),(2,{ act := .call [] (.bool H) }),(4,{ sp := some (.bool false) }),(6,{ act := .load 6 0 0 [] }),(7,{ act := .call [] (.bool L) }),(9,{ sp := some (.bool true) })] (fun _ => [(u 2).x = (u 2).x,CallOK Try.prog 21 #[.string v.Name] (.bool H) [],((.bool (!H)) : Value) = .bool false,(u 2).x = (u 2).x,CallOK Try.prog 15 #[.agg #[vI v.Version.Epoch,vI v.Version.N]] (.bool L) [],((.bool L) : Value) = .bool true]) (fun _ => ⟨rfl,(by have h1 := w_place_Good_2 F v.Name ab; exact h1.ok trivial),bool_eq Y,rfl,(by have h1 := w_pglog_below_2 F v.Version ai; exact h1.ok trivial),bool_eq ac,trivial⟩) ?_
          intro _
          refine GS.rekey (env' := [(1,pA ((n 0).x) 0),(3,pA ((k 2).x) 0),(57,.slice b c.length g),(58,vI (c.length : Int)),(59,vI (q : Int)),(84,.bool true)]) (mem' := [(1,r52 e f),(2,r80 a d),(3,r76 b c),(4,.cells ((n 0).x) 31 (kc43 o h.Epoch h.N e f.length j a d.length i b c.length g)),(5,.cells ((k 2).x) 26 [vI l,vI m])]) [1,3,57,58,59,84] [(1,1),(2,2),(3,3),(4,4),(5,5)] (by kernel_rfl) (by kernel_rfl) rfl ?_
          exact aa true hm
         ·skip
          refine br_elim hm (fun aj hm => ?_) (fun aj hm => ?_)
          ·skip
           refine GS.tg (fun _ => [(1,pA ((n 0).x) 0),(3,pA ((k 2).x) 0),(57,.slice b c.length g),(58,vI (c.length : Int)),(59,vI (q : Int)),(84,.bool true)]) (fun _ => [(1,r52 e f),(2,r80 a d),(3,r76 b c),(4,.cells ((n 0).x) 31 (kc43 o h.Epoch h.N e f.length j a d.length i b c.length g)),(5,.cells ((k 2).x) 26 [vI l,vI m])]) [(1,{ act := .load 6 0 0 [] }),(2,{ act := .call [] (.bool H) }),(4,{ sp := some (.bool false) }),(6,{ act := .load 6 0 0 [] }),(7,{ act := .call [] (.bool L) }),(9,{ sp := some (.bool false) }),(11,{ act := .load 6 0 0 [] }),(13,{ act := .eq }),(15,{ sp := some (.bool true) })] (fun _ => [(u 2).x = (u 2).x,CallOK Try.prog 21 #[.string v.Name] (.bool H) [],((.bool (!H)) : Value) = .bool false,(u 2).x = (u 2).x,CallOK Try.prog 15 #[.agg #[vI v.Version.Epoch,vI v.Version.N]] (.bool L) [],((.bool L) : Value) = .bool false,(u 2).x = (u 2).x,((.bool (S_api_Version.beq v.Version (S_api_Version.mk 0 0))) : Value) = .bool true]) (fun _ => ⟨rfl,(by have h1 := w_place_Good_2 F v.Name ab; exact h1.ok trivial),bool_eq Y,rfl,(by have h1 := w_pglog_below_2 F v.Version ai; exact h1.ok trivial),bool_eq ac,rfl,bool_eq aj,trivial⟩) ?_
           intro _
           refine GS.rekey (env' := [(1,pA ((n 0).x) 0),(3,pA ((k 2).x) 0),(57,.slice b c.length g),(58,vI (c.length : Int)),(59,vI (q : Int)),(84,.bool true)]) (mem' := [(1,r52 e f),(2,r80 a d),(3,r76 b c),(4,.cells ((n 0).x) 31 (kc43 o h.Epoch h.N e f.length j a d.length i b c.length g)),(5,.cells ((k 2).x) 26 [vI l,vI m])]) [1,3,57,58,59,84] [(1,1),(2,2),(3,3),(4,4),(5,5)] (by kernel_rfl) (by kernel_rfl) rfl ?_
           exact aa true hm
          ·skip
           refine bnd_elim hm (fun Z bc hm => ?_)
           refine GS.tg (fun _ => [(1,pA ((n 0).x) 0),(3,pA ((k 2).x) 0),(57,.slice b c.length g),(58,vI (c.length : Int)),(59,vI (q : Int)),(84,.bool (decide (Z > 0)))]) (fun _ => [(1,r52 e f),(2,r80 a d),(3,r76 b c),(4,.cells ((n 0).x) 31 (kc43 o h.Epoch h.N e f.length j a d.length i b c.length g)),(5,.cells ((k 2).x) 26 [vI l,vI m])]) [(1,{ act := .load 6 0 0 [] }),(2,{ act := .call [] (.bool H) }),(4,{ sp := some (.bool false) }),(6,{ act := .load 6 0 0 [] }),(7,{ act := .call [] (.bool L) }),(9,{ sp := some (.bool false) }),(11,{ act := .load 6 0 0 [] }),(13,{ act := .eq }),(15,{ sp := some (.bool false) }),(17,{ act := .load 6 0 0 [] }),(18,{ act := .load 5 0 0 [] }),(19,{ act := .call [] (vI Z) })] (fun _ => [(u 2).x = (u 2).x,CallOK Try.prog 21 #[.string v.Name] (.bool H) [],((.bool (!H)) : Value) = .bool false,(u 2).x = (u 2).x,CallOK Try.prog 15 #[.agg #[vI v.Version.Epoch,vI v.Version.N]] (.bool L) [],((.bool L) : Value) = .bool false,(u 2).x = (u 2).x,((.bool (S_api_Version.beq v.Version (S_api_Version.mk 0 0))) : Value) = .bool false,(u 2).x = (u 2).x,(k 2).x = (k 2).x,CallOK Try.prog 16 #[.agg #[vI v.Version.Epoch,vI v.Version.N],.agg #[vI l,vI m]] (vI Z) []]) (fun _ => ⟨rfl,(by have h1 := w_place_Good_2 F v.Name ab; exact h1.ok trivial),bool_eq Y,rfl,(by have h1 := w_pglog_below_2 F v.Version ai; exact h1.ok trivial),bool_eq ac,rfl,bool_eq aj,rfl,rfl,(by have h1 := w_pglog_Cmp_2 F v.Version (S_api_Version.mk l m) bc; exact h1.ok trivial),trivial⟩) ?_
           intro _
           refine GS.rekey (env' := [(1,pA ((n 0).x) 0),(3,pA ((k 2).x) 0),(57,.slice b c.length g),(58,vI (c.length : Int)),(59,vI (q : Int)),(84,.bool (decide (Z > 0)))]) (mem' := [(1,r52 e f),(2,r80 a d),(3,r76 b c),(4,.cells ((n 0).x) 31 (kc43 o h.Epoch h.N e f.length j a d.length i b c.length g)),(5,.cells ((k 2).x) 26 [vI l,vI m])]) [1,3,57,58,59,84] [(1,1),(2,2),(3,3),(4,4),(5,5)] (by kernel_rfl) (by kernel_rfl) rfl ?_
           exact aa (decide (Z > 0)) hm
       ·rintro J hm
        replace hm := (aw _).symm.trans hm
        try dsimp only at hm
        refine GS.cond (t := J) rfl rfl (fun ak => ?_) (fun ak => ?_)
        ·replace hm := br_t ak hm
         refine GS.seq ?_
         refine GS.tz (fun _ => [(2,vI 22)]) (fun _ => []) [] ?_
         intro _
         have hy := Option.some.inj hm
         subst hy
         refine GS.ret (fn := Try.f10) [0] [vI 22] [] rfl Try.func10 (by kernel_rfl) trivial (fun w' hs => ?_)
         exact ⟨(),rfl,hs.turnedG (ks := []) rfl rfl⟩
        ·replace hm := br_f ak hm
         refine GS.skip ?_
         refine GS.inBlock ?_
         refine GS.tgM (fun _ => [(1,pA ((n 0).x) 0),(3,pA ((k 2).x) 0),(57,.slice b c.length g),(58,vI (c.length : Int)),(59,vI ((q + 1 : Nat) : Int))]) [(0,{ sp := some (vI ((q + 1 : Nat) : Int)) })] (fun _ => [((vI (IntKind.i64.wrap ((q : Int) + 1))) : Value) = vI ((q + 1 : Nat) : Int)]) (fun _ => ⟨natw (drop_lt Q) a3,trivial⟩) ?_
         intro _
         refine GS.inLoop ?_
         refine GS.rekey (env' := [(1,pA ((n 0).x) 0),(3,pA ((k 2).x) 0),(57,.slice b c.length g),(58,vI (c.length : Int)),(59,vI ((q + 1 : Nat) : Int))]) (mem' := [(1,r52 e f),(2,r80 a d),(3,r76 b c),(4,.cells ((n 0).x) 31 (kc43 o h.Epoch h.N e f.length j a d.length i b c.length g)),(5,.cells ((k 2).x) 26 [vI l,vI m])]) [1,3,57,58,59] [(1,1),(2,2),(3,3),(4,4),(5,5)] (by kernel_rfl) (by kernel_rfl) rfl ?_
         exact ar ⟨C,q + 1⟩ ⟨drop_next Q,hm⟩ (Nat.lt_succ_self _)
   | cons s K =>
    replace hm := (hst75 _ _ _ _).symm.trans hm
    try dsimp only at hm
    refine GS.seq ?_
    refine GS.tzM (fun _ => [(1,pA ((n 0).x) 0),(3,pA ((k 2).x) 0),(27,.slice e f.length j),(28,vI (f.length : Int)),(29,vI (r : Int)),(30,.bool (decide ((r : Int) < (f.length : Int))))]) [] ?_
    intro _
    refine GS.seq ?_
    refine GS.cond (t := decide ((r : Int) < (f.length : Int))) rfl rfl (fun _ => ?_) (fun bl => absb (drop_dec U) bl)
    refine GS.skip ?_
    refine GS.seq ?_
    refine GS.block ?_
    refine GS.seq ?_
    refine GS.tg (fun A => [(1,pA ((n 0).x) 0),(3,pA ((k 2).x) 0),(5,pA ((A 2).x) 0),(27,.slice e f.length j),(28,vI (f.length : Int)),(29,vI (r : Int))]) (fun A => [(1,r52 e f),(2,r80 a d),(3,r76 b c),(4,.cells ((n 0).x) 31 (kc43 o h.Epoch h.N e f.length j a d.length i b c.length g)),(5,.cells ((k 2).x) 26 [vI l,vI m]),(6,.cells ((A 2).x) 52 (kc44 s.Version.Epoch s.Version.N s.Remove s.Errno s.Name s.Client s.Number))]) [(0,{ act := .idx 1 r }),(1,{ act := .load 1 r 0 [vI s.Version.Epoch,vI s.Version.N,.bool s.Remove,vI s.Errno,.string s.Name,vI s.Client,vI s.Number] }),(2,{ act := .new .var,key := some 6 }),(3,{ act := .store 0 0 [],key := some 6 })] (fun A => [e = e,f.length = (List.map S_api_Entry.row f).length,((r : Int) : Int) = (r : Int),r < f.length,blk e = blk e,offs e + r * 7 = offs e + (r * 7 + 0),(List.map S_api_Entry.row f)[r]? = some [vI s.Version.Epoch,vI s.Version.N,.bool s.Remove,vI s.Errno,.string s.Name,vI s.Client,vI s.Number],(A 2).x = (A 2).x,oC (.agg ((kc44 s.Version.Epoch s.Version.N s.Remove s.Errno s.Name s.Client s.Number)).toArray)]) (fun A => ⟨rfl,mlen S_api_Entry.row f,rfl,(drop_lt U),rfl,rfl,map_drop S_api_Entry.row U,rfl,rfl,trivial⟩) ?_
    intro A
    refine GS.seq ?_
    refine GS.seq ?_
    refine jn_elim hm (fun bm bd hm => ?_)
    refine GS.cut (ι := Bool) (I := fun (T : Bool) => bm T = some y) (E := fun (T : Bool) => [(1,pA ((n 0).x) 0),(3,pA ((k 2).x) 0),(5,pA ((A 2).x) 0),(27,.slice e f.length j),(28,vI (f.length : Int)),(29,vI (r : Int)),(42,.bool T)]) (M := fun (T : Bool) => [(1,r52 e f),(2,r80 a d),(3,r76 b c),(4,.cells ((n 0).x) 31 (kc43 o h.Epoch h.N e f.length j a d.length i b c.length g)),(5,.cells ((k 2).x) 26 [vI l,vI m]),(6,.cells ((A 2).x) 52 (kc44 s.Version.Epoch s.Version.N s.Remove s.Errno s.Name s.Client s.Number))]) ?_ ?_
    rotate_left
    ·intro be
     refine bnd_elim hm (fun ae bf hm => ?_)
     refine br_elim hm (fun ax hm => ?_) (fun ax hm => ?_)
     ·skip
      refine GS.tgM (fun _ => [(1,pA ((n 0).x) 0),(3,pA ((k 2).x) 0),(5,pA ((A 2).x) 0),(27,.slice e f.length j),(28,vI (f.length : Int)),(29,vI (r : Int)),(42,.bool true)]) [(1,{ act := .load 6 0 0 [] }),(2,{ act := .call [] (.bool ae) }),(3,{ sp := some (.bool true) })] (fun _ => [(A 2).x = (A 2).x,CallOK Try.prog 15 #[.agg #[vI s.Version.Epoch,vI s.Version.N]] (.bool ae) [],((.bool ae) : Value) = .bool true]) (fun _ => ⟨rfl,(by have h1 := w_pglog_below_2 F s.Version bf; exact h1.ok trivial),bool_eq ax,trivial⟩) ?_
      intro _
      refine GS.rekey (env' := [(1,pA ((n 0).x) 0),(3,pA ((k 2).x) 0),(5,pA ((A 2).x) 0),(27,.slice e f.length j),(28,vI (f.length : Int)),(29,vI (r : Int)),(42,.bool true)]) (mem' := [(1,r52 e f),(2,r80 a d),(3,r76 b c),(4,.cells ((n 0).x) 31 (kc43 o h.Epoch h.N e f.length j a d.length i b c.length g)),(5,.cells ((k 2).x) 26 [vI l,vI m]),(6,.cells ((A 2).x) 52 (kc44 s.Version.Epoch s.Version.N s.Remove s.Errno s.Name s.Client s.Number))]) [1,3,5,27,28,29,42] [(1,1),(2,2),(3,3),(4,4),(5,5),(6,6)] (by kernel_rfl) (by kernel_rfl) rfl ?_
      exact be true hm
     ·skip
      refine bnd_elim hm (fun al bn hm => ?_)
      refine GS.tgM (fun _ => [(1,pA ((n 0).x) 0),(3,pA ((k 2).x) 0),(5,pA ((A 2).x) 0),(27,.slice e f.length j),(28,vI (f.length : Int)),(29,vI (r : Int)),(42,.bool (decide (al ≤ 0)))]) [(1,{ act := .load 6 0 0 [] }),(2,{ act := .call [] (.bool ae) }),(3,{ sp := some (.bool false) }),(5,{ act := .load 6 0 0 [] }),(6,{ act := .load 5 0 0 [] }),(7,{ act := .call [] (vI al) })] (fun _ => [(A 2).x = (A 2).x,CallOK Try.prog 15 #[.agg #[vI s.Version.Epoch,vI s.Version.N]] (.bool ae) [],((.bool ae) : Value) = .bool false,(A 2).x = (A 2).x,(k 2).x = (k 2).x,CallOK Try.prog 16 #[.agg #[vI s.Version.Epoch,vI s.Version.N],.agg #[vI l,vI m]] (vI al) []]) (fun _ => ⟨rfl,(by have h1 := w_pglog_below_2 F s.Version bf; exact h1.ok trivial),bool_eq ax,rfl,rfl,(by have h1 := w_pglog_Cmp_2 F s.Version (S_api_Version.mk l m) bn; exact h1.ok trivial),trivial⟩) ?_
      intro _
      refine GS.rekey (env' := [(1,pA ((n 0).x) 0),(3,pA ((k 2).x) 0),(5,pA ((A 2).x) 0),(27,.slice e f.length j),(28,vI (f.length : Int)),(29,vI (r : Int)),(42,.bool (decide (al ≤ 0)))]) (mem' := [(1,r52 e f),(2,r80 a d),(3,r76 b c),(4,.cells ((n 0).x) 31 (kc43 o h.Epoch h.N e f.length j a d.length i b c.length g)),(5,.cells ((k 2).x) 26 [vI l,vI m]),(6,.cells ((A 2).x) 52 (kc44 s.Version.Epoch s.Version.N s.Remove s.Errno s.Name s.Client s.Number))]) [1,3,5,27,28,29,42] [(1,1),(2,2),(3,3),(4,4),(5,5),(6,6)] (by kernel_rfl) (by kernel_rfl) rfl ?_
      exact be (decide (al ≤ 0)) hm
    ·rintro T hm
     replace hm := (bd _).symm.trans hm
     try dsimp only at hm
     refine GS.cond (t := T) rfl rfl (fun ay => ?_) (fun ay => ?_)
     ·replace hm := br_t ay hm
      refine GS.seq ?_
      refine GS.tz (fun _ => [(2,vI 22)]) (fun _ => []) [] ?_
      intro _
      have hy := Option.some.inj hm
      subst hy
      refine GS.ret (fn := Try.f10) [0] [vI 22] [] rfl Try.func10 (by kernel_rfl) trivial (fun w' hs => ?_)
      exact ⟨(),rfl,hs.turnedG (ks := []) rfl rfl⟩
     ·replace hm := br_f ay hm
      refine GS.skip ?_
      refine GS.tg (fun _ => [(1,pA ((n 0).x) 0),(3,pA ((k 2).x) 0),(27,.slice e f.length j),(28,vI (f.length : Int)),(29,vI (r : Int))]) (fun _ => [(1,r52 e f),(2,r80 a d),(3,r76 b c),(4,.cells ((n 0).x) 31 (kc43 o h.Epoch h.N e f.length j a d.length i b c.length g)),(5,.cells ((k 2).x) 26 [vI s.Version.Epoch,vI s.Version.N])]) [(1,{ act := .load 6 0 0 [] }),(2,{ act := .store 0 0 [],key := some 5 })] (fun _ => [(A 2).x = (A 2).x,(k 2).x = (k 2).x,oC (.agg #[vI s.Version.Epoch,vI s.Version.N])]) (fun _ => ⟨rfl,rfl,rfl,trivial⟩) ?_
      intro _
      refine GS.inBlock ?_
      refine GS.tgM (fun _ => [(1,pA ((n 0).x) 0),(3,pA ((k 2).x) 0),(27,.slice e f.length j),(28,vI (f.length : Int)),(29,vI ((r + 1 : Nat) : Int))]) [(0,{ sp := some (vI ((r + 1 : Nat) : Int)) })] (fun _ => [((vI (IntKind.i64.wrap ((r : Int) + 1))) : Value) = vI ((r + 1 : Nat) : Int)]) (fun _ => ⟨natw (drop_lt U) bh,trivial⟩) ?_
      intro _
      refine GS.inLoop ?_
      refine GS.rekey (env' := [(1,pA ((n 0).x) 0),(3,pA ((k 2).x) 0),(27,.slice e f.length j),(28,vI (f.length : Int)),(29,vI ((r + 1 : Nat) : Int))]) (mem' := [(1,r52 e f),(2,r80 a d),(3,r76 b c),(4,.cells ((n 0).x) 31 (kc43 o h.Epoch h.N e f.length j a d.length i b c.length g)),(5,.cells ((k 2).x) 26 [vI s.Version.Epoch,vI s.Version.N])]) [1,3,27,28,29] [(1,1),(2,2),(3,3),(4,4),(5,5)] (by kernel_rfl) (by kernel_rfl) rfl ?_
      exact az ⟨K,r + 1,s.Version.Epoch,s.Version.N⟩ ⟨drop_next U,hm⟩ (Nat.lt_succ_self _)

theorem w_pglog_Copy_4 (F : Nat) (l : Int) (e : S_api_Version) (m : Option Addr) (p : Nat) (c : List S_api_Entry) (g : Option Addr) (o : Nat) (a : List S_api_Last) (d : Option Addr) (k : Nat) (b : List S_api_Item) {y : Int × S_api_Version × List S_api_Entry × List S_api_Last × List S_api_Item} (hm : m_pglog_Copy_4 F l e c a b = some y) : CallG Try.prog 11 #[.agg ((kc43 l e.Epoch e.N m c.length p g a.length o d b.length k)).toArray] (X := Option Addr × Nat × Option Addr × Nat × Option Addr × Nat) (fun ⟨x0,x1,x2,x3,x4,x5⟩ => .agg ((kc43 y.1 y.2.1.Epoch y.2.1.N x0 y.2.2.1.length x1 x2 y.2.2.2.1.length x3 x4 y.2.2.2.2.length x5)).toArray) [] [r52 m c,r80 g a,r76 d b] (fun ⟨x0,x1,x2,x3,x4,x5⟩ => [o52 x0 x1 y.2.2.1,o80 x2 x3 y.2.2.2.1,o76 x4 x5 y.2.2.2.2]) := by
 intro w hg
 rw [m_pglog_Copy_4] at hm
 refine GS.start (S := mayT [] [r52 m c,r80 g a,r76 d b]) (mem := [(1,r52 m c),(2,r80 g a),(3,r76 d b)]) Try.func11 rfl Try.ntmps11 (Nat.le_of_ble_eq_true rfl) (hg.start rfl) ?_
 refine GS.conv (env' := [(0,.agg ((kc43 l e.Epoch e.N m c.length p g a.length o d b.length k)).toArray)]) rfl rfl ?_
 refine GS.seq ?_
 refine GS.tz (fun i => [(1,pA ((i 0).x) 0),(2,pA ((i 1).x) 0)]) (fun i => [(1,r52 m c),(2,r80 g a),(3,r76 d b),(4,.cells ((i 0).x) 31 (kc43 l e.Epoch e.N m c.length p g a.length o d b.length k)),(5,.cells ((i 1).x) 31 (kc2))]) [(0,{ act := .new .var,key := some 4 }),(1,{ act := .new .var,key := some 5 })] ?_
 intro i
 refine GS.seq ?_
 refine grd_elim hm (fun g3 hm => ?_)
 refine GS.tg (fun h => [(1,pA ((i 0).x) 0),(2,pA ((i 1).x) 0)]) (fun h => [(2,r80 g a),(3,r76 d b),(4,.cells ((i 0).x) 31 (kc43 l e.Epoch e.N ((h 2).ob) c.length ((h 2).cap) g a.length o d b.length k)),(5,.cells ((i 1).x) 31 (kc2)),(6,.osl ((h 2).ob) ((h 2).cap) 52 7 (List.map S_api_Entry.row c))]) [(1,{ act := .load 4 0 0 [] }),(2,{ act := .app (some 1),key := some 6,spf := some (fun f => .slice (f.ob) c.length (f.cap)) }),(4,{ act := .store 0 0 [],key := some 4 })] (fun h => [(i 0).x = (i 0).x,m = m,c.length = (List.map S_api_Entry.row c).length,0 = 0,0 = 0,(List.map S_api_Entry.row c).length * (64 + 1) ≤ 70368744177664,((.slice ((h 2).ob) (0 + (List.map S_api_Entry.row c).length) ((h 2).cap)) : Value) = .slice ((h 2).ob) c.length ((h 2).cap),(i 0).x = (i 0).x,oC (.slice ((h 2).ob) c.length ((h 2).cap))]) (fun h => ⟨rfl,rfl,mlen S_api_Entry.row c,rfl,rfl,appb0 g3 (mlen S_api_Entry.row c).symm,slen (by rw [(mlen S_api_Entry.row c).symm,Nat.zero_add]),rfl,rfl,trivial⟩) ?_
 intro h
 refine GS.conv (mem' := [(2,r80 g a),(3,r76 d b),(4,.cells ((i 0).x) 31 (kc43 l e.Epoch e.N ((h 2).ob) c.length ((h 2).cap) g a.length o d b.length k)),(5,.cells ((i 1).x) 31 (kc2)),(6,o52 ((h 2).ob) ((h 2).cap) c)]) rfl (congrArg (fun rr : List (List Value) => ([(2,r80 g a),(3,r76 d b),(4,.cells ((i 0).x) 31 (kc43 l e.Epoch e.N ((h 2).ob) c.length ((h 2).cap) g a.length o d b.length k)),(5,.cells ((i 1).x) 31 (kc2)),(6,.osl ((h 2).ob) ((h 2).cap) 52 7 rr)] : List (Nat × Ent))) (show List.map S_api_Entry.row c = List.map S_api_Entry.row c from rfl)) ?_
 refine GS.seq ?_
 refine grd_elim hm (fun g5 hm => ?_)
 refine GS.tg (fun j => [(1,pA ((i 0).x) 0),(2,pA ((i 1).x) 0)]) (fun j => [(3,r76 d b),(4,.cells ((i 0).x) 31 (kc43 l e.Epoch e.N ((h 2).ob) c.length ((h 2).cap) ((j 2).ob) a.length ((j 2).cap) d b.length k)),(5,.cells ((i 1).x) 31 (kc2)),(6,o52 ((h 2).ob) ((h 2).cap) c),(7,.osl ((j 2).ob) ((j 2).cap) 80 5 (List.map S_api_Last.row a))]) [(1,{ act := .load 4 0 0 [] }),(2,{ act := .app (some 2),key := some 7,spf := some (fun f => .slice (f.ob) a.length (f.cap)) }),(4,{ act := .store 0 0 [],key := some 4 })] (fun j => [(i 0).x = (i 0).x,g = g,a.length = (List.map S_api_Last.row a).length,0 = 0,0 = 0,(List.map S_api_Last.row a).length * (40 + 1) ≤ 70368744177664,((.slice ((j 2).ob) (0 + (List.map S_api_Last.row a).length) ((j 2).cap)) : Value) = .slice ((j 2).ob) a.length ((j 2).cap),(i 0).x = (i 0).x,oC (.slice ((j 2).ob) a.length ((j 2).cap))]) (fun j => ⟨rfl,rfl,mlen S_api_Last.row a,rfl,rfl,appb0 g5 (mlen S_api_Last.row a).symm,slen (by rw [(mlen S_api_Last.row a).symm,Nat.zero_add]),rfl,rfl,trivial⟩) ?_
 intro j
 refine GS.conv (mem' := [(3,r76 d b),(4,.cells ((i 0).x) 31 (kc43 l e.Epoch e.N ((h 2).ob) c.length ((h 2).cap) ((j 2).ob) a.length ((j 2).cap) d b.length k)),(5,.cells ((i 1).x) 31 (kc2)),(6,o52 ((h 2).ob) ((h 2).cap) c),(7,o80 ((j 2).ob) ((j 2).cap) a)]) rfl (congrArg (fun rr : List (List Value) => ([(3,r76 d b),(4,.cells ((i 0).x) 31 (kc43 l e.Epoch e.N ((h 2).ob) c.length ((h 2).cap) ((j 2).ob) a.length ((j 2).cap) d b.length k)),(5,.cells ((i 1).x) 31 (kc2)),(6,o52 ((h 2).ob) ((h 2).cap) c),(7,.osl ((j 2).ob) ((j 2).cap) 80 5 rr)] : List (Nat × Ent))) (show List.map S_api_Last.row a = List.map S_api_Last.row a from rfl)) ?_
 refine GS.seq ?_
 refine grd_elim hm (fun g7 hm => ?_)
 refine GS.tg (fun n => [(1,pA ((i 0).x) 0),(2,pA ((i 1).x) 0)]) (fun n => [(4,.cells ((i 0).x) 31 (kc43 l e.Epoch e.N ((h 2).ob) c.length ((h 2).cap) ((j 2).ob) a.length ((j 2).cap) ((n 2).ob) b.length ((n 2).cap))),(5,.cells ((i 1).x) 31 (kc2)),(6,o52 ((h 2).ob) ((h 2).cap) c),(7,o80 ((j 2).ob) ((j 2).cap) a),(8,.osl ((n 2).ob) ((n 2).cap) 76 4 (List.map S_api_Item.row b))]) [(1,{ act := .load 4 0 0 [] }),(2,{ act := .app (some 3),key := some 8,spf := some (fun f => .slice (f.ob) b.length (f.cap)) }),(4,{ act := .store 0 0 [],key := some 4 })] (fun n => [(i 0).x = (i 0).x,d = d,b.length = (List.map S_api_Item.row b).length,0 = 0,0 = 0,(List.map S_api_Item.row b).length * (40 + 1) ≤ 70368744177664,((.slice ((n 2).ob) (0 + (List.map S_api_Item.row b).length) ((n 2).cap)) : Value) = .slice ((n 2).ob) b.length ((n 2).cap),(i 0).x = (i 0).x,oC (.slice ((n 2).ob) b.length ((n 2).cap))]) (fun n => ⟨rfl,rfl,mlen S_api_Item.row b,rfl,rfl,appb0 g7 (mlen S_api_Item.row b).symm,slen (by rw [(mlen S_api_Item.row b).symm,Nat.zero_add]),rfl,rfl,trivial⟩) ?_
 intro n
 refine GS.conv (mem' := [(4,.cells ((i 0).x) 31 (kc43 l e.Epoch e.N ((h 2).ob) c.length ((h 2).cap) ((j 2).ob) a.length ((j 2).cap) ((n 2).ob) b.length ((n 2).cap))),(5,.cells ((i 1).x) 31 (kc2)),(6,o52 ((h 2).ob) ((h 2).cap) c),(7,o80 ((j 2).ob) ((j 2).cap) a),(8,o76 ((n 2).ob) ((n 2).cap) b)]) rfl (congrArg (fun rr : List (List Value) => ([(4,.cells ((i 0).x) 31 (kc43 l e.Epoch e.N ((h 2).ob) c.length ((h 2).cap) ((j 2).ob) a.length ((j 2).cap) ((n 2).ob) b.length ((n 2).cap))),(5,.cells ((i 1).x) 31 (kc2)),(6,o52 ((h 2).ob) ((h 2).cap) c),(7,o80 ((j 2).ob) ((j 2).cap) a),(8,.osl ((n 2).ob) ((n 2).cap) 76 4 rr)] : List (Nat × Ent))) (show List.map S_api_Item.row b = List.map S_api_Item.row b from rfl)) ?_
 refine GS.seq ?_
 refine GS.tg (fun _ => [(2,pA ((i 1).x) 0)]) (fun _ => [(5,.cells ((i 1).x) 31 (kc43 l e.Epoch e.N ((h 2).ob) c.length ((h 2).cap) ((j 2).ob) a.length ((j 2).cap) ((n 2).ob) b.length ((n 2).cap))),(6,o52 ((h 2).ob) ((h 2).cap) c),(7,o80 ((j 2).ob) ((j 2).cap) a),(8,o76 ((n 2).ob) ((n 2).cap) b)]) [(0,{ act := .load 4 0 0 [] }),(1,{ act := .store 0 0 [],key := some 5 })] (fun _ => [(i 0).x = (i 0).x,(i 1).x = (i 1).x,oC (.agg ((kc43 l e.Epoch e.N ((h 2).ob) c.length ((h 2).cap) ((j 2).ob) a.length ((j 2).cap) ((n 2).ob) b.length ((n 2).cap))).toArray)]) (fun _ => ⟨rfl,rfl,rfl,trivial⟩) ?_
 intro _
 have hy := Option.some.inj hm
 subst hy
 refine GS.ret (fn := Try.f11) [5] [.agg ((kc43 l e.Epoch e.N ((h 2).ob) c.length ((h 2).cap) ((j 2).ob) a.length ((j 2).cap) ((n 2).ob) b.length ((n 2).cap))).toArray] [(i 1).x = (i 1).x] rfl Try.func11 (by kernel_rfl) ⟨rfl,trivial⟩ (fun w' hs => ?_)
 exact ⟨⟨(h 2).ob,(h 2).cap,(j 2).ob,(j 2).cap,(n 2).ob,(n 2).cap⟩,rfl,hs.turnedG (ks := [6,7,8]) rfl rfl⟩

end Go.Proofs.Ytjnbkhnebmlilaa
