/-
 CHAPTER 18o: the functions do what their models say (5).
-/
import Derived.Test.YtjnbkhnebmlilaaGreatE18o
import Derived.Test.YtjnbkhnebmlilaaGreatW18oa
import Derived.Test.YtjnbkhnebmlilaaGreatW18ob
set_option linter.unusedVariables false
set_option linter.unusedSimpArgs false
set_option maxRecDepth 100000
set_option maxHeartbeats 8000000
namespace Go.Proofs.YtjnbkhnebmlilaaGreat
open Go Go.RowKit Sx

theorem w_pglog_Trim (F : Nat) (v : Int) (n : S_api_Version) (m : Option Addr) (u : Nat) (q : List S_api_Entry) (c : Option Addr) (r : Nat) (j : List S_api_Last) (d : Option Addr) (s : Nat) (l : List S_api_Item) (a1 : Int) {y : Int × S_api_Version × List S_api_Entry × List S_api_Last × List S_api_Item} (hm : m_pglog_Trim F v n q j l a1 = some y) : CallG Tryz.prog 34 #[.agg ((kc15 v n.Epoch n.N m q.length u c j.length r d l.length s)).toArray,vI a1] (X := Option Addr × Nat × Option Addr × Nat × Option Addr × Nat) (fun ⟨x0,x1,x2,x3,x4,x5⟩ => .agg ((kc15 y.1 y.2.1.Epoch y.2.1.N x0 y.2.2.1.length x1 x2 y.2.2.2.1.length x3 x4 y.2.2.2.2.length x5)).toArray) [] [r31 m q,r94 c j,r91 d l] (fun ⟨x0,x1,x2,x3,x4,x5⟩ => [o31 x0 x1 y.2.2.1,o94 x2 x3 y.2.2.2.1,o91 x4 x5 y.2.2.2.2]) := by
 rw [m_pglog_Trim] at hm
 refine GS.st Tryz.func34 Tryz.ntmps34 (fun w => ?_)
 refine GS.seq ?_
 refine GS.dg [0] (fun b => [(2,pA ((b 0).x) 0),(4,pA ((b 1).x) 0)]) [] (fun b => [(4,.cells ((b 0).x) 28 (kc15 v n.Epoch n.N m q.length u c j.length r d l.length s)),(5,.cells ((b 1).x) 28 (kc1))]) [(0,hN 4),(1,hN 5)] (fun b => []) (fun b => ?_)
 refine GS.seq ?_
 refine bnd_elim hm (fun y3 e4 hm => ?_)
 refine GS.open_ ?_
 refine GR.eu 1 [] [(6,.agg ((kc15 v n.Epoch n.N m q.length u c j.length r d l.length s)).toArray)] [] [] [(0,hL 4 0 0)] [qE ((b 0).x)] ?_
 refine GR.cg (w_pglog_Copy_2 F v n m u q c r j d s l e4) [] [6,7,8] [6] [] ⟨rR 1,rR 2,rR 3,trivial⟩ ?_
 rintro ⟨x5,x6,x7,x8,x9,o⟩
 refine GR.eu 1 [7] [] [1,2,3] [(4,.cells ((b 0).x) 28 (kc15 y3.1 y3.2.1.Epoch y3.2.1.N x5 y3.2.2.1.length x6 x7 y3.2.2.2.1.length x8 x9 y3.2.2.2.2.length o))] [(2,hS 4)] [qE ((b 0).x),qE true] ?_
 refine GR.dm ?_
 refine GS.seq ?_
 refine GS.seq ?_
 refine grd_elim hm (fun D hm => ?_)
 refine GS.eg [1] [(5,vI ((y3.2.2.1.length : Int) - (if 0 > a1 then 0 else a1)))] [] [] [(1,hL 4 0 0),(5,hP (vI ((y3.2.2.1.length : Int) - (if 0 > a1 then 0 else a1))))] [qE ((b 0).x),⟨(I64.w D : oW ((y3.2.2.1.length : Int) - (if 0 > a1 then 0 else a1)))⟩] ?_
 refine GS.seq ?_
 refine GS.ez [] [(15,.bool (decide (((y3.2.2.1.length : Int) - (if 0 > a1 then 0 else a1)) > 0)))] [] ?_
 refine GS.cd (decide (((y3.2.2.1.length : Int) - (if 0 > a1 then 0 else a1)) > 0)) (fun A => ?_) (fun A => ?_)
 ·replace hm := br_t A hm
  refine GS.seq ?_
  refine grd_elim hm (fun E hm => ?_)
  refine grd_elim hm (fun B hm => ?_)
  refine GS.eg [15] [] [] [(4,.cells ((b 0).x) 28 (kc15 y3.1 (((y3.2.2.1.getD (Int.toNat (((y3.2.2.1.length : Int) - (if 0 > a1 then 0 else a1)) - 1)) dS_api_Entry).Version).Epoch) (((y3.2.2.1.getD (Int.toNat (((y3.2.2.1.length : Int) - (if 0 > a1 then 0 else a1)) - 1)) dS_api_Entry).Version).N) x5 y3.2.2.1.length x6 x7 y3.2.2.2.1.length x8 x9 y3.2.2.2.2.length o))] [(1,hL 4 0 0),(3,hP (vI (((y3.2.2.1.length : Int) - (if 0 > a1 then 0 else a1)) - 1))),(4,hA (.idx 6 (Int.toNat (((y3.2.2.1.length : Int) - (if 0 > a1 then 0 else a1)) - 1)))),(6,hR 6 (Int.toNat (((y3.2.2.1.length : Int) - (if 0 > a1 then 0 else a1)) - 1)) 0 [vI (((y3.2.2.1.getD (Int.toNat (((y3.2.2.1.length : Int) - (if 0 > a1 then 0 else a1)) - 1)) dS_api_Entry).Version).Epoch),vI (((y3.2.2.1.getD (Int.toNat (((y3.2.2.1.length : Int) - (if 0 > a1 then 0 else a1)) - 1)) dS_api_Entry).Version).N),.bool ((y3.2.2.1.getD (Int.toNat (((y3.2.2.1.length : Int) - (if 0 > a1 then 0 else a1)) - 1)) dS_api_Entry).Remove),vI ((y3.2.2.1.getD (Int.toNat (((y3.2.2.1.length : Int) - (if 0 > a1 then 0 else a1)) - 1)) dS_api_Entry).Errno),.string ((y3.2.2.1.getD (Int.toNat (((y3.2.2.1.length : Int) - (if 0 > a1 then 0 else a1)) - 1)) dS_api_Entry).Name),vI ((y3.2.2.1.getD (Int.toNat (((y3.2.2.1.length : Int) - (if 0 > a1 then 0 else a1)) - 1)) dS_api_Entry).Client),vI ((y3.2.2.1.getD (Int.toNat (((y3.2.2.1.length : Int) - (if 0 > a1 then 0 else a1)) - 1)) dS_api_Entry).Number)]),(8,hS 4)] [qE ((b 0).x),⟨(I64.w E : oW (((y3.2.2.1.length : Int) - (if 0 > a1 then 0 else a1)) - 1))⟩,qE x5,⟨(mlen S_api_Entry.row y3.2.2.1 : y3.2.2.1.length = (List.map S_api_Entry.row y3.2.2.1).length)⟩,⟨B.eq⟩,⟨B.2⟩,qE (blk x5),qE (offs x5 + (Int.toNat (((y3.2.2.1.length : Int) - (if 0 > a1 then 0 else a1)) - 1)) * 7),⟨(map_at S_api_Entry.row dS_api_Entry B.2 : (List.map S_api_Entry.row y3.2.2.1)[(Int.toNat (((y3.2.2.1.length : Int) - (if 0 > a1 then 0 else a1)) - 1))]? = some [vI (((y3.2.2.1.getD (Int.toNat (((y3.2.2.1.length : Int) - (if 0 > a1 then 0 else a1)) - 1)) dS_api_Entry).Version).Epoch),vI (((y3.2.2.1.getD (Int.toNat (((y3.2.2.1.length : Int) - (if 0 > a1 then 0 else a1)) - 1)) dS_api_Entry).Version).N),.bool ((y3.2.2.1.getD (Int.toNat (((y3.2.2.1.length : Int) - (if 0 > a1 then 0 else a1)) - 1)) dS_api_Entry).Remove),vI ((y3.2.2.1.getD (Int.toNat (((y3.2.2.1.length : Int) - (if 0 > a1 then 0 else a1)) - 1)) dS_api_Entry).Errno),.string ((y3.2.2.1.getD (Int.toNat (((y3.2.2.1.length : Int) - (if 0 > a1 then 0 else a1)) - 1)) dS_api_Entry).Name),vI ((y3.2.2.1.getD (Int.toNat (((y3.2.2.1.length : Int) - (if 0 > a1 then 0 else a1)) - 1)) dS_api_Entry).Client),vI ((y3.2.2.1.getD (Int.toNat (((y3.2.2.1.length : Int) - (if 0 > a1 then 0 else a1)) - 1)) dS_api_Entry).Number)])⟩,qE ((b 0).x),qE true] ?_
  refine grd_elim hm (fun z hm => ?_)
  refine GS.kn 6 (o31 x5 x6 y3.2.2.1) (fun _ => osl_len) (fun C => ?_)
  refine GS.open_ ?_
  refine GR.eu 4 [5] [(27,.slice (cutOb x5 (Int.toNat ((y3.2.2.1.length : Int) - (if 0 > a1 then 0 else a1))) x6 7) (((y3.2.2.1.drop (Int.toNat ((y3.2.2.1.length : Int) - (if 0 > a1 then 0 else a1)))).take (y3.2.2.1.length - (Int.toNat ((y3.2.2.1.length : Int) - (if 0 > a1 then 0 else a1))))).length) (x6 - (Int.toNat ((y3.2.2.1.length : Int) - (if 0 > a1 then 0 else a1)))))] [] [] [(1,hL 4 0 0),(3,{ act := .cut (Int.toNat ((y3.2.2.1.length : Int) - (if 0 > a1 then 0 else a1))) y3.2.2.1.length x6,sp := some (.slice (cutOb x5 (Int.toNat ((y3.2.2.1.length : Int) - (if 0 > a1 then 0 else a1))) x6 7) (((y3.2.2.1.drop (Int.toNat ((y3.2.2.1.length : Int) - (if 0 > a1 then 0 else a1)))).take (y3.2.2.1.length - (Int.toNat ((y3.2.2.1.length : Int) - (if 0 > a1 then 0 else a1))))).length) (x6 - (Int.toNat ((y3.2.2.1.length : Int) - (if 0 > a1 then 0 else a1))))) })] [qE ((b 0).x),⟨z.eq⟩,qE y3.2.2.1.length,qE x6,⟨z.2⟩,⟨((Nat.le_trans (Nat.le_refl _) C) : y3.2.2.1.length ≤ x6)⟩,⟨((Nat.le_refl _) : x6 ≤ x6)⟩,⟨((by intro h; first | rfl | cases h) : (none : Option Operand) = none → (none : Option Operand) = none)⟩,⟨(slen (by simp only [List.length_take,List.length_drop]; have h1 : y3.2.2.1.length ≤ y3.2.2.1.length := (Nat.le_refl _); have h2 : (Int.toNat ((y3.2.2.1.length : Int) - (if 0 > a1 then 0 else a1))) ≤ y3.2.2.1.length := z.2; omega) : ((.slice (if x6 = (Int.toNat ((y3.2.2.1.length : Int) - (if 0 > a1 then 0 else a1))) then x5 else (x5).map (fun a => a.add ((Int.toNat ((y3.2.2.1.length : Int) - (if 0 > a1 then 0 else a1))) * 7))) (y3.2.2.1.length - (Int.toNat ((y3.2.2.1.length : Int) - (if 0 > a1 then 0 else a1)))) (x6 - (Int.toNat ((y3.2.2.1.length : Int) - (if 0 > a1 then 0 else a1))))) : Value) = .slice (cutOb x5 (Int.toNat ((y3.2.2.1.length : Int) - (if 0 > a1 then 0 else a1))) x6 7) (((y3.2.2.1.drop (Int.toNat ((y3.2.2.1.length : Int) - (if 0 > a1 then 0 else a1)))).take (y3.2.2.1.length - (Int.toNat ((y3.2.2.1.length : Int) - (if 0 > a1 then 0 else a1))))).length) (x6 - (Int.toNat ((y3.2.2.1.length : Int) - (if 0 > a1 then 0 else a1)))))⟩] ?_
  refine GR.setMem (fun w hw => hw.da 6 (o31 x5 x6 y3.2.2.1) (r31 x5 y3.2.2.1) Cov.osl_rd) ?_
  refine GR.setMem (fun w hw => hw.ac 6 (r31 x5 y3.2.2.1) 9 (.rd (cutOb x5 (Int.toNat ((y3.2.2.1.length : Int) - (if 0 > a1 then 0 else a1))) x6 7) 7 (((List.map S_api_Entry.row y3.2.2.1).drop (Int.toNat ((y3.2.2.1.length : Int) - (if 0 > a1 then 0 else a1)))).take (y3.2.2.1.length - (Int.toNat ((y3.2.2.1.length : Int) - (if 0 > a1 then 0 else a1)))))) (rd_cut z.2 (Nat.le_trans (Nat.le_refl _) C))) ?_
  refine GR.ce 9 (fun rr : List (List Value) => .rd (cutOb x5 (Int.toNat ((y3.2.2.1.length : Int) - (if 0 > a1 then 0 else a1))) x6 7) 7 rr) (show ((List.map S_api_Entry.row y3.2.2.1).drop (Int.toNat ((y3.2.2.1.length : Int) - (if 0 > a1 then 0 else a1)))).take (y3.2.2.1.length - (Int.toNat ((y3.2.2.1.length : Int) - (if 0 > a1 then 0 else a1)))) = List.map S_api_Entry.row ((y3.2.2.1.drop (Int.toNat ((y3.2.2.1.length : Int) - (if 0 > a1 then 0 else a1)))).take (y3.2.2.1.length - (Int.toNat ((y3.2.2.1.length : Int) - (if 0 > a1 then 0 else a1))))) from (by simp only [List.drop_zero,Nat.sub_zero,List.map_take,List.map_drop])) ?_
  refine grd_elim hm (fun G hm => ?_)
  refine GR.du 3 [27] (fun e => []) [6,9] (fun e => [(4,.cells ((b 0).x) 28 (kc15 y3.1 (((y3.2.2.1.getD (Int.toNat (((y3.2.2.1.length : Int) - (if 0 > a1 then 0 else a1)) - 1)) dS_api_Entry).Version).Epoch) (((y3.2.2.1.getD (Int.toNat (((y3.2.2.1.length : Int) - (if 0 > a1 then 0 else a1)) - 1)) dS_api_Entry).Version).N) ((e 4).ob) (((y3.2.2.1.drop (Int.toNat ((y3.2.2.1.length : Int) - (if 0 > a1 then 0 else a1)))).take (y3.2.2.1.length - (Int.toNat ((y3.2.2.1.length : Int) - (if 0 > a1 then 0 else a1))))).length) ((e 4).cap) x7 y3.2.2.2.1.length x8 x9 y3.2.2.2.2.length o)),(10,.osl ((e 4).ob) ((e 4).cap) 31 7 (List.map S_api_Entry.row ((y3.2.2.1.drop (Int.toNat ((y3.2.2.1.length : Int) - (if 0 > a1 then 0 else a1)))).take (y3.2.2.1.length - (Int.toNat ((y3.2.2.1.length : Int) - (if 0 > a1 then 0 else a1)))))))]) [(4,{ act := .app (some 9),key := some 10,spf := some (fun f => .slice (f.ob) (((y3.2.2.1.drop (Int.toNat ((y3.2.2.1.length : Int) - (if 0 > a1 then 0 else a1)))).take (y3.2.2.1.length - (Int.toNat ((y3.2.2.1.length : Int) - (if 0 > a1 then 0 else a1))))).length) (f.cap)) }),(6,hS 4)] (fun e => [qE (cutOb x5 (Int.toNat ((y3.2.2.1.length : Int) - (if 0 > a1 then 0 else a1))) x6 7),⟨(mlen S_api_Entry.row ((y3.2.2.1.drop (Int.toNat ((y3.2.2.1.length : Int) - (if 0 > a1 then 0 else a1)))).take (y3.2.2.1.length - (Int.toNat ((y3.2.2.1.length : Int) - (if 0 > a1 then 0 else a1))))) : ((y3.2.2.1.drop (Int.toNat ((y3.2.2.1.length : Int) - (if 0 > a1 then 0 else a1)))).take (y3.2.2.1.length - (Int.toNat ((y3.2.2.1.length : Int) - (if 0 > a1 then 0 else a1))))).length = (List.map S_api_Entry.row ((y3.2.2.1.drop (Int.toNat ((y3.2.2.1.length : Int) - (if 0 > a1 then 0 else a1)))).take (y3.2.2.1.length - (Int.toNat ((y3.2.2.1.length : Int) - (if 0 > a1 then 0 else a1)))))).length)⟩,qE 0,qE 0,⟨(appb0 G (mlen S_api_Entry.row ((y3.2.2.1.drop (Int.toNat ((y3.2.2.1.length : Int) - (if 0 > a1 then 0 else a1)))).take (y3.2.2.1.length - (Int.toNat ((y3.2.2.1.length : Int) - (if 0 > a1 then 0 else a1)))))).symm : (List.map S_api_Entry.row ((y3.2.2.1.drop (Int.toNat ((y3.2.2.1.length : Int) - (if 0 > a1 then 0 else a1)))).take (y3.2.2.1.length - (Int.toNat ((y3.2.2.1.length : Int) - (if 0 > a1 then 0 else a1)))))).length * (64 + 1) ≤ 70368744177664)⟩,⟨(slen (by rw [(mlen S_api_Entry.row ((y3.2.2.1.drop (Int.toNat ((y3.2.2.1.length : Int) - (if 0 > a1 then 0 else a1)))).take (y3.2.2.1.length - (Int.toNat ((y3.2.2.1.length : Int) - (if 0 > a1 then 0 else a1)))))).symm,Nat.zero_add]) : ((.slice ((e 4).ob) (0 + (List.map S_api_Entry.row ((y3.2.2.1.drop (Int.toNat ((y3.2.2.1.length : Int) - (if 0 > a1 then 0 else a1)))).take (y3.2.2.1.length - (Int.toNat ((y3.2.2.1.length : Int) - (if 0 > a1 then 0 else a1)))))).length) ((e 4).cap)) : Value) = .slice ((e 4).ob) (((y3.2.2.1.drop (Int.toNat ((y3.2.2.1.length : Int) - (if 0 > a1 then 0 else a1)))).take (y3.2.2.1.length - (Int.toNat ((y3.2.2.1.length : Int) - (if 0 > a1 then 0 else a1))))).length) ((e 4).cap))⟩,qE ((b 0).x),qE true]) (fun e => ?_)
  refine GR.ce 10 (fun rr : List (List Value) => .osl ((e 4).ob) ((e 4).cap) 31 7 rr) (show List.map S_api_Entry.row ((y3.2.2.1.drop (Int.toNat ((y3.2.2.1.length : Int) - (if 0 > a1 then 0 else a1)))).take (y3.2.2.1.length - (Int.toNat ((y3.2.2.1.length : Int) - (if 0 > a1 then 0 else a1))))) = List.map S_api_Entry.row ((y3.2.2.1.drop (Int.toNat ((y3.2.2.1.length : Int) - (if 0 > a1 then 0 else a1)))).take (y3.2.2.1.length - (Int.toNat ((y3.2.2.1.length : Int) - (if 0 > a1 then 0 else a1))))) from rfl) ?_
  refine GR.dm ?_
  refine GS.seq ?_
  refine GS.eg [2] [] [4] [(5,.cells ((b 1).x) 28 (kc15 y3.1 (((y3.2.2.1.getD (Int.toNat (((y3.2.2.1.length : Int) - (if 0 > a1 then 0 else a1)) - 1)) dS_api_Entry).Version).Epoch) (((y3.2.2.1.getD (Int.toNat (((y3.2.2.1.length : Int) - (if 0 > a1 then 0 else a1)) - 1)) dS_api_Entry).Version).N) ((e 4).ob) (((y3.2.2.1.drop (Int.toNat ((y3.2.2.1.length : Int) - (if 0 > a1 then 0 else a1)))).take (y3.2.2.1.length - (Int.toNat ((y3.2.2.1.length : Int) - (if 0 > a1 then 0 else a1))))).length) ((e 4).cap) x7 y3.2.2.2.1.length x8 x9 y3.2.2.2.2.length o))] [(0,hL 4 0 0),(1,hS 5)] [qE ((b 0).x),qE ((b 1).x),qE true] ?_
  have hy := Option.some.inj hm
  subst hy
  exact GS.rv [5] [qE ((b 1).x)] Tryz.func34 ⟨(e 4).ob,(e 4).cap,x7,x8,x9,o⟩ [10,7,8]
 ·replace hm := br_f A hm
  refine GS.skip ?_
  refine GS.seq ?_
  refine GS.eg [2,5,15] [] [4] [(5,.cells ((b 1).x) 28 (kc15 y3.1 y3.2.1.Epoch y3.2.1.N x5 y3.2.2.1.length x6 x7 y3.2.2.2.1.length x8 x9 y3.2.2.2.2.length o))] [(0,hL 4 0 0),(1,hS 5)] [qE ((b 0).x),qE ((b 1).x),qE true] ?_
  have hy := Option.some.inj hm
  subst hy
  exact GS.rv [5] [qE ((b 1).x)] Tryz.func34 ⟨x5,x6,x7,x8,x9,o⟩ [6,7,8]

theorem w_primary_copied (F : Nat) (e : ByteArray) (f j : Int) (a : Option Addr) (d : Nat) (c : List UInt8) {y : List UInt8} (hm : m_primary_copied F e f j c = some y) : CallG Tryz.prog 44 #[.agg ((kc37 e f j a c.length d)).toArray] (X := Option Addr × Nat) (fun ⟨x0,x1⟩ => .agg ((kc37 e f j x0 y.length x1)).toArray) [] [r5 a c] (fun ⟨x0,x1⟩ => [o5 x0 x1 y]) := by
 rw [m_primary_copied] at hm
 refine GS.st Tryz.func44 Tryz.ntmps44 (fun w => ?_)
 refine GS.seq ?_
 refine GS.dg [0] (fun b => [(1,pA ((b 0).x) 0),(2,pA ((b 1).x) 0)]) [] (fun b => [(2,.cells ((b 0).x) 62 (kc37 e f j a c.length d)),(3,.cells ((b 1).x) 62 (kc42))]) [(0,hN 2),(1,hN 3)] (fun b => []) (fun b => ?_)
 refine GS.seq ?_
 refine bnd_elim hm (fun y3 e4 hm => ?_)
 refine GS.open_ ?_
 refine GR.eu 2 [] [(4,.slice a c.length d)] [] [] [(1,hL 2 0 0)] [qE ((b 0).x)] ?_
 refine GR.cg (w_slices_Clone___byte_byte_ F a d c e4) [] [4] [4] [] ⟨rR 1,trivial⟩ ?_
 rintro ⟨x5,x6⟩
 refine GR.eu 2 [5] [] [1] [(2,.cells ((b 0).x) 62 (kc37 e f j x5 y3.length x6))] [(4,hS 2)] [qE ((b 0).x),qE true] ?_
 refine GR.dm ?_
 refine GS.seq ?_
 refine GS.eg [1] [] [2] [(3,.cells ((b 1).x) 62 (kc37 e f j x5 y3.length x6))] [(0,hL 2 0 0),(1,hS 3)] [qE ((b 0).x),qE ((b 1).x),qE true] ?_
 have hy := Option.some.inj hm
 subst hy
 exact GS.rv [3] [qE ((b 1).x)] Tryz.func44 ⟨x5,x6⟩ [4]

theorem w___primary_Machine__stored (F bl : Nat) (az : Option Addr) (bd : Nat) (bh bi bj : Int) (av : Option Addr) (ba : Nat) (a9 : List S_api_Entry) (ar : Option Addr) (a7 : Nat) (aw : List S_api_Last) (au : Option Addr) (a8 : Nat) (ax : List S_api_Item) (ay : Option Addr) (bb m : Nat) (ag ah ai aj ak al am an ao ap r s u z A B C D E G H I J : Int) (K : Bool) (L : Int) (M : ByteArray) (O P : Int) (Q : ByteArray) (R T U : Int) (V : ByteArray) (c : Option Addr) (n : Nat) (l : List UInt8) (W Y Z aa ab : Int) (p : Bool) (q : Int) (ac : ByteArray) (ad ae : Int) (e : ByteArray) (f j : Int) (a : Option Addr) (k : Nat) (b : List UInt8) (af : Int) (d : Option Addr) (o : Nat) (bg : Int) {y : R___primary_Machine__stored} (hm : m___primary_Machine__stored F bh bi bj a9 aw ax ag ah ai aj ak al am an ao ap r s u z A B C D E G H I J K L M O P Q R T U V l W Y Z aa ab p q ac ad ae e f j b af bg = some y) : CallG Tryz.prog 90 #[pA bl 0,pA m 0,.agg ((kc13)).toArray] (X := Option Addr × Nat × Option Addr × Nat × Option Addr × Nat × Option Addr × Nat) (fun ⟨x0,x1,x2,x3,x4,x5,x6,x7⟩ => .agg ((kc43 y.a0 y.a1 y.a2 x0 y.a3.length x1 x2 y.a4.length x3 x4 y.a5.length x5 e f j x6 y.a6.length x7)).toArray) [] [.rd az 1 [[vI 1]],r31 av a9,r94 ar aw,r91 au ax,.rd ay 46 [],r5 c l,r5 a b,.rd d 1 [[vI 1]],.rd (some ⟨m,0,none⟩) 61 [(kc40 ag ah ai aj ak al am an ao ap r s u z A B C D E G H I J K L M O P Q R T U V c l.length n W Y Z aa ab p q ac ad ae e f j a b.length k af d o)],.rd (some ⟨bl,0,none⟩) 17 [(kc39 az bd bh bi bj av a9.length ba ar aw.length a7 au ax.length a8 ay bb m bg)]] (fun ⟨x0,x1,x2,x3,x4,x5,x6,x7⟩ => [o31 x0 x1 y.a3,o94 x2 x3 y.a4,o91 x4 x5 y.a5,o5 x6 x7 y.a6]) := by
 rw [m___primary_Machine__stored] at hm
 refine GS.st Tryz.func90 Tryz.ntmps90 (fun w => ?_)
 refine GS.seq ?_
 refine GS.dg [2] (fun aq => [(5,pA ((aq 0).x) 0),(6,pA ((aq 1).x) 0)]) [] (fun aq => [(11,.cells ((aq 0).x) 68 (kc13)),(12,.cells ((aq 1).x) 68 (kc13))]) [(0,hN 11),(1,hN 12)] (fun aq => []) (fun aq => ?_)
 refine GS.seq ?_
 refine bnd_elim hm (fun y3 e4 hm => ?_)
 refine GS.open_ ?_
 refine GR.eu 4 [0] [(10,.agg ((kc15 bh bi bj av a9.length ba ar aw.length a7 au ax.length a8)).toArray)] [1,5,10] [] [(3,hR 10 0 6 (kc39 az bd bh bi bj av a9.length ba ar aw.length a7 au ax.length a8 ay bb m bg))] [qE bl,qE (offs (some ⟨bl,0,none⟩) + (0 * 17 + 6)),qE (some (kc39 az bd bh bi bj av a9.length ba ar aw.length a7 au ax.length a8 ay bb m bg))] ?_
 refine GR.cg (w_pglog_Copy_2 F bh (S_api_Version.mk bi bj) av ba a9 ar a7 aw au a8 ax e4) [] [13,14,15] [10] [] ⟨rR 2,rR 3,rR 4,trivial⟩ ?_
 rintro ⟨x5,x6,x7,x8,x9,bc⟩
 refine GR.eu 4 [11] [] [2,3,4] [(11,.cells ((aq 0).x) 68 (kc41 y3.1 y3.2.1.Epoch y3.2.1.N x5 y3.2.2.1.length x6 x7 y3.2.2.2.1.length x8 x9 y3.2.2.2.2.length bc))] [(6,hS 11),(8,hS 11)] [qE ((aq 0).x),qE true,qE ((aq 0).x),qE true] ?_
 refine GR.dm ?_
 refine GS.seq ?_
 refine GS.seq ?_
 refine GS.eg [] [(19,.bool (q == 0))] [] [] [(4,hR 9 0 50 (kc40 ag ah ai aj ak al am an ao ap r s u z A B C D E G H I J K L M O P Q R T U V c l.length n W Y Z aa ab p q ac ad ae e f j a b.length k af d o))] [qE m,qE (offs (some ⟨m,0,none⟩) + (0 * 61 + 50)),qE (some (kc40 ag ah ai aj ak al am an ao ap r s u z A B C D E G H I J K L M O P Q R T U V c l.length n W Y Z aa ab p q ac ad ae e f j a b.length k af d o))] ?_
 refine grd_elim hm (fun bm hm => ?_)
 refine GS.cd (q == 0) (fun _ => ?_) (fun bn => absb (bm) bn)
 refine GS.seq ?_
 refine GS.eg [19] [(24,.bool p)] [] [] [(4,hR 9 0 49 (kc40 ag ah ai aj ak al am an ao ap r s u z A B C D E G H I J K L M O P Q R T U V c l.length n W Y Z aa ab p q ac ad ae e f j a b.length k af d o))] [qE m,qE (offs (some ⟨m,0,none⟩) + (0 * 61 + 49)),qE (some (kc40 ag ah ai aj ak al am an ao ap r s u z A B C D E G H I J K L M O P Q R T U V c l.length n W Y Z aa ab p q ac ad ae e f j a b.length k af d o))] ?_
 refine grd_elim hm (fun bo hm => ?_)
 refine GS.cd p (fun bp => absb bp (bo)) (fun _ => ?_)
 refine bnd_elim hm (fun bk bq hm => ?_)
 refine GS.open_ ?_
 refine GR.eu 4 [1,24] [(35,.agg ((kc37 e f j a b.length k)).toArray)] [6,8,9] [] [(3,hR 9 0 54 (kc40 ag ah ai aj ak al am an ao ap r s u z A B C D E G H I J K L M O P Q R T U V c l.length n W Y Z aa ab p q ac ad ae e f j a b.length k af d o))] [qE m,qE (offs (some ⟨m,0,none⟩) + (0 * 61 + 54)),qE (some (kc40 ag ah ai aj ak al am an ao ap r s u z A B C D E G H I J K L M O P Q R T U V c l.length n W Y Z aa ab p q ac ad ae e f j a b.length k af d o))] ?_
 refine GR.cg (w_primary_copied F e f j a k b bq) [] [16] [35] [] ⟨rR 7,trivial⟩ ?_
 rintro ⟨be,bf⟩
 refine GR.eu 4 [36] [] [7] [(11,.cells ((aq 0).x) 68 (kc43 y3.1 y3.2.1.Epoch y3.2.1.N x5 y3.2.2.1.length x6 x7 y3.2.2.2.1.length x8 x9 y3.2.2.2.2.length bc e f j be bk.length bf))] [(6,hS 11),(8,hS 11)] [qE ((aq 0).x),qE true,qE ((aq 0).x),qE true] ?_
 refine GR.dm ?_
 refine GS.seq ?_
 refine GS.eg [5] [] [11] [(12,.cells ((aq 1).x) 68 (kc43 y3.1 y3.2.1.Epoch y3.2.1.N x5 y3.2.2.1.length x6 x7 y3.2.2.2.1.length x8 x9 y3.2.2.2.2.length bc e f j be bk.length bf))] [(0,hL 11 0 0),(1,hS 12)] [qE ((aq 0).x),qE ((aq 1).x),qE true] ?_
 have hy := Option.some.inj hm
 subst hy
 exact GS.rv [12] [qE ((aq 1).x)] Tryz.func90 ⟨x5,x6,x7,x8,x9,bc,be,bf⟩ [13,14,15,16]

theorem w___primary_Machine__to_2 (F q : Nat) (i j k l m a b c d e f g : Value) (W ad ae af ag Z aa ab ac Y r s t u v z A B C D E G H : Int) (I : Bool) (J : Int) (K : ByteArray) (L M : Int) (N : ByteArray) (O P : Int) (h : Option Addr) (p : Nat) (n : List UInt8) (Q : Int) (R : ByteArray) (T U V : Int) {y : Unit} (hm : m___primary_Machine__to_2 F W ad ae af ag Z aa ab ac Y r s t u v z A B C D E G H I J K L M N O P n Q R T U V = some y) : CallG Tryz.prog 70 #[pA q 0,vI 1,.agg ((kc46 W ad ae af ag Z aa ab ac Y r s t u v z A B C D E G H I J K L M N O P h n.length p Q R T U V)).toArray] (X := Unit) (fun (_ : Unit) => .agg ((kc48 W Y r s t u v z A B C D E G H I J K L M N O P h n.length p Q R T U V)).toArray) [] [.rd (some ⟨q,0,none⟩) 17 [(kc18 i j k l m a b c d e f g)],r5 h n] (fun (_ : Unit) => []) := by
 rw [m___primary_Machine__to_2] at hm
 refine GS.st Tryz.func70 Tryz.ntmps70 (fun w => ?_)
 refine GS.seq ?_
 refine GS.dg [2] (fun o => [(5,pA ((o 0).x) 0),(6,pA ((o 1).x) 0)]) [] (fun o => [(3,.cells ((o 0).x) 65 (kc46 W ad ae af ag Z aa ab ac Y r s t u v z A B C D E G H I J K L M N O P h n.length p Q R T U V)),(4,.cells ((o 1).x) 65 (kc19))]) [(0,hN 3),(1,hN 4)] (fun o => []) (fun o => ?_)
 refine GS.seq ?_
 refine GS.eg [1] [] [] [(3,.cells ((o 0).x) 65 (kc47 W Z aa ab ac Y r s t u v z A B C D E G H I J K L M N O P h n.length p Q R T U V))] [(3,hR 1 0 3 (kc18 i j k l m a b c d e f g)),(8,hS 3),(10,hS 3)] [qE q,qE (offs (some ⟨q,0,none⟩) + (0 * 17 + 3)),qE (some (kc18 i j k l m a b c d e f g)),qE ((o 0).x),qE true,qE ((o 0).x),qE true] ?_
 refine GS.seq ?_
 refine GS.yg [0] [] [1] [(3,.cells ((o 0).x) 65 (kc48 W Y r s t u v z A B C D E G H I J K L M N O P h n.length p Q R T U V))] [(3,hR 1 0 4 (kc18 i j k l m a b c d e f g)),(7,hR 1 0 0 (kc18 i j k l m a b c d e f g)),(11,hR 1 0 2 (kc18 i j k l m a b c d e f g)),(13,hS 3),(15,hS 3),(17,hS 3)] [qE q,qE (offs (some ⟨q,0,none⟩) + (0 * 17 + 4)),qE (some (kc18 i j k l m a b c d e f g)),qE q,qE (offs (some ⟨q,0,none⟩) + (0 * 17 + 0)),qE (some (kc18 i j k l m a b c d e f g)),qE q,qE (offs (some ⟨q,0,none⟩) + (0 * 17 + 2)),qE (some (kc18 i j k l m a b c d e f g)),qE ((o 0).x),qE true,qE ((o 0).x),qE true,qE ((o 0).x),qE true] ?_
 refine GS.seq ?_
 refine GS.eg [5] [] [3] [(4,.cells ((o 1).x) 65 (kc48 W Y r s t u v z A B C D E G H I J K L M N O P h n.length p Q R T U V))] [(0,hL 3 0 0),(1,hS 4)] [qE ((o 0).x),qE ((o 1).x),qE true] ?_
 have hy := Option.some.inj hm
 subst hy
 exact GS.rv [4] [qE ((o 1).x)] Tryz.func70 () []

theorem w___primary_Machine__ask (F a6 : Nat) (a0 a1 a2 a3 a4 au av aw : Value) (o : Nat) (ah ai aj ak al am an ao ap aq p q r s u v z A B C D E G H I J K L M N O P Q R T U V W Y Z aa ab ac ad ae af : Value) (e g : Int) (h : Bool) (i : Int) (j : ByteArray) (k l : Int) (b : ByteArray) (c d : Int) (a : Option Addr) (n : Nat) (m : List UInt8) (ar : Int) (ag ax ay az : Value) {y : List UInt8} (hm : m___primary_Machine__ask F e g h i j k l b c d m ar = some y) : CallG Tryz.prog 49 #[pA a6 0,vI 1] (X := Option Addr × Nat) (fun ⟨x0,x1⟩ => .agg ((kc50 e g h i j k l b c d x0 y.length x1)).toArray) [] [r5 a m,.rd (some ⟨o,0,none⟩) 61 [(kc44 ah ai aj ak al am an ao ap aq p q r s u v z A B C D E G H I J K L M N O P Q R T U V W Y Z aa ab ac ad ae af e g h i j k l b c d a m.length n ar ag)],.rd (some ⟨a6,0,none⟩) 17 [(kc45 a0 a1 a2 a3 a4 au av aw o ax ay az)]] (fun ⟨x0,x1⟩ => [o5 x0 x1 y]) := by
 rw [m___primary_Machine__ask] at hm
 refine GS.st Tryz.func49 Tryz.ntmps49 (fun w => ?_)
 refine GS.seq ?_
 refine GS.dg [] (fun a7 => [(4,pA ((a7 0).x) 0)]) [] (fun a7 => [(4,.cells ((a7 0).x) 65 (kc19))]) [(0,hN 4)] (fun a7 => []) (fun a7 => ?_)
 refine GS.seq ?_
 refine GS.eg [] [(5,pA o 0)] [] [] [(3,hR 3 0 13 (kc45 a0 a1 a2 a3 a4 au av aw o ax ay az))] [qE a6,qE (offs (some ⟨a6,0,none⟩) + (0 * 17 + 13)),qE (some (kc45 a0 a1 a2 a3 a4 au av aw o ax ay az))] ?_
 refine GS.seq ?_
 refine GS.seq ?_
 refine GS.eg [] [(13,.bool true)] [] [] [(3,hR 2 0 46 (kc44 ah ai aj ak al am an ao ap aq p q r s u v z A B C D E G H I J K L M N O P Q R T U V W Y Z aa ab ac ad ae af e g h i j k l b c d a m.length n ar ag))] [qE o,qE (offs (some ⟨o,0,none⟩) + (0 * 61 + 46)),qE (some (kc44 ah ai aj ak al am an ao ap aq p q r s u v z A B C D E G H I J K L M N O P Q R T U V W Y Z aa ab ac ad ae af e g h i j k l b c d a m.length n ar ag))] ?_
 refine GS.cT ?_
 refine GS.seq ?_
 refine bnd_elim hm (fun y5 e6 hm => ?_)
 refine bnd_elim hm (fun y9 a8 hm => ?_)
 refine GS.xg [0,1,5,13] (fun a5 => []) [1,2,3] (fun a5 => [(4,.cells ((a7 0).x) 65 (kc50 e g h i j k l b c d (((a5 10).xs.getD 0 (none,0)).1) y5.length (((a5 10).xs.getD 1 (none,0)).2))),(5,o5 (((a5 10).xs.getD 0 (none,0)).1) (((a5 10).xs.getD 1 (none,0)).2) y5)]) [(5,hR 2 0 47 (kc44 ah ai aj ak al am an ao ap aq p q r s u v z A B C D E G H I J K L M N O P Q R T U V W Y Z aa ab ac ad ae af e g h i j k l b c d a m.length n ar ag)),(9,hR 2 0 54 (kc44 ah ai aj ak al am an ao ap aq p q r s u v z A B C D E G H I J K L M N O P Q R T U V W Y Z aa ab ac ad ae af e g h i j k l b c d a m.length n ar ag)),(10,hK (.calln [1] (fun f => .agg ((kc37 b c d (f.xs.getD 0 (none,0)).1 y5.length (f.xs.getD 1 (none,0)).2)).toArray) (fun f => o5 (f.xs.getD 0 (none,0)).1 (f.xs.getD 1 (none,0)).2 y5)) 5),(12,hA (.callv [3,5] (fun args => .agg #[vI 32,vI 2,vI 0,vI 2,vI 1,vI 9,vI 3,vI 1,vI 0,vI 0,vI 0,vI 0,.slice none 0 0,.slice none 0 0,.slice none 0 0,vI 0,vI 0,vI 0,vI 0,vI 0,vI 0,vI 0,vI 0,vI 0,.slice none 0 0,.slice none 0 0,.slice none 0 0,vI e,vI g,.bool h,vI i,.string j,vI k,vI l,.string b,vI c,vI d,argCell args 2 37,vI 0,.string (ByteArray.mk #[]),.slice none 0 0,vI 0,vI 0,.slice none 0 0,.slice none 0 0,vI 0]))),(13,hS 4)] (fun a5 => [qE o,qE (offs (some ⟨o,0,none⟩) + (0 * 61 + 47)),qE (some (kc44 ah ai aj ak al am an ao ap aq p q r s u v z A B C D E G H I J K L M N O P Q R T U V W Y Z aa ab ac ad ae af e g h i j k l b c d a m.length n ar ag)),qE o,qE (offs (some ⟨o,0,none⟩) + (0 * 61 + 54)),qE (some (kc44 ah ai aj ak al am an ao ap aq p q r s u v z A B C D E G H I J K L M N O P Q R T U V W Y Z aa ab ac ad ae af e g h i j k l b c d a m.length n ar ag)),⟨((by have h1 := w_primary_copied F b c d a n m e6; exact CallG.toN1 h1 ⟨(.inl ⟨_,mm0,Cov.refl _⟩),trivial⟩ (fun x => ⟨0,none,0,[(x.1,0),(none,x.2)],fun _ _ => (none,0)⟩) (fun _ => rfl) (fun _ => rfl) (fun _ => rfl)) : CallN Tryz.prog 44 #[.agg ((kc37 b c d a m.length n)).toArray] (fun f => .agg ((kc37 b c d (f.xs.getD 0 (none,0)).1 y5.length (f.xs.getD 1 (none,0)).2)).toArray) (fun f => o5 (f.xs.getD 0 (none,0)).1 (f.xs.getD 1 (none,0)).2 y5) [some (r5 a m)])⟩,⟨(w___primary_Machine__to_2 F a6 a0 a1 a2 a3 a4 au av aw (pA o 0) ax ay az 32 0 0 0 0 0 0 0 0 0 0 0 0 0 0 0 0 0 0 0 0 e g h i j k l b c d (((a5 10).xs.getD 0 (none,0)).1) (((a5 10).xs.getD 1 (none,0)).2) y5 0 (ByteArray.mk #[]) 0 0 0 a8).ok (es := [some (.rd (some ⟨a6,0,none⟩) 17 [(kc45 a0 a1 a2 a3 a4 au av aw o ax ay az)]),some (o5 (((a5 10).xs.getD 0 (none,0)).1) (((a5 10).xs.getD 1 (none,0)).2) y5)]) ⟨(.inl ⟨_,mm0,Cov.refl _⟩),(.inl ⟨_,mm1,Cov.osl_rd⟩),trivial⟩⟩,qE ((a7 0).x),qE true]) (fun a5 => ?_)
 have hy := Option.some.inj hm
 subst hy
 exact GS.rv [4] [qE ((a7 0).x)] Tryz.func49 ⟨((a5 10).xs.getD 0 (none,0)).1,((a5 10).xs.getD 1 (none,0)).2⟩ [5]

theorem w___primary_Machine__done (F bw : Nat) (ar : Option Addr) (bi : Nat) (bq br bs : Int) (au : Option Addr) (bj : Nat) (bo : List S_api_Entry) (l : Option Addr) (ba : Nat) (a8 : List S_api_Last) (m : Option Addr) (bb : Nat) (a9 : List S_api_Item) (n : Option Addr) (bc h : Nat) (ay az a0 a1 a2 a3 a4 a5 a6 a7 z A B C D E G H I J K L M : Int) (N : Bool) (O : Int) (P : ByteArray) (Q R : Int) (T : ByteArray) (U V W : Int) (Y : ByteArray) (b : Option Addr) (o : Nat) (f : List UInt8) (Z aa ab ac ad : Int) (ae : Bool) (af : Int) (ag : ByteArray) (ah ai : Int) (aj : ByteArray) (ak al : Int) (c : Option Addr) (p : Nat) (g : List UInt8) (am : Int) (d : Option Addr) (q : Nat) (bp bt bu bv : Int) (s : Option Addr) (bk : Nat) (bf : List S_api_Entry) (u : Option Addr) (bl : Nat) (bg : List S_api_Last) (v : Option Addr) (bm : Nat) (bh : List S_api_Item) (av : ByteArray) (aw k : Int) (i : Option Addr) (bd : Nat) (ax : List UInt8) (j : Option Addr) (be : Nat) (an : Bool) (ao ap aq : Int) (a : Option Addr) (r : Nat) (e : List UInt8) {y : Unit} (hm : m___primary_Machine__done F bq br bs bo a8 a9 ay az a0 a1 a2 a3 a4 a5 a6 a7 z A B C D E G H I J K L M N O P Q R T U V W Y f Z aa ab ac ad ae af ag ah ai aj ak al g am bp bt bu bv bf bg bh av aw k ax an ao ap aq e = some y) : CallG Tryz.prog 69 #[pA bw 0,.agg ((kc51 bt bu bv s bf.length bk u bg.length bl v bh.length bm av aw k i ax.length bd j be)).toArray] (X := Unit) (fun (_ : Unit) => .agg ((kc51 bt bu bv s bf.length bk u bg.length bl v bh.length bm av aw k i ax.length bd j be)).toArray) [] [.rd ar 1 [[vI 1]],r31 au bo,r94 l a8,r91 m a9,.rd n 46 [],r5 b f,r5 c g,.rd d 1 [[vI 1]],.rd (some ⟨h,0,none⟩) 61 [(kc40 ay az a0 a1 a2 a3 a4 a5 a6 a7 z A B C D E G H I J K L M N O P Q R T U V W Y b f.length o Z aa ab ac ad ae af ag ah ai aj ak al c g.length p am d q)],.rd (some ⟨bw,0,none⟩) 17 [(kc39 ar bi bq br bs au bo.length bj l a8.length ba m a9.length bb n bc h bp)],r31 s bf,r94 u bg,r91 v bh,r5 i ax,r5 a e,.rd j 46 [(kc50 aw k an ao av ap aq av aw k a e.length r)]] (fun (_ : Unit) => []) := by
 rw [m___primary_Machine__done] at hm
 refine GS.st Tryz.func69 Tryz.ntmps69 (fun w => ?_)
 refine GS.seq ?_
 refine GS.dg [1] (fun bn => [(3,pA ((bn 0).x) 0),(4,pA ((bn 1).x) 0)]) [] (fun bn => [(17,.cells ((bn 0).x) 68 (kc51 bt bu bv s bf.length bk u bg.length bl v bh.length bm av aw k i ax.length bd j be)),(18,.cells ((bn 1).x) 68 (kc13))]) [(0,hN 17),(1,hN 18)] (fun bn => []) (fun bn => ?_)
 refine GS.seq ?_
 refine GS.eg [] [(5,pA h 0)] [] [] [(3,hR 10 0 13 (kc39 ar bi bq br bs au bo.length bj l a8.length ba m a9.length bb n bc h bp))] [qE bw,qE (offs (some ⟨bw,0,none⟩) + (0 * 17 + 13)),qE (some (kc39 ar bi bq br bs au bo.length bj l a8.length ba m a9.length bb n bc h bp))] ?_
 refine GS.seq ?_
 refine GS.seq ?_
 refine GS.eg [] [(25,.bool true)] [] [] [(6,hR 9 0 59 (kc40 ay az a0 a1 a2 a3 a4 a5 a6 a7 z A B C D E G H I J K L M N O P Q R T U V W Y b f.length o Z aa ab ac ad ae af ag ah ai aj ak al c g.length p am d q))] [qE h,qE (offs (some ⟨h,0,none⟩) + (0 * 61 + 59)),qE (some (kc40 ay az a0 a1 a2 a3 a4 a5 a6 a7 z A B C D E G H I J K L M N O P Q R T U V W Y b f.length o Z aa ab ac ad ae af ag ah ai aj ak al c g.length p am d q))] ?_
 refine GS.cT ?_
 refine GS.seq ?_
 refine GS.eg [0,3,5,25] [] [1,2,3,4,5,6,7,8,9,10,17] [(18,.cells ((bn 1).x) 68 (kc51 bt bu bv s bf.length bk u bg.length bl v bh.length bm av aw k i ax.length bd j be))] [(0,hL 17 0 0),(1,hS 18)] [qE ((bn 0).x),qE ((bn 1).x),qE true] ?_
 have hy := Option.some.inj hm
 subst hy
 exact GS.rv [18] [qE ((bn 1).x)] Tryz.func69 () []

theorem w_slices_Clone___byte_byte__2 (F : Nat) {y : Unit} (hm : m_slices_Clone___byte_byte__2 F = some y) : CallG Tryz.prog 67 #[.slice none 0 0] (X := Unit) (fun (_ : Unit) => .slice none 0 0) [] [] (fun (_ : Unit) => []) := by
 rw [m_slices_Clone___byte_byte__2] at hm
 refine GS.st Tryz.func67 Tryz.ntmps67 (fun w => ?_)
 refine GS.seq ?_
 refine GS.ez [] [] [] ?_
 refine GS.seq ?_
 refine GS.seq ?_
 refine GS.ez [] [(4,.bool true)] [] ?_
 refine GS.cT ?_
 refine GS.seq ?_
 refine GS.ez [0,4] [(2,.slice none 0 0)] [] ?_
 have hy := Option.some.inj hm
 subst hy
 exact GS.rv [0] [] Tryz.func67 () []

theorem w_primary_copied_2 (F : Nat) (b : ByteArray) (c d : Int) {y : Unit} (hm : m_primary_copied_2 F b c d = some y) : CallG Tryz.prog 44 #[.agg ((kc21 b c d)).toArray] (X := Unit) (fun (_ : Unit) => .agg ((kc21 b c d)).toArray) [] [] (fun (_ : Unit) => []) := by
 rw [m_primary_copied_2] at hm
 refine GS.st Tryz.func44 Tryz.ntmps44 (fun w => ?_)
 refine GS.seq ?_
 refine GS.dg [0] (fun a => [(1,pA ((a 0).x) 0),(2,pA ((a 1).x) 0)]) [] (fun a => [(1,.cells ((a 0).x) 62 (kc21 b c d)),(2,.cells ((a 1).x) 62 (kc42))]) [(0,hN 1),(1,hN 2)] (fun a => []) (fun a => ?_)
 refine GS.seq ?_
 refine bnd_elim hm (fun y3 e4 hm => ?_)
 refine GS.eg [] [] [] [] [(1,hL 1 0 0),(2,hC [] (.slice none 0 0)),(4,hS 1)] [qE ((a 0).x),⟨(w_slices_Clone___byte_byte__2 F  e4).ok (es := []) trivial⟩,qE ((a 0).x),qE true] ?_
 refine GS.seq ?_
 refine GS.eg [1] [] [1] [(2,.cells ((a 1).x) 62 (kc21 b c d))] [(0,hL 1 0 0),(1,hS 2)] [qE ((a 0).x),qE ((a 1).x),qE true] ?_
 have hy := Option.some.inj hm
 subst hy
 exact GS.rv [2] [qE ((a 1).x)] Tryz.func44 () []

end Go.Proofs.YtjnbkhnebmlilaaGreat
