/-
 CHAPTER 18o: the functions do what their models say (1).
-/
import Derived.Test.YtjnbkhnebmlilaaGreatE18o
set_option linter.unusedVariables false
set_option linter.unusedSimpArgs false
set_option maxRecDepth 100000
set_option maxHeartbeats 8000000
namespace Go.Proofs.YtjnbkhnebmlilaaGreat
open Go Go.RowKit Sx

theorem w_slices_Index___int_int_ (F : Nat) (a : Option Addr) (b : Nat) {y : Unit} (hm : m_slices_Index___int_int_ F = some y) : CallG Tryz.prog 60 #[.slice a 2 b,vI 0] (X := Unit) (fun (_ : Unit) => vI 0) [] [.rd a 1 [[vI 0],[vI 1]]] (fun (_ : Unit) => []) := by
 rw [m_slices_Index___int_int_] at hm
 refine GS.st Tryz.func60 Tryz.ntmps60 (fun w => ?_)
 refine GS.seq ?_
 refine GS.ez [] [] [] ?_
 refine GS.seq ?_
 refine GS.seq ?_
 refine GS.ez [] [(7,vI 2),(8,vI 0)] [] ?_
 refine GS.block ?_
 refine GS.loop ?_
 refine GS.seq ?_
 refine GS.ez [] [(9,.bool true)] [] ?_
 refine GS.seq ?_
 refine GS.cT ?_
 refine GS.skip ?_
 refine GS.seq ?_
 refine GS.block ?_
 refine GS.seq ?_
 refine GS.ez [9] [(5,vI 0)] [] ?_
 refine GS.seq ?_
 refine GS.eg [] [(16,.bool true)] [] [] [(3,hA (.idx 1 0)),(4,hR 1 0 0 [vI 0])] [qE a,qE (([[vI 0],[vI 1]] : List (List Value)).length),qE (0 : Int),⟨((Nat.le_of_ble_eq_true rfl) : 0 < 2)⟩,qE (blk a),qE (offs a + 0 * 1),qE (some ([vI 0] : List Value))] ?_
 refine GS.cT ?_
 refine GS.seq ?_
 refine GS.eg [0,1,5,7,8,16] [(4,vI 0)] [1] [] [] [] ?_
 have hy := Option.some.inj hm
 subst hy
 exact GS.rv [0] [] Tryz.func60 () []

theorem w_slices_Contains___int_int_ (F : Nat) (a : Option Addr) (b : Nat) {y : Unit} (hm : m_slices_Contains___int_int_ F = some y) : CallG Tryz.prog 40 #[.slice a 2 b,vI 0] (X := Unit) (fun (_ : Unit) => .bool true) [] [.rd a 1 [[vI 0],[vI 1]]] (fun (_ : Unit) => []) := by
 rw [m_slices_Contains___int_int_] at hm
 refine GS.st Tryz.func40 Tryz.ntmps40 (fun w => ?_)
 refine GS.seq ?_
 refine GS.ez [] [] [] ?_
 refine GS.seq ?_
 refine bnd_elim hm (fun y3 e4 hm => ?_)
 refine GS.eg [0,1] [(4,.bool true)] [1] [] [(2,hC [1] (vI 0))] [⟨(w_slices_Index___int_int_ F a b e4).ok (es := [some (.rd a 1 [[vI 0],[vI 1]])]) ⟨(.inl ⟨_,mm0,Cov.refl _⟩),trivial⟩⟩] ?_
 have hy := Option.some.inj hm
 subst hy
 exact GS.rv [0] [] Tryz.func40 () []

theorem w_pglog_below (F : Nat) {y : Unit} (hm : m_pglog_below F = some y) : CallG Tryz.prog 61 #[.agg #[vI 0,vI 0]] (X := Unit) (fun (_ : Unit) => .bool false) [] [] (fun (_ : Unit) => []) := by
 rw [m_pglog_below] at hm
 refine GS.st Tryz.func61 Tryz.ntmps61 (fun w => ?_)
 refine GS.seq ?_
 refine GS.dg [0] (fun a => [(1,pA ((a 0).x) 0)]) [] (fun a => [(1,.cells ((a 0).x) 23 [vI 0,vI 0])]) [(0,hN 1)] (fun a => []) (fun a => ?_)
 refine GS.seq ?_
 refine GS.eg [1] [(2,.bool false)] [1] [] [(1,hL 1 0 0),(5,hL 1 0 0)] [qE ((a 0).x),qE ((a 0).x)] ?_
 have hy := Option.some.inj hm
 subst hy
 exact GS.rv [0] [] Tryz.func61 () []

theorem w_pglog_rising_api_Item_string_ (F : Nat) {y : Unit} (hm : m_pglog_rising_api_Item_string_ F = some y) : CallG Tryz.prog 62 #[.slice none 0 0,.func (.func 56) #[] #[]] (X := Unit) (fun (_ : Unit) => .bool true) [] [] (fun (_ : Unit) => []) := by
 rw [m_pglog_rising_api_Item_string_] at hm
 refine GS.st Tryz.func62 Tryz.ntmps62 (fun w => ?_)
 refine GS.seq ?_
 refine GS.ez [] [] [] ?_
 refine GS.seq ?_
 refine GS.seq ?_
 refine GS.ez [] [(5,vI 1)] [] ?_
 refine GS.block ?_
 refine GS.loop ?_
 refine GS.seq ?_
 refine GS.seq ?_
 refine GS.ez [] [(9,.bool false)] [] ?_
 refine GS.cF ?_
 refine GS.exit rfl ?_
 refine GS.seq ?_
 refine GS.ez [0,1,5,9] [(4,.bool true)] [] ?_
 have hy := Option.some.inj hm
 subst hy
 exact GS.rv [0] [] Tryz.func62 () []

theorem w_pglog_rising_api_Last_int_ (F : Nat) {y : Unit} (hm : m_pglog_rising_api_Last_int_ F = some y) : CallG Tryz.prog 63 #[.slice none 0 0,.func (.func 53) #[] #[]] (X := Unit) (fun (_ : Unit) => .bool true) [] [] (fun (_ : Unit) => []) := by
 rw [m_pglog_rising_api_Last_int_] at hm
 refine GS.st Tryz.func63 Tryz.ntmps63 (fun w => ?_)
 refine GS.seq ?_
 refine GS.ez [] [] [] ?_
 refine GS.seq ?_
 refine GS.seq ?_
 refine GS.ez [] [(5,vI 1)] [] ?_
 refine GS.block ?_
 refine GS.loop ?_
 refine GS.seq ?_
 refine GS.seq ?_
 refine GS.ez [] [(9,.bool false)] [] ?_
 refine GS.cF ?_
 refine GS.exit rfl ?_
 refine GS.seq ?_
 refine GS.ez [0,1,5,9] [(4,.bool true)] [] ?_
 have hy := Option.some.inj hm
 subst hy
 exact GS.rv [0] [] Tryz.func63 () []

theorem w_pglog_Check (F : Nat) {y : Unit} (hm : m_pglog_Check F = some y) : CallG Tryz.prog 41 #[.agg ((kc0)).toArray] (X := Unit) (fun (_ : Unit) => vI 0) [] [] (fun (_ : Unit) => []) := by
 rw [m_pglog_Check] at hm
 refine GS.st Tryz.func41 Tryz.ntmps41 (fun w => ?_)
 refine GS.seq ?_
 refine GS.dg [0] (fun a => [(1,pA ((a 0).x) 0)]) [] (fun a => [(1,.cells ((a 0).x) 28 (kc0))]) [(0,hN 1)] (fun a => []) (fun a => ?_)
 refine GS.seq ?_
 refine GS.seq ?_
 refine bnd_elim hm (fun y3 e4 hm => ?_)
 refine GS.eg [] [(23,.bool false)] [] [] [(1,hL 1 0 0),(5,hL 1 0 0),(6,hC [] (.bool false)),(10,hL 1 0 0)] [qE ((a 0).x),qE ((a 0).x),⟨(w_pglog_below F  e4).ok (es := []) trivial⟩,qE ((a 0).x)] ?_
 refine GS.cF ?_
 refine GS.skip ?_
 refine GS.seq ?_
 refine GS.dg [23] (fun b => [(3,pA ((b 2).x) 0)]) [] (fun b => [(2,.cells ((b 2).x) 23 [vI 0,vI 0])]) [(1,hL 1 0 0),(2,hN 2),(3,hS 2)] (fun b => [qE ((a 0).x),qE ((b 2).x),qE true]) (fun b => ?_)
 refine GS.seq ?_
 refine GS.seq ?_
 refine GS.eg [] [(27,.slice none 0 0),(28,vI 0),(29,vI 0)] [] [] [(1,hL 1 0 0)] [qE ((a 0).x)] ?_
 refine GS.block ?_
 refine GS.loop ?_
 refine GS.seq ?_
 refine GS.ez [] [(30,.bool false)] [] ?_
 refine GS.seq ?_
 refine GS.cF ?_
 refine GS.exit rfl ?_
 refine GS.seq ?_
 refine GS.seq ?_
 refine bnd_elim hm (fun y9 c hm => ?_)
 refine bnd_elim hm (fun e d hm => ?_)
 refine GS.eg [27,28,29,30] [(55,.bool false)] [] [] [(1,hL 1 0 0),(2,hC [] (.bool true)),(6,hL 1 0 0),(7,hC [] (.bool true))] [qE ((a 0).x),⟨(w_pglog_rising_api_Item_string_ F  c).ok (es := []) trivial⟩,qE ((a 0).x),⟨(w_pglog_rising_api_Last_int_ F  d).ok (es := []) trivial⟩] ?_
 refine GS.cF ?_
 refine GS.skip ?_
 refine GS.seq ?_
 refine GS.seq ?_
 refine GS.eg [55] [(57,.slice none 0 0),(58,vI 0),(59,vI 0)] [] [] [(1,hL 1 0 0)] [qE ((a 0).x)] ?_
 refine GS.block ?_
 refine GS.loop ?_
 refine GS.seq ?_
 refine GS.ez [] [(60,.bool false)] [] ?_
 refine GS.seq ?_
 refine GS.cF ?_
 refine GS.exit rfl ?_
 refine GS.seq ?_
 refine GS.seq ?_
 refine GS.eg [1,57,58,59,60] [(87,.slice none 0 0),(88,vI 0),(89,vI 0)] [1] [] [(1,hL 1 0 0)] [qE ((a 0).x)] ?_
 refine GS.block ?_
 refine GS.loop ?_
 refine GS.seq ?_
 refine GS.ez [] [(90,.bool false)] [] ?_
 refine GS.seq ?_
 refine GS.cF ?_
 refine GS.exit rfl ?_
 refine GS.seq ?_
 refine GS.eg [3,87,88,89,90] [(2,vI 0)] [2] [] [] [] ?_
 have hy := Option.some.inj hm
 subst hy
 exact GS.rv [0] [] Tryz.func41 () []

theorem w_pglog_Copy (F : Nat) {y : Unit} (hm : m_pglog_Copy F = some y) : CallG Tryz.prog 32 #[.agg ((kc0)).toArray] (X := Option Addr × Nat × Option Addr × Nat × Option Addr × Nat) (fun ⟨x0,x1,x2,x3,x4,x5⟩ => .agg ((kc4 x0 x1 x2 x3 x4 x5)).toArray) [] [] (fun ⟨x0,x1,x2,x3,x4,x5⟩ => [.osl x0 x1 31 7 [],.osl x2 x3 94 5 [],.osl x4 x5 91 4 []]) := by
 rw [m_pglog_Copy] at hm
 refine GS.st Tryz.func32 Tryz.ntmps32 (fun w => ?_)
 refine GS.seq ?_
 refine GS.dg [0] (fun b => [(1,pA ((b 0).x) 0),(2,pA ((b 1).x) 0)]) [] (fun b => [(1,.cells ((b 0).x) 28 (kc0)),(2,.cells ((b 1).x) 28 (kc1))]) [(0,hN 1),(1,hN 2)] (fun b => []) (fun b => ?_)
 refine GS.seq ?_
 refine GS.dg [] (fun a => []) [] (fun a => [(1,.cells ((b 0).x) 28 (kc2 ((a 2).ob) ((a 2).cap))),(3,.osl ((a 2).ob) ((a 2).cap) 31 7 ([] : List (List Value)))]) [(1,hL 1 0 0),(2,{ act := .app none,key := some 3,spf := some (fun f => .slice (f.ob) 0 (f.cap)) }),(4,hS 1)] (fun a => [qE ((b 0).x),qE (none : Option Addr),qE 0,qE 0,qE 0,⟨((show 0 * (64 + 1) ≤ 70368744177664 by decide) : ([] : List (List Value)).length * (64 + 1) ≤ 70368744177664)⟩,qE ((.slice ((a 2).ob) (0 + ([] : List (List Value)).length) ((a 2).cap)) : Value),qE ((b 0).x),qE true]) (fun a => ?_)
 refine GS.ce 3 (fun rr : List (List Value) => .osl ((a 2).ob) ((a 2).cap) 31 7 rr) (show ([] : List (List Value)) = ([] : List (List Value)) from rfl) ?_
 refine GS.seq ?_
 refine GS.dg [] (fun c => []) [] (fun c => [(1,.cells ((b 0).x) 28 (kc3 ((a 2).ob) ((a 2).cap) ((c 2).ob) ((c 2).cap))),(4,.osl ((c 2).ob) ((c 2).cap) 94 5 ([] : List (List Value)))]) [(1,hL 1 0 0),(2,{ act := .app none,key := some 4,spf := some (fun f => .slice (f.ob) 0 (f.cap)) }),(4,hS 1)] (fun c => [qE ((b 0).x),qE (none : Option Addr),qE 0,qE 0,qE 0,⟨((show 0 * (40 + 1) ≤ 70368744177664 by decide) : ([] : List (List Value)).length * (40 + 1) ≤ 70368744177664)⟩,qE ((.slice ((c 2).ob) (0 + ([] : List (List Value)).length) ((c 2).cap)) : Value),qE ((b 0).x),qE true]) (fun c => ?_)
 refine GS.ce 4 (fun rr : List (List Value) => .osl ((c 2).ob) ((c 2).cap) 94 5 rr) (show ([] : List (List Value)) = ([] : List (List Value)) from rfl) ?_
 refine GS.seq ?_
 refine GS.dg [] (fun d => []) [] (fun d => [(1,.cells ((b 0).x) 28 (kc4 ((a 2).ob) ((a 2).cap) ((c 2).ob) ((c 2).cap) ((d 2).ob) ((d 2).cap))),(5,.osl ((d 2).ob) ((d 2).cap) 91 4 ([] : List (List Value)))]) [(1,hL 1 0 0),(2,{ act := .app none,key := some 5,spf := some (fun f => .slice (f.ob) 0 (f.cap)) }),(4,hS 1)] (fun d => [qE ((b 0).x),qE (none : Option Addr),qE 0,qE 0,qE 0,⟨((show 0 * (40 + 1) ≤ 70368744177664 by decide) : ([] : List (List Value)).length * (40 + 1) ≤ 70368744177664)⟩,qE ((.slice ((d 2).ob) (0 + ([] : List (List Value)).length) ((d 2).cap)) : Value),qE ((b 0).x),qE true]) (fun d => ?_)
 refine GS.ce 5 (fun rr : List (List Value) => .osl ((d 2).ob) ((d 2).cap) 91 4 rr) (show ([] : List (List Value)) = ([] : List (List Value)) from rfl) ?_
 refine GS.seq ?_
 refine GS.eg [1] [] [1] [(2,.cells ((b 1).x) 28 (kc4 ((a 2).ob) ((a 2).cap) ((c 2).ob) ((c 2).cap) ((d 2).ob) ((d 2).cap)))] [(0,hL 1 0 0),(1,hS 2)] [qE ((b 0).x),qE ((b 1).x),qE true] ?_
 have hy := Option.some.inj hm
 subst hy
 exact GS.rv [2] [qE ((b 1).x)] Tryz.func32 ⟨(a 2).ob,(a 2).cap,(c 2).ob,(c 2).cap,(d 2).ob,(d 2).cap⟩ [3,4,5]

theorem w_primary_New (F : Nat) (b : Option Addr) (e : Nat) {y : Unit} (hm : m_primary_New F = some y) : CallG Tryz.prog 15 #[.agg #[vI 1,vI 0],vI 3,vI 0,vI 9,.slice b 2 e,.agg ((kc0)).toArray] (X := Nat × Option Addr × Nat × Option Addr × Nat × Option Addr × Nat × Option Addr × Nat) (fun ⟨x0,x1,x2,x3,x4,x5,x6,x7,x8⟩ => .tuple #[pA x0 0,vI 0]) [] [.rd b 1 [[vI 0],[vI 1]]] (fun ⟨x0,x1,x2,x3,x4,x5,x6,x7,x8⟩ => [.cells x0 80 (kc5 x1 x2 x3 x4 x5 x6 x7 x8),.osl x1 x2 3 1 [[vI 1]],.osl x3 x4 31 7 [],.osl x5 x6 94 5 [],.osl x7 x8 91 4 []]) := by
 rw [m_primary_New] at hm
 refine GS.st Tryz.func15 Tryz.ntmps15 (fun w => ?_)
 refine GS.seq ?_
 refine GS.dg [0,5] (fun d => [(6,pA ((d 0).x) 0),(11,pA ((d 1).x) 0)]) [] (fun d => [(2,.cells ((d 0).x) 51 [vI 1,vI 0]),(3,.cells ((d 1).x) 28 (kc0))]) [(0,hN 2),(1,hN 3)] (fun d => []) (fun d => ?_)
 refine GS.seq ?_
 refine GS.seq ?_
 refine bnd_elim hm (fun y3 e4 hm => ?_)
 refine bnd_elim hm (fun y5 e6 hm => ?_)
 refine GS.eg [] [(25,.bool false)] [] [] [(2,hC [1] (.bool true)),(5,hL 3 0 0),(6,hC [] (vI 0))] [⟨(w_slices_Contains___int_int_ F b e e4).ok (es := [some (.rd b 1 [[vI 0],[vI 1]])]) ⟨(.inl ⟨_,mm0,Cov.refl _⟩),trivial⟩⟩,qE ((d 1).x),⟨(w_pglog_Check F  e6).ok (es := []) trivial⟩] ?_
 refine GS.cF ?_
 refine GS.skip ?_
 refine GS.seq ?_
 refine GS.ez [25] [(14,.slice none 0 0)] [] ?_
 refine GS.seq ?_
 refine GS.seq ?_
 refine GS.ez [4] [(26,.slice b 2 e),(27,vI 2),(28,vI 0)] [] ?_
 refine GS.block ?_
 refine GS.loop ?_
 refine GS.seq ?_
 refine GS.ez [] [(29,.bool true)] [] ?_
 refine GS.seq ?_
 refine GS.cT ?_
 refine GS.skip ?_
 refine GS.seq ?_
 refine GS.block ?_
 refine GS.seq ?_
 refine GS.eg [29] [(16,vI 0)] [] [] [(0,hA (.idx 1 0)),(1,hR 1 0 0 [vI 0])] [qE b,qE (([[vI 0],[vI 1]] : List (List Value)).length),qE (0 : Int),⟨((Nat.le_of_ble_eq_true rfl) : 0 < 2)⟩,qE (blk b),qE (offs b + 0 * 1),qE (some ([vI 0] : List Value))] ?_
 refine GS.seq ?_
 refine GS.ez [] [(34,.bool false)] [] ?_
 refine GS.cF ?_
 refine GS.skip ?_
 refine GS.inBlock ?_
 refine GS.ez [16,34] [(28,vI 1)] [] ?_
 refine GS.inLoop ?_
 refine GS.seq ?_
 refine GS.ez [] [(29,.bool true)] [] ?_
 refine GS.seq ?_
 refine GS.cT ?_
 refine GS.skip ?_
 refine GS.seq ?_
 refine GS.block ?_
 refine GS.seq ?_
 refine GS.eg [29] [(16,vI 1)] [] [] [(0,hA (.idx 1 1)),(1,hR 1 1 0 [vI 1])] [qE b,qE (([[vI 0],[vI 1]] : List (List Value)).length),qE (1 : Int),⟨((Nat.le_of_ble_eq_true rfl) : 1 < 2)⟩,qE (blk b),qE (offs b + 1 * 1),qE (some ([vI 1] : List Value))] ?_
 refine GS.seq ?_
 refine GS.ez [] [(34,.bool true)] [] ?_
 refine GS.cT ?_
 refine GS.dg [16,34] (fun c => [(14,.slice ((c 3).ob) 1 ((c 3).cap))]) [] (fun c => [(5,.osl ((c 3).ob) ((c 3).cap) 3 1 ([[vI 1]] : List (List Value)))]) [(2,hK (.new (.row 1 1)) 4),(3,{ act := .app (some 4),key := some 5,spf := some (fun f => .slice (f.ob) 1 (f.cap)) })] (fun c => [qE (some (Addr.mk (c 2).x 0 none)),qE (([[vI 1]] : List (List Value)).length),qE 0,qE 0,⟨((show 1 * (8 + 1) ≤ 70368744177664 by decide) : ([[vI 1]] : List (List Value)).length * (8 + 1) ≤ 70368744177664)⟩,qE ((.slice ((c 3).ob) (0 + ([[vI 1]] : List (List Value)).length) ((c 3).cap)) : Value)]) (fun c => ?_)
 refine GS.ce 5 (fun rr : List (List Value) => .osl ((c 3).ob) ((c 3).cap) 3 1 rr) (show ([[vI 1]] : List (List Value)) = ([[vI 1]] : List (List Value)) from rfl) ?_
 refine GS.inBlock ?_
 refine GS.ez [] [(28,vI 2)] [] ?_
 refine GS.inLoop ?_
 refine GS.seq ?_
 refine GS.ez [] [(29,.bool false)] [] ?_
 refine GS.seq ?_
 refine GS.cF ?_
 refine GS.exit rfl ?_
 refine GS.seq ?_
 refine bnd_elim hm (fun h g hm => ?_)
 refine GS.xg [1,2,3,6,11,14,26,27,28,29] (fun a => [(12,pA ((a 8).x) 0),(13,vI 0)]) [1,2,3] (fun a => [(9,bag [.osl (((a 6).xs.getD 0 (none,0)).1) (((a 6).xs.getD 1 (none,0)).2) 31 7 [],.osl (((a 6).xs.getD 2 (none,0)).1) (((a 6).xs.getD 3 (none,0)).2) 94 5 [],.osl (((a 6).xs.getD 4 (none,0)).1) (((a 6).xs.getD 5 (none,0)).2) 91 4 []]),(10,.cells ((a 8).x) 80 (kc5 ((c 3).ob) ((c 3).cap) (((a 6).xs.getD 0 (none,0)).1) (((a 6).xs.getD 1 (none,0)).2) (((a 6).xs.getD 2 (none,0)).1) (((a 6).xs.getD 3 (none,0)).2) (((a 6).xs.getD 4 (none,0)).1) (((a 6).xs.getD 5 (none,0)).2)))]) [(0,hL 2 0 0),(5,hL 3 0 0),(6,hK (.calln [] (fun f => .agg ((kc4 (f.xs.getD 0 (none,0)).1 (f.xs.getD 1 (none,0)).2 (f.xs.getD 2 (none,0)).1 (f.xs.getD 3 (none,0)).2 (f.xs.getD 4 (none,0)).1 (f.xs.getD 5 (none,0)).2)).toArray) (fun f => bag [.osl (f.xs.getD 0 (none,0)).1 (f.xs.getD 1 (none,0)).2 31 7 [],.osl (f.xs.getD 2 (none,0)).1 (f.xs.getD 3 (none,0)).2 94 5 [],.osl (f.xs.getD 4 (none,0)).1 (f.xs.getD 5 (none,0)).2 91 4 []])) 9),(8,hN 10)] (fun a => [qE ((d 0).x),qE ((d 1).x),⟨((by have h1 := w_pglog_Copy F  g; exact CallG.toNB (efs := fun f => [.osl (f.xs.getD 0 (none,0)).1 (f.xs.getD 1 (none,0)).2 31 7 [],.osl (f.xs.getD 2 (none,0)).1 (f.xs.getD 3 (none,0)).2 94 5 [],.osl (f.xs.getD 4 (none,0)).1 (f.xs.getD 5 (none,0)).2 91 4 []]) h1 trivial (fun x => ⟨0,none,0,[(x.1,0),(none,x.2.1),(x.2.2.1,0),(none,x.2.2.2.1),(x.2.2.2.2.1,0),(none,x.2.2.2.2.2)],fun _ _ => (none,0)⟩) (fun _ => rfl) (fun _ => rfl) (fun _ => rfl)) : CallN Tryz.prog 32 #[.agg ((kc0)).toArray] (fun f => .agg ((kc4 (f.xs.getD 0 (none,0)).1 (f.xs.getD 1 (none,0)).2 (f.xs.getD 2 (none,0)).1 (f.xs.getD 3 (none,0)).2 (f.xs.getD 4 (none,0)).1 (f.xs.getD 5 (none,0)).2)).toArray) (fun f => bag [.osl (f.xs.getD 0 (none,0)).1 (f.xs.getD 1 (none,0)).2 31 7 [],.osl (f.xs.getD 2 (none,0)).1 (f.xs.getD 3 (none,0)).2 94 5 [],.osl (f.xs.getD 4 (none,0)).1 (f.xs.getD 5 (none,0)).2 91 4 []]) [])⟩]) (fun a => ?_)
 refine GS.setMem (fun w hw => hw.ub 9 [11,12,13] [.osl (((a 6).xs.getD 0 (none,0)).1) (((a 6).xs.getD 1 (none,0)).2) 31 7 [],.osl (((a 6).xs.getD 2 (none,0)).1) (((a 6).xs.getD 3 (none,0)).2) 94 5 [],.osl (((a 6).xs.getD 4 (none,0)).1) (((a 6).xs.getD 5 (none,0)).2) 91 4 []]) ?_
 have hy := Option.some.inj hm
 subst hy
 exact GS.rw [0,0] [pA ((a 8).x) 0,vI 0] [] Tryz.func15 ⟨(a 8).x,(c 3).ob,(c 3).cap,((a 6).xs.getD 0 (none,0)).1,((a 6).xs.getD 1 (none,0)).2,((a 6).xs.getD 2 (none,0)).1,((a 6).xs.getD 3 (none,0)).2,((a 6).xs.getD 4 (none,0)).1,((a 6).xs.getD 5 (none,0)).2⟩ [10,5,11,12,13]

theorem w_slices_IndexFunc___api_Msg_api_Msg_ (F : Nat) (a : Option Addr) (b a1c0b : Nat) (a1c0_0 a1c0_1 a1c0_2 a1c0_3 a1c0_4 a1c0_5 a1c0_6 a1c0_7 a1c0_8 a1c0_9 a1c0_10 a1c0_11 a1c0_15 a1c0_16 a1c0_17 a1c0_18 a1c0_19 a1c0_20 a1c0_21 a1c0_22 a1c0_23 a1c0_27 a1c0_28 : Int) (a1c0_29 : Bool) (a1c0_30 : Int) (a1c0_31 : ByteArray) (a1c0_32 a1c0_33 : Int) (a1c0_34 : ByteArray) (a1c0_35 a1c0_36 a1c0_38 : Int) (a1c0_39 : ByteArray) (a1c0_40_o : Option Addr) (a1c0_40_c : Nat) (a1c0_40 : List UInt8) (a1c0_41 a1c0_42 a1c0_45 : Int) {y : Unit} (hm : m_slices_IndexFunc___api_Msg_api_Msg_ F a1c0_0 a1c0_1 a1c0_2 a1c0_3 a1c0_4 a1c0_5 a1c0_6 a1c0_7 a1c0_8 a1c0_9 a1c0_10 a1c0_11 a1c0_15 a1c0_16 a1c0_17 a1c0_18 a1c0_19 a1c0_20 a1c0_21 a1c0_22 a1c0_23 a1c0_27 a1c0_28 a1c0_29 a1c0_30 a1c0_31 a1c0_32 a1c0_33 a1c0_34 a1c0_35 a1c0_36 a1c0_38 a1c0_39 a1c0_40 a1c0_41 a1c0_42 a1c0_45 = some y) : CallG Tryz.prog 85 #[.slice a 0 b,.func (.func 64) #[] #[pA a1c0b 0]] (X := Unit) (fun (_ : Unit) => vI (-1)) [] [.rd a 46 [],r5 a1c0_40_o a1c0_40,.rd (some ⟨a1c0b,0,none⟩) 46 [(kc12 a1c0_0 a1c0_1 a1c0_2 a1c0_3 a1c0_4 a1c0_5 a1c0_6 a1c0_7 a1c0_8 a1c0_9 a1c0_10 a1c0_11 a1c0_15 a1c0_16 a1c0_17 a1c0_18 a1c0_19 a1c0_20 a1c0_21 a1c0_22 a1c0_23 a1c0_27 a1c0_28 a1c0_29 a1c0_30 a1c0_31 a1c0_32 a1c0_33 a1c0_34 a1c0_35 a1c0_36 a1c0_38 a1c0_39 a1c0_40_o a1c0_40.length a1c0_40_c a1c0_41 a1c0_42 a1c0_45)]] (fun (_ : Unit) => []) := by
 rw [m_slices_IndexFunc___api_Msg_api_Msg_] at hm
 refine GS.st Tryz.func85 Tryz.ntmps85 (fun w => ?_)
 refine GS.seq ?_
 refine GS.ez [] [] [] ?_
 refine GS.seq ?_
 refine GS.seq ?_
 refine GS.ez [] [(7,vI 0),(8,vI 0)] [] ?_
 refine GS.block ?_
 refine GS.loop ?_
 refine GS.seq ?_
 refine GS.ez [] [(9,.bool false)] [] ?_
 refine GS.seq ?_
 refine GS.cF ?_
 refine GS.exit rfl ?_
 refine GS.seq ?_
 refine GS.eg [0,1,7,8,9] [(4,vI (-1))] [1,2,3] [] [] [] ?_
 have hy := Option.some.inj hm
 subst hy
 exact GS.rv [0] [] Tryz.func85 () []

theorem w_slices_ContainsFunc___api_Msg_api_Msg_ (F : Nat) (a : Option Addr) (b a1c0b : Nat) (a1c0_0 a1c0_1 a1c0_2 a1c0_3 a1c0_4 a1c0_5 a1c0_6 a1c0_7 a1c0_8 a1c0_9 a1c0_10 a1c0_11 a1c0_15 a1c0_16 a1c0_17 a1c0_18 a1c0_19 a1c0_20 a1c0_21 a1c0_22 a1c0_23 a1c0_27 a1c0_28 : Int) (a1c0_29 : Bool) (a1c0_30 : Int) (a1c0_31 : ByteArray) (a1c0_32 a1c0_33 : Int) (a1c0_34 : ByteArray) (a1c0_35 a1c0_36 a1c0_38 : Int) (a1c0_39 : ByteArray) (a1c0_40_o : Option Addr) (a1c0_40_c : Nat) (a1c0_40 : List UInt8) (a1c0_41 a1c0_42 a1c0_45 : Int) {y : Unit} (hm : m_slices_ContainsFunc___api_Msg_api_Msg_ F a1c0_0 a1c0_1 a1c0_2 a1c0_3 a1c0_4 a1c0_5 a1c0_6 a1c0_7 a1c0_8 a1c0_9 a1c0_10 a1c0_11 a1c0_15 a1c0_16 a1c0_17 a1c0_18 a1c0_19 a1c0_20 a1c0_21 a1c0_22 a1c0_23 a1c0_27 a1c0_28 a1c0_29 a1c0_30 a1c0_31 a1c0_32 a1c0_33 a1c0_34 a1c0_35 a1c0_36 a1c0_38 a1c0_39 a1c0_40 a1c0_41 a1c0_42 a1c0_45 = some y) : CallG Tryz.prog 66 #[.slice a 0 b,.func (.func 64) #[] #[pA a1c0b 0]] (X := Unit) (fun (_ : Unit) => .bool false) [] [.rd a 46 [],r5 a1c0_40_o a1c0_40,.rd (some ⟨a1c0b,0,none⟩) 46 [(kc12 a1c0_0 a1c0_1 a1c0_2 a1c0_3 a1c0_4 a1c0_5 a1c0_6 a1c0_7 a1c0_8 a1c0_9 a1c0_10 a1c0_11 a1c0_15 a1c0_16 a1c0_17 a1c0_18 a1c0_19 a1c0_20 a1c0_21 a1c0_22 a1c0_23 a1c0_27 a1c0_28 a1c0_29 a1c0_30 a1c0_31 a1c0_32 a1c0_33 a1c0_34 a1c0_35 a1c0_36 a1c0_38 a1c0_39 a1c0_40_o a1c0_40.length a1c0_40_c a1c0_41 a1c0_42 a1c0_45)]] (fun (_ : Unit) => []) := by
 rw [m_slices_ContainsFunc___api_Msg_api_Msg_] at hm
 refine GS.st Tryz.func66 Tryz.ntmps66 (fun w => ?_)
 refine GS.seq ?_
 refine GS.ez [] [] [] ?_
 refine GS.seq ?_
 refine bnd_elim hm (fun y3 e4 hm => ?_)
 refine GS.eg [0,1] [(4,.bool false)] [1,2,3] [] [(2,hC [1,2,3] (vI (-1)))] [⟨(w_slices_IndexFunc___api_Msg_api_Msg_ F a b a1c0b a1c0_0 a1c0_1 a1c0_2 a1c0_3 a1c0_4 a1c0_5 a1c0_6 a1c0_7 a1c0_8 a1c0_9 a1c0_10 a1c0_11 a1c0_15 a1c0_16 a1c0_17 a1c0_18 a1c0_19 a1c0_20 a1c0_21 a1c0_22 a1c0_23 a1c0_27 a1c0_28 a1c0_29 a1c0_30 a1c0_31 a1c0_32 a1c0_33 a1c0_34 a1c0_35 a1c0_36 a1c0_38 a1c0_39 a1c0_40_o a1c0_40_c a1c0_40 a1c0_41 a1c0_42 a1c0_45 e4).ok (es := [some (.rd a 46 []),some (r5 a1c0_40_o a1c0_40),some (.rd (some ⟨a1c0b,0,none⟩) 46 [(kc12 a1c0_0 a1c0_1 a1c0_2 a1c0_3 a1c0_4 a1c0_5 a1c0_6 a1c0_7 a1c0_8 a1c0_9 a1c0_10 a1c0_11 a1c0_15 a1c0_16 a1c0_17 a1c0_18 a1c0_19 a1c0_20 a1c0_21 a1c0_22 a1c0_23 a1c0_27 a1c0_28 a1c0_29 a1c0_30 a1c0_31 a1c0_32 a1c0_33 a1c0_34 a1c0_35 a1c0_36 a1c0_38 a1c0_39 a1c0_40_o a1c0_40.length a1c0_40_c a1c0_41 a1c0_42 a1c0_45)])]) ⟨(.inl ⟨_,mm0,Cov.refl _⟩),(.inl ⟨_,mm1,Cov.refl _⟩),(.inl ⟨_,mm2,Cov.refl _⟩),trivial⟩⟩] ?_
 have hy := Option.some.inj hm
 subst hy
 exact GS.rv [0] [] Tryz.func66 () []

theorem w_slices_Clone___byte_byte_ (F : Nat) (b : Option Addr) (c : Nat) (a0 : List UInt8) {y : List UInt8} (hm : m_slices_Clone___byte_byte_ F a0 = some y) : CallG Tryz.prog 67 #[.slice b a0.length c] (X := Option Addr × Nat) (fun ⟨x0,x1⟩ => .slice x0 y.length x1) [] [r5 b a0] (fun ⟨x0,x1⟩ => [o5 x0 x1 y]) := by
 rw [m_slices_Clone___byte_byte_] at hm
 refine GS.st Tryz.func67 Tryz.ntmps67 (fun w => ?_)
 refine GS.seq ?_
 refine GS.ez [] [] [] ?_
 refine GS.seq ?_
 refine GS.seq ?_
 refine GS.ez [] [(4,.bool b.isNone)] [(1,hA (.nilq))] ?_
 refine GS.cd b.isNone (fun h3 => ?_) (fun h3 => ?_)
 ·skip
  refine GS.kn (p := a0 = []) 1 (r5 b a0) (fun w hw => nil_rd hw h3) (fun hl7 => ?_)
  replace hm : some ([] : List UInt8) = some y := by rw [hl7] at hm; exact hm
  refine GS.seq ?_
  refine GS.eg [0,4] [(2,.slice none 0 0)] [1] [] [] [] ?_
  refine GS.an 2 5 1 ?_
  have hy := Option.some.inj hm
  subst hy
  exact GS.rv [0] [] Tryz.func67 ⟨none,0⟩ [2]
 ·skip
  refine GS.skip ?_
  refine GS.seq ?_
  refine grd_elim hm (fun g6 hm => ?_)
  refine GS.dg [0,4] (fun a => [(2,.slice ((a 2).ob) ((([] : List UInt8) ++ a0).length) ((a 2).cap))]) [1] (fun a => [(2,.osl ((a 2).ob) ((a 2).cap) 5 1 (([] : List (List Value)) ++ (List.map rB a0)))]) [(0,{ act := .new (.row 0 1),key := some 2,spf := some (fun f => .slice (some (Addr.mk f.x 0 none)) ((([] : List UInt8) : List UInt8).length) 0) }),(2,{ act := .app (some 1),key := some 2,spf := some (fun f => .slice (f.ob) ((([] : List UInt8) ++ a0).length) (f.cap)) })] (fun a => [qE ((.slice (some (Addr.mk (a 0).x 0 none)) 0 0) : Value),qE b,⟨(mlen rB a0 : a0.length = (List.map rB a0).length)⟩,qE (some (Addr.mk (a 0).x 0 none)),qE 0,⟨((by rw [show ([] : List (List Value)) = List.map rB ([] : List UInt8) from rfl]; exact mlen rB ([] : List UInt8)) : (([] : List UInt8) : List UInt8).length = ([] : List (List Value)).length)⟩,⟨(appb g6 (by rw [show ([] : List (List Value)) = List.map rB ([] : List UInt8) from rfl]; exact (mlen rB ([] : List UInt8)).symm) (mlen rB a0).symm : (([] : List (List Value)).length + (List.map rB a0).length) * (1 + 1) ≤ 70368744177664)⟩,⟨((by rw [show List.map rB a0 = List.map rB a0 from rfl]; exact all_one rB _ (fun _ => rfl)) : (List.map rB a0).flatten.all Value.oneCell' = true)⟩,⟨(slen (by simp) : ((.slice ((a 2).ob) (((([] : List UInt8) : List UInt8).length) + (List.map rB a0).length) ((a 2).cap)) : Value) = .slice ((a 2).ob) ((([] : List UInt8) ++ a0).length) ((a 2).cap))⟩]) (fun a => ?_)
  refine GS.ce 2 (fun rr : List (List Value) => .osl ((a 2).ob) ((a 2).cap) 5 1 rr) (show ([] : List (List Value)) ++ (List.map rB a0) = List.map rB (([] : List UInt8) ++ a0) from (by rw [show ([] : List (List Value)) = List.map rB ([] : List UInt8) from rfl,show List.map rB a0 = List.map rB a0 from rfl]; exact mapp rB _ _)) ?_
  have hy := Option.some.inj hm
  subst hy
  exact GS.rv [0] [] Tryz.func67 ⟨(a 2).ob,(a 2).cap⟩ [2]

theorem w_pglog_Seen (F : Nat) (p : Int) (k : S_api_Version) (j : Option Addr) (o : Nat) (l : List S_api_Entry) (b : Option Addr) (e : Nat) (a : List S_api_Last) (g : Option Addr) (m : Nat) (i : List S_api_Item) (a1 a2 : Int) {y : S_api_Last × Int} (hm : m_pglog_Seen F p k l a i a1 a2 = some y) : CallG Tryz.prog 86 #[.agg ((kc15 p k.Epoch k.N j l.length o b a.length e g i.length m)).toArray,vI a1,vI a2] (X := Unit) (fun (_ : Unit) => .tuple #[.agg ((kc17 y.1.Client y.1.Number y.1.Errno y.1.Version.Epoch y.1.Version.N)).toArray,vI y.2]) [] [r31 j l,r94 b a,r91 g i] (fun (_ : Unit) => []) := by
 rw [m_pglog_Seen] at hm
 refine GS.st Tryz.func86 Tryz.ntmps86 (fun w => ?_)
 refine GS.seq ?_
 refine GS.dg [0] (fun f => [(3,pA ((f 0).x) 0),(6,pA ((f 1).x) 0)]) [] (fun f => [(4,.cells ((f 0).x) 28 (kc15 p k.Epoch k.N j l.length o b a.length e g i.length m)),(5,.cells ((f 1).x) 94 (kc16))]) [(0,hN 4),(1,hN 5)] (fun f => []) (fun f => ?_)
 refine GS.seq ?_
 refine GS.seq ?_
 refine GS.eg [3] [(11,.slice b a.length e),(12,vI (a.length : Int)),(13,vI 0)] [1,3,4] [] [(1,hL 4 0 0)] [qE ((f 0).x)] ?_
 refine GS.block ?_
 refine GS.loop ?_
 refine grd_elim hm (fun z hm => ?_)
 refine loopL_elim hm (fun st53 fn54 hst55 hfn56 hm => ?_)
 refine GS.li (ι := List S_api_Last × Nat) (fun ⟨n,d⟩ => a.drop d = n ∧ loopL st53 fn54 n d () = some y) (fun ⟨n,d⟩ => n.length) [] (fun ⟨n,d⟩ => [(13,vI (d : Int))]) [] (fun ⟨n,d⟩ => []) ?_ ⟨a,0⟩ ⟨List.drop_zero ..,hm⟩
 rintro ⟨n,d⟩ ⟨q,hm⟩ v
 cases n with
 | nil =>
  replace hm := (hfn56 _ _).symm.trans hm
  try dsimp only at hm
  refine GS.seq ?_
  refine GS.ez [] [(14,.bool (decide ((d : Int) < (a.length : Int))))] [] ?_
  refine GS.seq ?_
  refine GS.cd (decide ((d : Int) < (a.length : Int))) (fun A => absb A (drop_dec0 q)) (fun _ => ?_)
  refine GS.exit rfl ?_
  refine GS.seq ?_
  refine GS.eg [1,2,11,12,13,14] [(7,vI 0)] [2] [] [(1,hS 5)] [qE ((f 1).x),qE true] ?_
  have hy := Option.some.inj hm
  subst hy
  exact GS.rw [5,0] [.agg ((kc16)).toArray,vI 0] [qE ((f 1).x)] Tryz.func86 () []
 | cons c n =>
  replace hm := (hst55 _ _ _ _).symm.trans hm
  try dsimp only at hm
  refine GS.seq ?_
  refine GS.ez [] [(14,.bool (decide ((d : Int) < (a.length : Int))))] [] ?_
  refine GS.seq ?_
  refine GS.cd (decide ((d : Int) < (a.length : Int))) (fun _ => ?_) (fun B => absb (drop_dec q) B)
  refine GS.skip ?_
  refine GS.seq ?_
  refine GS.block ?_
  refine GS.seq ?_
  refine GS.dg [14] (fun h => [(9,pA ((h 2).x) 0)]) [] (fun h => [(6,.cells ((h 2).x) 94 (kc17 c.Client c.Number c.Errno c.Version.Epoch c.Version.N))]) [(0,hA (.idx 2 d)),(1,hR 2 d 0 [vI c.Client,vI c.Number,vI c.Errno,vI c.Version.Epoch,vI c.Version.N]),(2,hN 6),(3,hS 6)] (fun h => [qE b,⟨(mlen S_api_Last.row a : a.length = (List.map S_api_Last.row a).length)⟩,qE (d : Int),⟨((drop_lt q) : d < a.length)⟩,qE (blk b),qE (offs b + d * 5),⟨(map_drop S_api_Last.row q : (List.map S_api_Last.row a)[d]? = some [vI c.Client,vI c.Number,vI c.Errno,vI c.Version.Epoch,vI c.Version.N])⟩,qE ((h 2).x),qE true]) (fun h => ?_)
  refine GS.seq ?_
  refine GS.seq ?_
  refine GS.eg [] [(20,.bool (c.Client != a1))] [] [] [(1,hL 6 0 0)] [qE ((h 2).x)] ?_
  refine GS.cd (c.Client != a1) (fun r => ?_) (fun r => ?_)
  ·replace hm := br_t r hm
   refine GS.exit rfl ?_
   refine GS.eg [9,20] [(13,vI ((d + 1 : Nat) : Int))] [6] [] [(0,hP (vI ((d + 1 : Nat) : Int)))] [⟨(natw (drop_lt q) z : ((vI (IntKind.i64.wrap ((d : Int) + 1))) : Value) = vI ((d + 1 : Nat) : Int))⟩] ?_
   refine GS.inLoop ?_
   exact GS.rs (v ⟨n,d + 1⟩ ⟨drop_next q,hm⟩ (Nat.lt_succ_self _))
  ·replace hm := br_f r hm
   refine GS.skip ?_
   refine GS.seq ?_
   refine GS.block ?_
   refine GS.seq ?_
   refine GS.eg [1,11,12,13,20] [(21,.bool (a2 == c.Number))] [2] [] [(2,hL 6 0 0)] [qE ((h 2).x)] ?_
   refine GS.cd (a2 == c.Number) (fun s => ?_) (fun s => ?_)
   ·replace hm := br_t s hm
    refine GS.seq ?_
    refine GS.eg [2,9,21] [(7,vI 1)] [6] [(5,.cells ((f 1).x) 94 (kc17 c.Client c.Number c.Errno c.Version.Epoch c.Version.N))] [(0,hL 6 0 0),(1,hS 5)] [qE ((h 2).x),qE ((f 1).x),qE true] ?_
    have hy := Option.some.inj hm
    subst hy
    exact GS.rw [5,0] [.agg ((kc17 c.Client c.Number c.Errno c.Version.Epoch c.Version.N)).toArray,vI 1] [qE ((f 1).x)] Tryz.func86 () []
   ·replace hm := br_f s hm
    refine GS.seq ?_
    refine GS.eg [2,21] [(27,.bool (decide (a2 < c.Number)))] [] [] [(2,hL 6 0 0)] [qE ((h 2).x)] ?_
    refine GS.cd (decide (a2 < c.Number)) (fun u => ?_) (fun u => ?_)
    ·replace hm := br_t u hm
     refine GS.seq ?_
     refine GS.eg [9,27] [(7,vI 2)] [6] [(5,.cells ((f 1).x) 94 (kc17 c.Client c.Number c.Errno c.Version.Epoch c.Version.N))] [(0,hL 6 0 0),(1,hS 5)] [qE ((h 2).x),qE ((f 1).x),qE true] ?_
     have hy := Option.some.inj hm
     subst hy
     exact GS.rw [5,0] [.agg ((kc17 c.Client c.Number c.Errno c.Version.Epoch c.Version.N)).toArray,vI 2] [qE ((f 1).x)] Tryz.func86 () []
    ·replace hm := br_f u hm
     refine GS.skip ?_
     refine GS.inBlock ?_
     refine GS.seq ?_
     refine GS.eg [9,27] [(7,vI 0)] [6] [] [(1,hS 5)] [qE ((f 1).x),qE true] ?_
     have hy := Option.some.inj hm
     subst hy
     exact GS.rw [5,0] [.agg ((kc16)).toArray,vI 0] [qE ((f 1).x)] Tryz.func86 () []

theorem w___primary_Machine__to (F n : Nat) (h i j k l a b c d e f g : Value) (T aa ab ac ad V W Y Z U o p q r s t u v z A B C D : Int) (E : Bool) (G : Int) (H : ByteArray) (I J : Int) (K : ByteArray) (L M N : Int) (O : ByteArray) (P Q R : Int) {y : Unit} (hm : m___primary_Machine__to F T aa ab ac ad V W Y Z U o p q r s t u v z A B C D E G H I J K L M N O P Q R = some y) : CallG Tryz.prog 70 #[pA n 0,vI 0,.agg ((kc23 T aa ab ac ad V W Y Z U o p q r s t u v z A B C D E G H I J K L M N O P Q R)).toArray] (X := Unit) (fun (_ : Unit) => .agg ((kc26 T U o p q r s t u v z A B C D E G H I J K L M N O P Q R)).toArray) [] [.rd (some ⟨n,0,none⟩) 17 [(kc18 h i j k l a b c d e f g)]] (fun (_ : Unit) => []) := by
 rw [m___primary_Machine__to] at hm
 refine GS.st Tryz.func70 Tryz.ntmps70 (fun w => ?_)
 refine GS.seq ?_
 refine GS.dg [2] (fun m => [(5,pA ((m 0).x) 0),(6,pA ((m 1).x) 0)]) [] (fun m => [(2,.cells ((m 0).x) 65 (kc23 T aa ab ac ad V W Y Z U o p q r s t u v z A B C D E G H I J K L M N O P Q R)),(3,.cells ((m 1).x) 65 (kc19))]) [(0,hN 2),(1,hN 3)] (fun m => []) (fun m => ?_)
 refine GS.seq ?_
 refine GS.eg [1] [] [] [(2,.cells ((m 0).x) 65 (kc25 T V W Y Z U o p q r s t u v z A B C D E G H I J K L M N O P Q R))] [(3,hR 1 0 3 (kc18 h i j k l a b c d e f g)),(8,hS 2),(10,hS 2)] [qE n,qE (offs (some ⟨n,0,none⟩) + (0 * 17 + 3)),qE (some (kc18 h i j k l a b c d e f g)),qE ((m 0).x),qE true,qE ((m 0).x),qE true] ?_
 refine GS.seq ?_
 refine GS.yg [0] [] [1] [(2,.cells ((m 0).x) 65 (kc26 T U o p q r s t u v z A B C D E G H I J K L M N O P Q R))] [(3,hR 1 0 4 (kc18 h i j k l a b c d e f g)),(7,hR 1 0 0 (kc18 h i j k l a b c d e f g)),(11,hR 1 0 2 (kc18 h i j k l a b c d e f g)),(13,hS 2),(15,hS 2),(17,hS 2)] [qE n,qE (offs (some ⟨n,0,none⟩) + (0 * 17 + 4)),qE (some (kc18 h i j k l a b c d e f g)),qE n,qE (offs (some ⟨n,0,none⟩) + (0 * 17 + 0)),qE (some (kc18 h i j k l a b c d e f g)),qE n,qE (offs (some ⟨n,0,none⟩) + (0 * 17 + 2)),qE (some (kc18 h i j k l a b c d e f g)),qE ((m 0).x),qE true,qE ((m 0).x),qE true,qE ((m 0).x),qE true] ?_
 refine GS.seq ?_
 refine GS.eg [5] [] [2] [(3,.cells ((m 1).x) 65 (kc26 T U o p q r s t u v z A B C D E G H I J K L M N O P Q R))] [(0,hL 2 0 0),(1,hS 3)] [qE ((m 0).x),qE ((m 1).x),qE true] ?_
 have hy := Option.some.inj hm
 subst hy
 exact GS.rv [3] [qE ((m 1).x)] Tryz.func70 () []

theorem w___primary_Machine__answer (F Z : Nat) (P Q R T U H I J K L M N : Value) (a9 V W ba bb bc bd be bf G b aa ab ac ad ae af ag ah ai aj ak al : Int) (am : Bool) (an : Int) (ao : ByteArray) (ap aq : Int) (ar : ByteArray) (au av aw : Int) (ax : ByteArray) (c : Option Addr) (Y : Nat) (O : List UInt8) (ay az a0 bh a1 a2 a3 a4 a5 a6 a7 a8 bi bg d e f g h i j k l m n o : Int) (p : Bool) (q : Int) (r : ByteArray) (s t : Int) (u : ByteArray) (v z A : Int) (B : ByteArray) (C D E : Int) {y : Unit} (hm : m___primary_Machine__answer F a9 V W ba bb bc bd be bf G b aa ab ac ad ae af ag ah ai aj ak al am an ao ap aq ar au av aw ax O ay az a0 bh a1 a2 a3 a4 a5 a6 a7 a8 bi bg d e f g h i j k l m n o p q r s t u v z A B C D E = some y) : CallG Tryz.prog 45 #[pA Z 0,.agg ((kc12 a9 V W ba bb bc bd be bf G b aa ab ac ad ae af ag ah ai aj ak al am an ao ap aq ar au av aw ax c O.length Y ay az a0)).toArray,.agg ((kc23 bh a1 a2 a3 a4 a5 a6 a7 a8 bi bg d e f g h i j k l m n o p q r s t u v z A B C D E)).toArray] (X := Unit) (fun (_ : Unit) => .agg ((kc28 V W G b d e f g h i j k l m n o p q r s t u v z A B C D E)).toArray) [] [.rd (some ⟨Z,0,none⟩) 17 [(kc18 P Q R T U H I J K L M N)],r5 c O] (fun (_ : Unit) => []) := by
 rw [m___primary_Machine__answer] at hm
 refine GS.st Tryz.func45 Tryz.ntmps45 (fun w => ?_)
 refine GS.seq ?_
 refine GS.dg [1,2] (fun a => [(4,pA ((a 0).x) 0),(5,pA ((a 1).x) 0),(6,pA ((a 2).x) 0)]) [] (fun a => [(3,.cells ((a 0).x) 65 (kc12 a9 V W ba bb bc bd be bf G b aa ab ac ad ae af ag ah ai aj ak al am an ao ap aq ar au av aw ax c O.length Y ay az a0)),(4,.cells ((a 1).x) 65 (kc23 bh a1 a2 a3 a4 a5 a6 a7 a8 bi bg d e f g h i j k l m n o p q r s t u v z A B C D E)),(5,.cells ((a 2).x) 65 (kc19))]) [(0,hN 3),(1,hN 4),(2,hN 5)] (fun a => []) (fun a => ?_)
 refine GS.seq ?_
 refine GS.yg [] [] [] [(4,.cells ((a 1).x) 65 (kc24 a1 a2 a3 a4 a5 a6 a7 a8 G b d e f g h i j k l m n o p q r s t u v z A B C D E))] [(1,hL 3 0 0),(3,hL 3 0 0),(5,hS 4),(7,hS 4),(9,hS 4)] [qE ((a 0).x),qE ((a 0).x),qE ((a 1).x),qE true,qE ((a 1).x),qE true,qE ((a 1).x),qE true] ?_
 refine GS.seq ?_
 refine bnd_elim hm (fun y4 e5 hm => ?_)
 refine GS.eg [0] [] [1] [(4,.cells ((a 1).x) 65 (kc27 G b d e f g h i j k l m n o p q r s t u v z A B C D E))] [(1,hL 4 0 0),(2,hC [1] (.agg ((kc27 G b d e f g h i j k l m n o p q r s t u v z A B C D E)).toArray)),(3,hS 4)] [qE ((a 1).x),⟨(w___primary_Machine__to F Z P Q R T U H I J K L M N 31 a1 a2 a3 a4 a5 a6 a7 a8 G b d e f g h i j k l m n o p q r s t u v z A B C D E e5).ok (es := [some (.rd (some ⟨Z,0,none⟩) 17 [(kc18 P Q R T U H I J K L M N)])]) ⟨(.inl ⟨_,mm0,Cov.refl _⟩),trivial⟩⟩,qE ((a 1).x),qE true] ?_
 refine GS.seq ?_
 refine GS.eg [4] [] [2,3] [(4,.cells ((a 1).x) 65 (kc28 V W G b d e f g h i j k l m n o p q r s t u v z A B C D E))] [(1,hL 3 0 0),(3,hS 4)] [qE ((a 0).x),qE ((a 1).x),qE true] ?_
 refine GS.seq ?_
 refine GS.eg [5] [] [4] [(5,.cells ((a 2).x) 65 (kc28 V W G b d e f g h i j k l m n o p q r s t u v z A B C D E))] [(0,hL 4 0 0),(1,hS 5)] [qE ((a 1).x),qE ((a 2).x),qE true] ?_
 have hy := Option.some.inj hm
 subst hy
 exact GS.rv [5] [qE ((a 2).x)] Tryz.func45 () []

theorem w___primary_Machine__again (F ah : Nat) (q r s u v d e f g h i j : Value) (aj A B ak al am an ao ap C n D G H J K L N O P Q R T : Int) (U : Bool) (V : Int) (W : ByteArray) (Y Z : Int) (aa : ByteArray) (ab ac ad : Int) (z : ByteArray) (a : Option Addr) (o : Nat) (c : List UInt8) (ae af ag au av p aq ar : Int) {y : R___primary_Machine__again} (hm : m___primary_Machine__again F aj A B ak al am an ao ap C n D G H J K L N O P Q R T U V W Y Z aa ab ac ad z c ae af ag au av p aq ar = some y) : CallG Tryz.prog 87 #[pA ah 0,.agg ((kc12 aj A B ak al am an ao ap C n D G H J K L N O P Q R T U V W Y Z aa ab ac ad z a c.length o ae af ag)).toArray,.agg ((kc17 au av p aq ar)).toArray] (X := Unit) (fun (_ : Unit) => .agg ((kc29 A B C n y.a0 y.a1 y.a2 p)).toArray) [] [.rd (some ⟨ah,0,none⟩) 17 [(kc18 q r s u v d e f g h i j)],r5 a c] (fun (_ : Unit) => []) := by
 rw [m___primary_Machine__again] at hm
 refine GS.st Tryz.func87 Tryz.ntmps87 (fun w => ?_)
 refine GS.seq ?_
 refine GS.dg [1,2] (fun b => [(4,pA ((b 0).x) 0),(5,pA ((b 1).x) 0),(6,pA ((b 2).x) 0)]) [] (fun b => [(3,.cells ((b 0).x) 65 (kc12 aj A B ak al am an ao ap C n D G H J K L N O P Q R T U V W Y Z aa ab ac ad z a c.length o ae af ag)),(4,.cells ((b 1).x) 94 (kc17 au av p aq ar)),(5,.cells ((b 2).x) 65 (kc19))]) [(0,hN 3),(1,hN 4),(2,hN 5)] (fun b => []) (fun b => ?_)
 refine GS.seq ?_
 refine GS.dg [] (fun ai => [(7,pA ((ai 3).x) 0)]) [] (fun ai => [(6,.cells ((ai 3).x) 65 (kc20 p))]) [(1,hL 4 0 0),(3,hN 6),(4,hS 6)] (fun ai => [qE ((b 1).x),qE ((ai 3).x),qE true]) (fun ai => ?_)
 refine GS.seq ?_
 refine GS.seq ?_
 refine GS.eg [] [(13,.bool (p == 0))] [] [] [(1,hL 4 0 0)] [qE ((b 1).x)] ?_
 refine jn_elim hm (fun J6 aw hm => ?_)
 refine GS.cu (ι := ByteArray × Int × Int) (fun ⟨k,l,m⟩ => J6 (k,l,m) = some y) [5,13] (fun ⟨k,l,m⟩ => []) [4] (fun ⟨k,l,m⟩ => [(6,.cells ((ai 3).x) 65 (kc22 k l m p))]) ?_ ?_
 rotate_left
 ·intro H7
  refine GS.cd (p == 0) (fun h4 => ?_) (fun h4 => ?_)
  ·replace hm := br_t h4 hm
   refine GS.eg [5,13] [] [4] [(6,.cells ((ai 3).x) 65 (kc22 z aq ar p))] [(2,hL 3 0 0),(4,hL 4 0 0),(7,hS 6)] [qE ((b 0).x),qE ((b 1).x),qE ((ai 3).x),qE true] ?_
   exact GS.rs (H7 ⟨z,aq,ar⟩ hm)
  ·replace hm := br_f h4 hm
   refine GS.skip ?_
   exact GS.rs (H7 ⟨(ByteArray.mk #[]),0,0⟩ hm)
 ·rintro ⟨k,l,m⟩ hm
  replace hm := (aw _).symm.trans hm
  try dsimp only at hm
  refine GS.seq ?_
  refine bnd_elim hm (fun ay ax hm => ?_)
  refine GS.eg [0,4,7] [] [1,2,3,6] [(5,.cells ((b 2).x) 65 (kc29 A B C n k l m p))] [(1,hL 3 0 0),(2,hL 6 0 0),(3,hC [1,2] (.agg ((kc29 A B C n k l m p)).toArray)),(4,hS 5)] [qE ((b 0).x),qE ((ai 3).x),⟨(w___primary_Machine__answer F ah q r s u v d e f g h i j aj A B ak al am an ao ap C n D G H J K L N O P Q R T U V W Y Z aa ab ac ad z a o c ae af ag 0 0 0 0 0 0 0 0 0 0 0 0 0 0 0 0 0 0 0 0 0 0 0 false 0 (ByteArray.mk #[]) 0 0 k l m 0 (ByteArray.mk #[]) 0 0 p ax).ok (es := [some (.rd (some ⟨ah,0,none⟩) 17 [(kc18 q r s u v d e f g h i j)]),some (r5 a c)]) ⟨(.inl ⟨_,mm0,Cov.refl _⟩),(.inl ⟨_,mm1,Cov.refl _⟩),trivial⟩⟩,qE ((b 2).x),qE true] ?_
  have hy := Option.some.inj hm
  subst hy
  exact GS.rv [5] [qE ((b 2).x)] Tryz.func87 () []

theorem w_pglog_Find (F : Nat) (p : Int) (j : S_api_Version) (i : Option Addr) (o : Nat) (k : List S_api_Entry) (f : Option Addr) (m : Nat) (g : List S_api_Last) (b : Option Addr) (d : Nat) (a : List S_api_Item) (a1 : ByteArray) {y : S_api_Item × Bool} (hm : m_pglog_Find F p j k g a a1 = some y) : CallG Tryz.prog 37 #[.agg ((kc15 p j.Epoch j.N i k.length o f g.length m b a.length d)).toArray,.string a1] (X := Unit) (fun (_ : Unit) => .tuple #[.agg ((kc33 y.1.Name y.1.Version.Epoch y.1.Version.N y.1.Crc)).toArray,.bool y.2]) [] [r31 i k,r94 f g,r91 b a] (fun (_ : Unit) => []) := by
 rw [m_pglog_Find] at hm
 refine GS.st Tryz.func37 Tryz.ntmps37 (fun w => ?_)
 refine GS.seq ?_
 refine GS.dg [0] (fun e => [(2,pA ((e 0).x) 0),(4,pA ((e 1).x) 0)]) [] (fun e => [(4,.cells ((e 0).x) 28 (kc15 p j.Epoch j.N i k.length o f g.length m b a.length d)),(5,.cells ((e 1).x) 91 (kc32))]) [(0,hN 4),(1,hN 5)] (fun e => []) (fun e => ?_)
 refine GS.seq ?_
 refine GS.seq ?_
 refine GS.eg [2] [(9,.slice b a.length d),(10,vI (a.length : Int)),(11,vI 0)] [1,2,4] [] [(1,hL 4 0 0)] [qE ((e 0).x)] ?_
 refine GS.block ?_
 refine GS.loop ?_
 refine grd_elim hm (fun u hm => ?_)
 refine loopL_elim hm (fun st35 fn36 hst37 hfn38 hm => ?_)
 refine GS.li (ι := List S_api_Item × Nat) (fun ⟨n,c⟩ => a.drop c = n ∧ loopL st35 fn36 n c () = some y) (fun ⟨n,c⟩ => n.length) [] (fun ⟨n,c⟩ => [(11,vI (c : Int))]) [] (fun ⟨n,c⟩ => []) ?_ ⟨a,0⟩ ⟨List.drop_zero ..,hm⟩
 rintro ⟨n,c⟩ ⟨q,hm⟩ s
 cases n with
 | nil =>
  replace hm := (hfn38 _ _).symm.trans hm
  try dsimp only at hm
  refine GS.seq ?_
  refine GS.ez [] [(12,.bool (decide ((c : Int) < (a.length : Int))))] [] ?_
  refine GS.seq ?_
  refine GS.cd (decide ((c : Int) < (a.length : Int))) (fun v => absb v (drop_dec0 q)) (fun _ => ?_)
  refine GS.exit rfl ?_
  refine GS.seq ?_
  refine GS.eg [1,9,10,11,12] [(5,.bool false)] [3] [] [(1,hS 5)] [qE ((e 1).x),qE true] ?_
  have hy := Option.some.inj hm
  subst hy
  exact GS.rw [5,0] [.agg ((kc32)).toArray,.bool false] [qE ((e 1).x)] Tryz.func37 () []
 | cons h n =>
  replace hm := (hst37 _ _ _ _).symm.trans hm
  try dsimp only at hm
  refine GS.seq ?_
  refine GS.ez [] [(12,.bool (decide ((c : Int) < (a.length : Int))))] [] ?_
  refine GS.seq ?_
  refine GS.cd (decide ((c : Int) < (a.length : Int))) (fun _ => ?_) (fun z => absb (drop_dec q) z)
  refine GS.skip ?_
  refine GS.seq ?_
  refine GS.block ?_
  refine GS.seq ?_
  refine GS.dg [12] (fun l => [(7,pA ((l 2).x) 0)]) [] (fun l => [(6,.cells ((l 2).x) 91 (kc33 h.Name h.Version.Epoch h.Version.N h.Crc))]) [(0,hA (.idx 3 c)),(1,hR 3 c 0 [.string h.Name,vI h.Version.Epoch,vI h.Version.N,.int .u32 h.Crc]),(2,hN 6),(3,hS 6)] (fun l => [qE b,⟨(mlen S_api_Item.row a : a.length = (List.map S_api_Item.row a).length)⟩,qE (c : Int),⟨((drop_lt q) : c < a.length)⟩,qE (blk b),qE (offs b + c * 4),⟨(map_drop S_api_Item.row q : (List.map S_api_Item.row a)[c]? = some [.string h.Name,vI h.Version.Epoch,vI h.Version.N,.int .u32 h.Crc])⟩,qE ((l 2).x),qE true]) (fun l => ?_)
  refine GS.seq ?_
  refine GS.eg [] [(18,.bool (h.Name.toList == a1.toList))] [] [] [(1,hL 6 0 0)] [qE ((l 2).x)] ?_
  refine GS.cd (h.Name.toList == a1.toList) (fun r => ?_) (fun r => ?_)
  ·replace hm := br_t r hm
   refine GS.seq ?_
   refine GS.eg [1,7,9,10,11,18] [(5,.bool true)] [3,6] [(5,.cells ((e 1).x) 91 (kc33 h.Name h.Version.Epoch h.Version.N h.Crc))] [(0,hL 6 0 0),(1,hS 5)] [qE ((l 2).x),qE ((e 1).x),qE true] ?_
   have hy := Option.some.inj hm
   subst hy
   exact GS.rw [5,0] [.agg ((kc33 h.Name h.Version.Epoch h.Version.N h.Crc)).toArray,.bool true] [qE ((e 1).x)] Tryz.func37 () []
  ·replace hm := br_f r hm
   refine GS.skip ?_
   refine GS.inBlock ?_
   refine GS.eg [7,18] [(11,vI ((c + 1 : Nat) : Int))] [6] [] [(0,hP (vI ((c + 1 : Nat) : Int)))] [⟨(natw (drop_lt q) u : ((vI (IntKind.i64.wrap ((c : Int) + 1))) : Value) = vI ((c + 1 : Nat) : Int))⟩] ?_
   refine GS.inLoop ?_
   exact GS.rs (s ⟨n,c + 1⟩ ⟨drop_next q,hm⟩ (Nat.lt_succ_self _))

end Go.Proofs.YtjnbkhnebmlilaaGreat
