/-
  CHAPTER 01: the functions do what their models say (9).
-/
import Derived.Test.YtmjlfdllpnkgoaaW01h
set_option linter.unusedVariables false
set_option linter.unusedSimpArgs false
set_option maxRecDepth 100000
namespace Go.Proofs.Ytmjlfdllpnkgoaa
open Go Go.RowKit Sx

theorem w_tholelaw01_DigestSums (F : Nat) (a0_o : Option Addr) (a0_c : Nat) (a0 : List UInt8) {y : Bool} (hm : m_tholelaw01_DigestSums F a0 = some y) : CallG Try.prog 3 #[.slice a0_o a0.length a0_c] (X := Unit) (fun (_ : Unit) => .bool y) [] [r5 a0_o a0] (fun (_ : Unit) => []) := by
  intro w hg
  rw [m_tholelaw01_DigestSums] at hm
  refine GS.start (S := mayT [] [r5 a0_o a0]) (mem := [(1, r5 a0_o a0)]) Try.func3 rfl Try.ntmps3 (Nat.le_of_ble_eq_true rfl) (hg.start rfl) ?_
  refine GS.conv (env' := [(0, .slice a0_o a0.length a0_c)]) rfl rfl ?_
  refine GS.seq ?_
  refine GS.region (env' := fun _ => [(0, .slice a0_o a0.length a0_c)]) (mem' := fun _ => [(1, r5 a0_o a0)]) (RunsTo.mk [] [0] [1] (fun _ => []) (fun _ => by kernel_rfl) (fun _ => trivial)) ?_
  intro _
  refine GS.seq ?_
  refine bnd_elim hm (fun y3 e4 hm => ?_)
  refine GS.open_ ?_
  refine GR.callG (X := Nat) (i := 0) (g := 10) (args := #[]) (v := fun (x5 : Nat) => .pointer (some ⟨x5, 0, none⟩)) (own := []) (ro := []) (es' := fun (x5 : Nat) => [.cells x5 60 (([.int .u32 y3.once.done.v, .int .i32 y3.once.m.mu.state, .int .u32 y3.once.m.mu.sema] : List Value) ++ (aU32 y3.table ++ (([.int .i64 y3.calls.v] : List Value))))]) (mem' := fun (x5 : Nat) => [(1, r5 a0_o a0), (2, .cells x5 60 (([.int .u32 y3.once.done.v, .int .i32 y3.once.m.mu.state, .int .u32 y3.once.m.mu.sema] : List Value) ++ (aU32 y3.table ++ (([.int .i64 y3.calls.v] : List Value)))))]) (env' := fun (x5 : Nat) => [(0, .slice a0_o a0.length a0_c), (6, .pointer (some ⟨x5, 0, none⟩))]) [] [2] [0, 6] [1, 2] false (by kernel_rfl) (by kernel_rfl) (by kernel_rfl) (by kernel_rfl) (by kernel_rfl) (fun _ => rfl) (fun _ _ => rfl) trivial (by rintro x5; kernel_rfl) (by rintro x5; kernel_rfl) (w_digest_New F  e4) ?_
  rintro x5
  refine GR.run (i := 1) 1 (env' := fun _ => [(0, .slice a0_o a0.length a0_c), (3, .pointer (some ⟨x5, 0, none⟩))]) (mem' := fun _ => [(1, r5 a0_o a0), (2, .cells x5 60 (([.int .u32 y3.once.done.v, .int .i32 y3.once.m.mu.state, .int .u32 y3.once.m.mu.sema] : List Value) ++ (aU32 y3.table ++ (([.int .i64 y3.calls.v] : List Value)))))]) (Nat.le_of_ble_eq_true (by kernel_rfl)) (RunsTo.mk [] [0, 3] [1, 2] (fun _ => []) (fun _ => by kernel_rfl) (fun _ => trivial)) ?_
  intro _
  refine GR.done (Nat.le_of_ble_eq_true (by kernel_rfl)) ?_
  refine GS.seq ?_
  refine GS.seq ?_
  refine GS.region (env' := fun _ => [(0, .slice a0_o a0.length a0_c), (3, .pointer (some ⟨x5, 0, none⟩)), (13, .bool (decide (((a0.length : Nat) : Int) > 20000)))]) (mem' := fun _ => [(1, r5 a0_o a0), (2, .cells x5 60 (([.int .u32 y3.once.done.v, .int .i32 y3.once.m.mu.state, .int .u32 y3.once.m.mu.sema] : List Value) ++ (aU32 y3.table ++ (([.int .i64 y3.calls.v] : List Value)))))]) (RunsTo.mk [] [0, 3, 13] [1, 2] (fun _ => []) (fun _ => by kernel_rfl) (fun _ => trivial)) ?_
  intro _
  refine GS.cond (t := decide (((a0.length : Nat) : Int) > 20000)) rfl rfl (fun h8 => ?_) (fun h8 => ?_)
  · replace hm := br_t h8 hm
    refine GS.seq ?_
    refine bnd_elim hm (fun y10 e11 hm => ?_)
    refine GS.region (env' := fun _ => [(2, .bool y10)]) (mem' := fun _ => []) (RunsTo.mk [(3, { act := .call [] (.bool y10) })] [2] [] (fun _ => [CallOK Try.prog 11 #[] (.bool y10) []]) (fun _ => by kernel_rfl) (fun _ => ⟨(w_tholelaw01_lives F  e11).ok trivial, trivial⟩)) ?_
    intro _
    have hy := Option.some.inj hm
    subst hy
    refine GS.ret (fn := Try.f3) [0] [.bool y10] [] rfl Try.func3 (by kernel_rfl) trivial (fun w' hs => ?_)
    exact ⟨(), rfl, hs.turnedG (ks := []) rfl rfl⟩
  · replace hm := br_f h8 hm
    refine GS.skip ?_
    refine GS.seq ?_
    refine bnd_elim hm (fun y13 e14 hm => ?_)
    refine GS.open_ ?_
    refine GR.run (i := 0) 1 (env' := fun _ => [(0, .slice a0_o a0.length a0_c), (3, .pointer (some ⟨x5, 0, none⟩)), (20, .slice a0_o a0.length a0_c)]) (mem' := fun _ => [(1, r5 a0_o a0), (2, .cells x5 60 (([.int .u32 y3.once.done.v, .int .i32 y3.once.m.mu.state, .int .u32 y3.once.m.mu.sema] : List Value) ++ (aU32 y3.table ++ (([.int .i64 y3.calls.v] : List Value)))))]) (Nat.le_of_ble_eq_true (by kernel_rfl)) (RunsTo.mk [] [0, 3, 20] [1, 2] (fun _ => []) (fun _ => by kernel_rfl) (fun _ => trivial)) ?_
    intro _
    refine GR.callG (X := Option Addr × Nat × Option Addr × Nat) (i := 1) (g := 12) (args := #[.slice a0_o a0.length a0_c]) (v := fun ⟨x15, x16, x17, x18⟩ => .tuple #[.slice x15 y13.1.length x16, .slice x17 y13.2.length x18]) (own := []) (ro := [r5 a0_o a0]) (es' := fun ⟨x15, x16, x17, x18⟩ => [r5 x15 y13.1, Ent.fact (y13.1.length ≤ x16), r5 x17 y13.2, Ent.fact (y13.2.length ≤ x18)]) (mem' := fun ⟨x15, x16, x17, x18⟩ => [(1, r5 a0_o a0), (2, .cells x5 60 (([.int .u32 y3.once.done.v, .int .i32 y3.once.m.mu.state, .int .u32 y3.once.m.mu.sema] : List Value) ++ (aU32 y3.table ++ (([.int .i64 y3.calls.v] : List Value))))), (3, r5 x15 y13.1), (4, Ent.fact (y13.1.length ≤ x16)), (5, r5 x17 y13.2), (6, Ent.fact (y13.2.length ≤ x18))]) (env' := fun ⟨x15, x16, x17, x18⟩ => [(0, .slice a0_o a0.length a0_c), (3, .pointer (some ⟨x5, 0, none⟩)), (21, .tuple #[.slice x15 y13.1.length x16, .slice x17 y13.2.length x18])]) [] [3, 4, 5, 6] [0, 3, 21] [1, 2, 3, 4, 5, 6] true (by kernel_rfl) (by kernel_rfl) (by kernel_rfl) (by kernel_rfl) (by kernel_rfl) (fun _ => rfl) (fun h => by cases h) ⟨(.inl ⟨1, _, rfl, rfl, Cov.refl _, fun _ => rfl⟩), trivial⟩ (by rintro ⟨x15, x16, x17, x18⟩; kernel_rfl) (by rintro ⟨x15, x16, x17, x18⟩; kernel_rfl) (w_tholeref01_Lend F a0_o a0_c a0 e14) ?_
    rintro ⟨x15, x16, x17, x18⟩
    refine GR.know (p := y13.1.length ≤ x16) (fun w hw => (hw.ok 4 _ rfl).1) (fun k19 => ?_)
    refine GR.know (p := y13.2.length ≤ x18) (fun w hw => (hw.ok 6 _ rfl).1) (fun k20 => ?_)
    refine GR.run (i := 2) 5 (env' := fun _ => [(0, .slice a0_o a0.length a0_c), (3, .pointer (some ⟨x5, 0, none⟩)), (4, .slice x15 y13.1.length x16), (5, .slice x17 y13.2.length x18)]) (mem' := fun _ => [(1, r5 a0_o a0), (2, .cells x5 60 (([.int .u32 y3.once.done.v, .int .i32 y3.once.m.mu.state, .int .u32 y3.once.m.mu.sema] : List Value) ++ (aU32 y3.table ++ (([.int .i64 y3.calls.v] : List Value))))), (3, r5 x15 y13.1), (5, r5 x17 y13.2)]) (Nat.le_of_ble_eq_true (by kernel_rfl)) (RunsTo.mk [] [0, 3, 4, 5] [1, 2, 3, 5] (fun _ => []) (fun _ => by kernel_rfl) (fun _ => trivial)) ?_
    intro _
    refine GR.done (Nat.le_of_ble_eq_true (by kernel_rfl)) ?_
    refine GS.seq ?_
    refine bnd_elim hm (fun y23 e24 hm => ?_)
    refine GS.open_ ?_
    refine GR.run (i := 0) 2 (env' := fun _ => [(0, .slice a0_o a0.length a0_c), (3, .pointer (some ⟨x5, 0, none⟩)), (4, .slice x15 y13.1.length x16), (5, .slice x17 y13.2.length x18), (24, .pointer (some ⟨x5, 0, none⟩)), (25, .slice x17 y13.2.length x18)]) (mem' := fun _ => [(1, r5 a0_o a0), (2, .cells x5 60 (([.int .u32 y3.once.done.v, .int .i32 y3.once.m.mu.state, .int .u32 y3.once.m.mu.sema] : List Value) ++ (aU32 y3.table ++ (([.int .i64 y3.calls.v] : List Value))))), (3, r5 x15 y13.1), (5, r5 x17 y13.2)]) (Nat.le_of_ble_eq_true (by kernel_rfl)) (RunsTo.mk [] [0, 3, 4, 5, 24, 25] [1, 2, 3, 5] (fun _ => []) (fun _ => by kernel_rfl) (fun _ => trivial)) ?_
    intro _
    refine GR.callG (X := Unit) (i := 2) (g := 13) (args := #[.pointer (some ⟨x5, 0, none⟩), .slice x17 y13.2.length x18]) (v := fun (_ : Unit) => .int .u32 y23.1) (own := [.cells x5 60 (([.int .u32 y3.once.done.v, .int .i32 y3.once.m.mu.state, .int .u32 y3.once.m.mu.sema] : List Value) ++ (aU32 y3.table ++ (([.int .i64 y3.calls.v] : List Value))))]) (ro := [r5 x17 y13.2]) (es' := fun (_ : Unit) => [.cells x5 60 (([.int .u32 y23.2.once.done.v, .int .i32 y23.2.once.m.mu.state, .int .u32 y23.2.once.m.mu.sema] : List Value) ++ (aU32 y23.2.table ++ (([.int .i64 y23.2.calls.v] : List Value))))]) (mem' := fun (_ : Unit) => [(1, r5 a0_o a0), (2, .cells x5 60 (([.int .u32 y23.2.once.done.v, .int .i32 y23.2.once.m.mu.state, .int .u32 y23.2.once.m.mu.sema] : List Value) ++ (aU32 y23.2.table ++ (([.int .i64 y23.2.calls.v] : List Value))))), (3, r5 x15 y13.1), (5, r5 x17 y13.2)]) (env' := fun (_ : Unit) => [(0, .slice a0_o a0.length a0_c), (3, .pointer (some ⟨x5, 0, none⟩)), (4, .slice x15 y13.1.length x16), (5, .slice x17 y13.2.length x18), (26, .int .u32 y23.1)]) [2] [2] [0, 3, 4, 5, 26] [1, 2, 3, 5] false (by kernel_rfl) (by kernel_rfl) (by kernel_rfl) (by kernel_rfl) (by kernel_rfl) (fun _ => rfl) (fun _ _ => rfl) ⟨(.inl ⟨5, _, rfl, rfl, Cov.refl _, fun h => by cases h⟩), trivial⟩ (by rintro _; kernel_rfl) (by rintro _; kernel_rfl) (w___digest_Engine__Crc F x5 y3 x17 x18 y13.2 e24) ?_
    rintro _
    refine bnd_elim hm (fun y26 e27 hm => ?_)
    refine br_elim hm (fun h28 hm => ?_) (fun h28 hm => ?_)
    · skip
      refine bnd_elim hm (fun y29 e30 hm => ?_)
      refine GR.run (i := 3) 6 (env' := fun _ => [(0, .slice a0_o a0.length a0_c), (3, .pointer (some ⟨x5, 0, none⟩)), (4, .slice x15 y13.1.length x16), (30, .bool true), (31, .pointer (some ⟨x5, 0, none⟩)), (32, .slice x17 y13.2.length x18)]) (mem' := fun _ => [(1, r5 a0_o a0), (2, .cells x5 60 (([.int .u32 y23.2.once.done.v, .int .i32 y23.2.once.m.mu.state, .int .u32 y23.2.once.m.mu.sema] : List Value) ++ (aU32 y23.2.table ++ (([.int .i64 y23.2.calls.v] : List Value))))), (3, r5 x15 y13.1), (5, r5 x17 y13.2)]) (Nat.le_of_ble_eq_true (by kernel_rfl)) (RunsTo.mk [(4, { act := .call [1] (.int .u32 y26) }), (6, { sp := some (.bool true) })] [0, 3, 4, 30, 31, 32] [1, 2, 3, 5] (fun _ => [CallOK Try.prog 14 #[.slice a0_o a0.length a0_c] (.int .u32 y26) [some (r5 a0_o a0)], ((.bool (y23.1 == y26)) : Value) = .bool true]) (fun _ => by kernel_rfl) (fun _ => ⟨(w_tholeref01_Crc F a0_o a0_c a0 e27).ok ⟨(.inl ⟨r5 a0_o a0, .head _, Cov.refl _⟩), trivial⟩, bool_eq h28, trivial⟩)) ?_
      intro _
      refine GR.callG (X := Unit) (i := 9) (g := 15) (args := #[.pointer (some ⟨x5, 0, none⟩), .slice x17 y13.2.length x18]) (v := fun (_ : Unit) => .agg (aU8 y29.1).toArray) (own := [.cells x5 60 (([.int .u32 y23.2.once.done.v, .int .i32 y23.2.once.m.mu.state, .int .u32 y23.2.once.m.mu.sema] : List Value) ++ (aU32 y23.2.table ++ (([.int .i64 y23.2.calls.v] : List Value))))]) (ro := [r5 x17 y13.2]) (es' := fun (_ : Unit) => [.cells x5 60 (([.int .u32 y29.2.once.done.v, .int .i32 y29.2.once.m.mu.state, .int .u32 y29.2.once.m.mu.sema] : List Value) ++ (aU32 y29.2.table ++ (([.int .i64 y29.2.calls.v] : List Value))))]) (mem' := fun (_ : Unit) => [(1, r5 a0_o a0), (2, .cells x5 60 (([.int .u32 y29.2.once.done.v, .int .i32 y29.2.once.m.mu.state, .int .u32 y29.2.once.m.mu.sema] : List Value) ++ (aU32 y29.2.table ++ (([.int .i64 y29.2.calls.v] : List Value))))), (3, r5 x15 y13.1), (5, r5 x17 y13.2)]) (env' := fun (_ : Unit) => [(0, .slice a0_o a0.length a0_c), (3, .pointer (some ⟨x5, 0, none⟩)), (4, .slice x15 y13.1.length x16), (30, .bool true), (33, .agg (aU8 y29.1).toArray)]) [2] [2] [0, 3, 4, 30, 33] [1, 2, 3, 5] false (by kernel_rfl) (by kernel_rfl) (by kernel_rfl) (by kernel_rfl) (by kernel_rfl) (fun _ => rfl) (fun _ _ => rfl) ⟨(.inl ⟨5, _, rfl, rfl, Cov.refl _, fun h => by cases h⟩), trivial⟩ (by rintro _; kernel_rfl) (by rintro _; kernel_rfl) (w___digest_Engine__Sha F x5 y23.2 x17 x18 y13.2 e30) ?_
      rintro _
      refine bnd_elim hm (fun y32 e33 hm => ?_)
      refine grd_elim hm (fun g34 hm => ?_)
      refine grd_elim hm (fun g35 hm => ?_)
      refine br_elim hm (fun h36 hm => ?_) (fun h36 hm => ?_)
      · skip
        refine bnd_elim hm (fun y37 e38 hm => ?_)
        refine GR.run (i := 10) 6 (env' := fun _ => [(0, .slice a0_o a0.length a0_c), (4, .slice x15 y13.1.length x16), (38, .bool true), (39, .pointer (some ⟨x5, 0, none⟩))]) (mem' := fun _ => [(1, r5 a0_o a0), (2, .cells x5 60 (([.int .u32 y29.2.once.done.v, .int .i32 y29.2.once.m.mu.state, .int .u32 y29.2.once.m.mu.sema] : List Value) ++ (aU32 y29.2.table ++ (([.int .i64 y29.2.calls.v] : List Value))))), (3, r5 x15 y13.1)]) (Nat.le_of_ble_eq_true (by kernel_rfl)) (RunsTo.mk [(11, { act := .call [1] (.agg (aU8 y32).toArray) }), (12, { act := .eqA y29.1 y32 }), (14, { sp := some (.bool true) })] [0, 4, 38, 39] [1, 2, 3] (fun _ => [CallOK Try.prog 16 #[.slice a0_o a0.length a0_c] (.agg (aU8 y32).toArray) [some (r5 a0_o a0)], (aU8 y29.1).toArray = (List.map (Value.int .u8) y29.1).toArray, (aU8 y32).toArray = (List.map (Value.int .u8) y32).toArray, y29.1.length = 32, y32.length = 32, ((.bool (y29.1 == y32)) : Value) = .bool true]) (fun _ => by kernel_rfl) (fun _ => ⟨(w_tholeref01_Sha F a0_o a0_c a0 e33).ok ⟨(.inl ⟨r5 a0_o a0, .head _, Cov.refl _⟩), trivial⟩, rfl, rfl, g34, g35, bool_eq h36, trivial⟩)) ?_
        intro _
        refine GR.callG (X := Unit) (i := 16) (g := 17) (args := #[.pointer (some ⟨x5, 0, none⟩)]) (v := fun (_ : Unit) => .int .i64 y37.1) (own := [.cells x5 60 (([.int .u32 y29.2.once.done.v, .int .i32 y29.2.once.m.mu.state, .int .u32 y29.2.once.m.mu.sema] : List Value) ++ (aU32 y29.2.table ++ (([.int .i64 y29.2.calls.v] : List Value))))]) (ro := []) (es' := fun (_ : Unit) => [.cells x5 60 (([.int .u32 y37.2.once.done.v, .int .i32 y37.2.once.m.mu.state, .int .u32 y37.2.once.m.mu.sema] : List Value) ++ (aU32 y37.2.table ++ (([.int .i64 y37.2.calls.v] : List Value))))]) (mem' := fun (_ : Unit) => [(1, r5 a0_o a0), (2, .cells x5 60 (([.int .u32 y37.2.once.done.v, .int .i32 y37.2.once.m.mu.state, .int .u32 y37.2.once.m.mu.sema] : List Value) ++ (aU32 y37.2.table ++ (([.int .i64 y37.2.calls.v] : List Value))))), (3, r5 x15 y13.1)]) (env' := fun (_ : Unit) => [(0, .slice a0_o a0.length a0_c), (4, .slice x15 y13.1.length x16), (38, .bool true), (40, .int .i64 y37.1)]) [2] [2] [0, 4, 38, 40] [1, 2, 3] false (by kernel_rfl) (by kernel_rfl) (by kernel_rfl) (by kernel_rfl) (by kernel_rfl) (fun _ => rfl) (fun _ _ => rfl) trivial (by rintro _; kernel_rfl) (by rintro _; kernel_rfl) (w___digest_Engine__Calls F x5 y29.2 e38) ?_
        rintro _
        refine br_elim hm (fun h40 hm => ?_) (fun h40 hm => ?_)
        · skip
          refine bnd_elim hm (fun y41 e42 hm => ?_)
          refine br_elim hm (fun h43 hm => ?_) (fun h43 hm => ?_)
          · skip
            refine bnd_elim hm (fun y44 e45 hm => ?_)
            refine GR.run (i := 17) 11 (env' := fun _ => [(2, .bool y44)]) (mem' := fun _ => []) (Nat.le_of_ble_eq_true (by kernel_rfl)) (RunsTo.mk [(19, { sp := some (.bool true) }), (22, { act := .call [1, 3] (.bool y41) }), (24, { sp := some (.bool true) }), (25, { act := .call [] (.bool y44) })] [2] [] (fun _ => [((.bool (y37.1 == 2)) : Value) = .bool true, CallOK Try.prog 18 #[.slice x15 y13.1.length x16, .slice a0_o a0.length a0_c] (.bool y41) [some (r5 a0_o a0), some (r5 x15 y13.1)], ((.bool y41) : Value) = .bool true, CallOK Try.prog 11 #[] (.bool y44) []]) (fun _ => by kernel_rfl) (fun _ => ⟨bool_eq h40, (w_tholeref01_Kept F x15 x16 y13.1 a0_o a0_c a0 k19 e42).ok ⟨(.inl ⟨r5 x15 y13.1, (.tail _ (.head _)), Cov.refl _⟩), (.inl ⟨r5 a0_o a0, .head _, Cov.refl _⟩), trivial⟩, bool_eq h43, (w_tholelaw01_lives F  e45).ok trivial, trivial⟩)) ?_
            intro _
            refine GR.done (Nat.le_of_ble_eq_true (by kernel_rfl)) ?_
            have hy := Option.some.inj hm
            subst hy
            refine GS.ret (fn := Try.f3) [0] [.bool y44] [] rfl Try.func3 (by kernel_rfl) trivial (fun w' hs => ?_)
            exact ⟨(), rfl, hs.turnedG (ks := []) rfl rfl⟩
          · skip
            refine GR.run (i := 17) 11 (env' := fun _ => [(2, .bool false)]) (mem' := fun _ => []) (Nat.le_of_ble_eq_true (by kernel_rfl)) (RunsTo.mk [(19, { sp := some (.bool true) }), (22, { act := .call [1, 3] (.bool y41) }), (24, { sp := some (.bool false) })] [2] [] (fun _ => [((.bool (y37.1 == 2)) : Value) = .bool true, CallOK Try.prog 18 #[.slice x15 y13.1.length x16, .slice a0_o a0.length a0_c] (.bool y41) [some (r5 a0_o a0), some (r5 x15 y13.1)], ((.bool y41) : Value) = .bool false]) (fun _ => by kernel_rfl) (fun _ => ⟨bool_eq h40, (w_tholeref01_Kept F x15 x16 y13.1 a0_o a0_c a0 k19 e42).ok ⟨(.inl ⟨r5 x15 y13.1, (.tail _ (.head _)), Cov.refl _⟩), (.inl ⟨r5 a0_o a0, .head _, Cov.refl _⟩), trivial⟩, bool_eq h43, trivial⟩)) ?_
            intro _
            refine GR.done (Nat.le_of_ble_eq_true (by kernel_rfl)) ?_
            have hy := Option.some.inj hm
            subst hy
            refine GS.ret (fn := Try.f3) [0] [.bool false] [] rfl Try.func3 (by kernel_rfl) trivial (fun w' hs => ?_)
            exact ⟨(), rfl, hs.turnedG (ks := []) rfl rfl⟩
        · skip
          refine GR.run (i := 17) 11 (env' := fun _ => [(2, .bool false)]) (mem' := fun _ => []) (Nat.le_of_ble_eq_true (by kernel_rfl)) (RunsTo.mk [(19, { sp := some (.bool false) })] [2] [] (fun _ => [((.bool (y37.1 == 2)) : Value) = .bool false]) (fun _ => by kernel_rfl) (fun _ => ⟨bool_eq h40, trivial⟩)) ?_
          intro _
          refine GR.done (Nat.le_of_ble_eq_true (by kernel_rfl)) ?_
          have hy := Option.some.inj hm
          subst hy
          refine GS.ret (fn := Try.f3) [0] [.bool false] [] rfl Try.func3 (by kernel_rfl) trivial (fun w' hs => ?_)
          exact ⟨(), rfl, hs.turnedG (ks := []) rfl rfl⟩
      · skip
        refine GR.run (i := 10) 18 (env' := fun _ => [(2, .bool false)]) (mem' := fun _ => []) (Nat.le_of_ble_eq_true (by kernel_rfl)) (RunsTo.mk [(11, { act := .call [1] (.agg (aU8 y32).toArray) }), (12, { act := .eqA y29.1 y32 }), (14, { sp := some (.bool false) })] [2] [] (fun _ => [CallOK Try.prog 16 #[.slice a0_o a0.length a0_c] (.agg (aU8 y32).toArray) [some (r5 a0_o a0)], (aU8 y29.1).toArray = (List.map (Value.int .u8) y29.1).toArray, (aU8 y32).toArray = (List.map (Value.int .u8) y32).toArray, y29.1.length = 32, y32.length = 32, ((.bool (y29.1 == y32)) : Value) = .bool false]) (fun _ => by kernel_rfl) (fun _ => ⟨(w_tholeref01_Sha F a0_o a0_c a0 e33).ok ⟨(.inl ⟨r5 a0_o a0, .head _, Cov.refl _⟩), trivial⟩, rfl, rfl, g34, g35, bool_eq h36, trivial⟩)) ?_
        intro _
        refine GR.done (Nat.le_of_ble_eq_true (by kernel_rfl)) ?_
        have hy := Option.some.inj hm
        subst hy
        refine GS.ret (fn := Try.f3) [0] [.bool false] [] rfl Try.func3 (by kernel_rfl) trivial (fun w' hs => ?_)
        exact ⟨(), rfl, hs.turnedG (ks := []) rfl rfl⟩
    · skip
      refine GR.run (i := 3) 25 (env' := fun _ => [(2, .bool false)]) (mem' := fun _ => []) (Nat.le_of_ble_eq_true (by kernel_rfl)) (RunsTo.mk [(4, { act := .call [1] (.int .u32 y26) }), (6, { sp := some (.bool false) })] [2] [] (fun _ => [CallOK Try.prog 14 #[.slice a0_o a0.length a0_c] (.int .u32 y26) [some (r5 a0_o a0)], ((.bool (y23.1 == y26)) : Value) = .bool false]) (fun _ => by kernel_rfl) (fun _ => ⟨(w_tholeref01_Crc F a0_o a0_c a0 e27).ok ⟨(.inl ⟨r5 a0_o a0, .head _, Cov.refl _⟩), trivial⟩, bool_eq h28, trivial⟩)) ?_
      intro _
      refine GR.done (Nat.le_of_ble_eq_true (by kernel_rfl)) ?_
      have hy := Option.some.inj hm
      subst hy
      refine GS.ret (fn := Try.f3) [0] [.bool false] [] rfl Try.func3 (by kernel_rfl) trivial (fun w' hs => ?_)
      exact ⟨(), rfl, hs.turnedG (ks := []) rfl rfl⟩

theorem w_tholelaw01_DigestKnown (F : Nat) {y : Bool} (hm : m_tholelaw01_DigestKnown F = some y) : CallG Try.prog 8 #[] (X := Unit) (fun (_ : Unit) => .bool y) [] [] (fun (_ : Unit) => []) := by
  intro w hg
  rw [m_tholelaw01_DigestKnown] at hm
  refine GS.start (S := mayT [] []) (mem := []) Try.func8 rfl Try.ntmps8 (Nat.le_of_ble_eq_true rfl) (hg.start rfl) ?_
  refine GS.conv (env' := []) rfl rfl ?_
  refine GS.seq ?_
  refine GS.region (env' := fun _ => []) (mem' := fun _ => []) (RunsTo.mk [] [] [] (fun _ => []) (fun _ => by kernel_rfl) (fun _ => trivial)) ?_
  intro _
  refine GS.seq ?_
  refine bnd_elim hm (fun y3 e4 hm => ?_)
  refine GS.open_ ?_
  refine GR.callG (X := Nat) (i := 0) (g := 10) (args := #[]) (v := fun (x5 : Nat) => .pointer (some ⟨x5, 0, none⟩)) (own := []) (ro := []) (es' := fun (x5 : Nat) => [.cells x5 60 (([.int .u32 y3.once.done.v, .int .i32 y3.once.m.mu.state, .int .u32 y3.once.m.mu.sema] : List Value) ++ (aU32 y3.table ++ (([.int .i64 y3.calls.v] : List Value))))]) (mem' := fun (x5 : Nat) => [(1, .cells x5 60 (([.int .u32 y3.once.done.v, .int .i32 y3.once.m.mu.state, .int .u32 y3.once.m.mu.sema] : List Value) ++ (aU32 y3.table ++ (([.int .i64 y3.calls.v] : List Value)))))]) (env' := fun (x5 : Nat) => [(4, .pointer (some ⟨x5, 0, none⟩))]) [] [1] [4] [1] false (by kernel_rfl) (by kernel_rfl) (by kernel_rfl) (by kernel_rfl) (by kernel_rfl) (fun _ => rfl) (fun _ _ => rfl) trivial (by rintro x5; kernel_rfl) (by rintro x5; kernel_rfl) (w_digest_New F  e4) ?_
  rintro x5
  refine GR.run (i := 1) 1 (env' := fun _ => [(1, .pointer (some ⟨x5, 0, none⟩))]) (mem' := fun _ => [(1, .cells x5 60 (([.int .u32 y3.once.done.v, .int .i32 y3.once.m.mu.state, .int .u32 y3.once.m.mu.sema] : List Value) ++ (aU32 y3.table ++ (([.int .i64 y3.calls.v] : List Value)))))]) (Nat.le_of_ble_eq_true (by kernel_rfl)) (RunsTo.mk [] [1] [1] (fun _ => []) (fun _ => by kernel_rfl) (fun _ => trivial)) ?_
  intro _
  refine GR.done (Nat.le_of_ble_eq_true (by kernel_rfl)) ?_
  refine GS.seq ?_
  refine GS.seq ?_
  refine GS.region (env' := fun _ => [(1, .pointer (some ⟨x5, 0, none⟩)), (6, .bool false)]) (mem' := fun _ => [(1, .cells x5 60 (([.int .u32 y3.once.done.v, .int .i32 y3.once.m.mu.state, .int .u32 y3.once.m.mu.sema] : List Value) ++ (aU32 y3.table ++ (([.int .i64 y3.calls.v] : List Value)))))]) (RunsTo.mk [] [1, 6] [1] (fun _ => []) (fun _ => by kernel_rfl) (fun _ => trivial)) ?_
  intro _
  refine GS.cond (t := false) rfl rfl (fun hf => by cases hf) (fun _ => ?_)
  refine GS.skip ?_
  refine GS.seq ?_
  refine bnd_elim hm (fun y9 e10 hm => ?_)
  refine GS.open_ ?_
  refine GR.run (i := 0) 3 (env' := fun fr8 => [(1, .pointer (some ⟨x5, 0, none⟩)), (7, .pointer (some ⟨x5, 0, none⟩)), (9, .slice (some (Addr.mk (fr8 1).x 0 none)) ([(97 : UInt8), (98 : UInt8), (99 : UInt8)].length) 3)]) (mem' := fun fr8 => [(1, .cells x5 60 (([.int .u32 y3.once.done.v, .int .i32 y3.once.m.mu.state, .int .u32 y3.once.m.mu.sema] : List Value) ++ (aU32 y3.table ++ (([.int .i64 y3.calls.v] : List Value))))), (2, .osl (some (Addr.mk (fr8 1).x 0 none)) 3 5 1 ([[.int .u8 97], [.int .u8 98], [.int .u8 99]] : List (List Value)))]) (Nat.le_of_ble_eq_true (by kernel_rfl)) (RunsTo.mk [(1, { act := .new (.row 3 1), key := some 2, spf := some (fun f => .slice (some (Addr.mk f.x 0 none)) ([(97 : UInt8), (98 : UInt8), (99 : UInt8)].length) 3) }), (2, { act := .markS, key := some 2 })] [1, 7, 9] [1, 2] (fun fr8 => [((.slice (some (Addr.mk (fr8 1).x 0 none)) 3 3) : Value) = .slice (some (Addr.mk (fr8 1).x 0 none)) ([(97 : UInt8), (98 : UInt8), (99 : UInt8)].length) 3, (some (Addr.mk (fr8 1).x 0 none)) = (some (Addr.mk (fr8 1).x 0 none)), 3 ≠ 0]) (fun fr8 => by kernel_rfl) (fun fr8 => ⟨rfl, rfl, (by decide), trivial⟩)) ?_
  intro fr8
  refine GR.conv (mem' := [(1, .cells x5 60 (([.int .u32 y3.once.done.v, .int .i32 y3.once.m.mu.state, .int .u32 y3.once.m.mu.sema] : List Value) ++ (aU32 y3.table ++ (([.int .i64 y3.calls.v] : List Value))))), (2, o5 (some (Addr.mk (fr8 1).x 0 none)) 3 [(97 : UInt8), (98 : UInt8), (99 : UInt8)])]) rfl (congrArg (fun rr : List (List Value) => ([(1, .cells x5 60 (([.int .u32 y3.once.done.v, .int .i32 y3.once.m.mu.state, .int .u32 y3.once.m.mu.sema] : List Value) ++ (aU32 y3.table ++ (([.int .i64 y3.calls.v] : List Value))))), (2, .osl (some (Addr.mk (fr8 1).x 0 none)) 3 5 1 rr)] : List (Nat × Ent))) (show ([[.int .u8 97], [.int .u8 98], [.int .u8 99]] : List (List Value)) = List.map rB [(97 : UInt8), (98 : UInt8), (99 : UInt8)] from rfl)) ?_
  refine GR.callG (X := Unit) (i := 3) (g := 15) (args := #[.pointer (some ⟨x5, 0, none⟩), .slice (some (Addr.mk (fr8 1).x 0 none)) ([(97 : UInt8), (98 : UInt8), (99 : UInt8)].length) 3]) (v := fun (_ : Unit) => .agg (aU8 y9.1).toArray) (own := [.cells x5 60 (([.int .u32 y3.once.done.v, .int .i32 y3.once.m.mu.state, .int .u32 y3.once.m.mu.sema] : List Value) ++ (aU32 y3.table ++ (([.int .i64 y3.calls.v] : List Value))))]) (ro := [r5 (some (Addr.mk (fr8 1).x 0 none)) [(97 : UInt8), (98 : UInt8), (99 : UInt8)]]) (es' := fun (_ : Unit) => [.cells x5 60 (([.int .u32 y9.2.once.done.v, .int .i32 y9.2.once.m.mu.state, .int .u32 y9.2.once.m.mu.sema] : List Value) ++ (aU32 y9.2.table ++ (([.int .i64 y9.2.calls.v] : List Value))))]) (mem' := fun (_ : Unit) => [(1, .cells x5 60 (([.int .u32 y9.2.once.done.v, .int .i32 y9.2.once.m.mu.state, .int .u32 y9.2.once.m.mu.sema] : List Value) ++ (aU32 y9.2.table ++ (([.int .i64 y9.2.calls.v] : List Value))))), (2, o5 (some (Addr.mk (fr8 1).x 0 none)) 3 [(97 : UInt8), (98 : UInt8), (99 : UInt8)])]) (env' := fun (_ : Unit) => [(1, .pointer (some ⟨x5, 0, none⟩)), (10, .agg (aU8 y9.1).toArray)]) [1] [1] [1, 10] [1, 2] false (by kernel_rfl) (by kernel_rfl) (by kernel_rfl) (by kernel_rfl) (by kernel_rfl) (fun _ => rfl) (fun _ _ => rfl) ⟨(.inl ⟨2, _, rfl, rfl, Cov.osl_rd, fun h => by cases h⟩), trivial⟩ (by rintro _; kernel_rfl) (by rintro _; kernel_rfl) (w___digest_Engine__Sha F x5 y3 (some (Addr.mk (fr8 1).x 0 none)) 3 [(97 : UInt8), (98 : UInt8), (99 : UInt8)] e10) ?_
  rintro _
  refine grd_elim hm (fun g12 hm => ?_)
  refine GR.run (i := 4) 2 (env' := fun fr11 => [(1, .pointer (some ⟨x5, 0, none⟩)), (2, .pointer (some ⟨(fr11 4).x, 0, none⟩))]) (mem' := fun fr11 => [(1, .cells x5 60 (([.int .u32 y9.2.once.done.v, .int .i32 y9.2.once.m.mu.state, .int .u32 y9.2.once.m.mu.sema] : List Value) ++ (aU32 y9.2.table ++ (([.int .i64 y9.2.calls.v] : List Value))))), (3, .cells ((fr11 4).x) 30 (splice (aU8 (List.replicate 32 0)) 0 ((.agg (aU8 y9.1).toArray) : Value).cells.toList))]) (Nat.le_of_ble_eq_true (by kernel_rfl)) (RunsTo.mk [(4, { act := .new .var, key := some 3 }), (5, { act := .storeC, key := some 3 })] [1, 2] [1, 3] (fun fr11 => [(fr11 4).x = (fr11 4).x, ((.agg (aU8 y9.1).toArray) : Value).cells.toList.length = 32, 0 + 32 ≤ (aU8 (List.replicate 32 0)).length, ((.agg (aU8 y9.1).toArray) : Value).cells.toList.all Value.oneCell' = true]) (fun fr11 => by kernel_rfl) (fun fr11 => ⟨rfl, (aU8_len.trans g12), (by rw [(aU8_len.trans (List.length_replicate ..))]; omega), aU8_one _, trivial⟩)) ?_
  intro fr11
  refine GR.conv (mem' := [(1, .cells x5 60 (([.int .u32 y9.2.once.done.v, .int .i32 y9.2.once.m.mu.state, .int .u32 y9.2.once.m.mu.sema] : List Value) ++ (aU32 y9.2.table ++ (([.int .i64 y9.2.calls.v] : List Value))))), (3, .cells ((fr11 4).x) 30 (aU8 y9.1))]) rfl (congrArg (fun rr : List Value => ([(1, .cells x5 60 (([.int .u32 y9.2.once.done.v, .int .i32 y9.2.once.m.mu.state, .int .u32 y9.2.once.m.mu.sema] : List Value) ++ (aU32 y9.2.table ++ (([.int .i64 y9.2.calls.v] : List Value))))), (3, .cells ((fr11 4).x) 30 rr)] : List (Nat × Ent))) (show (splice (aU8 (List.replicate 32 0)) 0 ((.agg (aU8 y9.1).toArray) : Value).cells.toList : List Value) = aU8 y9.1 from splice_all ((aU8_len.trans g12).trans (aU8_len.trans (List.length_replicate ..)).symm))) ?_
  refine GR.done (Nat.le_of_ble_eq_true (by kernel_rfl)) ?_
  refine GS.seq ?_
  refine bnd_elim hm (fun y14 e15 hm => ?_)
  refine GS.open_ ?_
  refine GR.run (i := 0) 1 (env' := fun _ => [(1, .pointer (some ⟨x5, 0, none⟩)), (2, .pointer (some ⟨(fr11 4).x, 0, none⟩)), (11, .pointer (some ⟨x5, 0, none⟩))]) (mem' := fun _ => [(1, .cells x5 60 (([.int .u32 y9.2.once.done.v, .int .i32 y9.2.once.m.mu.state, .int .u32 y9.2.once.m.mu.sema] : List Value) ++ (aU32 y9.2.table ++ (([.int .i64 y9.2.calls.v] : List Value))))), (3, .cells ((fr11 4).x) 30 (aU8 y9.1))]) (Nat.le_of_ble_eq_true (by kernel_rfl)) (RunsTo.mk [] [1, 2, 11] [1, 3] (fun _ => []) (fun _ => by kernel_rfl) (fun _ => trivial)) ?_
  intro _
  refine GR.callG (X := Unit) (i := 1) (g := 15) (args := #[.pointer (some ⟨x5, 0, none⟩), .slice none 0 0]) (v := fun (_ : Unit) => .agg (aU8 y14.1).toArray) (own := [.cells x5 60 (([.int .u32 y9.2.once.done.v, .int .i32 y9.2.once.m.mu.state, .int .u32 y9.2.once.m.mu.sema] : List Value) ++ (aU32 y9.2.table ++ (([.int .i64 y9.2.calls.v] : List Value))))]) (ro := [r5 none ([] : List UInt8)]) (es' := fun (_ : Unit) => [.cells x5 60 (([.int .u32 y14.2.once.done.v, .int .i32 y14.2.once.m.mu.state, .int .u32 y14.2.once.m.mu.sema] : List Value) ++ (aU32 y14.2.table ++ (([.int .i64 y14.2.calls.v] : List Value))))]) (mem' := fun (_ : Unit) => [(1, .cells x5 60 (([.int .u32 y14.2.once.done.v, .int .i32 y14.2.once.m.mu.state, .int .u32 y14.2.once.m.mu.sema] : List Value) ++ (aU32 y14.2.table ++ (([.int .i64 y14.2.calls.v] : List Value))))), (3, .cells ((fr11 4).x) 30 (aU8 y9.1))]) (env' := fun (_ : Unit) => [(1, .pointer (some ⟨x5, 0, none⟩)), (2, .pointer (some ⟨(fr11 4).x, 0, none⟩)), (12, .agg (aU8 y14.1).toArray)]) [1] [1] [1, 2, 12] [1, 3] false (by kernel_rfl) (by kernel_rfl) (by kernel_rfl) (by kernel_rfl) (by kernel_rfl) (fun _ => rfl) (fun _ _ => rfl) ⟨(.inr NilE.rd), trivial⟩ (by rintro _; kernel_rfl) (by rintro _; kernel_rfl) (w___digest_Engine__Sha F x5 y9.2 none 0 ([] : List UInt8) e15) ?_
  rintro _
  refine grd_elim hm (fun g17 hm => ?_)
  refine GR.run (i := 2) 2 (env' := fun fr16 => [(1, .pointer (some ⟨x5, 0, none⟩)), (2, .pointer (some ⟨(fr11 4).x, 0, none⟩)), (3, .pointer (some ⟨(fr16 2).x, 0, none⟩))]) (mem' := fun fr16 => [(1, .cells x5 60 (([.int .u32 y14.2.once.done.v, .int .i32 y14.2.once.m.mu.state, .int .u32 y14.2.once.m.mu.sema] : List Value) ++ (aU32 y14.2.table ++ (([.int .i64 y14.2.calls.v] : List Value))))), (3, .cells ((fr11 4).x) 30 (aU8 y9.1)), (4, .cells ((fr16 2).x) 30 (splice (aU8 (List.replicate 32 0)) 0 ((.agg (aU8 y14.1).toArray) : Value).cells.toList))]) (Nat.le_of_ble_eq_true (by kernel_rfl)) (RunsTo.mk [(2, { act := .new .var, key := some 4 }), (3, { act := .storeC, key := some 4 })] [1, 2, 3] [1, 3, 4] (fun fr16 => [(fr16 2).x = (fr16 2).x, ((.agg (aU8 y14.1).toArray) : Value).cells.toList.length = 32, 0 + 32 ≤ (aU8 (List.replicate 32 0)).length, ((.agg (aU8 y14.1).toArray) : Value).cells.toList.all Value.oneCell' = true]) (fun fr16 => by kernel_rfl) (fun fr16 => ⟨rfl, (aU8_len.trans g17), (by rw [(aU8_len.trans (List.length_replicate ..))]; omega), aU8_one _, trivial⟩)) ?_
  intro fr16
  refine GR.conv (mem' := [(1, .cells x5 60 (([.int .u32 y14.2.once.done.v, .int .i32 y14.2.once.m.mu.state, .int .u32 y14.2.once.m.mu.sema] : List Value) ++ (aU32 y14.2.table ++ (([.int .i64 y14.2.calls.v] : List Value))))), (3, .cells ((fr11 4).x) 30 (aU8 y9.1)), (4, .cells ((fr16 2).x) 30 (aU8 y14.1))]) rfl (congrArg (fun rr : List Value => ([(1, .cells x5 60 (([.int .u32 y14.2.once.done.v, .int .i32 y14.2.once.m.mu.state, .int .u32 y14.2.once.m.mu.sema] : List Value) ++ (aU32 y14.2.table ++ (([.int .i64 y14.2.calls.v] : List Value))))), (3, .cells ((fr11 4).x) 30 (aU8 y9.1)), (4, .cells ((fr16 2).x) 30 rr)] : List (Nat × Ent))) (show (splice (aU8 (List.replicate 32 0)) 0 ((.agg (aU8 y14.1).toArray) : Value).cells.toList : List Value) = aU8 y14.1 from splice_all ((aU8_len.trans g17).trans (aU8_len.trans (List.length_replicate ..)).symm))) ?_
  refine GR.done (Nat.le_of_ble_eq_true (by kernel_rfl)) ?_
  refine GS.seq ?_
  refine grd_elim hm (fun g19 hm => ?_)
  refine br_elim hm (fun h20 hm => ?_) (fun h20 hm => ?_)
  · skip
    refine grd_elim hm (fun g21 hm => ?_)
    refine br_elim hm (fun h22 hm => ?_) (fun h22 hm => ?_)
    · skip
      refine grd_elim hm (fun g23 hm => ?_)
      refine br_elim hm (fun h24 hm => ?_) (fun h24 hm => ?_)
      · skip
        refine grd_elim hm (fun g25 hm => ?_)
        refine br_elim hm (fun h26 hm => ?_) (fun h26 hm => ?_)
        · skip
          refine grd_elim hm (fun g27 hm => ?_)
          refine br_elim hm (fun h28 hm => ?_) (fun h28 hm => ?_)
          · skip
            refine grd_elim hm (fun g29 hm => ?_)
            refine br_elim hm (fun h30 hm => ?_) (fun h30 hm => ?_)
            · skip
              refine bnd_elim hm (fun y31 e32 hm => ?_)
              refine GS.open_ ?_
              refine GR.run (i := 0) 32 (env' := fun fr18 => [(1, .pointer (some ⟨x5, 0, none⟩)), (41, .bool true), (42, .pointer (some ⟨x5, 0, none⟩)), (44, .slice (some (Addr.mk (fr18 30).x 0 none)) ([(97 : UInt8)].length) 1)]) (mem' := fun fr18 => [(1, .cells x5 60 (([.int .u32 y14.2.once.done.v, .int .i32 y14.2.once.m.mu.state, .int .u32 y14.2.once.m.mu.sema] : List Value) ++ (aU32 y14.2.table ++ (([.int .i64 y14.2.calls.v] : List Value))))), (5, .osl (some (Addr.mk (fr18 30).x 0 none)) 1 5 1 ([[.int .u8 97]] : List (List Value)))]) (Nat.le_of_ble_eq_true (by kernel_rfl)) (RunsTo.mk [(1, { act := .loadC 3 [.int .u8 (y9.1.getD 0 0)] }), (3, { sp := some (.bool true) }), (5, { act := .loadC 3 [.int .u8 (y9.1.getD 1 0)] }), (8, { sp := some (.bool true) }), (10, { act := .loadC 3 [.int .u8 (y9.1.getD 31 0)] }), (13, { sp := some (.bool true) }), (15, { act := .loadC 4 [.int .u8 (y14.1.getD 0 0)] }), (18, { sp := some (.bool true) }), (20, { act := .loadC 4 [.int .u8 (y14.1.getD 1 0)] }), (23, { sp := some (.bool true) }), (25, { act := .loadC 4 [.int .u8 (y14.1.getD 31 0)] }), (28, { sp := some (.bool true) }), (30, { act := .new (.row 1 1), key := some 5, spf := some (fun f => .slice (some (Addr.mk f.x 0 none)) ([(97 : UInt8)].length) 1) }), (31, { act := .markS, key := some 5 })] [1, 41, 42, 44] [1, 5] (fun fr18 => [(fr11 4).x = (fr11 4).x, (aU8 y9.1)[0]? = some (.int .u8 (y9.1.getD 0 0)), ((.bool ((y9.1.getD 0 0) == 186)) : Value) = .bool true, (fr11 4).x = (fr11 4).x, (aU8 y9.1)[1]? = some (.int .u8 (y9.1.getD 1 0)), ((.bool ((y9.1.getD 1 0) == 120)) : Value) = .bool true, (fr11 4).x = (fr11 4).x, (aU8 y9.1)[31]? = some (.int .u8 (y9.1.getD 31 0)), ((.bool ((y9.1.getD 31 0) == 173)) : Value) = .bool true, (fr16 2).x = (fr16 2).x, (aU8 y14.1)[0]? = some (.int .u8 (y14.1.getD 0 0)), ((.bool ((y14.1.getD 0 0) == 227)) : Value) = .bool true, (fr16 2).x = (fr16 2).x, (aU8 y14.1)[1]? = some (.int .u8 (y14.1.getD 1 0)), ((.bool ((y14.1.getD 1 0) == 176)) : Value) = .bool true, (fr16 2).x = (fr16 2).x, (aU8 y14.1)[31]? = some (.int .u8 (y14.1.getD 31 0)), ((.bool ((y14.1.getD 31 0) == 85)) : Value) = .bool true, ((.slice (some (Addr.mk (fr18 30).x 0 none)) 1 1) : Value) = .slice (some (Addr.mk (fr18 30).x 0 none)) ([(97 : UInt8)].length) 1, (some (Addr.mk (fr18 30).x 0 none)) = (some (Addr.mk (fr18 30).x 0 none)), 1 ≠ 0]) (fun fr18 => by kernel_rfl) (fun fr18 => ⟨rfl, aU8_at g19 (by omega), bool_eq h20, rfl, aU8_at g21 (by omega), bool_eq h22, rfl, aU8_at g23 (by omega), bool_eq h24, rfl, aU8_at g25 (by omega), bool_eq h26, rfl, aU8_at g27 (by omega), bool_eq h28, rfl, aU8_at g29 (by omega), bool_eq h30, rfl, rfl, (by decide), trivial⟩)) ?_
              intro fr18
              refine GR.conv (mem' := [(1, .cells x5 60 (([.int .u32 y14.2.once.done.v, .int .i32 y14.2.once.m.mu.state, .int .u32 y14.2.once.m.mu.sema] : List Value) ++ (aU32 y14.2.table ++ (([.int .i64 y14.2.calls.v] : List Value))))), (5, o5 (some (Addr.mk (fr18 30).x 0 none)) 1 [(97 : UInt8)])]) rfl (congrArg (fun rr : List (List Value) => ([(1, .cells x5 60 (([.int .u32 y14.2.once.done.v, .int .i32 y14.2.once.m.mu.state, .int .u32 y14.2.once.m.mu.sema] : List Value) ++ (aU32 y14.2.table ++ (([.int .i64 y14.2.calls.v] : List Value))))), (5, .osl (some (Addr.mk (fr18 30).x 0 none)) 1 5 1 rr)] : List (Nat × Ent))) (show ([[.int .u8 97]] : List (List Value)) = List.map rB [(97 : UInt8)] from rfl)) ?_
              refine GR.callG (X := Unit) (i := 32) (g := 13) (args := #[.pointer (some ⟨x5, 0, none⟩), .slice (some (Addr.mk (fr18 30).x 0 none)) ([(97 : UInt8)].length) 1]) (v := fun (_ : Unit) => .int .u32 y31.1) (own := [.cells x5 60 (([.int .u32 y14.2.once.done.v, .int .i32 y14.2.once.m.mu.state, .int .u32 y14.2.once.m.mu.sema] : List Value) ++ (aU32 y14.2.table ++ (([.int .i64 y14.2.calls.v] : List Value))))]) (ro := [r5 (some (Addr.mk (fr18 30).x 0 none)) [(97 : UInt8)]]) (es' := fun (_ : Unit) => [.cells x5 60 (([.int .u32 y31.2.once.done.v, .int .i32 y31.2.once.m.mu.state, .int .u32 y31.2.once.m.mu.sema] : List Value) ++ (aU32 y31.2.table ++ (([.int .i64 y31.2.calls.v] : List Value))))]) (mem' := fun (_ : Unit) => [(1, .cells x5 60 (([.int .u32 y31.2.once.done.v, .int .i32 y31.2.once.m.mu.state, .int .u32 y31.2.once.m.mu.sema] : List Value) ++ (aU32 y31.2.table ++ (([.int .i64 y31.2.calls.v] : List Value))))), (5, o5 (some (Addr.mk (fr18 30).x 0 none)) 1 [(97 : UInt8)])]) (env' := fun (_ : Unit) => [(1, .pointer (some ⟨x5, 0, none⟩)), (41, .bool true), (45, .int .u32 y31.1)]) [1] [1] [1, 41, 45] [1, 5] false (by kernel_rfl) (by kernel_rfl) (by kernel_rfl) (by kernel_rfl) (by kernel_rfl) (fun _ => rfl) (fun _ _ => rfl) ⟨(.inl ⟨5, _, rfl, rfl, Cov.osl_rd, fun h => by cases h⟩), trivial⟩ (by rintro _; kernel_rfl) (by rintro _; kernel_rfl) (w___digest_Engine__Crc F x5 y14.2 (some (Addr.mk (fr18 30).x 0 none)) 1 [(97 : UInt8)] e32) ?_
              rintro _
              refine br_elim hm (fun h34 hm => ?_) (fun h34 hm => ?_)
              · skip
                refine grd_elim hm (fun g35 hm => ?_)
                refine grd_elim hm (fun g36 hm => ?_)
                refine bnd_elim hm (fun y37 e38 hm => ?_)
                refine GR.run (i := 33) 5 (env' := fun fr33 => [(1, .pointer (some ⟨x5, 0, none⟩)), (48, .bool true), (49, .pointer (some ⟨x5, 0, none⟩)), (50, .slice (some (Addr.mk (fr33 37).x 0 none)) ((List.replicate 32 (0 : UInt8)).length) 32)]) (mem' := fun fr33 => [(1, .cells x5 60 (([.int .u32 y31.2.once.done.v, .int .i32 y31.2.once.m.mu.state, .int .u32 y31.2.once.m.mu.sema] : List Value) ++ (aU32 y31.2.table ++ (([.int .i64 y31.2.calls.v] : List Value))))), (6, .osl (some (Addr.mk (fr33 37).x 0 none)) 32 5 1 (List.replicate 32 [.int .u8 0]))]) (Nat.le_of_ble_eq_true (by kernel_rfl)) (RunsTo.mk [(35, { sp := some (.bool true) }), (37, { act := .makeSlice 32 32, key := some 6, spf := some (fun f => .slice (some (Addr.mk f.x 0 none)) ((List.replicate 32 (0 : UInt8)).length) 32) })] [1, 48, 49, 50] [1, 6] (fun fr33 => [((.bool (y31.1 == 3251651376)) : Value) = .bool true, 32 = ((32 : Nat) : Int), 32 = ((32 : Nat) : Int), 32 ≤ 32, 32 * 1 ≤ 281474976710656, 32 ≤ 9223372036854775807, ((.slice (some (Addr.mk (fr33 37).x 0 none)) 32 32) : Value) = .slice (some (Addr.mk (fr33 37).x 0 none)) ((List.replicate 32 (0 : UInt8)).length) 32]) (fun fr33 => by kernel_rfl) (fun fr33 => ⟨bool_eq h34, rfl, rfl, (Nat.le_refl _), g35, g36, slen (List.length_replicate ..).symm, trivial⟩)) ?_
                intro fr33
                refine GR.conv (mem' := [(1, .cells x5 60 (([.int .u32 y31.2.once.done.v, .int .i32 y31.2.once.m.mu.state, .int .u32 y31.2.once.m.mu.sema] : List Value) ++ (aU32 y31.2.table ++ (([.int .i64 y31.2.calls.v] : List Value))))), (6, o5 (some (Addr.mk (fr33 37).x 0 none)) 32 (List.replicate 32 (0 : UInt8)))]) rfl (congrArg (fun rr : List (List Value) => ([(1, .cells x5 60 (([.int .u32 y31.2.once.done.v, .int .i32 y31.2.once.m.mu.state, .int .u32 y31.2.once.m.mu.sema] : List Value) ++ (aU32 y31.2.table ++ (([.int .i64 y31.2.calls.v] : List Value))))), (6, .osl (some (Addr.mk (fr33 37).x 0 none)) 32 5 1 rr)] : List (Nat × Ent))) (show List.replicate 32 [.int .u8 0] = List.map rB (List.replicate 32 (0 : UInt8)) from mrep rB 32 (0 : UInt8))) ?_
                refine GR.callG (X := Unit) (i := 38) (g := 13) (args := #[.pointer (some ⟨x5, 0, none⟩), .slice (some (Addr.mk (fr33 37).x 0 none)) ((List.replicate 32 (0 : UInt8)).length) 32]) (v := fun (_ : Unit) => .int .u32 y37.1) (own := [.cells x5 60 (([.int .u32 y31.2.once.done.v, .int .i32 y31.2.once.m.mu.state, .int .u32 y31.2.once.m.mu.sema] : List Value) ++ (aU32 y31.2.table ++ (([.int .i64 y31.2.calls.v] : List Value))))]) (ro := [r5 (some (Addr.mk (fr33 37).x 0 none)) (List.replicate 32 (0 : UInt8))]) (es' := fun (_ : Unit) => [.cells x5 60 (([.int .u32 y37.2.once.done.v, .int .i32 y37.2.once.m.mu.state, .int .u32 y37.2.once.m.mu.sema] : List Value) ++ (aU32 y37.2.table ++ (([.int .i64 y37.2.calls.v] : List Value))))]) (mem' := fun (_ : Unit) => [(1, .cells x5 60 (([.int .u32 y37.2.once.done.v, .int .i32 y37.2.once.m.mu.state, .int .u32 y37.2.once.m.mu.sema] : List Value) ++ (aU32 y37.2.table ++ (([.int .i64 y37.2.calls.v] : List Value))))), (6, o5 (some (Addr.mk (fr33 37).x 0 none)) 32 (List.replicate 32 (0 : UInt8)))]) (env' := fun (_ : Unit) => [(1, .pointer (some ⟨x5, 0, none⟩)), (48, .bool true), (51, .int .u32 y37.1)]) [1] [1] [1, 48, 51] [1, 6] false (by kernel_rfl) (by kernel_rfl) (by kernel_rfl) (by kernel_rfl) (by kernel_rfl) (fun _ => rfl) (fun _ _ => rfl) ⟨(.inl ⟨6, _, rfl, rfl, Cov.osl_rd, fun h => by cases h⟩), trivial⟩ (by rintro _; kernel_rfl) (by rintro _; kernel_rfl) (w___digest_Engine__Crc F x5 y31.2 (some (Addr.mk (fr33 37).x 0 none)) 32 (List.replicate 32 (0 : UInt8)) e38) ?_
                rintro _
                refine br_elim hm (fun h40 hm => ?_) (fun h40 hm => ?_)
                · skip
                  refine bnd_elim hm (fun y41 e42 hm => ?_)
                  refine bnd_elim hm (fun y43 e44 hm => ?_)
                  refine br_elim hm (fun h45 hm => ?_) (fun h45 hm => ?_)
                  · skip
                    refine bnd_elim hm (fun y46 e47 hm => ?_)
                    refine bnd_elim hm (fun y48 e49 hm => ?_)
                    refine br_elim hm (fun h50 hm => ?_) (fun h50 hm => ?_)
                    · skip
                      refine bnd_elim hm (fun y51 e52 hm => ?_)
                      refine GR.run (i := 39) 18 (env' := fun _ => [(0, .bool y51)]) (mem' := fun _ => []) (Nat.le_of_ble_eq_true (by kernel_rfl)) (RunsTo.mk [(41, { sp := some (.bool true) }), (43, { act := .call [1] (.int .u32 y41) }), (44, { act := .call [] (.int .u32 y43) }), (47, { sp := some (.bool true) }), (49, { act := .call [1] (.int .u32 y46) }), (50, { act := .call [] (.int .u32 y48) }), (53, { sp := some (.bool true) }), (54, { act := .call [] (.bool y51) })] [0] [] (fun _ => [((.bool (y37.1 == 2324772522)) : Value) = .bool true, CallOK Try.prog 21 #[.pointer (some ⟨x5, 0, none⟩), .int .u32 0] (.int .u32 y41) [some (.cells x5 60 (([.int .u32 y37.2.once.done.v, .int .i32 y37.2.once.m.mu.state, .int .u32 y37.2.once.m.mu.sema] : List Value) ++ (aU32 y37.2.table ++ (([.int .i64 y37.2.calls.v] : List Value)))))], CallOK Try.prog 22 #[.int .u32 0] (.int .u32 y43) [], ((.bool (y41 == y43)) : Value) = .bool true, CallOK Try.prog 19 #[.pointer (some ⟨x5, 0, none⟩), .string (ByteArray.mk #[])] (.int .u32 y46) [some (.cells x5 60 (([.int .u32 y37.2.once.done.v, .int .i32 y37.2.once.m.mu.state, .int .u32 y37.2.once.m.mu.sema] : List Value) ++ (aU32 y37.2.table ++ (([.int .i64 y37.2.calls.v] : List Value)))))], CallOK Try.prog 20 #[.string (ByteArray.mk #[])] (.int .u32 y48) [], ((.bool (y46 == y48)) : Value) = .bool true, CallOK Try.prog 11 #[] (.bool y51) []]) (fun _ => by kernel_rfl) (fun _ => ⟨bool_eq h40, (w___digest_Engine__Hash1 F x5 y37.2 0 e42).ok ⟨(.inl ⟨.cells x5 60 (([.int .u32 y37.2.once.done.v, .int .i32 y37.2.once.m.mu.state, .int .u32 y37.2.once.m.mu.sema] : List Value) ++ (aU32 y37.2.table ++ (([.int .i64 y37.2.calls.v] : List Value)))), .head _, Cov.cells_rd⟩), trivial⟩, (w_tholeref01_Hash1 F 0 e44).ok trivial, bool_eq h45, (w___digest_Engine__Name F x5 y37.2 (ByteArray.mk #[]) e47).ok ⟨(.inl ⟨.cells x5 60 (([.int .u32 y37.2.once.done.v, .int .i32 y37.2.once.m.mu.state, .int .u32 y37.2.once.m.mu.sema] : List Value) ++ (aU32 y37.2.table ++ (([.int .i64 y37.2.calls.v] : List Value)))), .head _, Cov.cells_rd⟩), trivial⟩, (w_tholeref01_Name F (ByteArray.mk #[]) e49).ok trivial, bool_eq h50, (w_tholelaw01_lives F  e52).ok trivial, trivial⟩)) ?_
                      intro _
                      refine GR.done (Nat.le_of_ble_eq_true (by kernel_rfl)) ?_
                      have hy := Option.some.inj hm
                      subst hy
                      refine GS.ret (fn := Try.f8) [0] [.bool y51] [] rfl Try.func8 (by kernel_rfl) trivial (fun w' hs => ?_)
                      exact ⟨(), rfl, hs.turnedG (ks := []) rfl rfl⟩
                    · skip
                      refine GR.run (i := 39) 18 (env' := fun _ => [(0, .bool false)]) (mem' := fun _ => []) (Nat.le_of_ble_eq_true (by kernel_rfl)) (RunsTo.mk [(41, { sp := some (.bool true) }), (43, { act := .call [1] (.int .u32 y41) }), (44, { act := .call [] (.int .u32 y43) }), (47, { sp := some (.bool true) }), (49, { act := .call [1] (.int .u32 y46) }), (50, { act := .call [] (.int .u32 y48) }), (53, { sp := some (.bool false) })] [0] [] (fun _ => [((.bool (y37.1 == 2324772522)) : Value) = .bool true, CallOK Try.prog 21 #[.pointer (some ⟨x5, 0, none⟩), .int .u32 0] (.int .u32 y41) [some (.cells x5 60 (([.int .u32 y37.2.once.done.v, .int .i32 y37.2.once.m.mu.state, .int .u32 y37.2.once.m.mu.sema] : List Value) ++ (aU32 y37.2.table ++ (([.int .i64 y37.2.calls.v] : List Value)))))], CallOK Try.prog 22 #[.int .u32 0] (.int .u32 y43) [], ((.bool (y41 == y43)) : Value) = .bool true, CallOK Try.prog 19 #[.pointer (some ⟨x5, 0, none⟩), .string (ByteArray.mk #[])] (.int .u32 y46) [some (.cells x5 60 (([.int .u32 y37.2.once.done.v, .int .i32 y37.2.once.m.mu.state, .int .u32 y37.2.once.m.mu.sema] : List Value) ++ (aU32 y37.2.table ++ (([.int .i64 y37.2.calls.v] : List Value)))))], CallOK Try.prog 20 #[.string (ByteArray.mk #[])] (.int .u32 y48) [], ((.bool (y46 == y48)) : Value) = .bool false]) (fun _ => by kernel_rfl) (fun _ => ⟨bool_eq h40, (w___digest_Engine__Hash1 F x5 y37.2 0 e42).ok ⟨(.inl ⟨.cells x5 60 (([.int .u32 y37.2.once.done.v, .int .i32 y37.2.once.m.mu.state, .int .u32 y37.2.once.m.mu.sema] : List Value) ++ (aU32 y37.2.table ++ (([.int .i64 y37.2.calls.v] : List Value)))), .head _, Cov.cells_rd⟩), trivial⟩, (w_tholeref01_Hash1 F 0 e44).ok trivial, bool_eq h45, (w___digest_Engine__Name F x5 y37.2 (ByteArray.mk #[]) e47).ok ⟨(.inl ⟨.cells x5 60 (([.int .u32 y37.2.once.done.v, .int .i32 y37.2.once.m.mu.state, .int .u32 y37.2.once.m.mu.sema] : List Value) ++ (aU32 y37.2.table ++ (([.int .i64 y37.2.calls.v] : List Value)))), .head _, Cov.cells_rd⟩), trivial⟩, (w_tholeref01_Name F (ByteArray.mk #[]) e49).ok trivial, bool_eq h50, trivial⟩)) ?_
                      intro _
                      refine GR.done (Nat.le_of_ble_eq_true (by kernel_rfl)) ?_
                      have hy := Option.some.inj hm
                      subst hy
                      refine GS.ret (fn := Try.f8) [0] [.bool false] [] rfl Try.func8 (by kernel_rfl) trivial (fun w' hs => ?_)
                      exact ⟨(), rfl, hs.turnedG (ks := []) rfl rfl⟩
                  · skip
                    refine GR.run (i := 39) 18 (env' := fun _ => [(0, .bool false)]) (mem' := fun _ => []) (Nat.le_of_ble_eq_true (by kernel_rfl)) (RunsTo.mk [(41, { sp := some (.bool true) }), (43, { act := .call [1] (.int .u32 y41) }), (44, { act := .call [] (.int .u32 y43) }), (47, { sp := some (.bool false) })] [0] [] (fun _ => [((.bool (y37.1 == 2324772522)) : Value) = .bool true, CallOK Try.prog 21 #[.pointer (some ⟨x5, 0, none⟩), .int .u32 0] (.int .u32 y41) [some (.cells x5 60 (([.int .u32 y37.2.once.done.v, .int .i32 y37.2.once.m.mu.state, .int .u32 y37.2.once.m.mu.sema] : List Value) ++ (aU32 y37.2.table ++ (([.int .i64 y37.2.calls.v] : List Value)))))], CallOK Try.prog 22 #[.int .u32 0] (.int .u32 y43) [], ((.bool (y41 == y43)) : Value) = .bool false]) (fun _ => by kernel_rfl) (fun _ => ⟨bool_eq h40, (w___digest_Engine__Hash1 F x5 y37.2 0 e42).ok ⟨(.inl ⟨.cells x5 60 (([.int .u32 y37.2.once.done.v, .int .i32 y37.2.once.m.mu.state, .int .u32 y37.2.once.m.mu.sema] : List Value) ++ (aU32 y37.2.table ++ (([.int .i64 y37.2.calls.v] : List Value)))), .head _, Cov.cells_rd⟩), trivial⟩, (w_tholeref01_Hash1 F 0 e44).ok trivial, bool_eq h45, trivial⟩)) ?_
                    intro _
                    refine GR.done (Nat.le_of_ble_eq_true (by kernel_rfl)) ?_
                    have hy := Option.some.inj hm
                    subst hy
                    refine GS.ret (fn := Try.f8) [0] [.bool false] [] rfl Try.func8 (by kernel_rfl) trivial (fun w' hs => ?_)
                    exact ⟨(), rfl, hs.turnedG (ks := []) rfl rfl⟩
                · skip
                  refine GR.run (i := 39) 18 (env' := fun _ => [(0, .bool false)]) (mem' := fun _ => []) (Nat.le_of_ble_eq_true (by kernel_rfl)) (RunsTo.mk [(41, { sp := some (.bool false) })] [0] [] (fun _ => [((.bool (y37.1 == 2324772522)) : Value) = .bool false]) (fun _ => by kernel_rfl) (fun _ => ⟨bool_eq h40, trivial⟩)) ?_
                  intro _
                  refine GR.done (Nat.le_of_ble_eq_true (by kernel_rfl)) ?_
                  have hy := Option.some.inj hm
                  subst hy
                  refine GS.ret (fn := Try.f8) [0] [.bool false] [] rfl Try.func8 (by kernel_rfl) trivial (fun w' hs => ?_)
                  exact ⟨(), rfl, hs.turnedG (ks := []) rfl rfl⟩
              · skip
                refine GR.run (i := 33) 24 (env' := fun _ => [(0, .bool false)]) (mem' := fun _ => []) (Nat.le_of_ble_eq_true (by kernel_rfl)) (RunsTo.mk [(35, { sp := some (.bool false) })] [0] [] (fun _ => [((.bool (y31.1 == 3251651376)) : Value) = .bool false]) (fun _ => by kernel_rfl) (fun _ => ⟨bool_eq h34, trivial⟩)) ?_
                intro _
                refine GR.done (Nat.le_of_ble_eq_true (by kernel_rfl)) ?_
                have hy := Option.some.inj hm
                subst hy
                refine GS.ret (fn := Try.f8) [0] [.bool false] [] rfl Try.func8 (by kernel_rfl) trivial (fun w' hs => ?_)
                exact ⟨(), rfl, hs.turnedG (ks := []) rfl rfl⟩
            · skip
              refine GS.region (env' := fun _ => [(0, .bool false)]) (mem' := fun _ => []) (RunsTo.mk [(1, { act := .loadC 3 [.int .u8 (y9.1.getD 0 0)] }), (3, { sp := some (.bool true) }), (5, { act := .loadC 3 [.int .u8 (y9.1.getD 1 0)] }), (8, { sp := some (.bool true) }), (10, { act := .loadC 3 [.int .u8 (y9.1.getD 31 0)] }), (13, { sp := some (.bool true) }), (15, { act := .loadC 4 [.int .u8 (y14.1.getD 0 0)] }), (18, { sp := some (.bool true) }), (20, { act := .loadC 4 [.int .u8 (y14.1.getD 1 0)] }), (23, { sp := some (.bool true) }), (25, { act := .loadC 4 [.int .u8 (y14.1.getD 31 0)] }), (28, { sp := some (.bool false) })] [0] [] (fun _ => [(fr11 4).x = (fr11 4).x, (aU8 y9.1)[0]? = some (.int .u8 (y9.1.getD 0 0)), ((.bool ((y9.1.getD 0 0) == 186)) : Value) = .bool true, (fr11 4).x = (fr11 4).x, (aU8 y9.1)[1]? = some (.int .u8 (y9.1.getD 1 0)), ((.bool ((y9.1.getD 1 0) == 120)) : Value) = .bool true, (fr11 4).x = (fr11 4).x, (aU8 y9.1)[31]? = some (.int .u8 (y9.1.getD 31 0)), ((.bool ((y9.1.getD 31 0) == 173)) : Value) = .bool true, (fr16 2).x = (fr16 2).x, (aU8 y14.1)[0]? = some (.int .u8 (y14.1.getD 0 0)), ((.bool ((y14.1.getD 0 0) == 227)) : Value) = .bool true, (fr16 2).x = (fr16 2).x, (aU8 y14.1)[1]? = some (.int .u8 (y14.1.getD 1 0)), ((.bool ((y14.1.getD 1 0) == 176)) : Value) = .bool true, (fr16 2).x = (fr16 2).x, (aU8 y14.1)[31]? = some (.int .u8 (y14.1.getD 31 0)), ((.bool ((y14.1.getD 31 0) == 85)) : Value) = .bool false]) (fun _ => by kernel_rfl) (fun _ => ⟨rfl, aU8_at g19 (by omega), bool_eq h20, rfl, aU8_at g21 (by omega), bool_eq h22, rfl, aU8_at g23 (by omega), bool_eq h24, rfl, aU8_at g25 (by omega), bool_eq h26, rfl, aU8_at g27 (by omega), bool_eq h28, rfl, aU8_at g29 (by omega), bool_eq h30, trivial⟩)) ?_
              intro _
              have hy := Option.some.inj hm
              subst hy
              refine GS.ret (fn := Try.f8) [0] [.bool false] [] rfl Try.func8 (by kernel_rfl) trivial (fun w' hs => ?_)
              exact ⟨(), rfl, hs.turnedG (ks := []) rfl rfl⟩
          · skip
            refine GS.region (env' := fun _ => [(0, .bool false)]) (mem' := fun _ => []) (RunsTo.mk [(1, { act := .loadC 3 [.int .u8 (y9.1.getD 0 0)] }), (3, { sp := some (.bool true) }), (5, { act := .loadC 3 [.int .u8 (y9.1.getD 1 0)] }), (8, { sp := some (.bool true) }), (10, { act := .loadC 3 [.int .u8 (y9.1.getD 31 0)] }), (13, { sp := some (.bool true) }), (15, { act := .loadC 4 [.int .u8 (y14.1.getD 0 0)] }), (18, { sp := some (.bool true) }), (20, { act := .loadC 4 [.int .u8 (y14.1.getD 1 0)] }), (23, { sp := some (.bool false) })] [0] [] (fun _ => [(fr11 4).x = (fr11 4).x, (aU8 y9.1)[0]? = some (.int .u8 (y9.1.getD 0 0)), ((.bool ((y9.1.getD 0 0) == 186)) : Value) = .bool true, (fr11 4).x = (fr11 4).x, (aU8 y9.1)[1]? = some (.int .u8 (y9.1.getD 1 0)), ((.bool ((y9.1.getD 1 0) == 120)) : Value) = .bool true, (fr11 4).x = (fr11 4).x, (aU8 y9.1)[31]? = some (.int .u8 (y9.1.getD 31 0)), ((.bool ((y9.1.getD 31 0) == 173)) : Value) = .bool true, (fr16 2).x = (fr16 2).x, (aU8 y14.1)[0]? = some (.int .u8 (y14.1.getD 0 0)), ((.bool ((y14.1.getD 0 0) == 227)) : Value) = .bool true, (fr16 2).x = (fr16 2).x, (aU8 y14.1)[1]? = some (.int .u8 (y14.1.getD 1 0)), ((.bool ((y14.1.getD 1 0) == 176)) : Value) = .bool false]) (fun _ => by kernel_rfl) (fun _ => ⟨rfl, aU8_at g19 (by omega), bool_eq h20, rfl, aU8_at g21 (by omega), bool_eq h22, rfl, aU8_at g23 (by omega), bool_eq h24, rfl, aU8_at g25 (by omega), bool_eq h26, rfl, aU8_at g27 (by omega), bool_eq h28, trivial⟩)) ?_
            intro _
            have hy := Option.some.inj hm
            subst hy
            refine GS.ret (fn := Try.f8) [0] [.bool false] [] rfl Try.func8 (by kernel_rfl) trivial (fun w' hs => ?_)
            exact ⟨(), rfl, hs.turnedG (ks := []) rfl rfl⟩
        · skip
          refine GS.region (env' := fun _ => [(0, .bool false)]) (mem' := fun _ => []) (RunsTo.mk [(1, { act := .loadC 3 [.int .u8 (y9.1.getD 0 0)] }), (3, { sp := some (.bool true) }), (5, { act := .loadC 3 [.int .u8 (y9.1.getD 1 0)] }), (8, { sp := some (.bool true) }), (10, { act := .loadC 3 [.int .u8 (y9.1.getD 31 0)] }), (13, { sp := some (.bool true) }), (15, { act := .loadC 4 [.int .u8 (y14.1.getD 0 0)] }), (18, { sp := some (.bool false) })] [0] [] (fun _ => [(fr11 4).x = (fr11 4).x, (aU8 y9.1)[0]? = some (.int .u8 (y9.1.getD 0 0)), ((.bool ((y9.1.getD 0 0) == 186)) : Value) = .bool true, (fr11 4).x = (fr11 4).x, (aU8 y9.1)[1]? = some (.int .u8 (y9.1.getD 1 0)), ((.bool ((y9.1.getD 1 0) == 120)) : Value) = .bool true, (fr11 4).x = (fr11 4).x, (aU8 y9.1)[31]? = some (.int .u8 (y9.1.getD 31 0)), ((.bool ((y9.1.getD 31 0) == 173)) : Value) = .bool true, (fr16 2).x = (fr16 2).x, (aU8 y14.1)[0]? = some (.int .u8 (y14.1.getD 0 0)), ((.bool ((y14.1.getD 0 0) == 227)) : Value) = .bool false]) (fun _ => by kernel_rfl) (fun _ => ⟨rfl, aU8_at g19 (by omega), bool_eq h20, rfl, aU8_at g21 (by omega), bool_eq h22, rfl, aU8_at g23 (by omega), bool_eq h24, rfl, aU8_at g25 (by omega), bool_eq h26, trivial⟩)) ?_
          intro _
          have hy := Option.some.inj hm
          subst hy
          refine GS.ret (fn := Try.f8) [0] [.bool false] [] rfl Try.func8 (by kernel_rfl) trivial (fun w' hs => ?_)
          exact ⟨(), rfl, hs.turnedG (ks := []) rfl rfl⟩
      · skip
        refine GS.region (env' := fun _ => [(0, .bool false)]) (mem' := fun _ => []) (RunsTo.mk [(1, { act := .loadC 3 [.int .u8 (y9.1.getD 0 0)] }), (3, { sp := some (.bool true) }), (5, { act := .loadC 3 [.int .u8 (y9.1.getD 1 0)] }), (8, { sp := some (.bool true) }), (10, { act := .loadC 3 [.int .u8 (y9.1.getD 31 0)] }), (13, { sp := some (.bool false) })] [0] [] (fun _ => [(fr11 4).x = (fr11 4).x, (aU8 y9.1)[0]? = some (.int .u8 (y9.1.getD 0 0)), ((.bool ((y9.1.getD 0 0) == 186)) : Value) = .bool true, (fr11 4).x = (fr11 4).x, (aU8 y9.1)[1]? = some (.int .u8 (y9.1.getD 1 0)), ((.bool ((y9.1.getD 1 0) == 120)) : Value) = .bool true, (fr11 4).x = (fr11 4).x, (aU8 y9.1)[31]? = some (.int .u8 (y9.1.getD 31 0)), ((.bool ((y9.1.getD 31 0) == 173)) : Value) = .bool false]) (fun _ => by kernel_rfl) (fun _ => ⟨rfl, aU8_at g19 (by omega), bool_eq h20, rfl, aU8_at g21 (by omega), bool_eq h22, rfl, aU8_at g23 (by omega), bool_eq h24, trivial⟩)) ?_
        intro _
        have hy := Option.some.inj hm
        subst hy
        refine GS.ret (fn := Try.f8) [0] [.bool false] [] rfl Try.func8 (by kernel_rfl) trivial (fun w' hs => ?_)
        exact ⟨(), rfl, hs.turnedG (ks := []) rfl rfl⟩
    · skip
      refine GS.region (env' := fun _ => [(0, .bool false)]) (mem' := fun _ => []) (RunsTo.mk [(1, { act := .loadC 3 [.int .u8 (y9.1.getD 0 0)] }), (3, { sp := some (.bool true) }), (5, { act := .loadC 3 [.int .u8 (y9.1.getD 1 0)] }), (8, { sp := some (.bool false) })] [0] [] (fun _ => [(fr11 4).x = (fr11 4).x, (aU8 y9.1)[0]? = some (.int .u8 (y9.1.getD 0 0)), ((.bool ((y9.1.getD 0 0) == 186)) : Value) = .bool true, (fr11 4).x = (fr11 4).x, (aU8 y9.1)[1]? = some (.int .u8 (y9.1.getD 1 0)), ((.bool ((y9.1.getD 1 0) == 120)) : Value) = .bool false]) (fun _ => by kernel_rfl) (fun _ => ⟨rfl, aU8_at g19 (by omega), bool_eq h20, rfl, aU8_at g21 (by omega), bool_eq h22, trivial⟩)) ?_
      intro _
      have hy := Option.some.inj hm
      subst hy
      refine GS.ret (fn := Try.f8) [0] [.bool false] [] rfl Try.func8 (by kernel_rfl) trivial (fun w' hs => ?_)
      exact ⟨(), rfl, hs.turnedG (ks := []) rfl rfl⟩
  · skip
    refine GS.region (env' := fun _ => [(0, .bool false)]) (mem' := fun _ => []) (RunsTo.mk [(1, { act := .loadC 3 [.int .u8 (y9.1.getD 0 0)] }), (3, { sp := some (.bool false) })] [0] [] (fun _ => [(fr11 4).x = (fr11 4).x, (aU8 y9.1)[0]? = some (.int .u8 (y9.1.getD 0 0)), ((.bool ((y9.1.getD 0 0) == 186)) : Value) = .bool false]) (fun _ => by kernel_rfl) (fun _ => ⟨rfl, aU8_at g19 (by omega), bool_eq h20, trivial⟩)) ?_
    intro _
    have hy := Option.some.inj hm
    subst hy
    refine GS.ret (fn := Try.f8) [0] [.bool false] [] rfl Try.func8 (by kernel_rfl) trivial (fun w' hs => ?_)
    exact ⟨(), rfl, hs.turnedG (ks := []) rfl rfl⟩

theorem w_tholelaw01_DigestMany (F : Nat) (a0_o : Option Addr) (a0_c : Nat) (a0 : List UInt8) (a1 : Int) (a0_ch : a0.length ≤ a0_c) {y : Bool} (hm : m_tholelaw01_DigestMany F a0 a1 = some y) : CallG Try.prog 5 #[.slice a0_o a0.length a0_c, .int .u64 a1] (X := Unit) (fun (_ : Unit) => .bool y) [] [r5 a0_o a0] (fun (_ : Unit) => []) := by
  intro w hg
  rw [m_tholelaw01_DigestMany] at hm
  refine GS.start (S := mayT [] [r5 a0_o a0]) (mem := [(1, r5 a0_o a0)]) Try.func5 rfl Try.ntmps5 (Nat.le_of_ble_eq_true rfl) (hg.start rfl) ?_
  refine GS.conv (env' := [(0, .slice a0_o a0.length a0_c), (1, .int .u64 a1)]) rfl rfl ?_
  refine GS.seq ?_
  refine GS.region (env' := fun _ => [(0, .slice a0_o a0.length a0_c), (1, .int .u64 a1)]) (mem' := fun _ => [(1, r5 a0_o a0)]) (RunsTo.mk [] [0, 1] [1] (fun _ => []) (fun _ => by kernel_rfl) (fun _ => trivial)) ?_
  intro _
  refine GS.seq ?_
  refine bnd_elim hm (fun y3 e4 hm => ?_)
  refine GS.open_ ?_
  refine GR.callG (X := Nat) (i := 0) (g := 10) (args := #[]) (v := fun (x5 : Nat) => .pointer (some ⟨x5, 0, none⟩)) (own := []) (ro := []) (es' := fun (x5 : Nat) => [.cells x5 60 (([.int .u32 y3.once.done.v, .int .i32 y3.once.m.mu.state, .int .u32 y3.once.m.mu.sema] : List Value) ++ (aU32 y3.table ++ (([.int .i64 y3.calls.v] : List Value))))]) (mem' := fun (x5 : Nat) => [(1, r5 a0_o a0), (2, .cells x5 60 (([.int .u32 y3.once.done.v, .int .i32 y3.once.m.mu.state, .int .u32 y3.once.m.mu.sema] : List Value) ++ (aU32 y3.table ++ (([.int .i64 y3.calls.v] : List Value)))))]) (env' := fun (x5 : Nat) => [(0, .slice a0_o a0.length a0_c), (1, .int .u64 a1), (8, .pointer (some ⟨x5, 0, none⟩))]) [] [2] [0, 1, 8] [1, 2] false (by kernel_rfl) (by kernel_rfl) (by kernel_rfl) (by kernel_rfl) (by kernel_rfl) (fun _ => rfl) (fun _ _ => rfl) trivial (by rintro x5; kernel_rfl) (by rintro x5; kernel_rfl) (w_digest_New F  e4) ?_
  rintro x5
  refine GR.run (i := 1) 1 (env' := fun _ => [(0, .slice a0_o a0.length a0_c), (1, .int .u64 a1), (5, .pointer (some ⟨x5, 0, none⟩))]) (mem' := fun _ => [(1, r5 a0_o a0), (2, .cells x5 60 (([.int .u32 y3.once.done.v, .int .i32 y3.once.m.mu.state, .int .u32 y3.once.m.mu.sema] : List Value) ++ (aU32 y3.table ++ (([.int .i64 y3.calls.v] : List Value)))))]) (Nat.le_of_ble_eq_true (by kernel_rfl)) (RunsTo.mk [] [0, 1, 5] [1, 2] (fun _ => []) (fun _ => by kernel_rfl) (fun _ => trivial)) ?_
  intro _
  refine GR.done (Nat.le_of_ble_eq_true (by kernel_rfl)) ?_
  refine GS.seq ?_
  refine GS.seq ?_
  refine GS.region (env' := fun _ => [(0, .slice a0_o a0.length a0_c), (1, .int .u64 a1), (5, .pointer (some ⟨x5, 0, none⟩)), (15, .bool (decide (((a0.length : Nat) : Int) > 2000)))]) (mem' := fun _ => [(1, r5 a0_o a0), (2, .cells x5 60 (([.int .u32 y3.once.done.v, .int .i32 y3.once.m.mu.state, .int .u32 y3.once.m.mu.sema] : List Value) ++ (aU32 y3.table ++ (([.int .i64 y3.calls.v] : List Value)))))]) (RunsTo.mk [] [0, 1, 5, 15] [1, 2] (fun _ => []) (fun _ => by kernel_rfl) (fun _ => trivial)) ?_
  intro _
  refine GS.cond (t := decide (((a0.length : Nat) : Int) > 2000)) rfl rfl (fun h8 => ?_) (fun h8 => ?_)
  · replace hm := br_t h8 hm
    refine GS.seq ?_
    refine bnd_elim hm (fun y10 e11 hm => ?_)
    refine GS.region (env' := fun _ => [(4, .bool y10)]) (mem' := fun _ => []) (RunsTo.mk [(3, { act := .call [] (.bool y10) })] [4] [] (fun _ => [CallOK Try.prog 11 #[] (.bool y10) []]) (fun _ => by kernel_rfl) (fun _ => ⟨(w_tholelaw01_lives F  e11).ok trivial, trivial⟩)) ?_
    intro _
    have hy := Option.some.inj hm
    subst hy
    refine GS.ret (fn := Try.f5) [0] [.bool y10] [] rfl Try.func5 (by kernel_rfl) trivial (fun w' hs => ?_)
    exact ⟨(), rfl, hs.turnedG (ks := []) rfl rfl⟩
  · replace hm := br_f h8 hm
    refine GS.skip ?_
    refine GS.seq ?_
    refine GS.region (env' := fun _ => [(0, .slice a0_o a0.length a0_c), (5, .pointer (some ⟨x5, 0, none⟩)), (6, .int .i64 (IntKind.i64.wrap (Int.tmod a1 50)))]) (mem' := fun _ => [(1, r5 a0_o a0), (2, .cells x5 60 (([.int .u32 y3.once.done.v, .int .i32 y3.once.m.mu.state, .int .u32 y3.once.m.mu.sema] : List Value) ++ (aU32 y3.table ++ (([.int .i64 y3.calls.v] : List Value)))))]) (RunsTo.mk [] [0, 5, 6] [1, 2] (fun _ => []) (fun _ => by kernel_rfl) (fun _ => trivial)) ?_
    intro _
    refine GS.seq ?_
    refine GS.seq ?_
    refine GS.region (env' := fun _ => [(0, .slice a0_o a0.length a0_c), (5, .pointer (some ⟨x5, 0, none⟩)), (6, .int .i64 (IntKind.i64.wrap (Int.tmod a1 50))), (7, .int .i64 0)]) (mem' := fun _ => [(1, r5 a0_o a0), (2, .cells x5 60 (([.int .u32 y3.once.done.v, .int .i32 y3.once.m.mu.state, .int .u32 y3.once.m.mu.sema] : List Value) ++ (aU32 y3.table ++ (([.int .i64 y3.calls.v] : List Value)))))]) (RunsTo.mk [] [0, 5, 6, 7] [1, 2] (fun _ => []) (fun _ => by kernel_rfl) (fun _ => trivial)) ?_
    intro _
    refine GS.block ?_
    refine GS.loop ?_
    refine grd_elim hm (fun g56 hm => ?_)
    refine GS.rekey (env' := [(0, .slice a0_o a0.length a0_c), (5, .pointer (some ⟨x5, 0, none⟩)), (6, .int .i64 (IntKind.i64.wrap (Int.tmod a1 50))), (7, .int .i64 0)]) (mem' := [(1, r5 a0_o a0), (2, .cells x5 60 (([.int .u32 y3.once.done.v, .int .i32 y3.once.m.mu.state, .int .u32 y3.once.m.mu.sema] : List Value) ++ (aU32 y3.table ++ (([.int .i64 y3.calls.v] : List Value)))))]) [0, 5, 6, 7] [(1, 1), (2, 2)] (by kernel_rfl) (by kernel_rfl) rfl ?_
    refine loopC_elim hm (fun st82 fn83 hst84 hfn85 hm => ?_)
    refine GS.loopInv (ι := Nat × Nat × Int × Int × Int × List Int × Int) (I := fun ⟨rs80, v7_1, c2_0_1, c2_1_1, c2_2_1, c2_3_1, c2_4_1⟩ => (((IntKind.i64.wrap (Int.tmod a1 50))) - ((v7_1 : Nat) : Int) : Int).toNat = rs80 ∧ loopC st82 fn83 rs80 v7_1 (c2_0_1, c2_1_1, c2_2_1, c2_3_1, c2_4_1) = some y) (μ := fun ⟨rs80, v7_1, c2_0_1, c2_1_1, c2_2_1, c2_3_1, c2_4_1⟩ => rs80) (E := fun ⟨rs80, v7_1, c2_0_1, c2_1_1, c2_2_1, c2_3_1, c2_4_1⟩ => [(0, .slice a0_o a0.length a0_c), (5, .pointer (some ⟨x5, 0, none⟩)), (6, .int .i64 (IntKind.i64.wrap (Int.tmod a1 50))), (7, .int .i64 ((v7_1 : Nat) : Int))]) (M := fun ⟨rs80, v7_1, c2_0_1, c2_1_1, c2_2_1, c2_3_1, c2_4_1⟩ => [(1, r5 a0_o a0), (2, .cells x5 60 (([.int .u32 c2_0_1, .int .i32 c2_1_1, .int .u32 c2_2_1] : List Value) ++ (aU32 c2_3_1 ++ (([.int .i64 c2_4_1] : List Value)))))]) ?_ ⟨(Int.toNat ((IntKind.i64.wrap (Int.tmod a1 50)) - ((0 : Nat) : Int))), 0, y3.once.done.v, y3.once.m.mu.state, y3.once.m.mu.sema, y3.table, y3.calls.v⟩ ⟨rfl, hm⟩
    rintro ⟨rs80, v7_1, c2_0_1, c2_1_1, c2_2_1, c2_3_1, c2_4_1⟩ ⟨hd55, hm⟩ ih81
    cases rs80 with
    | zero =>
      replace hm := (hfn85 _ _).symm.trans hm
      try dsimp only at hm
      refine GS.seq ?_
      refine GS.seq ?_
      refine GS.region (env' := fun _ => [(0, .slice a0_o a0.length a0_c), (5, .pointer (some ⟨x5, 0, none⟩)), (6, .int .i64 (IntKind.i64.wrap (Int.tmod a1 50))), (7, .int .i64 ((v7_1 : Nat) : Int)), (26, .bool (decide (((v7_1 : Nat) : Int) < (IntKind.i64.wrap (Int.tmod a1 50)))))]) (mem' := fun _ => [(1, r5 a0_o a0), (2, .cells x5 60 (([.int .u32 c2_0_1, .int .i32 c2_1_1, .int .u32 c2_2_1] : List Value) ++ (aU32 c2_3_1 ++ (([.int .i64 c2_4_1] : List Value)))))]) (RunsTo.mk [] [0, 5, 6, 7, 26] [1, 2] (fun _ => []) (fun _ => by kernel_rfl) (fun _ => trivial)) ?_
      intro _
      refine GS.cond (t := decide (((v7_1 : Nat) : Int) < (IntKind.i64.wrap (Int.tmod a1 50)))) rfl rfl (fun h78 => absb h78 (cnt0 hd55)) (fun _ => ?_)
      refine GS.exit rfl ?_
      refine GS.seq ?_
      refine bnd_elim hm (fun y87 e88 hm => ?_)
      refine GS.open_ ?_
      refine GR.run (i := 0) 1 (env' := fun _ => [(6, .int .i64 (IntKind.i64.wrap (Int.tmod a1 50))), (51, .pointer (some ⟨x5, 0, none⟩))]) (mem' := fun _ => [(2, .cells x5 60 (([.int .u32 c2_0_1, .int .i32 c2_1_1, .int .u32 c2_2_1] : List Value) ++ (aU32 c2_3_1 ++ (([.int .i64 c2_4_1] : List Value)))))]) (Nat.le_of_ble_eq_true (by kernel_rfl)) (RunsTo.mk [] [6, 51] [2] (fun _ => []) (fun _ => by kernel_rfl) (fun _ => trivial)) ?_
      intro _
      refine GR.callG (X := Unit) (i := 1) (g := 17) (args := #[.pointer (some ⟨x5, 0, none⟩)]) (v := fun (_ : Unit) => .int .i64 y87.1) (own := [.cells x5 60 (([.int .u32 c2_0_1, .int .i32 c2_1_1, .int .u32 c2_2_1] : List Value) ++ (aU32 c2_3_1 ++ (([.int .i64 c2_4_1] : List Value))))]) (ro := []) (es' := fun (_ : Unit) => [.cells x5 60 (([.int .u32 y87.2.once.done.v, .int .i32 y87.2.once.m.mu.state, .int .u32 y87.2.once.m.mu.sema] : List Value) ++ (aU32 y87.2.table ++ (([.int .i64 y87.2.calls.v] : List Value))))]) (mem' := fun (_ : Unit) => [(2, .cells x5 60 (([.int .u32 y87.2.once.done.v, .int .i32 y87.2.once.m.mu.state, .int .u32 y87.2.once.m.mu.sema] : List Value) ++ (aU32 y87.2.table ++ (([.int .i64 y87.2.calls.v] : List Value)))))]) (env' := fun (_ : Unit) => [(6, .int .i64 (IntKind.i64.wrap (Int.tmod a1 50))), (52, .int .i64 y87.1)]) [2] [2] [6, 52] [2] false (by kernel_rfl) (by kernel_rfl) (by kernel_rfl) (by kernel_rfl) (by kernel_rfl) (fun _ => rfl) (fun _ _ => rfl) trivial (by rintro _; kernel_rfl) (by rintro _; kernel_rfl) (w___digest_Engine__Calls F x5 (S_digest_Engine.mk (S_sync_Once.mk (S_sync_noCopy.mk) (S_atomic_Bool.mk (S_atomic_noCopy.mk) c2_0_1) (S_sync_Mutex'.mk (S_sync_noCopy.mk) (S_sync_Mutex.mk c2_1_1 c2_2_1))) c2_3_1 (S_atomic_Int64.mk (S_atomic_noCopy.mk) (S_atomic_align64.mk) c2_4_1)) e88) ?_
      rintro _
      refine grd_elim hm (fun g90 hm => ?_)
      refine br_elim hm (fun h91 hm => ?_) (fun h91 hm => ?_)
      · skip
        refine bnd_elim hm (fun y92 e93 hm => ?_)
        refine GR.run (i := 2) 7 (env' := fun _ => [(4, .bool y92)]) (mem' := fun _ => []) (Nat.le_of_ble_eq_true (by kernel_rfl)) (RunsTo.mk [(3, { sp := some (.int .i64 (2 * (IntKind.i64.wrap (Int.tmod a1 50)))) }), (5, { sp := some (.bool true) }), (6, { act := .call [] (.bool y92) })] [4] [] (fun _ => [((.int .i64 (IntKind.i64.wrap (2 * (IntKind.i64.wrap (Int.tmod a1 50))))) : Value) = .int .i64 (2 * (IntKind.i64.wrap (Int.tmod a1 50))), ((.bool (y87.1 == (2 * (IntKind.i64.wrap (Int.tmod a1 50))))) : Value) = .bool true, CallOK Try.prog 11 #[] (.bool y92) []]) (fun _ => by kernel_rfl) (fun _ => ⟨I64.w g90, bool_eq h91, (w_tholelaw01_lives F  e93).ok trivial, trivial⟩)) ?_
        intro _
        refine GR.done (Nat.le_of_ble_eq_true (by kernel_rfl)) ?_
        have hy := Option.some.inj hm
        subst hy
        refine GS.ret (fn := Try.f5) [0] [.bool y92] [] rfl Try.func5 (by kernel_rfl) trivial (fun w' hs => ?_)
        exact ⟨(), rfl, hs.turnedG (ks := []) rfl rfl⟩
      · skip
        refine GR.run (i := 2) 7 (env' := fun _ => [(4, .bool false)]) (mem' := fun _ => []) (Nat.le_of_ble_eq_true (by kernel_rfl)) (RunsTo.mk [(3, { sp := some (.int .i64 (2 * (IntKind.i64.wrap (Int.tmod a1 50)))) }), (5, { sp := some (.bool false) })] [4] [] (fun _ => [((.int .i64 (IntKind.i64.wrap (2 * (IntKind.i64.wrap (Int.tmod a1 50))))) : Value) = .int .i64 (2 * (IntKind.i64.wrap (Int.tmod a1 50))), ((.bool (y87.1 == (2 * (IntKind.i64.wrap (Int.tmod a1 50))))) : Value) = .bool false]) (fun _ => by kernel_rfl) (fun _ => ⟨I64.w g90, bool_eq h91, trivial⟩)) ?_
        intro _
        refine GR.done (Nat.le_of_ble_eq_true (by kernel_rfl)) ?_
        have hy := Option.some.inj hm
        subst hy
        refine GS.ret (fn := Try.f5) [0] [.bool false] [] rfl Try.func5 (by kernel_rfl) trivial (fun w' hs => ?_)
        exact ⟨(), rfl, hs.turnedG (ks := []) rfl rfl⟩
    | succ rs80 =>
      replace hm := (hst84 _ _ _).symm.trans hm
      try dsimp only at hm
      refine GS.seq ?_
      refine GS.seq ?_
      refine GS.region (env' := fun _ => [(0, .slice a0_o a0.length a0_c), (5, .pointer (some ⟨x5, 0, none⟩)), (6, .int .i64 (IntKind.i64.wrap (Int.tmod a1 50))), (7, .int .i64 ((v7_1 : Nat) : Int)), (26, .bool (decide (((v7_1 : Nat) : Int) < (IntKind.i64.wrap (Int.tmod a1 50)))))]) (mem' := fun _ => [(1, r5 a0_o a0), (2, .cells x5 60 (([.int .u32 c2_0_1, .int .i32 c2_1_1, .int .u32 c2_2_1] : List Value) ++ (aU32 c2_3_1 ++ (([.int .i64 c2_4_1] : List Value)))))]) (RunsTo.mk [] [0, 5, 6, 7, 26] [1, 2] (fun _ => []) (fun _ => by kernel_rfl) (fun _ => trivial)) ?_
      intro _
      refine GS.cond (t := decide (((v7_1 : Nat) : Int) < (IntKind.i64.wrap (Int.tmod a1 50)))) rfl rfl (fun _ => ?_) (fun h58 => absb (cnt1 hd55) h58)
      refine GS.skip ?_
      refine GS.seq ?_
      refine GS.block ?_
      refine GS.seq ?_
      refine jn_elim hm (fun J71 hJ73 hm => ?_)
      refine GS.cut (ι := Bool × Int × Int × Int × List Int × Int) (I := fun ⟨v50_4, c2_0_4, c2_1_4, c2_2_4, c2_3_4, c2_4_4⟩ => J71 (v50_4, c2_0_4, c2_1_4, c2_2_4, c2_3_4, c2_4_4) = some y) (E := fun ⟨v50_4, c2_0_4, c2_1_4, c2_2_4, c2_3_4, c2_4_4⟩ => [(0, .slice a0_o a0.length a0_c), (5, .pointer (some ⟨x5, 0, none⟩)), (6, .int .i64 (IntKind.i64.wrap (Int.tmod a1 50))), (7, .int .i64 ((v7_1 : Nat) : Int)), (50, .bool v50_4)]) (M := fun ⟨v50_4, c2_0_4, c2_1_4, c2_2_4, c2_3_4, c2_4_4⟩ => [(1, r5 a0_o a0), (2, .cells x5 60 (([.int .u32 c2_0_4, .int .i32 c2_1_4, .int .u32 c2_2_4] : List Value) ++ (aU32 c2_3_4 ++ (([.int .i64 c2_4_4] : List Value)))))]) ?_ ?_
      rotate_left
      · intro H72
        refine bnd_elim hm (fun y60 e61 hm => ?_)
        refine bnd_elim hm (fun y62 e63 hm => ?_)
        refine br_elim hm (fun h64 hm => ?_) (fun h64 hm => ?_)
        · skip
          refine GS.region (env' := fun fr59 => [(0, .slice a0_o a0.length a0_c), (5, .pointer (some ⟨x5, 0, none⟩)), (6, .int .i64 (IntKind.i64.wrap (Int.tmod a1 50))), (7, .int .i64 ((v7_1 : Nat) : Int)), (50, .bool true)]) (mem' := fun fr59 => [(1, r5 a0_o a0), (2, .cells x5 60 (([.int .u32 y60.2.once.done.v, .int .i32 y60.2.once.m.mu.state, .int .u32 y60.2.once.m.mu.sema] : List Value) ++ (aU32 y60.2.table ++ (([.int .i64 y60.2.calls.v] : List Value)))))]) (RunsTo.mkd [(2, { act := .callo [1] (fun f => .int .u32 y60.1) (fun f => .cells x5 60 (([.int .u32 y60.2.once.done.v, .int .i32 y60.2.once.m.mu.state, .int .u32 y60.2.once.m.mu.sema] : List Value) ++ (aU32 y60.2.table ++ (([.int .i64 y60.2.calls.v] : List Value))))), key := some 2 }), (4, { act := .call [1] (.int .u32 y62) }), (6, { sp := some (.bool true) })] [0, 5, 6, 7, 50] [1, 2] (fun fr59 => [CallO Try.prog 13 #[.pointer (some ⟨x5, 0, none⟩), .slice a0_o a0.length a0_c] (fun f => .int .u32 y60.1) (fun f => .cells x5 60 (([.int .u32 y60.2.once.done.v, .int .i32 y60.2.once.m.mu.state, .int .u32 y60.2.once.m.mu.sema] : List Value) ++ (aU32 y60.2.table ++ (([.int .i64 y60.2.calls.v] : List Value))))) (.cells x5 60 (([.int .u32 c2_0_1, .int .i32 c2_1_1, .int .u32 c2_2_1] : List Value) ++ (aU32 c2_3_1 ++ (([.int .i64 c2_4_1] : List Value))))) [some (r5 a0_o a0)], CallOK Try.prog 14 #[.slice a0_o a0.length a0_c] (.int .u32 y62) [some (r5 a0_o a0)], ((.bool (y60.1 != y62)) : Value) = .bool true]) (by kernel_rfl) (by kernel_rfl) (fun fr59 => by kernel_rfl) (fun fr59 => ⟨CallG.toO (w___digest_Engine__Crc F x5 (S_digest_Engine.mk (S_sync_Once.mk (S_sync_noCopy.mk) (S_atomic_Bool.mk (S_atomic_noCopy.mk) c2_0_1) (S_sync_Mutex'.mk (S_sync_noCopy.mk) (S_sync_Mutex.mk c2_1_1 c2_2_1))) c2_3_1 (S_atomic_Int64.mk (S_atomic_noCopy.mk) (S_atomic_align64.mk) c2_4_1)) a0_o a0_c a0 e61) ⟨(.inl ⟨r5 a0_o a0, .head _, Cov.refl _⟩), trivial⟩ (fun _ => ⟨0, none, 0⟩) (fun _ => rfl) (fun _ => rfl) rfl, (w_tholeref01_Crc F a0_o a0_c a0 e63).ok ⟨(.inl ⟨r5 a0_o a0, .head _, Cov.refl _⟩), trivial⟩, bool_eq h64, trivial⟩)) ?_
          intro fr59
          refine GS.rekey (env' := [(0, .slice a0_o a0.length a0_c), (5, .pointer (some ⟨x5, 0, none⟩)), (6, .int .i64 (IntKind.i64.wrap (Int.tmod a1 50))), (7, .int .i64 ((v7_1 : Nat) : Int)), (50, .bool true)]) (mem' := [(1, r5 a0_o a0), (2, .cells x5 60 (([.int .u32 y60.2.once.done.v, .int .i32 y60.2.once.m.mu.state, .int .u32 y60.2.once.m.mu.sema] : List Value) ++ (aU32 y60.2.table ++ (([.int .i64 y60.2.calls.v] : List Value)))))]) [0, 5, 6, 7, 50] [(1, 1), (2, 2)] (by kernel_rfl) (by kernel_rfl) rfl ?_
          exact H72 ⟨true, y60.2.once.done.v, y60.2.once.m.mu.state, y60.2.once.m.mu.sema, y60.2.table, y60.2.calls.v⟩ hm
        · skip
          refine grd_elim hm (fun g65 hm => ?_)
          refine grd_elim hm (fun g66 hm => ?_)
          refine bnd_elim hm (fun y67 e68 hm => ?_)
          refine bnd_elim hm (fun y69 e70 hm => ?_)
          refine GS.region (env' := fun fr59 => [(0, .slice a0_o a0.length a0_c), (5, .pointer (some ⟨x5, 0, none⟩)), (6, .int .i64 (IntKind.i64.wrap (Int.tmod a1 50))), (7, .int .i64 ((v7_1 : Nat) : Int)), (50, .bool (y67.1 != y69))]) (mem' := fun fr59 => [(1, r5 a0_o a0), (2, .cells x5 60 (([.int .u32 y67.2.once.done.v, .int .i32 y67.2.once.m.mu.state, .int .u32 y67.2.once.m.mu.sema] : List Value) ++ (aU32 y67.2.table ++ (([.int .i64 y67.2.calls.v] : List Value)))))]) (RunsTo.mkd [(2, { act := .callo [1] (fun f => .int .u32 y60.1) (fun f => .cells x5 60 (([.int .u32 y60.2.once.done.v, .int .i32 y60.2.once.m.mu.state, .int .u32 y60.2.once.m.mu.sema] : List Value) ++ (aU32 y60.2.table ++ (([.int .i64 y60.2.calls.v] : List Value))))), key := some 2 }), (4, { act := .call [1] (.int .u32 y62) }), (6, { sp := some (.bool false) }), (11, { sp := some (.int .i64 (Int.tdiv ((a0.length : Nat) : Int) 2)) }), (12, { act := .cut 0 (Int.toNat (Int.tdiv ((a0.length : Nat) : Int) 2)) a0_c, sp := some (.slice (cutOb a0_o 0 a0_c 1) ((a0.take (Int.toNat (Int.tdiv ((a0.length : Nat) : Int) 2))).length) (a0_c - 0)) }), (13, { act := .callo [1] (fun f => .int .u32 y67.1) (fun f => .cells x5 60 (([.int .u32 y67.2.once.done.v, .int .i32 y67.2.once.m.mu.state, .int .u32 y67.2.once.m.mu.sema] : List Value) ++ (aU32 y67.2.table ++ (([.int .i64 y67.2.calls.v] : List Value))))), key := some 2 }), (17, { sp := some (.int .i64 (Int.tdiv ((a0.length : Nat) : Int) 2)) }), (18, { act := .cut 0 (Int.toNat (Int.tdiv ((a0.length : Nat) : Int) 2)) a0_c, sp := some (.slice (cutOb a0_o 0 a0_c 1) ((a0.take (Int.toNat (Int.tdiv ((a0.length : Nat) : Int) 2))).length) (a0_c - 0)) }), (19, { act := .call [1] (.int .u32 y69) })] [0, 5, 6, 7, 50] [1, 2] (fun fr59 => [CallO Try.prog 13 #[.pointer (some ⟨x5, 0, none⟩), .slice a0_o a0.length a0_c] (fun f => .int .u32 y60.1) (fun f => .cells x5 60 (([.int .u32 y60.2.once.done.v, .int .i32 y60.2.once.m.mu.state, .int .u32 y60.2.once.m.mu.sema] : List Value) ++ (aU32 y60.2.table ++ (([.int .i64 y60.2.calls.v] : List Value))))) (.cells x5 60 (([.int .u32 c2_0_1, .int .i32 c2_1_1, .int .u32 c2_2_1] : List Value) ++ (aU32 c2_3_1 ++ (([.int .i64 c2_4_1] : List Value))))) [some (r5 a0_o a0)], CallOK Try.prog 14 #[.slice a0_o a0.length a0_c] (.int .u32 y62) [some (r5 a0_o a0)], ((.bool (y60.1 != y62)) : Value) = .bool false, ((.int .i64 (IntKind.i64.wrap (Int.tdiv ((a0.length : Nat) : Int) 2))) : Value) = .int .i64 (Int.tdiv ((a0.length : Nat) : Int) 2), 0 = 0, (Int.tdiv ((a0.length : Nat) : Int) 2) = (((Int.toNat (Int.tdiv ((a0.length : Nat) : Int) 2)) : Nat) : Int), a0_c = a0_c, 0 ≤ (Int.toNat (Int.tdiv ((a0.length : Nat) : Int) 2)), (Int.toNat (Int.tdiv ((a0.length : Nat) : Int) 2)) ≤ a0_c, a0_c ≤ a0_c, (some (Operand.tmp 40) : Option Operand) = none → (none : Option Operand) = none, ((.slice (if a0_c = 0 then a0_o else (a0_o).map (fun a => a.add (0 * 1))) ((Int.toNat (Int.tdiv ((a0.length : Nat) : Int) 2)) - 0) (a0_c - 0)) : Value) = .slice (cutOb a0_o 0 a0_c 1) ((a0.take (Int.toNat (Int.tdiv ((a0.length : Nat) : Int) 2))).length) (a0_c - 0), CallO Try.prog 13 #[.pointer (some ⟨x5, 0, none⟩), .slice (cutOb a0_o 0 a0_c 1) ((a0.take (Int.toNat (Int.tdiv ((a0.length : Nat) : Int) 2))).length) (a0_c - 0)] (fun f => .int .u32 y67.1) (fun f => .cells x5 60 (([.int .u32 y67.2.once.done.v, .int .i32 y67.2.once.m.mu.state, .int .u32 y67.2.once.m.mu.sema] : List Value) ++ (aU32 y67.2.table ++ (([.int .i64 y67.2.calls.v] : List Value))))) (.cells x5 60 (([.int .u32 y60.2.once.done.v, .int .i32 y60.2.once.m.mu.state, .int .u32 y60.2.once.m.mu.sema] : List Value) ++ (aU32 y60.2.table ++ (([.int .i64 y60.2.calls.v] : List Value))))) [some (r5 a0_o a0)], ((.int .i64 (IntKind.i64.wrap (Int.tdiv ((a0.length : Nat) : Int) 2))) : Value) = .int .i64 (Int.tdiv ((a0.length : Nat) : Int) 2), 0 = 0, (Int.tdiv ((a0.length : Nat) : Int) 2) = (((Int.toNat (Int.tdiv ((a0.length : Nat) : Int) 2)) : Nat) : Int), a0_c = a0_c, 0 ≤ (Int.toNat (Int.tdiv ((a0.length : Nat) : Int) 2)), (Int.toNat (Int.tdiv ((a0.length : Nat) : Int) 2)) ≤ a0_c, a0_c ≤ a0_c, (some (Operand.tmp 46) : Option Operand) = none → (none : Option Operand) = none, ((.slice (if a0_c = 0 then a0_o else (a0_o).map (fun a => a.add (0 * 1))) ((Int.toNat (Int.tdiv ((a0.length : Nat) : Int) 2)) - 0) (a0_c - 0)) : Value) = .slice (cutOb a0_o 0 a0_c 1) ((a0.take (Int.toNat (Int.tdiv ((a0.length : Nat) : Int) 2))).length) (a0_c - 0), CallOK Try.prog 14 #[.slice (cutOb a0_o 0 a0_c 1) ((a0.take (Int.toNat (Int.tdiv ((a0.length : Nat) : Int) 2))).length) (a0_c - 0)] (.int .u32 y69) [some (r5 a0_o a0)]]) (by kernel_rfl) (by kernel_rfl) (fun fr59 => by kernel_rfl) (fun fr59 => ⟨CallG.toO (w___digest_Engine__Crc F x5 (S_digest_Engine.mk (S_sync_Once.mk (S_sync_noCopy.mk) (S_atomic_Bool.mk (S_atomic_noCopy.mk) c2_0_1) (S_sync_Mutex'.mk (S_sync_noCopy.mk) (S_sync_Mutex.mk c2_1_1 c2_2_1))) c2_3_1 (S_atomic_Int64.mk (S_atomic_noCopy.mk) (S_atomic_align64.mk) c2_4_1)) a0_o a0_c a0 e61) ⟨(.inl ⟨r5 a0_o a0, .head _, Cov.refl _⟩), trivial⟩ (fun _ => ⟨0, none, 0⟩) (fun _ => rfl) (fun _ => rfl) rfl, (w_tholeref01_Crc F a0_o a0_c a0 e63).ok ⟨(.inl ⟨r5 a0_o a0, .head _, Cov.refl _⟩), trivial⟩, bool_eq h64, I64.w g65, rfl, g66.eq, rfl, (Nat.zero_le _), (Nat.le_trans g66.2 a0_ch), (Nat.le_refl _), (by intro h; first | rfl | cases h), slen (by simp only [List.length_take, List.length_drop]; have h1 : (Int.toNat (Int.tdiv ((a0.length : Nat) : Int) 2)) ≤ a0.length := g66.2; have h2 : 0 ≤ (Int.toNat (Int.tdiv ((a0.length : Nat) : Int) 2)) := (Nat.zero_le _); omega), CallG.toO (w___digest_Engine__Crc F x5 y60.2 (cutOb a0_o 0 a0_c 1) (a0_c - 0) (a0.take (Int.toNat (Int.tdiv ((a0.length : Nat) : Int) 2))) e68) ⟨(.inl ⟨r5 a0_o a0, .head _, (cov_cut0 (Nat.le_trans g66.2 a0_ch))⟩), trivial⟩ (fun _ => ⟨0, none, 0⟩) (fun _ => rfl) (fun _ => rfl) rfl, I64.w g65, rfl, g66.eq, rfl, (Nat.zero_le _), (Nat.le_trans g66.2 a0_ch), (Nat.le_refl _), (by intro h; first | rfl | cases h), slen (by simp only [List.length_take, List.length_drop]; have h1 : (Int.toNat (Int.tdiv ((a0.length : Nat) : Int) 2)) ≤ a0.length := g66.2; have h2 : 0 ≤ (Int.toNat (Int.tdiv ((a0.length : Nat) : Int) 2)) := (Nat.zero_le _); omega), (w_tholeref01_Crc F (cutOb a0_o 0 a0_c 1) (a0_c - 0) (a0.take (Int.toNat (Int.tdiv ((a0.length : Nat) : Int) 2))) e70).ok ⟨(.inl ⟨r5 a0_o a0, .head _, (cov_cut0 (Nat.le_trans g66.2 a0_ch))⟩), trivial⟩, trivial⟩)) ?_
          intro fr59
          refine GS.rekey (env' := [(0, .slice a0_o a0.length a0_c), (5, .pointer (some ⟨x5, 0, none⟩)), (6, .int .i64 (IntKind.i64.wrap (Int.tmod a1 50))), (7, .int .i64 ((v7_1 : Nat) : Int)), (50, .bool (y67.1 != y69))]) (mem' := [(1, r5 a0_o a0), (2, .cells x5 60 (([.int .u32 y67.2.once.done.v, .int .i32 y67.2.once.m.mu.state, .int .u32 y67.2.once.m.mu.sema] : List Value) ++ (aU32 y67.2.table ++ (([.int .i64 y67.2.calls.v] : List Value)))))]) [0, 5, 6, 7, 50] [(1, 1), (2, 2)] (by kernel_rfl) (by kernel_rfl) rfl ?_
          exact H72 ⟨(y67.1 != y69), y67.2.once.done.v, y67.2.once.m.mu.state, y67.2.once.m.mu.sema, y67.2.table, y67.2.calls.v⟩ hm
      · rintro ⟨v50_4, c2_0_4, c2_1_4, c2_2_4, c2_3_4, c2_4_4⟩ hm
        replace hm := (hJ73 _).symm.trans hm
        try dsimp only at hm
        refine GS.cond (t := v50_4) rfl rfl (fun h74 => ?_) (fun h74 => ?_)
        · replace hm := br_t h74 hm
          refine GS.seq ?_
          refine GS.region (env' := fun _ => [(4, .bool false)]) (mem' := fun _ => []) (RunsTo.mk [] [4] [] (fun _ => []) (fun _ => by kernel_rfl) (fun _ => trivial)) ?_
          intro _
          have hy := Option.some.inj hm
          subst hy
          refine GS.ret (fn := Try.f5) [0] [.bool false] [] rfl Try.func5 (by kernel_rfl) trivial (fun w' hs => ?_)
          exact ⟨(), rfl, hs.turnedG (ks := []) rfl rfl⟩
        · replace hm := br_f h74 hm
          refine GS.skip ?_
          refine GS.inBlock ?_
          refine GS.region (env' := fun _ => [(0, .slice a0_o a0.length a0_c), (5, .pointer (some ⟨x5, 0, none⟩)), (6, .int .i64 (IntKind.i64.wrap (Int.tmod a1 50))), (7, .int .i64 ((v7_1 + 1 : Nat) : Int))]) (mem' := fun _ => [(1, r5 a0_o a0), (2, .cells x5 60 (([.int .u32 c2_0_4, .int .i32 c2_1_4, .int .u32 c2_2_4] : List Value) ++ (aU32 c2_3_4 ++ (([.int .i64 c2_4_4] : List Value)))))]) (RunsTo.mk [(1, { sp := some (.int .i64 ((v7_1 + 1 : Nat) : Int)) })] [0, 5, 6, 7] [1, 2] (fun _ => [((.int .i64 (IntKind.i64.wrap (((v7_1 : Nat) : Int) + 1))) : Value) = .int .i64 ((v7_1 + 1 : Nat) : Int)]) (fun _ => by kernel_rfl) (fun _ => ⟨natwB (cnt1 hd55) g56, trivial⟩)) ?_
          intro _
          refine GS.inLoop ?_
          refine GS.rekey (env' := [(0, .slice a0_o a0.length a0_c), (5, .pointer (some ⟨x5, 0, none⟩)), (6, .int .i64 (IntKind.i64.wrap (Int.tmod a1 50))), (7, .int .i64 ((v7_1 + 1 : Nat) : Int))]) (mem' := [(1, r5 a0_o a0), (2, .cells x5 60 (([.int .u32 c2_0_4, .int .i32 c2_1_4, .int .u32 c2_2_4] : List Value) ++ (aU32 c2_3_4 ++ (([.int .i64 c2_4_4] : List Value)))))]) [0, 5, 6, 7] [(1, 1), (2, 2)] (by kernel_rfl) (by kernel_rfl) rfl ?_
          exact ih81 ⟨rs80, v7_1 + 1, c2_0_4, c2_1_4, c2_2_4, c2_3_4, c2_4_4⟩ ⟨cntN hd55, hm⟩ (Nat.lt_succ_self _)

end Go.Proofs.Ytmjlfdllpnkgoaa
