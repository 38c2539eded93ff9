/-
  CHAPTER 7: the walks of the laws on straws.
-/
import Derived.Test.YtmdmfjgpjpfoaaaW07d
set_option linter.unusedVariables false
set_option maxRecDepth 100000
namespace Go.Proofs.Ytmdmfjgpjpfoaaa
open Go Go.RowKit Sx

theorem law_chooses (oi ow : Option Addr) (ci cw : Nat) (ids ws : List Int) (x r n : Int) (hl : ids.length ≤ 1048576) : CallOK Try.prog 7 #[.agg #[.slice oi ids.length ci, .slice ow ws.length cw], .int .u32 x, .agg #[.int .i64 r, .int .i64 n]] (.bool true) [some (.rd oi 1 (encI ids)), some (.rd ow 1 (encI ws))] := by
  intro w hr
  refine GS.start (S := fun _ => False) (mem := [(1, .rd oi 1 (encI ids)), (2, .rd ow 1 (encI ws))]) Try.func7 rfl Try.ntmps7 (Nat.le_of_ble_eq_true rfl) (Sat.startRo (es := [.rd oi 1 (encI ids), .rd ow 1 (encI ws)]) hr rfl) ?_
  refine GS.conv (env' := [(0, .agg #[.slice oi ids.length ci, .slice ow ws.length cw]), (1, .int .u32 x), (2, .agg #[.int .i64 r, .int .i64 n])]) rfl rfl ?_
  refine GS.seq ?_
  -- region 0, law.go:29
  refine GS.region (env' := fun fr0 => [(1, .int .u32 x), (3, .pointer (some ⟨(fr0 0).x, 0, none⟩)), (5, .pointer (some ⟨(fr0 1).x, 0, none⟩))]) (mem' := fun fr0 => [(1, .rd oi 1 (encI ids)), (2, .rd ow 1 (encI ws)), (3, .cells ((fr0 0).x) 32 [.slice oi ids.length ci, .slice ow ws.length cw]), (4, .cells ((fr0 1).x) 37 [.int .i64 r, .int .i64 n])]) (RunsTo.mk [(0, { act := .new .var, key := some 3 }), (1, { act := .new .var, key := some 4 })] [1, 3, 5] [1, 2, 3, 4] (fun fr0 => []) (fun fr0 => by kernel_rfl) (fun fr0 => trivial)) ?_
  intro fr0
  refine GS.seq ?_
  -- region 1, law.go:30
  refine GS.region (env' := fun _ => [(1, .int .u32 x), (7, .slice oi ids.length ci), (8, .slice ow ws.length cw), (9, .int .i64 r), (10, .int .i64 n)]) (mem' := fun _ => [(1, .rd oi 1 (encI ids)), (2, .rd ow 1 (encI ws)), (3, .cells ((fr0 0).x) 32 [.slice oi ids.length ci, .slice ow ws.length cw]), (4, .cells ((fr0 1).x) 37 [.int .i64 r, .int .i64 n])]) (RunsTo.mkd [(1, { act := .load 3 0 0 [] }), (3, { act := .load 3 0 0 [] }), (5, { act := .load 4 0 0 [] }), (7, { act := .load 4 0 0 [] })] [1, 7, 8, 9, 10] [1, 2, 3, 4] (fun _ => [(fr0 0).x = (fr0 0).x, (fr0 0).x = (fr0 0).x, (fr0 1).x = (fr0 1).x, (fr0 1).x = (fr0 1).x]) (by kernel_rfl) (by kernel_rfl) (fun _ => by kernel_rfl) (fun _ => ⟨rfl, rfl, rfl, rfl, trivial⟩)) ?_
  intro _
  refine GS.seq ?_
  -- region 2, law.go:31
  refine GS.region (env' := fun _ => [(1, .int .u32 x), (7, .slice oi ids.length ci), (8, .slice ow ws.length cw), (9, .int .i64 r), (10, .int .i64 n), (11, .int .i64 ((chooseF ids ws x r).1)), (12, .bool ((chooseF ids ws x r).2))]) (mem' := fun _ => [(1, .rd oi 1 (encI ids)), (2, .rd ow 1 (encI ws)), (3, .cells ((fr0 0).x) 32 [.slice oi ids.length ci, .slice ow ws.length cw]), (4, .cells ((fr0 1).x) 37 [.int .i64 r, .int .i64 n])]) (RunsTo.mk [(4, { act := .call [1, 2] (.tuple #[.int .i64 ((chooseF ids ws x r).1), .bool ((chooseF ids ws x r).2)]) })] [1, 7, 8, 9, 10, 11, 12] [1, 2, 3, 4] (fun _ => [CallOK Try.prog 14 #[.slice oi ids.length ci, .slice ow ws.length cw, .int .u32 x, .int .i64 r] (.tuple #[.int .i64 ((chooseF ids ws x r).1), .bool ((chooseF ids ws x r).2)]) [some (.rd oi 1 (encI ids)), some (.rd ow 1 (encI ws))]]) (fun _ => by kernel_rfl) (fun _ => ⟨choose_ok oi ow ci cw ids ws x r (by first | omega | (simp <;> omega)), trivial⟩)) ?_
  intro _
  refine GS.seq ?_
  -- region 3, law.go:32
  refine GS.region (env' := fun _ => [(7, .slice oi ids.length ci), (8, .slice ow ws.length cw), (10, .int .i64 n), (11, .int .i64 ((chooseF ids ws x r).1)), (12, .bool ((chooseF ids ws x r).2)), (13, .int .i64 ((chooseF ids ws x r).1)), (14, .bool ((chooseF ids ws x r).2))]) (mem' := fun _ => [(1, .rd oi 1 (encI ids)), (2, .rd ow 1 (encI ws)), (3, .cells ((fr0 0).x) 32 [.slice oi ids.length ci, .slice ow ws.length cw]), (4, .cells ((fr0 1).x) 37 [.int .i64 r, .int .i64 n])]) (RunsTo.mk [(4, { act := .call [1, 2] (.tuple #[.int .i64 ((chooseF ids ws x r).1), .bool ((chooseF ids ws x r).2)]) })] [7, 8, 10, 11, 12, 13, 14] [1, 2, 3, 4] (fun _ => [CallOK Try.prog 15 #[.slice oi ids.length ci, .slice ow ws.length cw, .int .u32 x, .int .i64 r] (.tuple #[.int .i64 ((chooseF ids ws x r).1), .bool ((chooseF ids ws x r).2)]) [some (.rd oi 1 (encI ids)), some (.rd ow 1 (encI ws))]]) (fun _ => by kernel_rfl) (fun _ => ⟨chooseref_ok oi ow ci cw ids ws x r (by first | omega | (simp <;> omega)), trivial⟩)) ?_
  intro _
  refine GS.seq ?_
  refine GS.seq ?_
  -- region 4, law.go:33
  refine GS.region (env' := fun _ => [(7, .slice oi ids.length ci), (8, .slice ow ws.length cw), (10, .int .i64 n), (11, .int .i64 ((chooseF ids ws x r).1)), (12, .bool ((chooseF ids ws x r).2)), (13, .int .i64 ((chooseF ids ws x r).1)), (14, .bool ((chooseF ids ws x r).2)), (40, .bool (decide (n > 40)))]) (mem' := fun _ => [(1, .rd oi 1 (encI ids)), (2, .rd ow 1 (encI ws)), (3, .cells ((fr0 0).x) 32 [.slice oi ids.length ci, .slice ow ws.length cw]), (4, .cells ((fr0 1).x) 37 [.int .i64 r, .int .i64 n])]) (RunsTo.mk [] [7, 8, 10, 11, 12, 13, 14, 40] [1, 2, 3, 4] (fun _ => []) (fun _ => by kernel_rfl) (fun _ => trivial)) ?_
  intro _
  refine GS.cond (t := decide (n > 40)) rfl rfl (fun h => ?_) (fun h => ?_)
  · replace h := of_decide_eq_true h
    -- region 5, law.go:34
    refine GS.region (env' := fun _ => [(7, .slice oi ids.length ci), (8, .slice ow ws.length cw), (10, .int .i64 40), (11, .int .i64 ((chooseF ids ws x r).1)), (12, .bool ((chooseF ids ws x r).2)), (13, .int .i64 ((chooseF ids ws x r).1)), (14, .bool ((chooseF ids ws x r).2))]) (mem' := fun _ => [(1, .rd oi 1 (encI ids)), (2, .rd ow 1 (encI ws)), (3, .cells ((fr0 0).x) 32 [.slice oi ids.length ci, .slice ow ws.length cw]), (4, .cells ((fr0 1).x) 37 [.int .i64 r, .int .i64 n])]) (RunsTo.mk [] [7, 8, 10, 11, 12, 13, 14] [1, 2, 3, 4] (fun _ => []) (fun _ => by kernel_rfl) (fun _ => trivial)) ?_
    intro _
    refine GS.seq ?_
    -- region 6, law.go:36
    refine GS.open_ ?_
    refine GR.run (i := 0) 12 (env' := fun _ => [(7, .slice oi ids.length ci), (8, .slice ow ws.length cw), (10, .int .i64 40), (49, .bool true), (50, .slice oi ids.length ci), (51, .slice ow ws.length cw), (52, .int .i64 40)]) (mem' := fun _ => [(1, .rd oi 1 (encI ids)), (2, .rd ow 1 (encI ws)), (3, .cells ((fr0 0).x) 32 [.slice oi ids.length ci, .slice ow ws.length cw]), (4, .cells ((fr0 1).x) 37 [.int .i64 r, .int .i64 n])]) (Nat.le_of_ble_eq_true (by kernel_rfl)) (RunsTo.mk [(2, { sp := some (.bool true) }), (6, { sp := some (.bool true) })] [7, 8, 10, 49, 50, 51, 52] [1, 2, 3, 4] (fun _ => [(.bool (((chooseF ids ws x r).1) == ((chooseF ids ws x r).1)) : Value) = .bool true, (.bool (((chooseF ids ws x r).2) == ((chooseF ids ws x r).2)) : Value) = .bool true]) (fun _ => by kernel_rfl) (fun _ => ⟨bool_eq (by simp), bool_eq (by simp), trivial⟩)) ?_
    intro _
    refine GR.callT (X := Option Addr × Nat) (i := 12) (g := 17) (args := #[.slice oi ids.length ci, .slice ow ws.length cw, .int .i64 40]) (v := fun ⟨so1, sc1⟩ => .slice so1 ((shareF ids ws 40).length) sc1) (es := [.rd oi 1 (encI ids), .rd ow 1 (encI ws)]) (es' := fun ⟨so1, sc1⟩ => [.rd oi 1 (encI ids), .rd ow 1 (encI ws), .osl so1 sc1 3 1 (encI (shareF ids ws 40))]) (mem' := fun ⟨so1, sc1⟩ => [(1, .rd oi 1 (encI ids)), (2, .rd ow 1 (encI ws)), (3, .cells ((fr0 0).x) 32 [.slice oi ids.length ci, .slice ow ws.length cw]), (4, .cells ((fr0 1).x) 37 [.int .i64 r, .int .i64 n]), (5, .osl so1 sc1 3 1 (encI (shareF ids ws 40)))]) (env' := fun ⟨so1, sc1⟩ => [(7, .slice oi ids.length ci), (8, .slice ow ws.length cw), (10, .int .i64 40), (49, .bool true), (53, .slice so1 ((shareF ids ws 40).length) sc1)]) [1, 2] [5] [7, 8, 10, 49, 53] [1, 2, 3, 4, 5] (by kernel_rfl) (by kernel_rfl) (by kernel_rfl) (by kernel_rfl) (by kernel_rfl) (by kernel_rfl) (fun _ => rfl) (by rintro ⟨so1, sc1⟩; kernel_rfl) (by rintro ⟨so1, sc1⟩; kernel_rfl) (share_ok oi ow ci cw ids ws 40 (by omega)) ?_
    rintro ⟨so1, sc1⟩
    refine GR.run (i := 13) 3 (env' := fun _ => [(49, .bool true), (53, .slice so1 ((shareF ids ws 40).length) sc1), (54, .slice oi ids.length ci), (55, .slice ow ws.length cw), (56, .int .i64 40)]) (mem' := fun _ => [(1, .rd oi 1 (encI ids)), (2, .rd ow 1 (encI ws)), (3, .cells ((fr0 0).x) 32 [.slice oi ids.length ci, .slice ow ws.length cw]), (4, .cells ((fr0 1).x) 37 [.int .i64 r, .int .i64 n]), (5, .osl so1 sc1 3 1 (encI (shareF ids ws 40)))]) (Nat.le_of_ble_eq_true (by kernel_rfl)) (RunsTo.mk [] [49, 53, 54, 55, 56] [1, 2, 3, 4, 5] (fun _ => []) (fun _ => by kernel_rfl) (fun _ => trivial)) ?_
    intro _
    refine GR.callT (X := Option Addr × Nat) (i := 16) (g := 18) (args := #[.slice oi ids.length ci, .slice ow ws.length cw, .int .i64 40]) (v := fun ⟨so2, sc2⟩ => .slice so2 ((shareF ids ws 40).length) sc2) (es := [.rd oi 1 (encI ids), .rd ow 1 (encI ws)]) (es' := fun ⟨so2, sc2⟩ => [.rd oi 1 (encI ids), .rd ow 1 (encI ws), .osl so2 sc2 3 1 (encI (shareF ids ws 40))]) (mem' := fun ⟨so2, sc2⟩ => [(1, .rd oi 1 (encI ids)), (2, .rd ow 1 (encI ws)), (3, .cells ((fr0 0).x) 32 [.slice oi ids.length ci, .slice ow ws.length cw]), (4, .cells ((fr0 1).x) 37 [.int .i64 r, .int .i64 n]), (5, .osl so1 sc1 3 1 (encI (shareF ids ws 40))), (6, .osl so2 sc2 3 1 (encI (shareF ids ws 40)))]) (env' := fun ⟨so2, sc2⟩ => [(49, .bool true), (53, .slice so1 ((shareF ids ws 40).length) sc1), (57, .slice so2 ((shareF ids ws 40).length) sc2)]) [1, 2] [6] [49, 53, 57] [1, 2, 3, 4, 5, 6] (by kernel_rfl) (by kernel_rfl) (by kernel_rfl) (by kernel_rfl) (by kernel_rfl) (by kernel_rfl) (fun _ => rfl) (by rintro ⟨so2, sc2⟩; kernel_rfl) (by rintro ⟨so2, sc2⟩; kernel_rfl) (shareref_ok oi ow ci cw ids ws 40 (by omega)) ?_
    rintro ⟨so2, sc2⟩
    refine GR.run (i := 17) 6 (env' := fun _ => [(6, .bool true)]) (mem' := fun _ => [(1, .rd oi 1 (encI ids)), (2, .rd ow 1 (encI ws)), (3, .cells ((fr0 0).x) 32 [.slice oi ids.length ci, .slice ow ws.length cw]), (4, .cells ((fr0 1).x) 37 [.int .i64 r, .int .i64 n]), (5, .osl so1 sc1 3 1 (encI (shareF ids ws 40))), (6, .osl so2 sc2 3 1 (encI (shareF ids ws 40)))]) (Nat.le_of_ble_eq_true (by kernel_rfl)) (RunsTo.mk [(17, { act := .call [5, 6] (.bool (decide ((shareF ids ws 40) = (shareF ids ws 40)))), sp := some (.bool true) }), (20, { act := .call [] (.bool true) })] [6] [1, 2, 3, 4, 5, 6] (fun _ => [CallOK Try.prog 16 #[.slice so1 ((shareF ids ws 40).length) sc1, .slice so2 ((shareF ids ws 40).length) sc2] (.bool (decide ((shareF ids ws 40) = (shareF ids ws 40)))) [some (.osl so1 sc1 3 1 (encI (shareF ids ws 40))), some (.osl so2 sc2 3 1 (encI (shareF ids ws 40)))], (.bool (decide ((shareF ids ws 40) = (shareF ids ws 40))) : Value) = .bool true, CallOK Try.prog 11 #[] (.bool true) []]) (fun _ => by kernel_rfl) (fun _ => ⟨(ints_ok so1 so2 sc1 sc2 (shareF ids ws 40) (shareF ids ws 40) (by unfold shareF; split <;> simp [shareState_len] <;> omega)).weak (by intro w h E hE; simp only [List.mem_cons, Option.some.injEq, List.not_mem_nil, or_false] at hE; exact hE.elim (fun e => by rw [e]; exact Ent.osl_rd (h (.osl so1 sc1 3 1 (encI (shareF ids ws 40))) (by simp))) (fun e => by rw [e]; exact Ent.osl_rd (h (.osl so2 sc2 3 1 (encI (shareF ids ws 40))) (by simp)))), bool_eq (by simp), lives_ok, trivial⟩)) ?_
    intro _
    refine GR.done (Nat.le_of_ble_eq_true (by kernel_rfl)) ?_
    refine GS.ret (fn := Try.f7) [0] [.bool true] [] rfl Try.func7 (by kernel_rfl) trivial (fun w' hs => ?_)
    exact ⟨rfl, hs.keep⟩
  · replace h := of_decide_eq_false h
    refine GS.skip ?_
    refine GS.seq ?_
    -- region 6, law.go:36
    refine GS.open_ ?_
    refine GR.run (i := 0) 12 (env' := fun _ => [(7, .slice oi ids.length ci), (8, .slice ow ws.length cw), (10, .int .i64 n), (49, .bool true), (50, .slice oi ids.length ci), (51, .slice ow ws.length cw), (52, .int .i64 n)]) (mem' := fun _ => [(1, .rd oi 1 (encI ids)), (2, .rd ow 1 (encI ws)), (3, .cells ((fr0 0).x) 32 [.slice oi ids.length ci, .slice ow ws.length cw]), (4, .cells ((fr0 1).x) 37 [.int .i64 r, .int .i64 n])]) (Nat.le_of_ble_eq_true (by kernel_rfl)) (RunsTo.mk [(2, { sp := some (.bool true) }), (6, { sp := some (.bool true) })] [7, 8, 10, 49, 50, 51, 52] [1, 2, 3, 4] (fun _ => [(.bool (((chooseF ids ws x r).1) == ((chooseF ids ws x r).1)) : Value) = .bool true, (.bool (((chooseF ids ws x r).2) == ((chooseF ids ws x r).2)) : Value) = .bool true]) (fun _ => by kernel_rfl) (fun _ => ⟨bool_eq (by simp), bool_eq (by simp), trivial⟩)) ?_
    intro _
    refine GR.callT (X := Option Addr × Nat) (i := 12) (g := 17) (args := #[.slice oi ids.length ci, .slice ow ws.length cw, .int .i64 n]) (v := fun ⟨so3, sc3⟩ => .slice so3 ((shareF ids ws n).length) sc3) (es := [.rd oi 1 (encI ids), .rd ow 1 (encI ws)]) (es' := fun ⟨so3, sc3⟩ => [.rd oi 1 (encI ids), .rd ow 1 (encI ws), .osl so3 sc3 3 1 (encI (shareF ids ws n))]) (mem' := fun ⟨so3, sc3⟩ => [(1, .rd oi 1 (encI ids)), (2, .rd ow 1 (encI ws)), (3, .cells ((fr0 0).x) 32 [.slice oi ids.length ci, .slice ow ws.length cw]), (4, .cells ((fr0 1).x) 37 [.int .i64 r, .int .i64 n]), (5, .osl so3 sc3 3 1 (encI (shareF ids ws n)))]) (env' := fun ⟨so3, sc3⟩ => [(7, .slice oi ids.length ci), (8, .slice ow ws.length cw), (10, .int .i64 n), (49, .bool true), (53, .slice so3 ((shareF ids ws n).length) sc3)]) [1, 2] [5] [7, 8, 10, 49, 53] [1, 2, 3, 4, 5] (by kernel_rfl) (by kernel_rfl) (by kernel_rfl) (by kernel_rfl) (by kernel_rfl) (by kernel_rfl) (fun _ => rfl) (by rintro ⟨so3, sc3⟩; kernel_rfl) (by rintro ⟨so3, sc3⟩; kernel_rfl) (share_ok oi ow ci cw ids ws n (by omega)) ?_
    rintro ⟨so3, sc3⟩
    refine GR.run (i := 13) 3 (env' := fun _ => [(49, .bool true), (53, .slice so3 ((shareF ids ws n).length) sc3), (54, .slice oi ids.length ci), (55, .slice ow ws.length cw), (56, .int .i64 n)]) (mem' := fun _ => [(1, .rd oi 1 (encI ids)), (2, .rd ow 1 (encI ws)), (3, .cells ((fr0 0).x) 32 [.slice oi ids.length ci, .slice ow ws.length cw]), (4, .cells ((fr0 1).x) 37 [.int .i64 r, .int .i64 n]), (5, .osl so3 sc3 3 1 (encI (shareF ids ws n)))]) (Nat.le_of_ble_eq_true (by kernel_rfl)) (RunsTo.mk [] [49, 53, 54, 55, 56] [1, 2, 3, 4, 5] (fun _ => []) (fun _ => by kernel_rfl) (fun _ => trivial)) ?_
    intro _
    refine GR.callT (X := Option Addr × Nat) (i := 16) (g := 18) (args := #[.slice oi ids.length ci, .slice ow ws.length cw, .int .i64 n]) (v := fun ⟨so4, sc4⟩ => .slice so4 ((shareF ids ws n).length) sc4) (es := [.rd oi 1 (encI ids), .rd ow 1 (encI ws)]) (es' := fun ⟨so4, sc4⟩ => [.rd oi 1 (encI ids), .rd ow 1 (encI ws), .osl so4 sc4 3 1 (encI (shareF ids ws n))]) (mem' := fun ⟨so4, sc4⟩ => [(1, .rd oi 1 (encI ids)), (2, .rd ow 1 (encI ws)), (3, .cells ((fr0 0).x) 32 [.slice oi ids.length ci, .slice ow ws.length cw]), (4, .cells ((fr0 1).x) 37 [.int .i64 r, .int .i64 n]), (5, .osl so3 sc3 3 1 (encI (shareF ids ws n))), (6, .osl so4 sc4 3 1 (encI (shareF ids ws n)))]) (env' := fun ⟨so4, sc4⟩ => [(49, .bool true), (53, .slice so3 ((shareF ids ws n).length) sc3), (57, .slice so4 ((shareF ids ws n).length) sc4)]) [1, 2] [6] [49, 53, 57] [1, 2, 3, 4, 5, 6] (by kernel_rfl) (by kernel_rfl) (by kernel_rfl) (by kernel_rfl) (by kernel_rfl) (by kernel_rfl) (fun _ => rfl) (by rintro ⟨so4, sc4⟩; kernel_rfl) (by rintro ⟨so4, sc4⟩; kernel_rfl) (shareref_ok oi ow ci cw ids ws n (by omega)) ?_
    rintro ⟨so4, sc4⟩
    refine GR.run (i := 17) 6 (env' := fun _ => [(6, .bool true)]) (mem' := fun _ => [(1, .rd oi 1 (encI ids)), (2, .rd ow 1 (encI ws)), (3, .cells ((fr0 0).x) 32 [.slice oi ids.length ci, .slice ow ws.length cw]), (4, .cells ((fr0 1).x) 37 [.int .i64 r, .int .i64 n]), (5, .osl so3 sc3 3 1 (encI (shareF ids ws n))), (6, .osl so4 sc4 3 1 (encI (shareF ids ws n)))]) (Nat.le_of_ble_eq_true (by kernel_rfl)) (RunsTo.mk [(17, { act := .call [5, 6] (.bool (decide ((shareF ids ws n) = (shareF ids ws n)))), sp := some (.bool true) }), (20, { act := .call [] (.bool true) })] [6] [1, 2, 3, 4, 5, 6] (fun _ => [CallOK Try.prog 16 #[.slice so3 ((shareF ids ws n).length) sc3, .slice so4 ((shareF ids ws n).length) sc4] (.bool (decide ((shareF ids ws n) = (shareF ids ws n)))) [some (.osl so3 sc3 3 1 (encI (shareF ids ws n))), some (.osl so4 sc4 3 1 (encI (shareF ids ws n)))], (.bool (decide ((shareF ids ws n) = (shareF ids ws n))) : Value) = .bool true, CallOK Try.prog 11 #[] (.bool true) []]) (fun _ => by kernel_rfl) (fun _ => ⟨(ints_ok so3 so4 sc3 sc4 (shareF ids ws n) (shareF ids ws n) (by unfold shareF; split <;> simp [shareState_len] <;> omega)).weak (by intro w h E hE; simp only [List.mem_cons, Option.some.injEq, List.not_mem_nil, or_false] at hE; exact hE.elim (fun e => by rw [e]; exact Ent.osl_rd (h (.osl so3 sc3 3 1 (encI (shareF ids ws n))) (by simp))) (fun e => by rw [e]; exact Ent.osl_rd (h (.osl so4 sc4 3 1 (encI (shareF ids ws n))) (by simp)))), bool_eq (by simp), lives_ok, trivial⟩)) ?_
    intro _
    refine GR.done (Nat.le_of_ble_eq_true (by kernel_rfl)) ?_
    refine GS.ret (fn := Try.f7) [0] [.bool true] [] rfl Try.func7 (by kernel_rfl) trivial (fun w' hs => ?_)
    exact ⟨rfl, hs.keep⟩

theorem law_shares (oi ow : Option Addr) (ci cw : Nat) (ids ws : List Int) (n : Nat) (hn : n ≤ 18446744073709551615) (hl : ids.length ≤ 1048576) (hl2 : ws.length ≤ 1048576) : CallOK Try.prog 8 #[.agg #[.slice oi ids.length ci, .slice ow ws.length cw], .int .u64 (n : Int)] (.bool true) [some (.rd oi 1 (encI ids)), some (.rd ow 1 (encI ws))] := by
  intro w hr
  obtain ⟨k, hk⟩ : ∃ k, k = n % 60 := ⟨_, rfl⟩
  have hk1 : k < 60 := by rw [hk]; exact Nat.mod_lt _ (by omega)
  refine GS.start (S := fun _ => False) (mem := [(1, .rd oi 1 (encI ids)), (2, .rd ow 1 (encI ws))]) Try.func8 rfl Try.ntmps8 (Nat.le_of_ble_eq_true rfl) (Sat.startRo (es := [.rd oi 1 (encI ids), .rd ow 1 (encI ws)]) hr rfl) ?_
  refine GS.conv (env' := [(0, .agg #[.slice oi ids.length ci, .slice ow ws.length cw]), (1, .int .u64 (n : Int))]) rfl rfl ?_
  refine GS.seq ?_
  -- region 0, law.go:78
  refine GS.region (env' := fun fr0 => [(1, .int .u64 (n : Int)), (2, .pointer (some ⟨(fr0 0).x, 0, none⟩))]) (mem' := fun fr0 => [(1, .rd oi 1 (encI ids)), (2, .rd ow 1 (encI ws)), (3, .cells ((fr0 0).x) 32 [.slice oi ids.length ci, .slice ow ws.length cw])]) (RunsTo.mk [(0, { act := .new .var, key := some 3 })] [1, 2] [1, 2, 3] (fun fr0 => []) (fun fr0 => by kernel_rfl) (fun fr0 => trivial)) ?_
  intro fr0
  refine GS.seq ?_
  -- region 1, law.go:79
  refine GS.region (env' := fun _ => [(2, .pointer (some ⟨(fr0 0).x, 0, none⟩)), (5, .int .i64 ((k : Nat) : Int))]) (mem' := fun _ => [(1, .rd oi 1 (encI ids)), (2, .rd ow 1 (encI ws)), (3, .cells ((fr0 0).x) 32 [.slice oi ids.length ci, .slice ow ws.length cw])]) (RunsTo.mk [(1, { sp := some (.int .u64 ((n % 60 : Nat) : Int)) }), (2, { sp := some (.int .i64 ((k : Nat) : Int)) })] [2, 5] [1, 2, 3] (fun _ => [(.int .u64 (Int.tmod (n : Int) 60) : Value) = .int .u64 ((n % 60 : Nat) : Int), (.int .i64 (IntKind.i64.wrap ((n % 60 : Nat) : Int)) : Value) = .int .i64 ((k : Nat) : Int)]) (fun _ => by kernel_rfl) (fun _ => ⟨int_eq (by rw [Int.tmod_eq_emod_of_nonneg (by omega)]; omega), w64 (by omega) (by omega) (by omega), trivial⟩)) ?_
  intro _
  refine GS.seq ?_
  -- region 2, law.go:80
  refine GS.open_ ?_
  refine GR.run (i := 0) 5 (env' := fun _ => [(2, .pointer (some ⟨(fr0 0).x, 0, none⟩)), (5, .int .i64 ((k : Nat) : Int)), (15, .slice oi ids.length ci), (17, .slice ow ws.length cw), (18, .int .i64 ((k : Nat) : Int))]) (mem' := fun _ => [(1, .rd oi 1 (encI ids)), (2, .rd ow 1 (encI ws)), (3, .cells ((fr0 0).x) 32 [.slice oi ids.length ci, .slice ow ws.length cw])]) (Nat.le_of_ble_eq_true (by kernel_rfl)) (RunsTo.mk [(1, { act := .load 3 0 0 [] }), (3, { act := .load 3 0 0 [] })] [2, 5, 15, 17, 18] [1, 2, 3] (fun _ => [(fr0 0).x = (fr0 0).x, (fr0 0).x = (fr0 0).x]) (fun _ => by kernel_rfl) (fun _ => ⟨rfl, rfl, trivial⟩)) ?_
  intro _
  refine GR.callT (X := Option Addr × Nat) (i := 5) (g := 17) (args := #[.slice oi ids.length ci, .slice ow ws.length cw, .int .i64 ((k : Nat) : Int)]) (v := fun ⟨so1, sc1⟩ => .slice so1 ((shareF ids ws ((k : Nat) : Int)).length) sc1) (es := [.rd oi 1 (encI ids), .rd ow 1 (encI ws)]) (es' := fun ⟨so1, sc1⟩ => [.rd oi 1 (encI ids), .rd ow 1 (encI ws), .osl so1 sc1 3 1 (encI (shareF ids ws ((k : Nat) : Int)))]) (mem' := fun ⟨so1, sc1⟩ => [(1, .rd oi 1 (encI ids)), (2, .rd ow 1 (encI ws)), (3, .cells ((fr0 0).x) 32 [.slice oi ids.length ci, .slice ow ws.length cw]), (4, .osl so1 sc1 3 1 (encI (shareF ids ws ((k : Nat) : Int))))]) (env' := fun ⟨so1, sc1⟩ => [(2, .pointer (some ⟨(fr0 0).x, 0, none⟩)), (5, .int .i64 ((k : Nat) : Int)), (19, .slice so1 ((shareF ids ws ((k : Nat) : Int)).length) sc1)]) [1, 2] [4] [2, 5, 19] [1, 2, 3, 4] (by kernel_rfl) (by kernel_rfl) (by kernel_rfl) (by kernel_rfl) (by kernel_rfl) (by kernel_rfl) (fun _ => rfl) (by rintro ⟨so1, sc1⟩; kernel_rfl) (by rintro ⟨so1, sc1⟩; kernel_rfl) (share_ok oi ow ci cw ids ws ((k : Nat) : Int) (by omega)) ?_
  rintro ⟨so1, sc1⟩
  refine GR.run (i := 6) 1 (env' := fun _ => [(2, .pointer (some ⟨(fr0 0).x, 0, none⟩)), (5, .int .i64 ((k : Nat) : Int)), (6, .slice so1 ((shareF ids ws ((k : Nat) : Int)).length) sc1)]) (mem' := fun _ => [(1, .rd oi 1 (encI ids)), (2, .rd ow 1 (encI ws)), (3, .cells ((fr0 0).x) 32 [.slice oi ids.length ci, .slice ow ws.length cw]), (4, .osl so1 sc1 3 1 (encI (shareF ids ws ((k : Nat) : Int))))]) (Nat.le_of_ble_eq_true (by kernel_rfl)) (RunsTo.mk [] [2, 5, 6] [1, 2, 3, 4] (fun _ => []) (fun _ => by kernel_rfl) (fun _ => trivial)) ?_
  intro _
  refine GR.done (Nat.le_of_ble_eq_true (by kernel_rfl)) ?_
  refine GS.seq ?_
  refine GS.seq ?_
  -- region 3, law.go:81
  refine GS.region (env' := fun _ => [(2, .pointer (some ⟨(fr0 0).x, 0, none⟩)), (5, .int .i64 ((k : Nat) : Int)), (6, .slice so1 ((shareF ids ws ((k : Nat) : Int)).length) sc1), (26, .bool (((ids.length : Nat) : Int) != ((ws.length : Nat) : Int)))]) (mem' := fun _ => [(1, .rd oi 1 (encI ids)), (2, .rd ow 1 (encI ws)), (3, .cells ((fr0 0).x) 32 [.slice oi ids.length ci, .slice ow ws.length cw]), (4, .osl so1 sc1 3 1 (encI (shareF ids ws ((k : Nat) : Int))))]) (RunsTo.mk [(1, { act := .load 3 0 0 [] }), (4, { act := .load 3 0 0 [] })] [2, 5, 6, 26] [1, 2, 3, 4] (fun _ => [(fr0 0).x = (fr0 0).x, (fr0 0).x = (fr0 0).x]) (fun _ => by kernel_rfl) (fun _ => ⟨rfl, rfl, trivial⟩)) ?_
  intro _
  refine GS.cond (t := ((ids.length : Nat) : Int) != ((ws.length : Nat) : Int)) rfl rfl (fun h => ?_) (fun h => ?_)
  · replace h := ne_of_bne h
    refine GS.seq ?_
    -- region 4, law.go:82
    refine GS.region (env' := fun _ => [(4, .bool true)]) (mem' := fun _ => [(1, .rd oi 1 (encI ids)), (2, .rd ow 1 (encI ws)), (3, .cells ((fr0 0).x) 32 [.slice oi ids.length ci, .slice ow ws.length cw]), (4, .osl so1 sc1 3 1 (encI (shareF ids ws ((k : Nat) : Int))))]) (RunsTo.mk [(2, { sp := some (.bool true) }), (4, { act := .call [] (.bool true) })] [4] [1, 2, 3, 4] (fun _ => [(.bool ((((shareF ids ws ((k : Nat) : Int)).length : Nat) : Int) == 0) : Value) = .bool true, CallOK Try.prog 11 #[] (.bool true) []]) (fun _ => by kernel_rfl) (fun _ => ⟨bool_eq (by rw [shareF_ne (by omega)] <;> rfl), lives_ok, trivial⟩)) ?_
    intro _
    refine GS.ret (fn := Try.f8) [0] [.bool true] [] rfl Try.func8 (by kernel_rfl) trivial (fun w' hs => ?_)
    exact ⟨rfl, hs.keep⟩
  · replace h := eq_of_bne_false h
    have hF : shareF ids ws ((k : Nat) : Int) = shareState ids ws k := shareF_eq (by omega) (by omega)
    have hlen : (shareF ids ws ((k : Nat) : Int)).length = ids.length := by rw [hF, shareState_len]
    refine GS.skip ?_
    refine GS.seq ?_
    refine GS.seq ?_
    -- region 5, law.go:84
    refine GS.region (env' := fun _ => [(2, .pointer (some ⟨(fr0 0).x, 0, none⟩)), (5, .int .i64 ((k : Nat) : Int)), (6, .slice so1 ((shareF ids ws ((k : Nat) : Int)).length) sc1), (38, .bool ((((shareF ids ws ((k : Nat) : Int)).length : Nat) : Int) != ((ws.length : Nat) : Int)))]) (mem' := fun _ => [(1, .rd oi 1 (encI ids)), (2, .rd ow 1 (encI ws)), (3, .cells ((fr0 0).x) 32 [.slice oi ids.length ci, .slice ow ws.length cw]), (4, .osl so1 sc1 3 1 (encI (shareF ids ws ((k : Nat) : Int))))]) (RunsTo.mk [(3, { act := .load 3 0 0 [] })] [2, 5, 6, 38] [1, 2, 3, 4] (fun _ => [(fr0 0).x = (fr0 0).x]) (fun _ => by kernel_rfl) (fun _ => ⟨rfl, trivial⟩)) ?_
    intro _
    refine GS.cond (t := (((shareF ids ws ((k : Nat) : Int)).length : Nat) : Int) != ((ws.length : Nat) : Int)) rfl rfl (fun h2 => ?_) (fun h2 => ?_)
    · replace h2 := ne_of_bne h2
      exfalso; omega
    · replace h2 := eq_of_bne_false h2
      refine GS.skip ?_
      refine GS.seq ?_
      -- region 7, law.go:87
      refine GS.region (env' := fun _ => [(2, .pointer (some ⟨(fr0 0).x, 0, none⟩)), (5, .int .i64 ((k : Nat) : Int)), (6, .slice so1 ((shareF ids ws ((k : Nat) : Int)).length) sc1), (7, .int .i64 (sumTo (shareF ids ws ((k : Nat) : Int)) 0)), (8, .int .i64 ((heavyTo ws 0 : Nat) : Int))]) (mem' := fun _ => [(1, .rd oi 1 (encI ids)), (2, .rd ow 1 (encI ws)), (3, .cells ((fr0 0).x) 32 [.slice oi ids.length ci, .slice ow ws.length cw]), (4, .osl so1 sc1 3 1 (encI (shareF ids ws ((k : Nat) : Int))))]) (RunsTo.mk [(0, { sp := some (.int .i64 (sumTo (shareF ids ws ((k : Nat) : Int)) 0)) }), (1, { sp := some (.int .i64 ((heavyTo ws 0 : Nat) : Int)) })] [2, 5, 6, 7, 8] [1, 2, 3, 4] (fun _ => [(.int .i64 0 : Value) = .int .i64 (sumTo (shareF ids ws ((k : Nat) : Int)) 0), (.int .i64 0 : Value) = .int .i64 ((heavyTo ws 0 : Nat) : Int)]) (fun _ => by kernel_rfl) (fun _ => ⟨rfl, rfl, trivial⟩)) ?_
      intro _
      refine GS.seq ?_
      refine GS.seq ?_
      -- region 8, law.go:88
      refine GS.region (env' := fun _ => [(5, .int .i64 ((k : Nat) : Int)), (6, .slice so1 ((shareF ids ws ((k : Nat) : Int)).length) sc1), (7, .int .i64 (sumTo (shareF ids ws ((k : Nat) : Int)) 0)), (8, .int .i64 ((heavyTo ws 0 : Nat) : Int)), (40, .slice ow ws.length cw), (41, .int .i64 ((ws.length : Nat) : Int)), (42, .int .i64 ((0 : Nat) : Int))]) (mem' := fun _ => [(1, .rd oi 1 (encI ids)), (2, .rd ow 1 (encI ws)), (3, .cells ((fr0 0).x) 32 [.slice oi ids.length ci, .slice ow ws.length cw]), (4, .osl so1 sc1 3 1 (encI (shareF ids ws ((k : Nat) : Int))))]) (RunsTo.mk [(1, { act := .load 3 0 0 [] }), (3, { sp := some (.int .i64 ((0 : Nat) : Int)) })] [5, 6, 7, 8, 40, 41, 42] [1, 2, 3, 4] (fun _ => [(fr0 0).x = (fr0 0).x, (.int .i64 0 : Value) = .int .i64 ((0 : Nat) : Int)]) (fun _ => by kernel_rfl) (fun _ => ⟨rfl, rfl, trivial⟩)) ?_
      intro _
      refine GS.block ?_
      refine GS.loop ?_
      refine GS.loopInv (ι := Nat) (I := fun (i : Nat) => i ≤ ws.length) (μ := fun (i : Nat) => ws.length - (i)) (E := fun (i : Nat) => [(5, .int .i64 ((k : Nat) : Int)), (6, .slice so1 ((shareF ids ws ((k : Nat) : Int)).length) sc1), (7, .int .i64 (sumTo (shareF ids ws ((k : Nat) : Int)) i)), (8, .int .i64 ((heavyTo ws i : Nat) : Int)), (40, .slice ow ws.length cw), (41, .int .i64 ((ws.length : Nat) : Int)), (42, .int .i64 ((i : Nat) : Int))]) (M := fun (i : Nat) => [(1, .rd oi 1 (encI ids)), (2, .rd ow 1 (encI ws)), (3, .cells ((fr0 0).x) 32 [.slice oi ids.length ci, .slice ow ws.length cw]), (4, .osl so1 sc1 3 1 (encI (shareF ids ws ((k : Nat) : Int))))]) ?_ 0 (Nat.zero_le _)
      rintro i hi ih
      refine GS.seq ?_
      -- region 9, law.go:88
      refine GS.region (env' := fun _ => [(5, .int .i64 ((k : Nat) : Int)), (6, .slice so1 ((shareF ids ws ((k : Nat) : Int)).length) sc1), (7, .int .i64 (sumTo (shareF ids ws ((k : Nat) : Int)) i)), (8, .int .i64 ((heavyTo ws i : Nat) : Int)), (40, .slice ow ws.length cw), (41, .int .i64 ((ws.length : Nat) : Int)), (42, .int .i64 ((i : Nat) : Int)), (43, .bool (decide (((i : Nat) : Int) < ((ws.length : Nat) : Int))))]) (mem' := fun _ => [(1, .rd oi 1 (encI ids)), (2, .rd ow 1 (encI ws)), (3, .cells ((fr0 0).x) 32 [.slice oi ids.length ci, .slice ow ws.length cw]), (4, .osl so1 sc1 3 1 (encI (shareF ids ws ((k : Nat) : Int))))]) (RunsTo.mk [] [5, 6, 7, 8, 40, 41, 42, 43] [1, 2, 3, 4] (fun _ => []) (fun _ => by kernel_rfl) (fun _ => trivial)) ?_
      intro _
      refine GS.seq ?_
      refine GS.cond (t := decide (((i : Nat) : Int) < ((ws.length : Nat) : Int))) rfl rfl (fun h2 => ?_) (fun h2 => ?_)
      · replace h2 := of_decide_eq_true h2
        have hs1 := sumTo_le (shareF ids ws ((k : Nat) : Int)) 59 (fun j => by rw [hF]; have := shareState_le ids ws k j; omega) (i + 1)
        have hs2 := heavyTo_le ws i
        refine GS.skip ?_
        refine GS.seq ?_
        refine GS.block ?_
        refine GS.seq ?_
        -- region 10, law.go:88
        refine GS.region (env' := fun _ => [(5, .int .i64 ((k : Nat) : Int)), (6, .slice so1 ((shareF ids ws ((k : Nat) : Int)).length) sc1), (7, .int .i64 (sumTo (shareF ids ws ((k : Nat) : Int)) i)), (8, .int .i64 ((heavyTo ws i : Nat) : Int)), (9, .int .i64 ((i : Nat) : Int)), (10, .int .i64 (ws.getD i 0)), (40, .slice ow ws.length cw), (41, .int .i64 ((ws.length : Nat) : Int)), (42, .int .i64 ((i : Nat) : Int))]) (mem' := fun _ => [(1, .rd oi 1 (encI ids)), (2, .rd ow 1 (encI ws)), (3, .cells ((fr0 0).x) 32 [.slice oi ids.length ci, .slice ow ws.length cw]), (4, .osl so1 sc1 3 1 (encI (shareF ids ws ((k : Nat) : Int))))]) (RunsTo.mk [(1, { act := .idx 2 i }), (2, { act := .load 2 i 0 [.int .i64 (ws.getD i 0)] })] [5, 6, 7, 8, 9, 10, 40, 41, 42] [1, 2, 3, 4] (fun _ => [ow = ow, ws.length = (encI ws).length, (((i : Nat) : Int) : Int) = ((i : Nat) : Int), i < ws.length, blk ow = blk ow, offs ow + i * 1 = offs ow + (i * 1 + 0), (encI ws)[i]? = some [.int .i64 (ws.getD i 0)]]) (fun _ => by kernel_rfl) (fun _ => ⟨rfl, encI_len _, rfl, by omega, rfl, rfl, encI_at (by omega), trivial⟩)) ?_
        intro _
        refine GS.seq ?_
        -- region 11, law.go:89
        refine GS.region (env' := fun _ => [(5, .int .i64 ((k : Nat) : Int)), (6, .slice so1 ((shareF ids ws ((k : Nat) : Int)).length) sc1), (7, .int .i64 (sumTo (shareF ids ws ((k : Nat) : Int)) (i + 1))), (8, .int .i64 ((heavyTo ws i : Nat) : Int)), (9, .int .i64 ((i : Nat) : Int)), (10, .int .i64 (ws.getD i 0)), (40, .slice ow ws.length cw), (41, .int .i64 ((ws.length : Nat) : Int)), (42, .int .i64 ((i : Nat) : Int))]) (mem' := fun _ => [(1, .rd oi 1 (encI ids)), (2, .rd ow 1 (encI ws)), (3, .cells ((fr0 0).x) 32 [.slice oi ids.length ci, .slice ow ws.length cw]), (4, .osl so1 sc1 3 1 (encI (shareF ids ws ((k : Nat) : Int))))]) (RunsTo.mk [(3, { act := .idx 4 i }), (4, { act := .load 4 i 0 [.int .i64 ((shareF ids ws ((k : Nat) : Int)).getD i 0)] }), (5, { sp := some (.int .i64 (sumTo (shareF ids ws ((k : Nat) : Int)) (i + 1))) })] [5, 6, 7, 8, 9, 10, 40, 41, 42] [1, 2, 3, 4] (fun _ => [so1 = so1, (shareF ids ws ((k : Nat) : Int)).length = (encI (shareF ids ws ((k : Nat) : Int))).length, (((i : Nat) : Int) : Int) = ((i : Nat) : Int), i < (shareF ids ws ((k : Nat) : Int)).length, blk so1 = blk so1, offs so1 + i * 1 = offs so1 + (i * 1 + 0), (encI (shareF ids ws ((k : Nat) : Int)))[i]? = some [.int .i64 ((shareF ids ws ((k : Nat) : Int)).getD i 0)], (.int .i64 (IntKind.i64.wrap ((sumTo (shareF ids ws ((k : Nat) : Int)) i) + ((shareF ids ws ((k : Nat) : Int)).getD i 0))) : Value) = .int .i64 (sumTo (shareF ids ws ((k : Nat) : Int)) (i + 1))]) (fun _ => by kernel_rfl) (fun _ => ⟨rfl, encI_len _, rfl, by omega, rfl, rfl, encI_at (by omega), w64 rfl (by omega) (by omega), trivial⟩)) ?_
        intro _
        refine GS.seq ?_
        -- region 12, law.go:90
        refine GS.region (env' := fun _ => [(5, .int .i64 ((k : Nat) : Int)), (6, .slice so1 ((shareF ids ws ((k : Nat) : Int)).length) sc1), (7, .int .i64 (sumTo (shareF ids ws ((k : Nat) : Int)) (i + 1))), (8, .int .i64 ((heavyTo ws i : Nat) : Int)), (9, .int .i64 ((i : Nat) : Int)), (40, .slice ow ws.length cw), (41, .int .i64 ((ws.length : Nat) : Int)), (42, .int .i64 ((i : Nat) : Int)), (54, .bool (decide ((ws.getD i 0) > 0)))]) (mem' := fun _ => [(1, .rd oi 1 (encI ids)), (2, .rd ow 1 (encI ws)), (3, .cells ((fr0 0).x) 32 [.slice oi ids.length ci, .slice ow ws.length cw]), (4, .osl so1 sc1 3 1 (encI (shareF ids ws ((k : Nat) : Int))))]) (RunsTo.mk [] [5, 6, 7, 8, 9, 40, 41, 42, 54] [1, 2, 3, 4] (fun _ => []) (fun _ => by kernel_rfl) (fun _ => trivial)) ?_
        intro _
        refine GS.cond (t := decide ((ws.getD i 0) > 0)) rfl rfl (fun h3 => ?_) (fun h3 => ?_)
        · replace h3 := of_decide_eq_true h3
          -- region 13, law.go:91
          refine GS.region (env' := fun _ => [(5, .int .i64 ((k : Nat) : Int)), (6, .slice so1 ((shareF ids ws ((k : Nat) : Int)).length) sc1), (7, .int .i64 (sumTo (shareF ids ws ((k : Nat) : Int)) (i + 1))), (8, .int .i64 ((heavyTo ws (i + 1) : Nat) : Int)), (40, .slice ow ws.length cw), (41, .int .i64 ((ws.length : Nat) : Int)), (42, .int .i64 ((i : Nat) : Int))]) (mem' := fun _ => [(1, .rd oi 1 (encI ids)), (2, .rd ow 1 (encI ws)), (3, .cells ((fr0 0).x) 32 [.slice oi ids.length ci, .slice ow ws.length cw]), (4, .osl so1 sc1 3 1 (encI (shareF ids ws ((k : Nat) : Int))))]) (RunsTo.mk [(1, { sp := some (.int .i64 ((heavyTo ws (i + 1) : Nat) : Int)) })] [5, 6, 7, 8, 40, 41, 42] [1, 2, 3, 4] (fun _ => [(.int .i64 (IntKind.i64.wrap (((heavyTo ws i : Nat) : Int) + 1)) : Value) = .int .i64 ((heavyTo ws (i + 1) : Nat) : Int)]) (fun _ => by kernel_rfl) (fun _ => ⟨w64 (by simp only [heavyTo]; rw [if_pos h3]; omega) (by simp only [heavyTo]; split <;> omega) (by simp only [heavyTo]; split <;> omega), trivial⟩)) ?_
          intro _
          refine GS.inBlock ?_
          -- region 16, law.go:88
          refine GS.region (env' := fun _ => [(5, .int .i64 ((k : Nat) : Int)), (6, .slice so1 ((shareF ids ws ((k : Nat) : Int)).length) sc1), (7, .int .i64 (sumTo (shareF ids ws ((k : Nat) : Int)) (i + 1))), (8, .int .i64 ((heavyTo ws (i + 1) : Nat) : Int)), (40, .slice ow ws.length cw), (41, .int .i64 ((ws.length : Nat) : Int)), (42, .int .i64 ((i + 1 : Nat) : Int))]) (mem' := fun _ => [(1, .rd oi 1 (encI ids)), (2, .rd ow 1 (encI ws)), (3, .cells ((fr0 0).x) 32 [.slice oi ids.length ci, .slice ow ws.length cw]), (4, .osl so1 sc1 3 1 (encI (shareF ids ws ((k : Nat) : Int))))]) (RunsTo.mk [(0, { sp := some (.int .i64 ((i + 1 : Nat) : Int)) })] [5, 6, 7, 8, 40, 41, 42] [1, 2, 3, 4] (fun _ => [(.int .i64 (IntKind.i64.wrap (((i : Nat) : Int) + 1)) : Value) = .int .i64 ((i + 1 : Nat) : Int)]) (fun _ => by kernel_rfl) (fun _ => ⟨w64 (by omega) (by omega) (by omega), trivial⟩)) ?_
          intro _
          refine GS.inLoop ?_
          exact ih (i + 1) (by omega) (show ws.length - (i + 1) < ws.length - (i) from by omega)
        · replace h3 := of_decide_eq_false h3
          refine GS.seq ?_
          -- region 14, law.go:92
          refine GS.region (env' := fun _ => [(5, .int .i64 ((k : Nat) : Int)), (6, .slice so1 ((shareF ids ws ((k : Nat) : Int)).length) sc1), (7, .int .i64 (sumTo (shareF ids ws ((k : Nat) : Int)) (i + 1))), (8, .int .i64 ((heavyTo ws i : Nat) : Int)), (40, .slice ow ws.length cw), (41, .int .i64 ((ws.length : Nat) : Int)), (42, .int .i64 ((i : Nat) : Int)), (61, .bool (((shareF ids ws ((k : Nat) : Int)).getD i 0) != 0))]) (mem' := fun _ => [(1, .rd oi 1 (encI ids)), (2, .rd ow 1 (encI ws)), (3, .cells ((fr0 0).x) 32 [.slice oi ids.length ci, .slice ow ws.length cw]), (4, .osl so1 sc1 3 1 (encI (shareF ids ws ((k : Nat) : Int))))]) (RunsTo.mk [(2, { act := .idx 4 i }), (3, { act := .load 4 i 0 [.int .i64 ((shareF ids ws ((k : Nat) : Int)).getD i 0)] })] [5, 6, 7, 8, 40, 41, 42, 61] [1, 2, 3, 4] (fun _ => [so1 = so1, (shareF ids ws ((k : Nat) : Int)).length = (encI (shareF ids ws ((k : Nat) : Int))).length, (((i : Nat) : Int) : Int) = ((i : Nat) : Int), i < (shareF ids ws ((k : Nat) : Int)).length, blk so1 = blk so1, offs so1 + i * 1 = offs so1 + (i * 1 + 0), (encI (shareF ids ws ((k : Nat) : Int)))[i]? = some [.int .i64 ((shareF ids ws ((k : Nat) : Int)).getD i 0)]]) (fun _ => by kernel_rfl) (fun _ => ⟨rfl, encI_len _, rfl, by omega, rfl, rfl, encI_at (by omega), trivial⟩)) ?_
          intro _
          refine GS.cond (t := ((shareF ids ws ((k : Nat) : Int)).getD i 0) != 0) rfl rfl (fun h4 => ?_) (fun h4 => ?_)
          · replace h4 := ne_of_bne h4
            exact absurd (by rw [hF]; exact shareState_light ids ws i (by omega) k) h4
          · replace h4 := eq_of_bne_false h4
            refine GS.conv (env' := [(5, .int .i64 ((k : Nat) : Int)), (6, .slice so1 ((shareF ids ws ((k : Nat) : Int)).length) sc1), (7, .int .i64 (sumTo (shareF ids ws ((k : Nat) : Int)) (i + 1))), (8, .int .i64 ((heavyTo ws (i + 1) : Nat) : Int)), (40, .slice ow ws.length cw), (41, .int .i64 ((ws.length : Nat) : Int)), (42, .int .i64 ((i : Nat) : Int)), (61, .bool (((shareF ids ws ((k : Nat) : Int)).getD i 0) != 0))]) (congrArg (fun v : Value => [(5, .int .i64 ((k : Nat) : Int)), (6, .slice so1 ((shareF ids ws ((k : Nat) : Int)).length) sc1), (7, .int .i64 (sumTo (shareF ids ws ((k : Nat) : Int)) (i + 1))), (8, v), (40, .slice ow ws.length cw), (41, .int .i64 ((ws.length : Nat) : Int)), (42, .int .i64 ((i : Nat) : Int)), (61, .bool (((shareF ids ws ((k : Nat) : Int)).getD i 0) != 0))]) (show ((.int .i64 ((heavyTo ws i : Nat) : Int) : Value) = .int .i64 ((heavyTo ws (i + 1) : Nat) : Int)) from by simp only [heavyTo]; rw [if_neg h3, Nat.add_zero])) rfl ?_
            refine GS.skip ?_
            refine GS.inBlock ?_
            -- region 16, law.go:88
            refine GS.region (env' := fun _ => [(5, .int .i64 ((k : Nat) : Int)), (6, .slice so1 ((shareF ids ws ((k : Nat) : Int)).length) sc1), (7, .int .i64 (sumTo (shareF ids ws ((k : Nat) : Int)) (i + 1))), (8, .int .i64 ((heavyTo ws (i + 1) : Nat) : Int)), (40, .slice ow ws.length cw), (41, .int .i64 ((ws.length : Nat) : Int)), (42, .int .i64 ((i + 1 : Nat) : Int))]) (mem' := fun _ => [(1, .rd oi 1 (encI ids)), (2, .rd ow 1 (encI ws)), (3, .cells ((fr0 0).x) 32 [.slice oi ids.length ci, .slice ow ws.length cw]), (4, .osl so1 sc1 3 1 (encI (shareF ids ws ((k : Nat) : Int))))]) (RunsTo.mk [(0, { sp := some (.int .i64 ((i + 1 : Nat) : Int)) })] [5, 6, 7, 8, 40, 41, 42] [1, 2, 3, 4] (fun _ => [(.int .i64 (IntKind.i64.wrap (((i : Nat) : Int) + 1)) : Value) = .int .i64 ((i + 1 : Nat) : Int)]) (fun _ => by kernel_rfl) (fun _ => ⟨w64 (by omega) (by omega) (by omega), trivial⟩)) ?_
            intro _
            refine GS.inLoop ?_
            exact ih (i + 1) (by omega) (show ws.length - (i + 1) < ws.length - (i) from by omega)
      · replace h2 := of_decide_eq_false h2
        have hie : i = ws.length := by omega
        have hil : ids.length = ws.length := by omega
        refine GS.exit rfl ?_
        refine GS.seq ?_
        refine GS.seq ?_
        -- region 17, law.go:96
        refine GS.region (env' := fun _ => [(5, .int .i64 ((k : Nat) : Int)), (7, .int .i64 (sumTo (shareF ids ws ((k : Nat) : Int)) i)), (64, .bool (((heavyTo ws i : Nat) : Int) == 0))]) (mem' := fun _ => [(1, .rd oi 1 (encI ids)), (2, .rd ow 1 (encI ws)), (3, .cells ((fr0 0).x) 32 [.slice oi ids.length ci, .slice ow ws.length cw]), (4, .osl so1 sc1 3 1 (encI (shareF ids ws ((k : Nat) : Int))))]) (RunsTo.mk [] [5, 7, 64] [1, 2, 3, 4] (fun _ => []) (fun _ => by kernel_rfl) (fun _ => trivial)) ?_
        intro _
        refine GS.cond (t := ((heavyTo ws i : Nat) : Int) == 0) rfl rfl (fun h5 => ?_) (fun h5 => ?_)
        · replace h5 := eq_of_beq h5
          refine GS.seq ?_
          -- region 18, law.go:97
          refine GS.region (env' := fun _ => [(4, .bool true)]) (mem' := fun _ => [(1, .rd oi 1 (encI ids)), (2, .rd ow 1 (encI ws)), (3, .cells ((fr0 0).x) 32 [.slice oi ids.length ci, .slice ow ws.length cw]), (4, .osl so1 sc1 3 1 (encI (shareF ids ws ((k : Nat) : Int))))]) (RunsTo.mk [(1, { sp := some (.bool true) }), (3, { act := .call [] (.bool true) })] [4] [1, 2, 3, 4] (fun _ => [(.bool ((sumTo (shareF ids ws ((k : Nat) : Int)) i) == 0) : Value) = .bool true, CallOK Try.prog 11 #[] (.bool true) []]) (fun _ => by kernel_rfl) (fun _ => ⟨bool_eq (by rw [hF, hie, ← hil, share_none hil (by rw [← hie]; omega)] <;> rfl), lives_ok, trivial⟩)) ?_
          intro _
          refine GS.ret (fn := Try.f8) [0] [.bool true] [] rfl Try.func8 (by kernel_rfl) trivial (fun w' hs => ?_)
          exact ⟨rfl, hs.keep⟩
        · replace h5 := ne_of_beq_false' h5
          refine GS.skip ?_
          refine GS.seq ?_
          -- region 19, law.go:99
          refine GS.region (env' := fun _ => [(4, .bool true)]) (mem' := fun _ => [(1, .rd oi 1 (encI ids)), (2, .rd ow 1 (encI ws)), (3, .cells ((fr0 0).x) 32 [.slice oi ids.length ci, .slice ow ws.length cw]), (4, .osl so1 sc1 3 1 (encI (shareF ids ws ((k : Nat) : Int))))]) (RunsTo.mk [(2, { sp := some (.bool true) }), (4, { act := .call [] (.bool true) })] [4] [1, 2, 3, 4] (fun _ => [(.bool ((sumTo (shareF ids ws ((k : Nat) : Int)) i) == ((k : Nat) : Int)) : Value) = .bool true, CallOK Try.prog 11 #[] (.bool true) []]) (fun _ => by kernel_rfl) (fun _ => ⟨bool_eq (by rw [hF, hie, ← hil, share_all hil (by rw [← hie]; omega)] <;> simp), lives_ok, trivial⟩)) ?_
          intro _
          refine GS.ret (fn := Try.f8) [0] [.bool true] [] rfl Try.func8 (by kernel_rfl) trivial (fun w' hs => ?_)
          exact ⟨rfl, hs.keep⟩

theorem law_moves (oi ow : Option Addr) (ci cw : Nat) (ids ws : List Int) (x a more r : Int) (hl : ids.length ≤ 1048576) (hl2 : ws.length ≤ 1048576) : CallOK Try.prog 6 #[.agg #[.slice oi ids.length ci, .slice ow ws.length cw], .int .u32 x, .agg #[.int .i64 a, .int .i64 more, .int .i64 r]] (.bool true) [some (.rd oi 1 (encI ids)), some (.rd ow 1 (encI ws))] := by
  intro w hr
  obtain ⟨A, hA⟩ := wrap_u64_nat a
  refine GS.start (S := fun _ => False) (mem := [(1, .rd oi 1 (encI ids)), (2, .rd ow 1 (encI ws))]) Try.func6 rfl Try.ntmps6 (Nat.le_of_ble_eq_true rfl) (Sat.startRo (es := [.rd oi 1 (encI ids), .rd ow 1 (encI ws)]) hr rfl) ?_
  refine GS.conv (env' := [(0, .agg #[.slice oi ids.length ci, .slice ow ws.length cw]), (1, .int .u32 x), (2, .agg #[.int .i64 a, .int .i64 more, .int .i64 r])]) rfl rfl ?_
  refine GS.seq ?_
  -- region 0, law.go:53
  refine GS.region (env' := fun fr0 => [(1, .int .u32 x), (3, .pointer (some ⟨(fr0 0).x, 0, none⟩)), (5, .pointer (some ⟨(fr0 1).x, 0, none⟩))]) (mem' := fun fr0 => [(1, .rd oi 1 (encI ids)), (2, .rd ow 1 (encI ws)), (3, .cells ((fr0 0).x) 32 [.slice oi ids.length ci, .slice ow ws.length cw]), (4, .cells ((fr0 1).x) 33 [.int .i64 a, .int .i64 more, .int .i64 r])]) (RunsTo.mk [(0, { act := .new .var, key := some 3 }), (1, { act := .new .var, key := some 4 })] [1, 3, 5] [1, 2, 3, 4] (fun fr0 => []) (fun fr0 => by kernel_rfl) (fun fr0 => trivial)) ?_
  intro fr0
  refine GS.seq ?_
  -- region 1, law.go:54
  refine GS.region (env' := fun _ => [(1, .int .u32 x), (7, .slice oi ids.length ci), (8, .slice ow ws.length cw), (9, .int .u64 ((A : Nat) : Int)), (10, .int .i64 more), (11, .int .i64 r)]) (mem' := fun _ => [(1, .rd oi 1 (encI ids)), (2, .rd ow 1 (encI ws)), (3, .cells ((fr0 0).x) 32 [.slice oi ids.length ci, .slice ow ws.length cw]), (4, .cells ((fr0 1).x) 33 [.int .i64 a, .int .i64 more, .int .i64 r])]) (RunsTo.mkd [(1, { act := .load 3 0 0 [] }), (3, { act := .load 3 0 0 [] }), (5, { act := .load 4 0 0 [] }), (6, { sp := some (.int .u64 ((A : Nat) : Int)) }), (8, { act := .load 4 0 0 [] }), (10, { act := .load 4 0 0 [] })] [1, 7, 8, 9, 10, 11] [1, 2, 3, 4] (fun _ => [(fr0 0).x = (fr0 0).x, (fr0 0).x = (fr0 0).x, (fr0 1).x = (fr0 1).x, (.int .u64 (IntKind.u64.wrap a) : Value) = .int .u64 ((A : Nat) : Int), (fr0 1).x = (fr0 1).x, (fr0 1).x = (fr0 1).x]) (by kernel_rfl) (by kernel_rfl) (fun _ => by kernel_rfl) (fun _ => ⟨rfl, rfl, rfl, int_eq hA, rfl, rfl, trivial⟩)) ?_
  intro _
  refine GS.seq ?_
  refine GS.seq ?_
  by_cases c1 : ids.length ≠ ws.length
  · skip
    -- region 2, law.go:55
    refine GS.region (env' := fun _ => [(1, .int .u32 x), (7, .slice oi ids.length ci), (8, .slice ow ws.length cw), (9, .int .u64 ((A : Nat) : Int)), (10, .int .i64 more), (11, .int .i64 r), (48, .bool true)]) (mem' := fun _ => [(1, .rd oi 1 (encI ids)), (2, .rd ow 1 (encI ws)), (3, .cells ((fr0 0).x) 32 [.slice oi ids.length ci, .slice ow ws.length cw]), (4, .cells ((fr0 1).x) 33 [.int .i64 a, .int .i64 more, .int .i64 r])]) (RunsTo.mk [(4, { sp := some (.bool true) })] [1, 7, 8, 9, 10, 11, 48] [1, 2, 3, 4] (fun _ => [(.bool (((ids.length : Nat) : Int) != ((ws.length : Nat) : Int)) : Value) = .bool true]) (fun _ => by kernel_rfl) (fun _ => ⟨bool_eq (by simp; omega), trivial⟩)) ?_
    intro _
    refine GS.cond (t := true) rfl rfl (fun _ => ?_) (fun hf => by cases hf)
    refine GS.seq ?_
    -- region 3, law.go:56
    refine GS.region (env' := fun _ => [(6, .bool true)]) (mem' := fun _ => [(1, .rd oi 1 (encI ids)), (2, .rd ow 1 (encI ws)), (3, .cells ((fr0 0).x) 32 [.slice oi ids.length ci, .slice ow ws.length cw]), (4, .cells ((fr0 1).x) 33 [.int .i64 a, .int .i64 more, .int .i64 r])]) (RunsTo.mk [(0, { act := .call [] (.bool true) })] [6] [1, 2, 3, 4] (fun _ => [CallOK Try.prog 11 #[] (.bool true) []]) (fun _ => by kernel_rfl) (fun _ => ⟨lives_ok, trivial⟩)) ?_
    intro _
    refine GS.ret (fn := Try.f6) [0] [.bool true] [] rfl Try.func6 (by kernel_rfl) trivial (fun w' hs => ?_)
    exact ⟨rfl, hs.keep⟩
  · skip
    by_cases c2 : ids.length = 0
    · skip
      -- region 2, law.go:55
      refine GS.region (env' := fun _ => [(1, .int .u32 x), (7, .slice oi ids.length ci), (8, .slice ow ws.length cw), (9, .int .u64 ((A : Nat) : Int)), (10, .int .i64 more), (11, .int .i64 r), (48, .bool true)]) (mem' := fun _ => [(1, .rd oi 1 (encI ids)), (2, .rd ow 1 (encI ws)), (3, .cells ((fr0 0).x) 32 [.slice oi ids.length ci, .slice ow ws.length cw]), (4, .cells ((fr0 1).x) 33 [.int .i64 a, .int .i64 more, .int .i64 r])]) (RunsTo.mk [(4, { sp := some (.bool false) }), (8, { sp := some (.bool true) })] [1, 7, 8, 9, 10, 11, 48] [1, 2, 3, 4] (fun _ => [(.bool (((ids.length : Nat) : Int) != ((ws.length : Nat) : Int)) : Value) = .bool false, (.bool (((ids.length : Nat) : Int) == 0) : Value) = .bool true]) (fun _ => by kernel_rfl) (fun _ => ⟨bool_eq (by simp; omega), bool_eq (by rw [c2] <;> rfl), trivial⟩)) ?_
      intro _
      refine GS.cond (t := true) rfl rfl (fun _ => ?_) (fun hf => by cases hf)
      refine GS.seq ?_
      -- region 3, law.go:56
      refine GS.region (env' := fun _ => [(6, .bool true)]) (mem' := fun _ => [(1, .rd oi 1 (encI ids)), (2, .rd ow 1 (encI ws)), (3, .cells ((fr0 0).x) 32 [.slice oi ids.length ci, .slice ow ws.length cw]), (4, .cells ((fr0 1).x) 33 [.int .i64 a, .int .i64 more, .int .i64 r])]) (RunsTo.mk [(0, { act := .call [] (.bool true) })] [6] [1, 2, 3, 4] (fun _ => [CallOK Try.prog 11 #[] (.bool true) []]) (fun _ => by kernel_rfl) (fun _ => ⟨lives_ok, trivial⟩)) ?_
      intro _
      refine GS.ret (fn := Try.f6) [0] [.bool true] [] rfl Try.func6 (by kernel_rfl) trivial (fun w' hs => ?_)
      exact ⟨rfl, hs.keep⟩
    · skip
      by_cases c3 : more < 0
      · skip
        -- region 2, law.go:55
        refine GS.region (env' := fun _ => [(1, .int .u32 x), (7, .slice oi ids.length ci), (8, .slice ow ws.length cw), (9, .int .u64 ((A : Nat) : Int)), (10, .int .i64 more), (11, .int .i64 r), (48, .bool true)]) (mem' := fun _ => [(1, .rd oi 1 (encI ids)), (2, .rd ow 1 (encI ws)), (3, .cells ((fr0 0).x) 32 [.slice oi ids.length ci, .slice ow ws.length cw]), (4, .cells ((fr0 1).x) 33 [.int .i64 a, .int .i64 more, .int .i64 r])]) (RunsTo.mk [(4, { sp := some (.bool false) }), (8, { sp := some (.bool false) }), (12, { sp := some (.bool true) })] [1, 7, 8, 9, 10, 11, 48] [1, 2, 3, 4] (fun _ => [(.bool (((ids.length : Nat) : Int) != ((ws.length : Nat) : Int)) : Value) = .bool false, (.bool (((ids.length : Nat) : Int) == 0) : Value) = .bool false, (.bool (decide (more < 0)) : Value) = .bool true]) (fun _ => by kernel_rfl) (fun _ => ⟨bool_eq (by simp; omega), bool_eq (by simp; intro hc; rw [hc] at c2; simp at c2), bool_eq (decide_eq_true c3), trivial⟩)) ?_
        intro _
        refine GS.cond (t := true) rfl rfl (fun _ => ?_) (fun hf => by cases hf)
        refine GS.seq ?_
        -- region 3, law.go:56
        refine GS.region (env' := fun _ => [(6, .bool true)]) (mem' := fun _ => [(1, .rd oi 1 (encI ids)), (2, .rd ow 1 (encI ws)), (3, .cells ((fr0 0).x) 32 [.slice oi ids.length ci, .slice ow ws.length cw]), (4, .cells ((fr0 1).x) 33 [.int .i64 a, .int .i64 more, .int .i64 r])]) (RunsTo.mk [(0, { act := .call [] (.bool true) })] [6] [1, 2, 3, 4] (fun _ => [CallOK Try.prog 11 #[] (.bool true) []]) (fun _ => by kernel_rfl) (fun _ => ⟨lives_ok, trivial⟩)) ?_
        intro _
        refine GS.ret (fn := Try.f6) [0] [.bool true] [] rfl Try.func6 (by kernel_rfl) trivial (fun w' hs => ?_)
        exact ⟨rfl, hs.keep⟩
      · skip
        by_cases c4 : more > 1073741824
        · skip
          -- region 2, law.go:55
          refine GS.region (env' := fun _ => [(1, .int .u32 x), (7, .slice oi ids.length ci), (8, .slice ow ws.length cw), (9, .int .u64 ((A : Nat) : Int)), (10, .int .i64 more), (11, .int .i64 r), (48, .bool true)]) (mem' := fun _ => [(1, .rd oi 1 (encI ids)), (2, .rd ow 1 (encI ws)), (3, .cells ((fr0 0).x) 32 [.slice oi ids.length ci, .slice ow ws.length cw]), (4, .cells ((fr0 1).x) 33 [.int .i64 a, .int .i64 more, .int .i64 r])]) (RunsTo.mk [(4, { sp := some (.bool false) }), (8, { sp := some (.bool false) }), (12, { sp := some (.bool false) }), (16, { sp := some (.bool true) })] [1, 7, 8, 9, 10, 11, 48] [1, 2, 3, 4] (fun _ => [(.bool (((ids.length : Nat) : Int) != ((ws.length : Nat) : Int)) : Value) = .bool false, (.bool (((ids.length : Nat) : Int) == 0) : Value) = .bool false, (.bool (decide (more < 0)) : Value) = .bool false, (.bool (decide (more > 1073741824)) : Value) = .bool true]) (fun _ => by kernel_rfl) (fun _ => ⟨bool_eq (by simp; omega), bool_eq (by simp; intro hc; rw [hc] at c2; simp at c2), bool_eq (decide_eq_false c3), bool_eq (decide_eq_true c4), trivial⟩)) ?_
          intro _
          refine GS.cond (t := true) rfl rfl (fun _ => ?_) (fun hf => by cases hf)
          refine GS.seq ?_
          -- region 3, law.go:56
          refine GS.region (env' := fun _ => [(6, .bool true)]) (mem' := fun _ => [(1, .rd oi 1 (encI ids)), (2, .rd ow 1 (encI ws)), (3, .cells ((fr0 0).x) 32 [.slice oi ids.length ci, .slice ow ws.length cw]), (4, .cells ((fr0 1).x) 33 [.int .i64 a, .int .i64 more, .int .i64 r])]) (RunsTo.mk [(0, { act := .call [] (.bool true) })] [6] [1, 2, 3, 4] (fun _ => [CallOK Try.prog 11 #[] (.bool true) []]) (fun _ => by kernel_rfl) (fun _ => ⟨lives_ok, trivial⟩)) ?_
          intro _
          refine GS.ret (fn := Try.f6) [0] [.bool true] [] rfl Try.func6 (by kernel_rfl) trivial (fun w' hs => ?_)
          exact ⟨rfl, hs.keep⟩
        · skip
          -- region 2, law.go:55
          refine GS.region (env' := fun _ => [(1, .int .u32 x), (7, .slice oi ids.length ci), (8, .slice ow ws.length cw), (9, .int .u64 ((A : Nat) : Int)), (10, .int .i64 more), (11, .int .i64 r), (48, .bool false)]) (mem' := fun _ => [(1, .rd oi 1 (encI ids)), (2, .rd ow 1 (encI ws)), (3, .cells ((fr0 0).x) 32 [.slice oi ids.length ci, .slice ow ws.length cw]), (4, .cells ((fr0 1).x) 33 [.int .i64 a, .int .i64 more, .int .i64 r])]) (RunsTo.mk [(4, { sp := some (.bool false) }), (8, { sp := some (.bool false) }), (12, { sp := some (.bool false) }), (16, { sp := some (.bool false) })] [1, 7, 8, 9, 10, 11, 48] [1, 2, 3, 4] (fun _ => [(.bool (((ids.length : Nat) : Int) != ((ws.length : Nat) : Int)) : Value) = .bool false, (.bool (((ids.length : Nat) : Int) == 0) : Value) = .bool false, (.bool (decide (more < 0)) : Value) = .bool false, (.bool (decide (more > 1073741824)) : Value) = .bool false]) (fun _ => by kernel_rfl) (fun _ => ⟨bool_eq (by simp; omega), bool_eq (by simp; intro hc; rw [hc] at c2; simp at c2), bool_eq (decide_eq_false c3), bool_eq (decide_eq_false c4), trivial⟩)) ?_
          intro _
          refine GS.cond (t := false) rfl rfl (fun hf => by cases hf) (fun _ => ?_)
          obtain ⟨i, hi⟩ : ∃ i, i = A % ids.length := ⟨_, rfl⟩
          have hil : i < ids.length := by rw [hi]; exact Nat.mod_lt _ (by omega)
          refine GS.skip ?_
          refine GS.seq ?_
          -- region 4, law.go:58
          refine GS.region (env' := fun _ => [(1, .int .u32 x), (7, .slice oi ids.length ci), (8, .slice ow ws.length cw), (10, .int .i64 more), (11, .int .i64 r), (12, .int .i64 ((i : Nat) : Int))]) (mem' := fun _ => [(1, .rd oi 1 (encI ids)), (2, .rd ow 1 (encI ws)), (3, .cells ((fr0 0).x) 32 [.slice oi ids.length ci, .slice ow ws.length cw]), (4, .cells ((fr0 1).x) 33 [.int .i64 a, .int .i64 more, .int .i64 r])]) (RunsTo.mk [(3, { sp := some (.int .u64 ((ids.length : Nat) : Int)) }), (4, { act := .div, sp := some (.int .u64 ((i : Nat) : Int)) }), (5, { sp := some (.int .i64 ((i : Nat) : Int)) })] [1, 7, 8, 10, 11, 12] [1, 2, 3, 4] (fun _ => [(.int .u64 (IntKind.u64.wrap ((ids.length : Nat) : Int)) : Value) = .int .u64 ((ids.length : Nat) : Int), ((ids.length : Nat) : Int) ≠ 0, (.int .u64 (Int.tmod ((A : Nat) : Int) ((ids.length : Nat) : Int)) : Value) = .int .u64 ((i : Nat) : Int), (.int .i64 (IntKind.i64.wrap ((i : Nat) : Int)) : Value) = .int .i64 ((i : Nat) : Int)]) (fun _ => by kernel_rfl) (fun _ => ⟨int_eq (u64_nat (by omega)), by omega, int_eq (by rw [Int.tmod_eq_emod_of_nonneg (by omega), hi] <;> rfl), w64 (by omega) (by omega) (by omega), trivial⟩)) ?_
          intro _
          refine GS.seq ?_
          refine GS.seq ?_
          by_cases c5 : ws.getD i 0 < 0
          · skip
            -- region 5, law.go:59
            refine GS.region (env' := fun _ => [(1, .int .u32 x), (7, .slice oi ids.length ci), (8, .slice ow ws.length cw), (10, .int .i64 more), (11, .int .i64 r), (12, .int .i64 ((i : Nat) : Int)), (67, .bool true)]) (mem' := fun _ => [(1, .rd oi 1 (encI ids)), (2, .rd ow 1 (encI ws)), (3, .cells ((fr0 0).x) 32 [.slice oi ids.length ci, .slice ow ws.length cw]), (4, .cells ((fr0 1).x) 33 [.int .i64 a, .int .i64 more, .int .i64 r])]) (RunsTo.mk [(2, { act := .idx 2 i }), (3, { act := .load 2 i 0 [.int .i64 (ws.getD i 0)] }), (4, { sp := some (.bool true) })] [1, 7, 8, 10, 11, 12, 67] [1, 2, 3, 4] (fun _ => [ow = ow, ws.length = (encI ws).length, (((i : Nat) : Int) : Int) = ((i : Nat) : Int), i < ws.length, blk ow = blk ow, offs ow + i * 1 = offs ow + (i * 1 + 0), (encI ws)[i]? = some [.int .i64 (ws.getD i 0)], (.bool (decide ((ws.getD i 0) < 0)) : Value) = .bool true]) (fun _ => by kernel_rfl) (fun _ => ⟨rfl, encI_len _, rfl, by omega, rfl, rfl, encI_at (by omega), bool_eq (decide_eq_true c5), trivial⟩)) ?_
            intro _
            refine GS.cond (t := true) rfl rfl (fun _ => ?_) (fun hf => by cases hf)
            refine GS.seq ?_
            -- region 6, law.go:60
            refine GS.region (env' := fun _ => [(6, .bool true)]) (mem' := fun _ => [(1, .rd oi 1 (encI ids)), (2, .rd ow 1 (encI ws)), (3, .cells ((fr0 0).x) 32 [.slice oi ids.length ci, .slice ow ws.length cw]), (4, .cells ((fr0 1).x) 33 [.int .i64 a, .int .i64 more, .int .i64 r])]) (RunsTo.mk [(0, { act := .call [] (.bool true) })] [6] [1, 2, 3, 4] (fun _ => [CallOK Try.prog 11 #[] (.bool true) []]) (fun _ => by kernel_rfl) (fun _ => ⟨lives_ok, trivial⟩)) ?_
            intro _
            refine GS.ret (fn := Try.f6) [0] [.bool true] [] rfl Try.func6 (by kernel_rfl) trivial (fun w' hs => ?_)
            exact ⟨rfl, hs.keep⟩
          · skip
            by_cases c6 : ws.getD i 0 > 1073741824
            · skip
              -- region 5, law.go:59
              refine GS.region (env' := fun _ => [(1, .int .u32 x), (7, .slice oi ids.length ci), (8, .slice ow ws.length cw), (10, .int .i64 more), (11, .int .i64 r), (12, .int .i64 ((i : Nat) : Int)), (67, .bool true)]) (mem' := fun _ => [(1, .rd oi 1 (encI ids)), (2, .rd ow 1 (encI ws)), (3, .cells ((fr0 0).x) 32 [.slice oi ids.length ci, .slice ow ws.length cw]), (4, .cells ((fr0 1).x) 33 [.int .i64 a, .int .i64 more, .int .i64 r])]) (RunsTo.mk [(2, { act := .idx 2 i }), (3, { act := .load 2 i 0 [.int .i64 (ws.getD i 0)] }), (4, { sp := some (.bool false) }), (8, { act := .idx 2 i }), (9, { act := .load 2 i 0 [.int .i64 (ws.getD i 0)] }), (10, { sp := some (.bool true) })] [1, 7, 8, 10, 11, 12, 67] [1, 2, 3, 4] (fun _ => [ow = ow, ws.length = (encI ws).length, (((i : Nat) : Int) : Int) = ((i : Nat) : Int), i < ws.length, blk ow = blk ow, offs ow + i * 1 = offs ow + (i * 1 + 0), (encI ws)[i]? = some [.int .i64 (ws.getD i 0)], (.bool (decide ((ws.getD i 0) < 0)) : Value) = .bool false, ow = ow, ws.length = (encI ws).length, (((i : Nat) : Int) : Int) = ((i : Nat) : Int), i < ws.length, blk ow = blk ow, offs ow + i * 1 = offs ow + (i * 1 + 0), (encI ws)[i]? = some [.int .i64 (ws.getD i 0)], (.bool (decide ((ws.getD i 0) > 1073741824)) : Value) = .bool true]) (fun _ => by kernel_rfl) (fun _ => ⟨rfl, encI_len _, rfl, by omega, rfl, rfl, encI_at (by omega), bool_eq (decide_eq_false c5), rfl, encI_len _, rfl, by omega, rfl, rfl, encI_at (by omega), bool_eq (decide_eq_true c6), trivial⟩)) ?_
              intro _
              refine GS.cond (t := true) rfl rfl (fun _ => ?_) (fun hf => by cases hf)
              refine GS.seq ?_
              -- region 6, law.go:60
              refine GS.region (env' := fun _ => [(6, .bool true)]) (mem' := fun _ => [(1, .rd oi 1 (encI ids)), (2, .rd ow 1 (encI ws)), (3, .cells ((fr0 0).x) 32 [.slice oi ids.length ci, .slice ow ws.length cw]), (4, .cells ((fr0 1).x) 33 [.int .i64 a, .int .i64 more, .int .i64 r])]) (RunsTo.mk [(0, { act := .call [] (.bool true) })] [6] [1, 2, 3, 4] (fun _ => [CallOK Try.prog 11 #[] (.bool true) []]) (fun _ => by kernel_rfl) (fun _ => ⟨lives_ok, trivial⟩)) ?_
              intro _
              refine GS.ret (fn := Try.f6) [0] [.bool true] [] rfl Try.func6 (by kernel_rfl) trivial (fun w' hs => ?_)
              exact ⟨rfl, hs.keep⟩
            · skip
              -- region 5, law.go:59
              refine GS.region (env' := fun _ => [(1, .int .u32 x), (7, .slice oi ids.length ci), (8, .slice ow ws.length cw), (10, .int .i64 more), (11, .int .i64 r), (12, .int .i64 ((i : Nat) : Int)), (67, .bool false)]) (mem' := fun _ => [(1, .rd oi 1 (encI ids)), (2, .rd ow 1 (encI ws)), (3, .cells ((fr0 0).x) 32 [.slice oi ids.length ci, .slice ow ws.length cw]), (4, .cells ((fr0 1).x) 33 [.int .i64 a, .int .i64 more, .int .i64 r])]) (RunsTo.mk [(2, { act := .idx 2 i }), (3, { act := .load 2 i 0 [.int .i64 (ws.getD i 0)] }), (4, { sp := some (.bool false) }), (8, { act := .idx 2 i }), (9, { act := .load 2 i 0 [.int .i64 (ws.getD i 0)] }), (10, { sp := some (.bool false) })] [1, 7, 8, 10, 11, 12, 67] [1, 2, 3, 4] (fun _ => [ow = ow, ws.length = (encI ws).length, (((i : Nat) : Int) : Int) = ((i : Nat) : Int), i < ws.length, blk ow = blk ow, offs ow + i * 1 = offs ow + (i * 1 + 0), (encI ws)[i]? = some [.int .i64 (ws.getD i 0)], (.bool (decide ((ws.getD i 0) < 0)) : Value) = .bool false, ow = ow, ws.length = (encI ws).length, (((i : Nat) : Int) : Int) = ((i : Nat) : Int), i < ws.length, blk ow = blk ow, offs ow + i * 1 = offs ow + (i * 1 + 0), (encI ws)[i]? = some [.int .i64 (ws.getD i 0)], (.bool (decide ((ws.getD i 0) > 1073741824)) : Value) = .bool false]) (fun _ => by kernel_rfl) (fun _ => ⟨rfl, encI_len _, rfl, by omega, rfl, rfl, encI_at (by omega), bool_eq (decide_eq_false c5), rfl, encI_len _, rfl, by omega, rfl, rfl, encI_at (by omega), bool_eq (decide_eq_false c6), trivial⟩)) ?_
              intro _
              refine GS.cond (t := false) rfl rfl (fun hf => by cases hf) (fun _ => ?_)
              refine GS.skip ?_
              refine GS.seq ?_
              -- region 7, law.go:62
              refine GS.region (env' := fun _ => [(1, .int .u32 x), (7, .slice oi ids.length ci), (8, .slice ow ws.length cw), (10, .int .i64 more), (11, .int .i64 r), (12, .int .i64 ((i : Nat) : Int)), (13, .int .i64 ((chooseF ids ws x r).1)), (14, .bool ((chooseF ids ws x r).2))]) (mem' := fun _ => [(1, .rd oi 1 (encI ids)), (2, .rd ow 1 (encI ws)), (3, .cells ((fr0 0).x) 32 [.slice oi ids.length ci, .slice ow ws.length cw]), (4, .cells ((fr0 1).x) 33 [.int .i64 a, .int .i64 more, .int .i64 r])]) (RunsTo.mk [(4, { act := .call [1, 2] (.tuple #[.int .i64 ((chooseF ids ws x r).1), .bool ((chooseF ids ws x r).2)]) })] [1, 7, 8, 10, 11, 12, 13, 14] [1, 2, 3, 4] (fun _ => [CallOK Try.prog 14 #[.slice oi ids.length ci, .slice ow ws.length cw, .int .u32 x, .int .i64 r] (.tuple #[.int .i64 ((chooseF ids ws x r).1), .bool ((chooseF ids ws x r).2)]) [some (.rd oi 1 (encI ids)), some (.rd ow 1 (encI ws))]]) (fun _ => by kernel_rfl) (fun _ => ⟨choose_ok oi ow ci cw ids ws x r (by first | omega | (simp <;> omega)), trivial⟩)) ?_
              intro _
              refine GS.seq ?_
              -- region 8, law.go:63
              refine GS.region (env' := fun fr1 => [(1, .int .u32 x), (7, .slice oi ids.length ci), (10, .int .i64 more), (11, .int .i64 r), (12, .int .i64 ((i : Nat) : Int)), (13, .int .i64 ((chooseF ids ws x r).1)), (14, .bool ((chooseF ids ws x r).2)), (15, .slice ((fr1 2).ob) (0 + (encI ws).length) ((fr1 2).cap))]) (mem' := fun fr1 => [(1, .rd oi 1 (encI ids)), (2, .rd ow 1 (encI ws)), (3, .cells ((fr0 0).x) 32 [.slice oi ids.length ci, .slice ow ws.length cw]), (4, .cells ((fr0 1).x) 33 [.int .i64 a, .int .i64 more, .int .i64 r]), (5, .osl ((fr1 2).ob) ((fr1 2).cap) 3 1 ((encI []) ++ (encI ws)))]) (RunsTo.mk [(0, { act := .new (.row 0 1), key := some 5 }), (2, { act := .app (some 2), key := some 5 })] [1, 7, 10, 11, 12, 13, 14, 15] [1, 2, 3, 4, 5] (fun fr1 => [ow = ow, ws.length = (encI ws).length, (some (Addr.mk (fr1 0).x 0 none)) = (some (Addr.mk (fr1 0).x 0 none)), 0 = 0, 0 = (encI []).length, ((encI []).length + (encI ws).length) * (8 + 1) ≤ 70368744177664, (encI ws).flatten.all Value.oneCell' = true]) (fun fr1 => by kernel_rfl) (fun fr1 => ⟨rfl, encI_len _, rfl, rfl, rfl, by rw [← encI_len, ← encI_len]; simp only [List.length_nil]; omega, encI_one _, trivial⟩)) ?_
              intro fr1
              refine GS.seq ?_
              refine GS.conv (mem' := [(1, .rd oi 1 (encI ids)), (2, .rd ow 1 (encI ws)), (3, .cells ((fr0 0).x) 32 [.slice oi ids.length ci, .slice ow ws.length cw]), (4, .cells ((fr0 1).x) 33 [.int .i64 a, .int .i64 more, .int .i64 r]), (5, .osl ((fr1 2).ob) ((fr1 2).cap) 3 1 (encI ws))]) rfl (congrArg (fun rr : List (List Value) => ([(1, .rd oi 1 (encI ids)), (2, .rd ow 1 (encI ws)), (3, .cells ((fr0 0).x) 32 [.slice oi ids.length ci, .slice ow ws.length cw]), (4, .cells ((fr0 1).x) 33 [.int .i64 a, .int .i64 more, .int .i64 r]), (5, .osl ((fr1 2).ob) ((fr1 2).cap) 3 1 rr)] : List (Nat × Ent))) (show (encI []) ++ (encI ws) = encI ws from by simp [encI])) ?_
              refine GS.conv (env' := [(1, .int .u32 x), (7, .slice oi ids.length ci), (10, .int .i64 more), (11, .int .i64 r), (12, .int .i64 ((i : Nat) : Int)), (13, .int .i64 ((chooseF ids ws x r).1)), (14, .bool ((chooseF ids ws x r).2)), (15, .slice ((fr1 2).ob) ws.length ((fr1 2).cap))]) (congrArg (fun v : Value => [(1, .int .u32 x), (7, .slice oi ids.length ci), (10, .int .i64 more), (11, .int .i64 r), (12, .int .i64 ((i : Nat) : Int)), (13, .int .i64 ((chooseF ids ws x r).1)), (14, .bool ((chooseF ids ws x r).2)), (15, v)]) (show ((.slice ((fr1 2).ob) (0 + (encI ws).length) ((fr1 2).cap) : Value) = .slice ((fr1 2).ob) ws.length ((fr1 2).cap)) from by rw [← encI_len, Nat.zero_add] <;> rfl)) rfl ?_
              obtain ⟨v, hv⟩ : ∃ v, v = ws.getD i 0 + more := ⟨_, rfl⟩
              -- region 9, law.go:64
              refine GS.region (env' := fun _ => [(1, .int .u32 x), (7, .slice oi ids.length ci), (11, .int .i64 r), (12, .int .i64 ((i : Nat) : Int)), (13, .int .i64 ((chooseF ids ws x r).1)), (14, .bool ((chooseF ids ws x r).2)), (15, .slice ((fr1 2).ob) ws.length ((fr1 2).cap))]) (mem' := fun _ => [(1, .rd oi 1 (encI ids)), (2, .rd ow 1 (encI ws)), (3, .cells ((fr0 0).x) 32 [.slice oi ids.length ci, .slice ow ws.length cw]), (4, .cells ((fr0 1).x) 33 [.int .i64 a, .int .i64 more, .int .i64 r]), (5, .osl ((fr1 2).ob) ((fr1 2).cap) 3 1 ((encI ws).set i [.int .i64 v]))]) (RunsTo.mk [(2, { act := .idx 5 i }), (3, { act := .load 5 i 0 [.int .i64 (ws.getD i 0)] }), (5, { sp := some (.int .i64 v) }), (6, { act := .idx 5 i }), (7, { act := .store i 0 [.int .i64 (ws.getD i 0)], key := some 5 })] [1, 7, 11, 12, 13, 14, 15] [1, 2, 3, 4, 5] (fun _ => [(fr1 2).ob = (fr1 2).ob, ws.length = (encI ws).length, (((i : Nat) : Int) : Int) = ((i : Nat) : Int), i < ws.length, blk ((fr1 2).ob) = blk ((fr1 2).ob), offs ((fr1 2).ob) + i * 1 = offs ((fr1 2).ob) + (i * 1 + 0), (encI ws)[i]? = some [.int .i64 (ws.getD i 0)], (.int .i64 (IntKind.i64.wrap ((ws.getD i 0) + more)) : Value) = .int .i64 v, (fr1 2).ob = (fr1 2).ob, ws.length = (encI ws).length, (((i : Nat) : Int) : Int) = ((i : Nat) : Int), i < ws.length, blk ((fr1 2).ob) = blk ((fr1 2).ob), offs ((fr1 2).ob) + i * 1 = offs ((fr1 2).ob) + (i * 1 + 0), (encI ws)[i]? = some [.int .i64 (ws.getD i 0)], ((.int .i64 v) : Value).cells.toList.all Value.oneCell' = true]) (fun _ => by kernel_rfl) (fun _ => ⟨rfl, encI_len _, rfl, by omega, rfl, rfl, encI_at (by omega), w64 (by omega) (by omega) (by omega), rfl, encI_len _, rfl, by omega, rfl, rfl, encI_at (by omega), rfl, trivial⟩)) ?_
              intro _
              refine GS.seq ?_
              have hsl : (ws.set i v).length = ws.length := List.length_set
              refine GS.conv (mem' := [(1, .rd oi 1 (encI ids)), (2, .rd ow 1 (encI ws)), (3, .cells ((fr0 0).x) 32 [.slice oi ids.length ci, .slice ow ws.length cw]), (4, .cells ((fr0 1).x) 33 [.int .i64 a, .int .i64 more, .int .i64 r]), (5, .osl ((fr1 2).ob) ((fr1 2).cap) 3 1 (encI (ws.set i v)))]) rfl (congrArg (fun rr : List (List Value) => ([(1, .rd oi 1 (encI ids)), (2, .rd ow 1 (encI ws)), (3, .cells ((fr0 0).x) 32 [.slice oi ids.length ci, .slice ow ws.length cw]), (4, .cells ((fr0 1).x) 33 [.int .i64 a, .int .i64 more, .int .i64 r]), (5, .osl ((fr1 2).ob) ((fr1 2).cap) 3 1 rr)] : List (Nat × Ent))) (show (encI ws).set i [.int .i64 v] = encI (ws.set i v) from encI_set _ _ _)) ?_
              refine GS.conv (env' := [(1, .int .u32 x), (7, .slice oi ids.length ci), (11, .int .i64 r), (12, .int .i64 ((i : Nat) : Int)), (13, .int .i64 ((chooseF ids ws x r).1)), (14, .bool ((chooseF ids ws x r).2)), (15, .slice ((fr1 2).ob) ((ws.set i v).length) ((fr1 2).cap))]) (congrArg (fun v : Value => [(1, .int .u32 x), (7, .slice oi ids.length ci), (11, .int .i64 r), (12, .int .i64 ((i : Nat) : Int)), (13, .int .i64 ((chooseF ids ws x r).1)), (14, .bool ((chooseF ids ws x r).2)), (15, v)]) (show ((.slice ((fr1 2).ob) ws.length ((fr1 2).cap) : Value) = .slice ((fr1 2).ob) ((ws.set i v).length) ((fr1 2).cap)) from by rw [List.length_set])) rfl ?_
              -- region 10, law.go:65
              refine GS.region (env' := fun _ => [(1, .int .u32 x), (7, .slice oi ids.length ci), (11, .int .i64 r), (12, .int .i64 ((i : Nat) : Int)), (13, .int .i64 ((chooseF ids ws x r).1)), (14, .bool ((chooseF ids ws x r).2)), (15, .slice ((fr1 2).ob) ((ws.set i v).length) ((fr1 2).cap)), (16, .int .i64 ((chooseF ids (ws.set i v) x r).1)), (17, .bool ((chooseF ids (ws.set i v) x r).2))]) (mem' := fun _ => [(1, .rd oi 1 (encI ids)), (2, .rd ow 1 (encI ws)), (3, .cells ((fr0 0).x) 32 [.slice oi ids.length ci, .slice ow ws.length cw]), (4, .cells ((fr0 1).x) 33 [.int .i64 a, .int .i64 more, .int .i64 r]), (5, .osl ((fr1 2).ob) ((fr1 2).cap) 3 1 (encI (ws.set i v)))]) (RunsTo.mk [(4, { act := .call [1, 5] (.tuple #[.int .i64 ((chooseF ids (ws.set i v) x r).1), .bool ((chooseF ids (ws.set i v) x r).2)]) })] [1, 7, 11, 12, 13, 14, 15, 16, 17] [1, 2, 3, 4, 5] (fun _ => [CallOK Try.prog 14 #[.slice oi ids.length ci, .slice ((fr1 2).ob) ((ws.set i v).length) ((fr1 2).cap), .int .u32 x, .int .i64 r] (.tuple #[.int .i64 ((chooseF ids (ws.set i v) x r).1), .bool ((chooseF ids (ws.set i v) x r).2)]) [some (.rd oi 1 (encI ids)), some (.osl ((fr1 2).ob) ((fr1 2).cap) 3 1 (encI (ws.set i v)))]]) (fun _ => by kernel_rfl) (fun _ => ⟨(choose_ok oi ((fr1 2).ob) ci ((fr1 2).cap) ids (ws.set i v) x r (by first | omega | (simp <;> omega))).weak (by intro w h E hE; simp only [List.mem_cons, Option.some.injEq, List.not_mem_nil, or_false] at hE; exact hE.elim (fun e => by rw [e]; exact h _ (by simp)) (fun e => by rw [e]; exact Ent.osl_rd (h (.osl ((fr1 2).ob) ((fr1 2).cap) 3 1 (encI (ws.set i v))) (by simp)))), trivial⟩)) ?_
              intro _
              refine GS.seq ?_
              refine GS.seq ?_
              refine GS.cut (ι := Unit) (I := fun _ => True) (E := fun _ => [(1, .int .u32 x), (7, .slice oi ids.length ci), (11, .int .i64 r), (12, .int .i64 ((i : Nat) : Int)), (13, .int .i64 ((chooseF ids ws x r).1)), (14, .bool ((chooseF ids ws x r).2)), (15, .slice ((fr1 2).ob) ((ws.set i v).length) ((fr1 2).cap)), (109, .bool false)]) (M := fun _ => [(1, .rd oi 1 (encI ids)), (2, .rd ow 1 (encI ws)), (3, .cells ((fr0 0).x) 32 [.slice oi ids.length ci, .slice ow ws.length cw]), (4, .cells ((fr0 1).x) 33 [.int .i64 a, .int .i64 more, .int .i64 r]), (5, .osl ((fr1 2).ob) ((fr1 2).cap) 3 1 (encI (ws.set i v)))]) ?_ ?_
              rotate_left
              · intro H0
                by_cases k1 : (chooseF ids ws x r).2 = true
                · skip
                  obtain ⟨q1, q2⟩ := moves1 (v := v) (x := x) (r := r) (i := i) (by omega) (by omega) (by omega) k1
                  by_cases k2 : (chooseF ids (ws.set i v) x r).1 = (chooseF ids ws x r).1
                  · skip
                    -- region 11, law.go:66
                    refine GS.region (env' := fun _ => [(1, .int .u32 x), (7, .slice oi ids.length ci), (11, .int .i64 r), (12, .int .i64 ((i : Nat) : Int)), (13, .int .i64 ((chooseF ids ws x r).1)), (14, .bool ((chooseF ids ws x r).2)), (15, .slice ((fr1 2).ob) ((ws.set i v).length) ((fr1 2).cap)), (109, .bool false)]) (mem' := fun _ => [(1, .rd oi 1 (encI ids)), (2, .rd ow 1 (encI ws)), (3, .cells ((fr0 0).x) 32 [.slice oi ids.length ci, .slice ow ws.length cw]), (4, .cells ((fr0 1).x) 33 [.int .i64 a, .int .i64 more, .int .i64 r]), (5, .osl ((fr1 2).ob) ((fr1 2).cap) 3 1 (encI (ws.set i v)))]) (RunsTo.mk [(0, { sp := some (.bool true) }), (2, { sp := some (.bool true) }), (7, { sp := some (.bool false) })] [1, 7, 11, 12, 13, 14, 15, 109] [1, 2, 3, 4, 5] (fun _ => [(.bool ((chooseF ids ws x r).2) : Value) = .bool true, (.bool ((chooseF ids (ws.set i v) x r).2) : Value) = .bool true, (.bool (((chooseF ids (ws.set i v) x r).1) != ((chooseF ids ws x r).1)) : Value) = .bool false]) (fun _ => by kernel_rfl) (fun _ => ⟨bool_eq k1, bool_eq q1, bool_eq (by rw [k2]; simp), trivial⟩)) ?_
                    intro _
                    exact H0 () trivial
                  · skip
                    -- region 11, law.go:66
                    refine GS.region (env' := fun _ => [(1, .int .u32 x), (7, .slice oi ids.length ci), (11, .int .i64 r), (12, .int .i64 ((i : Nat) : Int)), (13, .int .i64 ((chooseF ids ws x r).1)), (14, .bool ((chooseF ids ws x r).2)), (15, .slice ((fr1 2).ob) ((ws.set i v).length) ((fr1 2).cap)), (109, .bool false)]) (mem' := fun _ => [(1, .rd oi 1 (encI ids)), (2, .rd ow 1 (encI ws)), (3, .cells ((fr0 0).x) 32 [.slice oi ids.length ci, .slice ow ws.length cw]), (4, .cells ((fr0 1).x) 33 [.int .i64 a, .int .i64 more, .int .i64 r]), (5, .osl ((fr1 2).ob) ((fr1 2).cap) 3 1 (encI (ws.set i v)))]) (RunsTo.mk [(0, { sp := some (.bool true) }), (2, { sp := some (.bool true) }), (7, { sp := some (.bool true) }), (11, { sp := some (.bool false) })] [1, 7, 11, 12, 13, 14, 15, 109] [1, 2, 3, 4, 5] (fun _ => [(.bool ((chooseF ids ws x r).2) : Value) = .bool true, (.bool ((chooseF ids (ws.set i v) x r).2) : Value) = .bool true, (.bool (((chooseF ids (ws.set i v) x r).1) != ((chooseF ids ws x r).1)) : Value) = .bool true, (.bool (((chooseF ids (ws.set i v) x r).1) != ((i : Nat) : Int)) : Value) = .bool false]) (fun _ => by kernel_rfl) (fun _ => ⟨bool_eq k1, bool_eq q1, bool_eq (by simpa using k2), bool_eq (by rw [q2.resolve_left k2]; simp), trivial⟩)) ?_
                    intro _
                    exact H0 () trivial
                · skip
                  -- region 11, law.go:66
                  refine GS.region (env' := fun _ => [(1, .int .u32 x), (7, .slice oi ids.length ci), (11, .int .i64 r), (12, .int .i64 ((i : Nat) : Int)), (13, .int .i64 ((chooseF ids ws x r).1)), (14, .bool ((chooseF ids ws x r).2)), (15, .slice ((fr1 2).ob) ((ws.set i v).length) ((fr1 2).cap)), (109, .bool false)]) (mem' := fun _ => [(1, .rd oi 1 (encI ids)), (2, .rd ow 1 (encI ws)), (3, .cells ((fr0 0).x) 32 [.slice oi ids.length ci, .slice ow ws.length cw]), (4, .cells ((fr0 1).x) 33 [.int .i64 a, .int .i64 more, .int .i64 r]), (5, .osl ((fr1 2).ob) ((fr1 2).cap) 3 1 (encI (ws.set i v)))]) (RunsTo.mk [(0, { sp := some (.bool false) })] [1, 7, 11, 12, 13, 14, 15, 109] [1, 2, 3, 4, 5] (fun _ => [(.bool ((chooseF ids ws x r).2) : Value) = .bool false]) (fun _ => by kernel_rfl) (fun _ => ⟨bool_eq (by simpa using k1), trivial⟩)) ?_
                  intro _
                  exact H0 () trivial
              · rintro _ _
                refine GS.cond (t := false) rfl rfl (fun hf => by cases hf) (fun _ => ?_)
                refine GS.skip ?_
                refine GS.seq ?_
                -- region 13, law.go:69
                refine GS.region (env' := fun _ => [(1, .int .u32 x), (7, .slice oi ids.length ci), (11, .int .i64 r), (12, .int .i64 ((i : Nat) : Int)), (13, .int .i64 ((chooseF ids ws x r).1)), (14, .bool ((chooseF ids ws x r).2)), (15, .slice ((fr1 2).ob) ((ws.set i v).length) ((fr1 2).cap))]) (mem' := fun _ => [(1, .rd oi 1 (encI ids)), (2, .rd ow 1 (encI ws)), (3, .cells ((fr0 0).x) 32 [.slice oi ids.length ci, .slice ow ws.length cw]), (4, .cells ((fr0 1).x) 33 [.int .i64 a, .int .i64 more, .int .i64 r]), (5, .osl ((fr1 2).ob) ((fr1 2).cap) 3 1 ((encI (ws.set i v)).set i [.int .i64 0]))]) (RunsTo.mk [(2, { act := .idx 5 i }), (3, { act := .store i 0 [.int .i64 ((ws.set i v).getD i 0)], key := some 5 })] [1, 7, 11, 12, 13, 14, 15] [1, 2, 3, 4, 5] (fun _ => [(fr1 2).ob = (fr1 2).ob, (ws.set i v).length = (encI (ws.set i v)).length, (((i : Nat) : Int) : Int) = ((i : Nat) : Int), i < (ws.set i v).length, blk ((fr1 2).ob) = blk ((fr1 2).ob), offs ((fr1 2).ob) + i * 1 = offs ((fr1 2).ob) + (i * 1 + 0), (encI (ws.set i v))[i]? = some [.int .i64 ((ws.set i v).getD i 0)], ((.int .i64 0) : Value).cells.toList.all Value.oneCell' = true]) (fun _ => by kernel_rfl) (fun _ => ⟨rfl, encI_len _, rfl, by omega, rfl, rfl, encI_at (by omega), rfl, trivial⟩)) ?_
                intro _
                refine GS.seq ?_
                refine GS.conv (mem' := [(1, .rd oi 1 (encI ids)), (2, .rd ow 1 (encI ws)), (3, .cells ((fr0 0).x) 32 [.slice oi ids.length ci, .slice ow ws.length cw]), (4, .cells ((fr0 1).x) 33 [.int .i64 a, .int .i64 more, .int .i64 r]), (5, .osl ((fr1 2).ob) ((fr1 2).cap) 3 1 (encI (ws.set i 0)))]) rfl (congrArg (fun rr : List (List Value) => ([(1, .rd oi 1 (encI ids)), (2, .rd ow 1 (encI ws)), (3, .cells ((fr0 0).x) 32 [.slice oi ids.length ci, .slice ow ws.length cw]), (4, .cells ((fr0 1).x) 33 [.int .i64 a, .int .i64 more, .int .i64 r]), (5, .osl ((fr1 2).ob) ((fr1 2).cap) 3 1 rr)] : List (Nat × Ent))) (show (encI (ws.set i v)).set i [.int .i64 0] = encI (ws.set i 0) from by rw [encI_set, List.set_set])) ?_
                refine GS.conv (env' := [(1, .int .u32 x), (7, .slice oi ids.length ci), (11, .int .i64 r), (12, .int .i64 ((i : Nat) : Int)), (13, .int .i64 ((chooseF ids ws x r).1)), (14, .bool ((chooseF ids ws x r).2)), (15, .slice ((fr1 2).ob) ((ws.set i 0).length) ((fr1 2).cap))]) (congrArg (fun v : Value => [(1, .int .u32 x), (7, .slice oi ids.length ci), (11, .int .i64 r), (12, .int .i64 ((i : Nat) : Int)), (13, .int .i64 ((chooseF ids ws x r).1)), (14, .bool ((chooseF ids ws x r).2)), (15, v)]) (show ((.slice ((fr1 2).ob) ((ws.set i v).length) ((fr1 2).cap) : Value) = .slice ((fr1 2).ob) ((ws.set i 0).length) ((fr1 2).cap)) from by rw [List.length_set, List.length_set])) rfl ?_
                -- region 14, law.go:70
                refine GS.region (env' := fun _ => [(12, .int .i64 ((i : Nat) : Int)), (13, .int .i64 ((chooseF ids ws x r).1)), (14, .bool ((chooseF ids ws x r).2)), (18, .int .i64 ((chooseF ids (ws.set i 0) x r).1)), (19, .bool ((chooseF ids (ws.set i 0) x r).2))]) (mem' := fun _ => [(1, .rd oi 1 (encI ids)), (2, .rd ow 1 (encI ws)), (3, .cells ((fr0 0).x) 32 [.slice oi ids.length ci, .slice ow ws.length cw]), (4, .cells ((fr0 1).x) 33 [.int .i64 a, .int .i64 more, .int .i64 r]), (5, .osl ((fr1 2).ob) ((fr1 2).cap) 3 1 (encI (ws.set i 0)))]) (RunsTo.mk [(4, { act := .call [1, 5] (.tuple #[.int .i64 ((chooseF ids (ws.set i 0) x r).1), .bool ((chooseF ids (ws.set i 0) x r).2)]) })] [12, 13, 14, 18, 19] [1, 2, 3, 4, 5] (fun _ => [CallOK Try.prog 14 #[.slice oi ids.length ci, .slice ((fr1 2).ob) ((ws.set i 0).length) ((fr1 2).cap), .int .u32 x, .int .i64 r] (.tuple #[.int .i64 ((chooseF ids (ws.set i 0) x r).1), .bool ((chooseF ids (ws.set i 0) x r).2)]) [some (.rd oi 1 (encI ids)), some (.osl ((fr1 2).ob) ((fr1 2).cap) 3 1 (encI (ws.set i 0)))]]) (fun _ => by kernel_rfl) (fun _ => ⟨(choose_ok oi ((fr1 2).ob) ci ((fr1 2).cap) ids (ws.set i 0) x r (by first | omega | (simp <;> omega))).weak (by intro w h E hE; simp only [List.mem_cons, Option.some.injEq, List.not_mem_nil, or_false] at hE; exact hE.elim (fun e => by rw [e]; exact h _ (by simp)) (fun e => by rw [e]; exact Ent.osl_rd (h (.osl ((fr1 2).ob) ((fr1 2).cap) 3 1 (encI (ws.set i 0))) (by simp)))), trivial⟩)) ?_
                intro _
                refine GS.seq ?_
                refine GS.seq ?_
                refine GS.cut (ι := Unit) (I := fun _ => True) (E := fun _ => [(135, .bool false)]) (M := fun _ => [(1, .rd oi 1 (encI ids)), (2, .rd ow 1 (encI ws)), (3, .cells ((fr0 0).x) 32 [.slice oi ids.length ci, .slice ow ws.length cw]), (4, .cells ((fr0 1).x) 33 [.int .i64 a, .int .i64 more, .int .i64 r]), (5, .osl ((fr1 2).ob) ((fr1 2).cap) 3 1 (encI (ws.set i 0)))]) ?_ ?_
                rotate_left
                · intro H0
                  by_cases k1 : (chooseF ids ws x r).2 = true
                  · skip
                    by_cases k2 : (chooseF ids ws x r).1 = (i : Int)
                    · skip
                      -- region 15, law.go:71
                      refine GS.region (env' := fun _ => [(135, .bool false)]) (mem' := fun _ => [(1, .rd oi 1 (encI ids)), (2, .rd ow 1 (encI ws)), (3, .cells ((fr0 0).x) 32 [.slice oi ids.length ci, .slice ow ws.length cw]), (4, .cells ((fr0 1).x) 33 [.int .i64 a, .int .i64 more, .int .i64 r]), (5, .osl ((fr1 2).ob) ((fr1 2).cap) 3 1 (encI (ws.set i 0)))]) (RunsTo.mk [(0, { sp := some (.bool true) }), (4, { sp := some (.bool false) })] [135] [1, 2, 3, 4, 5] (fun _ => [(.bool ((chooseF ids ws x r).2) : Value) = .bool true, (.bool (((chooseF ids ws x r).1) != ((i : Nat) : Int)) : Value) = .bool false]) (fun _ => by kernel_rfl) (fun _ => ⟨bool_eq k1, bool_eq (by rw [k2]; simp), trivial⟩)) ?_
                      intro _
                      exact H0 () trivial
                    · skip
                      obtain ⟨q1, q2⟩ := moves2 (by omega) k1 k2
                      -- region 15, law.go:71
                      refine GS.region (env' := fun _ => [(135, .bool false)]) (mem' := fun _ => [(1, .rd oi 1 (encI ids)), (2, .rd ow 1 (encI ws)), (3, .cells ((fr0 0).x) 32 [.slice oi ids.length ci, .slice ow ws.length cw]), (4, .cells ((fr0 1).x) 33 [.int .i64 a, .int .i64 more, .int .i64 r]), (5, .osl ((fr1 2).ob) ((fr1 2).cap) 3 1 (encI (ws.set i 0)))]) (RunsTo.mk [(0, { sp := some (.bool true) }), (4, { sp := some (.bool true) }), (7, { sp := some (.bool true) }), (12, { sp := some (.bool false) })] [135] [1, 2, 3, 4, 5] (fun _ => [(.bool ((chooseF ids ws x r).2) : Value) = .bool true, (.bool (((chooseF ids ws x r).1) != ((i : Nat) : Int)) : Value) = .bool true, (.bool ((chooseF ids (ws.set i 0) x r).2) : Value) = .bool true, (.bool (((chooseF ids (ws.set i 0) x r).1) != ((chooseF ids ws x r).1)) : Value) = .bool false]) (fun _ => by kernel_rfl) (fun _ => ⟨bool_eq k1, bool_eq (by simpa using k2), bool_eq q1, bool_eq (by rw [q2]; simp), trivial⟩)) ?_
                      intro _
                      exact H0 () trivial
                  · skip
                    -- region 15, law.go:71
                    refine GS.region (env' := fun _ => [(135, .bool false)]) (mem' := fun _ => [(1, .rd oi 1 (encI ids)), (2, .rd ow 1 (encI ws)), (3, .cells ((fr0 0).x) 32 [.slice oi ids.length ci, .slice ow ws.length cw]), (4, .cells ((fr0 1).x) 33 [.int .i64 a, .int .i64 more, .int .i64 r]), (5, .osl ((fr1 2).ob) ((fr1 2).cap) 3 1 (encI (ws.set i 0)))]) (RunsTo.mk [(0, { sp := some (.bool false) })] [135] [1, 2, 3, 4, 5] (fun _ => [(.bool ((chooseF ids ws x r).2) : Value) = .bool false]) (fun _ => by kernel_rfl) (fun _ => ⟨bool_eq (by simpa using k1), trivial⟩)) ?_
                    intro _
                    exact H0 () trivial
                · rintro _ _
                  refine GS.cond (t := false) rfl rfl (fun hf => by cases hf) (fun _ => ?_)
                  refine GS.skip ?_
                  refine GS.seq ?_
                  -- region 17, law.go:74
                  refine GS.region (env' := fun _ => [(6, .bool true)]) (mem' := fun _ => [(1, .rd oi 1 (encI ids)), (2, .rd ow 1 (encI ws)), (3, .cells ((fr0 0).x) 32 [.slice oi ids.length ci, .slice ow ws.length cw]), (4, .cells ((fr0 1).x) 33 [.int .i64 a, .int .i64 more, .int .i64 r]), (5, .osl ((fr1 2).ob) ((fr1 2).cap) 3 1 (encI (ws.set i 0)))]) (RunsTo.mk [(0, { act := .call [] (.bool true) })] [6] [1, 2, 3, 4, 5] (fun _ => [CallOK Try.prog 11 #[] (.bool true) []]) (fun _ => by kernel_rfl) (fun _ => ⟨lives_ok, trivial⟩)) ?_
                  intro _
                  refine GS.ret (fn := Try.f6) [0] [.bool true] [] rfl Try.func6 (by kernel_rfl) trivial (fun w' hs => ?_)
                  exact ⟨rfl, hs.keep⟩

end Go.Proofs.Ytmdmfjgpjpfoaaa
