/-
  CHAPTER 7: the walks of Share, Ints.
-/
import Derived.Test.YtmdmfjgpjpfoaaaW07c
import Derived.Test.YtmdmfjgpjpfoaaaP07e
set_option linter.unusedVariables false
set_option maxRecDepth 100000
namespace Go.Proofs.Ytmdmfjgpjpfoaaa
open Go Go.RowKit Sx

theorem share_ok (oi ow : Option Addr) (ci cw : Nat) (ids ws : List Int) (n : Int) (hl : ids.length ≤ 17592186044416) : CallT Try.prog 17 #[.slice oi ids.length ci, .slice ow ws.length cw, .int .i64 n] (fun x : Option Addr × Nat => .slice x.1 (shareF ids ws n).length x.2) [.rd oi 1 (encI ids), .rd ow 1 (encI ws)] (fun x : Option Addr × Nat => [.rd oi 1 (encI ids), .rd ow 1 (encI ws), .osl x.1 x.2 3 1 (encI (shareF ids ws n))]) := by
  intro w hg
  refine GS.start (S := mayTurn [.rd oi 1 (encI ids), .rd ow 1 (encI ws)]) (mem := [(1, .rd oi 1 (encI ids)), (2, .rd ow 1 (encI ws))]) Try.func17 rfl Try.ntmps17 (Nat.le_of_ble_eq_true rfl) hg.start ?_
  refine GS.conv (env' := [(0, .slice oi ids.length ci), (1, .slice ow ws.length cw), (2, .int .i64 n)]) rfl rfl ?_
  refine GS.seq ?_
  -- region 0, straw.go:59
  refine GS.region (env' := fun _ => [(0, .slice oi ids.length ci), (1, .slice ow ws.length cw), (2, .int .i64 n)]) (mem' := fun _ => [(1, .rd oi 1 (encI ids)), (2, .rd ow 1 (encI ws))]) (RunsTo.mk [] [0, 1, 2] [1, 2] (fun _ => []) (fun _ => by kernel_rfl) (fun _ => trivial)) ?_
  intro _
  refine GS.seq ?_
  refine GS.seq ?_
  -- region 1, straw.go:60
  refine GS.region (env' := fun _ => [(0, .slice oi ids.length ci), (1, .slice ow ws.length cw), (2, .int .i64 n), (15, .bool (((ids.length : Nat) : Int) != ((ws.length : Nat) : Int)))]) (mem' := fun _ => [(1, .rd oi 1 (encI ids)), (2, .rd ow 1 (encI ws))]) (RunsTo.mk [] [0, 1, 2, 15] [1, 2] (fun _ => []) (fun _ => by kernel_rfl) (fun _ => trivial)) ?_
  intro _
  refine GS.cond (t := ((ids.length : Nat) : Int) != ((ws.length : Nat) : Int)) rfl rfl (fun h => ?_) (fun h => ?_)
  · replace h := ne_of_bne h
    refine GS.seq ?_
    -- region 2, straw.go:61
    refine GS.region (env' := fun _ => [(6, .slice none 0 0)]) (mem' := fun _ => [(1, .rd oi 1 (encI ids)), (2, .rd ow 1 (encI ws))]) (RunsTo.mk [] [6] [1, 2] (fun _ => []) (fun _ => by kernel_rfl) (fun _ => trivial)) ?_
    intro _
    refine GS.setMem (mem' := [(1, .rd oi 1 (encI ids)), (2, .rd ow 1 (encI ws)), (3, .osl none 0 3 1 (encI []))]) (fun w hw => Sat.addNil hw rfl) ?_
    refine GS.ret (fn := Try.f17) [0] [.slice none 0 0] [] rfl Try.func17 (by kernel_rfl) trivial (fun w' hs => ?_)
    refine ⟨⟨none, 0⟩, by rw [shareF_ne (by omega)] <;> rfl, ?_⟩
    rw [shareF_ne (by omega)]
    exact hs.turned (ks := [1, 2, 3]) (nodupB_spec rfl) rfl (by intro e he; simp only [List.mem_cons, List.not_mem_nil, or_false] at he; rcases he with rfl | rfl | rfl <;> first | exact .inl rfl | exact .inr (by simp))
  · replace h := eq_of_bne_false h
    obtain ⟨m, hm⟩ : ∃ m, m = (if 10000 < n then 10000 else n) := ⟨_, rfl⟩
    have hm1 : m ≤ 10000 := by rw [hm]; split <;> omega
    replace hm := hm.symm
    refine GS.skip ?_
    refine GS.seq ?_
    -- region 3, straw.go:63
    refine GS.region (env' := fun fr0 => [(0, .slice oi ids.length ci), (1, .slice ow ws.length cw), (2, .int .i64 n), (7, .slice (some (Addr.mk (fr0 2).x 0 none)) ids.length ids.length)]) (mem' := fun fr0 => [(1, .rd oi 1 (encI ids)), (2, .rd ow 1 (encI ws)), (3, .osl (some (Addr.mk (fr0 2).x 0 none)) ids.length 3 1 (List.replicate ids.length [.int .i64 0]))]) (RunsTo.mk [(2, { act := .makeSlice ids.length ids.length, key := some 3 })] [0, 1, 2, 7] [1, 2, 3] (fun fr0 => [((ids.length : Nat) : Int) = ((ids.length : Nat) : Int), ((ids.length : Nat) : Int) = ((ids.length : Nat) : Int), ids.length ≤ ids.length, ids.length * 8 ≤ 281474976710656, ids.length ≤ 9223372036854775807]) (fun fr0 => by kernel_rfl) (fun fr0 => ⟨rfl, rfl, by omega, by omega, by omega, trivial⟩)) ?_
    intro fr0
    refine GS.seq ?_
    refine GS.seq ?_
    refine GS.conv (mem' := [(1, .rd oi 1 (encI ids)), (2, .rd ow 1 (encI ws)), (3, .osl (some (Addr.mk (fr0 2).x 0 none)) ids.length 3 1 (encI (shareState ids ws 0)))]) rfl (congrArg (fun rr : List (List Value) => ([(1, .rd oi 1 (encI ids)), (2, .rd ow 1 (encI ws)), (3, .osl (some (Addr.mk (fr0 2).x 0 none)) ids.length 3 1 rr)] : List (Nat × Ent))) (show List.replicate ids.length [.int .i64 0] = encI (shareState ids ws 0) from by rw [shareState_zero, ← encI_replicate])) ?_
    -- region 4, straw.go:64
    refine GS.region (env' := fun _ => [(0, .slice oi ids.length ci), (1, .slice ow ws.length cw), (7, .slice (some (Addr.mk (fr0 2).x 0 none)) ids.length ids.length), (20, .int .i64 m), (21, .int .i64 ((0 : Nat) : Int))]) (mem' := fun _ => [(1, .rd oi 1 (encI ids)), (2, .rd ow 1 (encI ws)), (3, .osl (some (Addr.mk (fr0 2).x 0 none)) ids.length 3 1 (encI (shareState ids ws 0)))]) (RunsTo.mk [(1, { sp := some (.int .i64 m) }), (2, { sp := some (.int .i64 ((0 : Nat) : Int)) })] [0, 1, 7, 20, 21] [1, 2, 3] (fun _ => [(.int .i64 (if 10000 < n then 10000 else n) : Value) = .int .i64 m, (.int .i64 0 : Value) = .int .i64 ((0 : Nat) : Int)]) (fun _ => by kernel_rfl) (fun _ => ⟨int_eq hm, rfl, trivial⟩)) ?_
    intro _
    refine GS.block ?_
    refine GS.loop ?_
    refine GS.loopInv (ι := Nat) (I := fun (x : Nat) => (x : Int) ≤ m ∨ x = 0) (μ := fun (x : Nat) => m.toNat - (x)) (E := fun (x : Nat) => [(0, .slice oi ids.length ci), (1, .slice ow ws.length cw), (7, .slice (some (Addr.mk (fr0 2).x 0 none)) ids.length ids.length), (20, .int .i64 m), (21, .int .i64 ((x : Nat) : Int))]) (M := fun (x : Nat) => [(1, .rd oi 1 (encI ids)), (2, .rd ow 1 (encI ws)), (3, .osl (some (Addr.mk (fr0 2).x 0 none)) ids.length 3 1 (encI (shareState ids ws x)))]) ?_ 0 (Or.inr rfl)
    rintro x hx ih
    refine GS.seq ?_
    -- region 5, straw.go:64
    refine GS.region (env' := fun _ => [(0, .slice oi ids.length ci), (1, .slice ow ws.length cw), (7, .slice (some (Addr.mk (fr0 2).x 0 none)) ids.length ids.length), (20, .int .i64 m), (21, .int .i64 ((x : Nat) : Int)), (22, .bool (decide (((x : Nat) : Int) < m)))]) (mem' := fun _ => [(1, .rd oi 1 (encI ids)), (2, .rd ow 1 (encI ws)), (3, .osl (some (Addr.mk (fr0 2).x 0 none)) ids.length 3 1 (encI (shareState ids ws x)))]) (RunsTo.mk [] [0, 1, 7, 20, 21, 22] [1, 2, 3] (fun _ => []) (fun _ => by kernel_rfl) (fun _ => trivial)) ?_
    intro _
    refine GS.seq ?_
    refine GS.cond (t := decide (((x : Nat) : Int) < m)) rfl rfl (fun h1 => ?_) (fun h1 => ?_)
    · replace h1 := of_decide_eq_true h1
      refine GS.skip ?_
      refine GS.seq ?_
      refine GS.block ?_
      refine GS.seq ?_
      -- region 6, straw.go:64
      refine GS.region (env' := fun _ => [(0, .slice oi ids.length ci), (1, .slice ow ws.length cw), (7, .slice (some (Addr.mk (fr0 2).x 0 none)) ids.length ids.length), (8, .int .i64 ((x : Nat) : Int)), (20, .int .i64 m), (21, .int .i64 ((x : Nat) : Int))]) (mem' := fun _ => [(1, .rd oi 1 (encI ids)), (2, .rd ow 1 (encI ws)), (3, .osl (some (Addr.mk (fr0 2).x 0 none)) ids.length 3 1 (encI (shareState ids ws x)))]) (RunsTo.mk [] [0, 1, 7, 8, 20, 21] [1, 2, 3] (fun _ => []) (fun _ => by kernel_rfl) (fun _ => trivial)) ?_
      intro _
      refine GS.seq ?_
      -- region 7, straw.go:65
      refine GS.region (env' := fun _ => [(0, .slice oi ids.length ci), (1, .slice ow ws.length cw), (7, .slice (some (Addr.mk (fr0 2).x 0 none)) ids.length ids.length), (9, .int .i64 ((chooseF ids ws (IntKind.u32.wrap ((x : Nat) : Int)) 0).1)), (10, .bool ((chooseF ids ws (IntKind.u32.wrap ((x : Nat) : Int)) 0).2)), (20, .int .i64 m), (21, .int .i64 ((x : Nat) : Int))]) (mem' := fun _ => [(1, .rd oi 1 (encI ids)), (2, .rd ow 1 (encI ws)), (3, .osl (some (Addr.mk (fr0 2).x 0 none)) ids.length 3 1 (encI (shareState ids ws x)))]) (RunsTo.mk [(4, { act := .call [1, 2] (.tuple #[.int .i64 ((chooseF ids ws (IntKind.u32.wrap ((x : Nat) : Int)) 0).1), .bool ((chooseF ids ws (IntKind.u32.wrap ((x : Nat) : Int)) 0).2)]) })] [0, 1, 7, 9, 10, 20, 21] [1, 2, 3] (fun _ => [CallOK Try.prog 14 #[.slice oi ids.length ci, .slice ow ws.length cw, .int .u32 (IntKind.u32.wrap ((x : Nat) : Int)), .int .i64 0] (.tuple #[.int .i64 ((chooseF ids ws (IntKind.u32.wrap ((x : Nat) : Int)) 0).1), .bool ((chooseF ids ws (IntKind.u32.wrap ((x : Nat) : Int)) 0).2)]) [some (.rd oi 1 (encI ids)), some (.rd ow 1 (encI ws))]]) (fun _ => by kernel_rfl) (fun _ => ⟨choose_ok oi ow ci cw ids ws (IntKind.u32.wrap ((x : Nat) : Int)) 0 (by first | omega | (simp <;> omega)), trivial⟩)) ?_
      intro _
      refine GS.seq ?_
      -- region 8, straw.go:65
      refine GS.region (env' := fun _ => [(0, .slice oi ids.length ci), (1, .slice ow ws.length cw), (7, .slice (some (Addr.mk (fr0 2).x 0 none)) ids.length ids.length), (9, .int .i64 ((chooseF ids ws (IntKind.u32.wrap ((x : Nat) : Int)) 0).1)), (20, .int .i64 m), (21, .int .i64 ((x : Nat) : Int)), (32, .bool ((chooseF ids ws (IntKind.u32.wrap ((x : Nat) : Int)) 0).2))]) (mem' := fun _ => [(1, .rd oi 1 (encI ids)), (2, .rd ow 1 (encI ws)), (3, .osl (some (Addr.mk (fr0 2).x 0 none)) ids.length 3 1 (encI (shareState ids ws x)))]) (RunsTo.mk [] [0, 1, 7, 9, 20, 21, 32] [1, 2, 3] (fun _ => []) (fun _ => by kernel_rfl) (fun _ => trivial)) ?_
      intro _
      refine GS.cond (t := (chooseF ids ws (IntKind.u32.wrap ((x : Nat) : Int)) 0).2) rfl rfl (fun h2 => ?_) (fun h2 => ?_)
      · skip
        obtain ⟨j, hj, hbest, _⟩ := chooseF_some h2
        have hjl := hbest.lt
        have hlen := shareState_len ids ws x
        have hb := shareState_le ids ws x j
        refine GS.conv (env' := [(0, .slice oi ids.length ci), (1, .slice ow ws.length cw), (7, .slice (some (Addr.mk (fr0 2).x 0 none)) ids.length ids.length), (9, .int .i64 ((j : Nat) : Int)), (20, .int .i64 m), (21, .int .i64 ((x : Nat) : Int)), (32, .bool ((chooseF ids ws (IntKind.u32.wrap ((x : Nat) : Int)) 0).2))]) (congrArg (fun v : Value => [(0, .slice oi ids.length ci), (1, .slice ow ws.length cw), (7, .slice (some (Addr.mk (fr0 2).x 0 none)) ids.length ids.length), (9, v), (20, .int .i64 m), (21, .int .i64 ((x : Nat) : Int)), (32, .bool ((chooseF ids ws (IntKind.u32.wrap ((x : Nat) : Int)) 0).2))]) (show ((.int .i64 ((chooseF ids ws (IntKind.u32.wrap ((x : Nat) : Int)) 0).1) : Value) = .int .i64 ((j : Nat) : Int)) from int_eq hj)) rfl ?_
        -- region 9, straw.go:66
        refine GS.region (env' := fun _ => [(0, .slice oi ids.length ci), (1, .slice ow ws.length cw), (7, .slice (some (Addr.mk (fr0 2).x 0 none)) ids.length ids.length), (20, .int .i64 m), (21, .int .i64 ((x : Nat) : Int))]) (mem' := fun _ => [(1, .rd oi 1 (encI ids)), (2, .rd ow 1 (encI ws)), (3, .osl (some (Addr.mk (fr0 2).x 0 none)) ids.length 3 1 ((encI (shareState ids ws x)).set j [.int .i64 (((shareState ids ws x).getD j 0) + 1)]))]) (RunsTo.mk [(2, { act := .idx 3 j }), (3, { act := .load 3 j 0 [.int .i64 ((shareState ids ws x).getD j 0)] }), (4, { sp := some (.int .i64 (((shareState ids ws x).getD j 0) + 1)) }), (5, { act := .idx 3 j }), (6, { act := .store j 0 [.int .i64 ((shareState ids ws x).getD j 0)], key := some 3 })] [0, 1, 7, 20, 21] [1, 2, 3] (fun _ => [some (Addr.mk (fr0 2).x 0 none) = some (Addr.mk (fr0 2).x 0 none), ids.length = (encI (shareState ids ws x)).length, (((j : Nat) : Int) : Int) = ((j : Nat) : Int), j < ids.length, blk (some (Addr.mk (fr0 2).x 0 none)) = blk (some (Addr.mk (fr0 2).x 0 none)), offs (some (Addr.mk (fr0 2).x 0 none)) + j * 1 = offs (some (Addr.mk (fr0 2).x 0 none)) + (j * 1 + 0), (encI (shareState ids ws x))[j]? = some [.int .i64 ((shareState ids ws x).getD j 0)], ((.int .i64 (IntKind.i64.wrap (((shareState ids ws x).getD j 0) + 1))) : Value) = .int .i64 (((shareState ids ws x).getD j 0) + 1), some (Addr.mk (fr0 2).x 0 none) = some (Addr.mk (fr0 2).x 0 none), ids.length = (encI (shareState ids ws x)).length, (((j : Nat) : Int) : Int) = ((j : Nat) : Int), j < ids.length, blk (some (Addr.mk (fr0 2).x 0 none)) = blk (some (Addr.mk (fr0 2).x 0 none)), offs (some (Addr.mk (fr0 2).x 0 none)) + j * 1 = offs (some (Addr.mk (fr0 2).x 0 none)) + (j * 1 + 0), (encI (shareState ids ws x))[j]? = some [.int .i64 ((shareState ids ws x).getD j 0)], ((.int .i64 (((shareState ids ws x).getD j 0) + 1)) : Value).cells.toList.all Value.oneCell' = true]) (fun _ => by kernel_rfl) (fun _ => ⟨rfl, (by rw [← encI_len, shareState_len]), rfl, by omega, rfl, rfl, encI_at (by omega), w64 rfl (by omega) (by omega), rfl, (by rw [← encI_len, shareState_len]), rfl, by omega, rfl, rfl, encI_at (by omega), rfl, trivial⟩)) ?_
        intro _
        refine GS.inBlock ?_
        refine GS.conv (mem' := [(1, .rd oi 1 (encI ids)), (2, .rd ow 1 (encI ws)), (3, .osl (some (Addr.mk (fr0 2).x 0 none)) ids.length 3 1 (encI (shareState ids ws (x + 1))))]) rfl (congrArg (fun rr : List (List Value) => ([(1, .rd oi 1 (encI ids)), (2, .rd ow 1 (encI ws)), (3, .osl (some (Addr.mk (fr0 2).x 0 none)) ids.length 3 1 rr)] : List (Nat × Ent))) (show (encI (shareState ids ws x)).set j [.int .i64 (((shareState ids ws x).getD j 0) + 1)] = encI (shareState ids ws (x + 1)) from by rw [encI_set, shareState_yes h2 hj])) ?_
        -- region 10, straw.go:64
        refine GS.region (env' := fun _ => [(0, .slice oi ids.length ci), (1, .slice ow ws.length cw), (7, .slice (some (Addr.mk (fr0 2).x 0 none)) ids.length ids.length), (20, .int .i64 m), (21, .int .i64 ((x + 1 : Nat) : Int))]) (mem' := fun _ => [(1, .rd oi 1 (encI ids)), (2, .rd ow 1 (encI ws)), (3, .osl (some (Addr.mk (fr0 2).x 0 none)) ids.length 3 1 (encI (shareState ids ws (x + 1))))]) (RunsTo.mk [(0, { sp := some (.int .i64 ((x + 1 : Nat) : Int)) })] [0, 1, 7, 20, 21] [1, 2, 3] (fun _ => [(.int .i64 (IntKind.i64.wrap (((x : Nat) : Int) + 1)) : Value) = .int .i64 ((x + 1 : Nat) : Int)]) (fun _ => by kernel_rfl) (fun _ => ⟨w64 (by omega) (by omega) (by omega), trivial⟩)) ?_
        intro _
        refine GS.inLoop ?_
        exact ih (x + 1) (by omega) (show m.toNat - (x + 1) < m.toNat - (x) from by omega)
      · skip
        refine GS.conv (mem' := [(1, .rd oi 1 (encI ids)), (2, .rd ow 1 (encI ws)), (3, .osl (some (Addr.mk (fr0 2).x 0 none)) ids.length 3 1 (encI (shareState ids ws (x + 1))))]) rfl (congrArg (fun rr : List (List Value) => ([(1, .rd oi 1 (encI ids)), (2, .rd ow 1 (encI ws)), (3, .osl (some (Addr.mk (fr0 2).x 0 none)) ids.length 3 1 rr)] : List (Nat × Ent))) (show encI (shareState ids ws x) = encI (shareState ids ws (x + 1)) from by rw [shareState_no (by simpa using h2)])) ?_
        refine GS.skip ?_
        refine GS.inBlock ?_
        -- region 10, straw.go:64
        refine GS.region (env' := fun _ => [(0, .slice oi ids.length ci), (1, .slice ow ws.length cw), (7, .slice (some (Addr.mk (fr0 2).x 0 none)) ids.length ids.length), (20, .int .i64 m), (21, .int .i64 ((x + 1 : Nat) : Int))]) (mem' := fun _ => [(1, .rd oi 1 (encI ids)), (2, .rd ow 1 (encI ws)), (3, .osl (some (Addr.mk (fr0 2).x 0 none)) ids.length 3 1 (encI (shareState ids ws (x + 1))))]) (RunsTo.mk [(0, { sp := some (.int .i64 ((x + 1 : Nat) : Int)) })] [0, 1, 7, 20, 21] [1, 2, 3] (fun _ => [(.int .i64 (IntKind.i64.wrap (((x : Nat) : Int) + 1)) : Value) = .int .i64 ((x + 1 : Nat) : Int)]) (fun _ => by kernel_rfl) (fun _ => ⟨w64 (by omega) (by omega) (by omega), trivial⟩)) ?_
        intro _
        refine GS.inLoop ?_
        exact ih (x + 1) (by omega) (show m.toNat - (x + 1) < m.toNat - (x) from by omega)
    · replace h1 := of_decide_eq_false h1
      refine GS.exit rfl ?_
      refine GS.seq ?_
      -- region 11, straw.go:69
      refine GS.region (env' := fun _ => [(6, .slice (some (Addr.mk (fr0 2).x 0 none)) ids.length ids.length)]) (mem' := fun _ => [(1, .rd oi 1 (encI ids)), (2, .rd ow 1 (encI ws)), (3, .osl (some (Addr.mk (fr0 2).x 0 none)) ids.length 3 1 (encI (shareState ids ws x)))]) (RunsTo.mk [] [6] [1, 2, 3] (fun _ => []) (fun _ => by kernel_rfl) (fun _ => trivial)) ?_
      intro _
      have hF : shareF ids ws n = shareState ids ws x := shareF_eq (by omega) (by rw [hm]; omega)
      refine GS.ret (fn := Try.f17) [0] [.slice (some (Addr.mk (fr0 2).x 0 none)) ids.length ids.length] [] rfl Try.func17 (by kernel_rfl) trivial (fun w' hs => ?_)
      refine ⟨⟨some (Addr.mk (fr0 2).x 0 none), ids.length⟩, by rw [hF, shareState_len] <;> rfl, ?_⟩
      rw [hF]
      exact hs.turned (ks := [1, 2, 3]) (nodupB_spec rfl) rfl (by intro e he; simp only [List.mem_cons, List.not_mem_nil, or_false] at he; rcases he with rfl | rfl | rfl <;> first | exact .inl rfl | exact .inr (by simp))

theorem shareref_ok (oi ow : Option Addr) (ci cw : Nat) (ids ws : List Int) (n : Int) (hl : ids.length ≤ 17592186044416) : CallT Try.prog 18 #[.slice oi ids.length ci, .slice ow ws.length cw, .int .i64 n] (fun x : Option Addr × Nat => .slice x.1 (shareF ids ws n).length x.2) [.rd oi 1 (encI ids), .rd ow 1 (encI ws)] (fun x : Option Addr × Nat => [.rd oi 1 (encI ids), .rd ow 1 (encI ws), .osl x.1 x.2 3 1 (encI (shareF ids ws n))]) := by
  intro w hg
  refine GS.start (S := mayTurn [.rd oi 1 (encI ids), .rd ow 1 (encI ws)]) (mem := [(1, .rd oi 1 (encI ids)), (2, .rd ow 1 (encI ws))]) Try.func18 rfl Try.ntmps18 (Nat.le_of_ble_eq_true rfl) hg.start ?_
  refine GS.conv (env' := [(0, .slice oi ids.length ci), (1, .slice ow ws.length cw), (2, .int .i64 n)]) rfl rfl ?_
  refine GS.seq ?_
  -- region 0, ref.go:60
  refine GS.region (env' := fun _ => [(0, .slice oi ids.length ci), (1, .slice ow ws.length cw), (2, .int .i64 n)]) (mem' := fun _ => [(1, .rd oi 1 (encI ids)), (2, .rd ow 1 (encI ws))]) (RunsTo.mk [] [0, 1, 2] [1, 2] (fun _ => []) (fun _ => by kernel_rfl) (fun _ => trivial)) ?_
  intro _
  refine GS.seq ?_
  refine GS.seq ?_
  -- region 1, ref.go:61
  refine GS.region (env' := fun _ => [(0, .slice oi ids.length ci), (1, .slice ow ws.length cw), (2, .int .i64 n), (15, .bool (((ids.length : Nat) : Int) != ((ws.length : Nat) : Int)))]) (mem' := fun _ => [(1, .rd oi 1 (encI ids)), (2, .rd ow 1 (encI ws))]) (RunsTo.mk [] [0, 1, 2, 15] [1, 2] (fun _ => []) (fun _ => by kernel_rfl) (fun _ => trivial)) ?_
  intro _
  refine GS.cond (t := ((ids.length : Nat) : Int) != ((ws.length : Nat) : Int)) rfl rfl (fun h => ?_) (fun h => ?_)
  · replace h := ne_of_bne h
    refine GS.seq ?_
    -- region 2, ref.go:62
    refine GS.region (env' := fun _ => [(6, .slice none 0 0)]) (mem' := fun _ => [(1, .rd oi 1 (encI ids)), (2, .rd ow 1 (encI ws))]) (RunsTo.mk [] [6] [1, 2] (fun _ => []) (fun _ => by kernel_rfl) (fun _ => trivial)) ?_
    intro _
    refine GS.setMem (mem' := [(1, .rd oi 1 (encI ids)), (2, .rd ow 1 (encI ws)), (3, .osl none 0 3 1 (encI []))]) (fun w hw => Sat.addNil hw rfl) ?_
    refine GS.ret (fn := Try.f18) [0] [.slice none 0 0] [] rfl Try.func18 (by kernel_rfl) trivial (fun w' hs => ?_)
    refine ⟨⟨none, 0⟩, by rw [shareF_ne (by omega)] <;> rfl, ?_⟩
    rw [shareF_ne (by omega)]
    exact hs.turned (ks := [1, 2, 3]) (nodupB_spec rfl) rfl (by intro e he; simp only [List.mem_cons, List.not_mem_nil, or_false] at he; rcases he with rfl | rfl | rfl <;> first | exact .inl rfl | exact .inr (by simp))
  · replace h := eq_of_bne_false h
    refine GS.skip ?_
    refine GS.seq ?_
    refine GS.seq ?_
    -- region 3, ref.go:64
    refine GS.region (env' := fun _ => [(0, .slice oi ids.length ci), (1, .slice ow ws.length cw), (2, .int .i64 n), (17, .bool (decide (n > 10000)))]) (mem' := fun _ => [(1, .rd oi 1 (encI ids)), (2, .rd ow 1 (encI ws))]) (RunsTo.mk [] [0, 1, 2, 17] [1, 2] (fun _ => []) (fun _ => by kernel_rfl) (fun _ => trivial)) ?_
    intro _
    refine GS.cond (t := decide (n > 10000)) rfl rfl (fun hn => ?_) (fun hn => ?_)
    · replace hn := of_decide_eq_true hn
      obtain ⟨m, hm⟩ : ∃ m, m = (if 10000 < n then 10000 else n) := ⟨_, rfl⟩
      have hm1 : m = 10000 := by rw [hm, if_pos (by omega)]
      replace hm := hm.symm
      -- region 4, ref.go:65
      refine GS.region (env' := fun _ => [(0, .slice oi ids.length ci), (1, .slice ow ws.length cw), (2, .int .i64 10000)]) (mem' := fun _ => [(1, .rd oi 1 (encI ids)), (2, .rd ow 1 (encI ws))]) (RunsTo.mk [] [0, 1, 2] [1, 2] (fun _ => []) (fun _ => by kernel_rfl) (fun _ => trivial)) ?_
      intro _
      refine GS.seq ?_
      -- region 5, ref.go:67
      refine GS.region (env' := fun fr0 => [(0, .slice oi ids.length ci), (1, .slice ow ws.length cw), (2, .int .i64 10000), (7, .slice (some (Addr.mk (fr0 2).x 0 none)) ids.length ids.length)]) (mem' := fun fr0 => [(1, .rd oi 1 (encI ids)), (2, .rd ow 1 (encI ws)), (3, .osl (some (Addr.mk (fr0 2).x 0 none)) ids.length 3 1 (List.replicate ids.length [.int .i64 0]))]) (RunsTo.mk [(2, { act := .makeSlice ids.length ids.length, key := some 3 })] [0, 1, 2, 7] [1, 2, 3] (fun fr0 => [((ids.length : Nat) : Int) = ((ids.length : Nat) : Int), ((ids.length : Nat) : Int) = ((ids.length : Nat) : Int), ids.length ≤ ids.length, ids.length * 8 ≤ 281474976710656, ids.length ≤ 9223372036854775807]) (fun fr0 => by kernel_rfl) (fun fr0 => ⟨rfl, rfl, by omega, by omega, by omega, trivial⟩)) ?_
      intro fr0
      refine GS.seq ?_
      refine GS.seq ?_
      refine GS.conv (mem' := [(1, .rd oi 1 (encI ids)), (2, .rd ow 1 (encI ws)), (3, .osl (some (Addr.mk (fr0 2).x 0 none)) ids.length 3 1 (encI (shareState ids ws 0)))]) rfl (congrArg (fun rr : List (List Value) => ([(1, .rd oi 1 (encI ids)), (2, .rd ow 1 (encI ws)), (3, .osl (some (Addr.mk (fr0 2).x 0 none)) ids.length 3 1 rr)] : List (Nat × Ent))) (show List.replicate ids.length [.int .i64 0] = encI (shareState ids ws 0) from by rw [shareState_zero, ← encI_replicate])) ?_
      -- region 6, ref.go:68
      refine GS.region (env' := fun _ => [(0, .slice oi ids.length ci), (1, .slice ow ws.length cw), (2, .int .i64 10000), (7, .slice (some (Addr.mk (fr0 2).x 0 none)) ids.length ids.length), (8, .int .i64 ((0 : Nat) : Int))]) (mem' := fun _ => [(1, .rd oi 1 (encI ids)), (2, .rd ow 1 (encI ws)), (3, .osl (some (Addr.mk (fr0 2).x 0 none)) ids.length 3 1 (encI (shareState ids ws 0)))]) (RunsTo.mk [(0, { sp := some (.int .i64 ((0 : Nat) : Int)) })] [0, 1, 2, 7, 8] [1, 2, 3] (fun _ => [(.int .i64 0 : Value) = .int .i64 ((0 : Nat) : Int)]) (fun _ => by kernel_rfl) (fun _ => ⟨rfl, trivial⟩)) ?_
      intro _
      refine GS.block ?_
      refine GS.loop ?_
      refine GS.loopInv (ι := Nat) (I := fun (x : Nat) => (x : Int) ≤ m ∨ x = 0) (μ := fun (x : Nat) => m.toNat - (x)) (E := fun (x : Nat) => [(0, .slice oi ids.length ci), (1, .slice ow ws.length cw), (2, .int .i64 10000), (7, .slice (some (Addr.mk (fr0 2).x 0 none)) ids.length ids.length), (8, .int .i64 ((x : Nat) : Int))]) (M := fun (x : Nat) => [(1, .rd oi 1 (encI ids)), (2, .rd ow 1 (encI ws)), (3, .osl (some (Addr.mk (fr0 2).x 0 none)) ids.length 3 1 (encI (shareState ids ws x)))]) ?_ 0 (Or.inr rfl)
      rintro x hx ih
      refine GS.seq ?_
      refine GS.seq ?_
      -- region 7, ref.go:68
      refine GS.region (env' := fun _ => [(0, .slice oi ids.length ci), (1, .slice ow ws.length cw), (2, .int .i64 10000), (7, .slice (some (Addr.mk (fr0 2).x 0 none)) ids.length ids.length), (8, .int .i64 ((x : Nat) : Int)), (23, .bool (decide (((x : Nat) : Int) < 10000)))]) (mem' := fun _ => [(1, .rd oi 1 (encI ids)), (2, .rd ow 1 (encI ws)), (3, .osl (some (Addr.mk (fr0 2).x 0 none)) ids.length 3 1 (encI (shareState ids ws x)))]) (RunsTo.mk [] [0, 1, 2, 7, 8, 23] [1, 2, 3] (fun _ => []) (fun _ => by kernel_rfl) (fun _ => trivial)) ?_
      intro _
      refine GS.cond (t := decide (((x : Nat) : Int) < 10000)) rfl rfl (fun h1 => ?_) (fun h1 => ?_)
      · replace h1 := of_decide_eq_true h1
        refine GS.skip ?_
        refine GS.seq ?_
        refine GS.block ?_
        refine GS.seq ?_
        -- region 9, ref.go:69
        refine GS.region (env' := fun _ => [(0, .slice oi ids.length ci), (1, .slice ow ws.length cw), (2, .int .i64 10000), (7, .slice (some (Addr.mk (fr0 2).x 0 none)) ids.length ids.length), (8, .int .i64 ((x : Nat) : Int)), (9, .int .i64 ((chooseF ids ws (IntKind.u32.wrap ((x : Nat) : Int)) 0).1)), (10, .bool ((chooseF ids ws (IntKind.u32.wrap ((x : Nat) : Int)) 0).2))]) (mem' := fun _ => [(1, .rd oi 1 (encI ids)), (2, .rd ow 1 (encI ws)), (3, .osl (some (Addr.mk (fr0 2).x 0 none)) ids.length 3 1 (encI (shareState ids ws x)))]) (RunsTo.mk [(4, { act := .call [1, 2] (.tuple #[.int .i64 ((chooseF ids ws (IntKind.u32.wrap ((x : Nat) : Int)) 0).1), .bool ((chooseF ids ws (IntKind.u32.wrap ((x : Nat) : Int)) 0).2)]) })] [0, 1, 2, 7, 8, 9, 10] [1, 2, 3] (fun _ => [CallOK Try.prog 15 #[.slice oi ids.length ci, .slice ow ws.length cw, .int .u32 (IntKind.u32.wrap ((x : Nat) : Int)), .int .i64 0] (.tuple #[.int .i64 ((chooseF ids ws (IntKind.u32.wrap ((x : Nat) : Int)) 0).1), .bool ((chooseF ids ws (IntKind.u32.wrap ((x : Nat) : Int)) 0).2)]) [some (.rd oi 1 (encI ids)), some (.rd ow 1 (encI ws))]]) (fun _ => by kernel_rfl) (fun _ => ⟨chooseref_ok oi ow ci cw ids ws (IntKind.u32.wrap ((x : Nat) : Int)) 0 (by first | omega | (simp <;> omega)), trivial⟩)) ?_
        intro _
        refine GS.seq ?_
        -- region 10, ref.go:69
        refine GS.region (env' := fun _ => [(0, .slice oi ids.length ci), (1, .slice ow ws.length cw), (2, .int .i64 10000), (7, .slice (some (Addr.mk (fr0 2).x 0 none)) ids.length ids.length), (8, .int .i64 ((x : Nat) : Int)), (9, .int .i64 ((chooseF ids ws (IntKind.u32.wrap ((x : Nat) : Int)) 0).1)), (34, .bool ((chooseF ids ws (IntKind.u32.wrap ((x : Nat) : Int)) 0).2))]) (mem' := fun _ => [(1, .rd oi 1 (encI ids)), (2, .rd ow 1 (encI ws)), (3, .osl (some (Addr.mk (fr0 2).x 0 none)) ids.length 3 1 (encI (shareState ids ws x)))]) (RunsTo.mk [] [0, 1, 2, 7, 8, 9, 34] [1, 2, 3] (fun _ => []) (fun _ => by kernel_rfl) (fun _ => trivial)) ?_
        intro _
        refine GS.cond (t := (chooseF ids ws (IntKind.u32.wrap ((x : Nat) : Int)) 0).2) rfl rfl (fun h2 => ?_) (fun h2 => ?_)
        · skip
          obtain ⟨j, hj, hbest, _⟩ := chooseF_some h2
          have hjl := hbest.lt
          have hlen := shareState_len ids ws x
          have hb := shareState_le ids ws x j
          refine GS.conv (env' := [(0, .slice oi ids.length ci), (1, .slice ow ws.length cw), (2, .int .i64 10000), (7, .slice (some (Addr.mk (fr0 2).x 0 none)) ids.length ids.length), (8, .int .i64 ((x : Nat) : Int)), (9, .int .i64 ((j : Nat) : Int)), (34, .bool ((chooseF ids ws (IntKind.u32.wrap ((x : Nat) : Int)) 0).2))]) (congrArg (fun v : Value => [(0, .slice oi ids.length ci), (1, .slice ow ws.length cw), (2, .int .i64 10000), (7, .slice (some (Addr.mk (fr0 2).x 0 none)) ids.length ids.length), (8, .int .i64 ((x : Nat) : Int)), (9, v), (34, .bool ((chooseF ids ws (IntKind.u32.wrap ((x : Nat) : Int)) 0).2))]) (show ((.int .i64 ((chooseF ids ws (IntKind.u32.wrap ((x : Nat) : Int)) 0).1) : Value) = .int .i64 ((j : Nat) : Int)) from int_eq hj)) rfl ?_
          -- region 11, ref.go:70
          refine GS.region (env' := fun _ => [(0, .slice oi ids.length ci), (1, .slice ow ws.length cw), (2, .int .i64 10000), (7, .slice (some (Addr.mk (fr0 2).x 0 none)) ids.length ids.length), (8, .int .i64 ((x : Nat) : Int))]) (mem' := fun _ => [(1, .rd oi 1 (encI ids)), (2, .rd ow 1 (encI ws)), (3, .osl (some (Addr.mk (fr0 2).x 0 none)) ids.length 3 1 ((encI (shareState ids ws x)).set j [.int .i64 (((shareState ids ws x).getD j 0) + 1)]))]) (RunsTo.mk [(2, { act := .idx 3 j }), (3, { act := .load 3 j 0 [.int .i64 ((shareState ids ws x).getD j 0)] }), (4, { sp := some (.int .i64 (((shareState ids ws x).getD j 0) + 1)) }), (5, { act := .idx 3 j }), (6, { act := .store j 0 [.int .i64 ((shareState ids ws x).getD j 0)], key := some 3 })] [0, 1, 2, 7, 8] [1, 2, 3] (fun _ => [some (Addr.mk (fr0 2).x 0 none) = some (Addr.mk (fr0 2).x 0 none), ids.length = (encI (shareState ids ws x)).length, (((j : Nat) : Int) : Int) = ((j : Nat) : Int), j < ids.length, blk (some (Addr.mk (fr0 2).x 0 none)) = blk (some (Addr.mk (fr0 2).x 0 none)), offs (some (Addr.mk (fr0 2).x 0 none)) + j * 1 = offs (some (Addr.mk (fr0 2).x 0 none)) + (j * 1 + 0), (encI (shareState ids ws x))[j]? = some [.int .i64 ((shareState ids ws x).getD j 0)], ((.int .i64 (IntKind.i64.wrap (((shareState ids ws x).getD j 0) + 1))) : Value) = .int .i64 (((shareState ids ws x).getD j 0) + 1), some (Addr.mk (fr0 2).x 0 none) = some (Addr.mk (fr0 2).x 0 none), ids.length = (encI (shareState ids ws x)).length, (((j : Nat) : Int) : Int) = ((j : Nat) : Int), j < ids.length, blk (some (Addr.mk (fr0 2).x 0 none)) = blk (some (Addr.mk (fr0 2).x 0 none)), offs (some (Addr.mk (fr0 2).x 0 none)) + j * 1 = offs (some (Addr.mk (fr0 2).x 0 none)) + (j * 1 + 0), (encI (shareState ids ws x))[j]? = some [.int .i64 ((shareState ids ws x).getD j 0)], ((.int .i64 (((shareState ids ws x).getD j 0) + 1)) : Value).cells.toList.all Value.oneCell' = true]) (fun _ => by kernel_rfl) (fun _ => ⟨rfl, (by rw [← encI_len, shareState_len]), rfl, by omega, rfl, rfl, encI_at (by omega), w64 rfl (by omega) (by omega), rfl, (by rw [← encI_len, shareState_len]), rfl, by omega, rfl, rfl, encI_at (by omega), rfl, trivial⟩)) ?_
          intro _
          refine GS.inBlock ?_
          refine GS.conv (mem' := [(1, .rd oi 1 (encI ids)), (2, .rd ow 1 (encI ws)), (3, .osl (some (Addr.mk (fr0 2).x 0 none)) ids.length 3 1 (encI (shareState ids ws (x + 1))))]) rfl (congrArg (fun rr : List (List Value) => ([(1, .rd oi 1 (encI ids)), (2, .rd ow 1 (encI ws)), (3, .osl (some (Addr.mk (fr0 2).x 0 none)) ids.length 3 1 rr)] : List (Nat × Ent))) (show (encI (shareState ids ws x)).set j [.int .i64 (((shareState ids ws x).getD j 0) + 1)] = encI (shareState ids ws (x + 1)) from by rw [encI_set, shareState_yes h2 hj])) ?_
          -- region 8, ref.go:68
          refine GS.region (env' := fun _ => [(0, .slice oi ids.length ci), (1, .slice ow ws.length cw), (2, .int .i64 10000), (7, .slice (some (Addr.mk (fr0 2).x 0 none)) ids.length ids.length), (8, .int .i64 ((x + 1 : Nat) : Int))]) (mem' := fun _ => [(1, .rd oi 1 (encI ids)), (2, .rd ow 1 (encI ws)), (3, .osl (some (Addr.mk (fr0 2).x 0 none)) ids.length 3 1 (encI (shareState ids ws (x + 1))))]) (RunsTo.mk [(1, { sp := some (.int .i64 ((x + 1 : Nat) : Int)) })] [0, 1, 2, 7, 8] [1, 2, 3] (fun _ => [(.int .i64 (IntKind.i64.wrap (((x : Nat) : Int) + 1)) : Value) = .int .i64 ((x + 1 : Nat) : Int)]) (fun _ => by kernel_rfl) (fun _ => ⟨w64 (by omega) (by omega) (by omega), trivial⟩)) ?_
          intro _
          refine GS.inLoop ?_
          exact ih (x + 1) (by omega) (show m.toNat - (x + 1) < m.toNat - (x) from by omega)
        · skip
          refine GS.conv (mem' := [(1, .rd oi 1 (encI ids)), (2, .rd ow 1 (encI ws)), (3, .osl (some (Addr.mk (fr0 2).x 0 none)) ids.length 3 1 (encI (shareState ids ws (x + 1))))]) rfl (congrArg (fun rr : List (List Value) => ([(1, .rd oi 1 (encI ids)), (2, .rd ow 1 (encI ws)), (3, .osl (some (Addr.mk (fr0 2).x 0 none)) ids.length 3 1 rr)] : List (Nat × Ent))) (show encI (shareState ids ws x) = encI (shareState ids ws (x + 1)) from by rw [shareState_no (by simpa using h2)])) ?_
          refine GS.skip ?_
          refine GS.inBlock ?_
          -- region 8, ref.go:68
          refine GS.region (env' := fun _ => [(0, .slice oi ids.length ci), (1, .slice ow ws.length cw), (2, .int .i64 10000), (7, .slice (some (Addr.mk (fr0 2).x 0 none)) ids.length ids.length), (8, .int .i64 ((x + 1 : Nat) : Int))]) (mem' := fun _ => [(1, .rd oi 1 (encI ids)), (2, .rd ow 1 (encI ws)), (3, .osl (some (Addr.mk (fr0 2).x 0 none)) ids.length 3 1 (encI (shareState ids ws (x + 1))))]) (RunsTo.mk [(1, { sp := some (.int .i64 ((x + 1 : Nat) : Int)) })] [0, 1, 2, 7, 8] [1, 2, 3] (fun _ => [(.int .i64 (IntKind.i64.wrap (((x : Nat) : Int) + 1)) : Value) = .int .i64 ((x + 1 : Nat) : Int)]) (fun _ => by kernel_rfl) (fun _ => ⟨w64 (by omega) (by omega) (by omega), trivial⟩)) ?_
          intro _
          refine GS.inLoop ?_
          exact ih (x + 1) (by omega) (show m.toNat - (x + 1) < m.toNat - (x) from by omega)
      · replace h1 := of_decide_eq_false h1
        refine GS.exit rfl ?_
        refine GS.seq ?_
        -- region 12, ref.go:73
        refine GS.region (env' := fun _ => [(6, .slice (some (Addr.mk (fr0 2).x 0 none)) ids.length ids.length)]) (mem' := fun _ => [(1, .rd oi 1 (encI ids)), (2, .rd ow 1 (encI ws)), (3, .osl (some (Addr.mk (fr0 2).x 0 none)) ids.length 3 1 (encI (shareState ids ws x)))]) (RunsTo.mk [] [6] [1, 2, 3] (fun _ => []) (fun _ => by kernel_rfl) (fun _ => trivial)) ?_
        intro _
        have hF : shareF ids ws n = shareState ids ws x := shareF_eq (by omega) (by rw [hm]; omega)
        refine GS.ret (fn := Try.f18) [0] [.slice (some (Addr.mk (fr0 2).x 0 none)) ids.length ids.length] [] rfl Try.func18 (by kernel_rfl) trivial (fun w' hs => ?_)
        refine ⟨⟨some (Addr.mk (fr0 2).x 0 none), ids.length⟩, by rw [hF, shareState_len] <;> rfl, ?_⟩
        rw [hF]
        exact hs.turned (ks := [1, 2, 3]) (nodupB_spec rfl) rfl (by intro e he; simp only [List.mem_cons, List.not_mem_nil, or_false] at he; rcases he with rfl | rfl | rfl <;> first | exact .inl rfl | exact .inr (by simp))
    · replace hn := of_decide_eq_false hn
      obtain ⟨m, hm⟩ : ∃ m, m = (if 10000 < n then 10000 else n) := ⟨_, rfl⟩
      have hm1 : m = n := by rw [hm, if_neg (by omega)]
      replace hm := hm.symm
      refine GS.conv (env' := [(0, .slice oi ids.length ci), (1, .slice ow ws.length cw), (2, .int .i64 m), (17, .bool (decide (n > 10000)))]) (congrArg (fun v : Value => [(0, .slice oi ids.length ci), (1, .slice ow ws.length cw), (2, v), (17, .bool (decide (n > 10000)))]) (show ((.int .i64 n : Value) = .int .i64 m) from int_eq hm1.symm)) rfl ?_
      refine GS.skip ?_
      refine GS.seq ?_
      -- region 5, ref.go:67
      refine GS.region (env' := fun fr1 => [(0, .slice oi ids.length ci), (1, .slice ow ws.length cw), (2, .int .i64 m), (7, .slice (some (Addr.mk (fr1 2).x 0 none)) ids.length ids.length)]) (mem' := fun fr1 => [(1, .rd oi 1 (encI ids)), (2, .rd ow 1 (encI ws)), (3, .osl (some (Addr.mk (fr1 2).x 0 none)) ids.length 3 1 (List.replicate ids.length [.int .i64 0]))]) (RunsTo.mk [(2, { act := .makeSlice ids.length ids.length, key := some 3 })] [0, 1, 2, 7] [1, 2, 3] (fun fr1 => [((ids.length : Nat) : Int) = ((ids.length : Nat) : Int), ((ids.length : Nat) : Int) = ((ids.length : Nat) : Int), ids.length ≤ ids.length, ids.length * 8 ≤ 281474976710656, ids.length ≤ 9223372036854775807]) (fun fr1 => by kernel_rfl) (fun fr1 => ⟨rfl, rfl, by omega, by omega, by omega, trivial⟩)) ?_
      intro fr1
      refine GS.seq ?_
      refine GS.seq ?_
      refine GS.conv (mem' := [(1, .rd oi 1 (encI ids)), (2, .rd ow 1 (encI ws)), (3, .osl (some (Addr.mk (fr1 2).x 0 none)) ids.length 3 1 (encI (shareState ids ws 0)))]) rfl (congrArg (fun rr : List (List Value) => ([(1, .rd oi 1 (encI ids)), (2, .rd ow 1 (encI ws)), (3, .osl (some (Addr.mk (fr1 2).x 0 none)) ids.length 3 1 rr)] : List (Nat × Ent))) (show List.replicate ids.length [.int .i64 0] = encI (shareState ids ws 0) from by rw [shareState_zero, ← encI_replicate])) ?_
      -- region 6, ref.go:68
      refine GS.region (env' := fun _ => [(0, .slice oi ids.length ci), (1, .slice ow ws.length cw), (2, .int .i64 m), (7, .slice (some (Addr.mk (fr1 2).x 0 none)) ids.length ids.length), (8, .int .i64 ((0 : Nat) : Int))]) (mem' := fun _ => [(1, .rd oi 1 (encI ids)), (2, .rd ow 1 (encI ws)), (3, .osl (some (Addr.mk (fr1 2).x 0 none)) ids.length 3 1 (encI (shareState ids ws 0)))]) (RunsTo.mk [(0, { sp := some (.int .i64 ((0 : Nat) : Int)) })] [0, 1, 2, 7, 8] [1, 2, 3] (fun _ => [(.int .i64 0 : Value) = .int .i64 ((0 : Nat) : Int)]) (fun _ => by kernel_rfl) (fun _ => ⟨rfl, trivial⟩)) ?_
      intro _
      refine GS.block ?_
      refine GS.loop ?_
      refine GS.loopInv (ι := Nat) (I := fun (x : Nat) => (x : Int) ≤ m ∨ x = 0) (μ := fun (x : Nat) => m.toNat - (x)) (E := fun (x : Nat) => [(0, .slice oi ids.length ci), (1, .slice ow ws.length cw), (2, .int .i64 m), (7, .slice (some (Addr.mk (fr1 2).x 0 none)) ids.length ids.length), (8, .int .i64 ((x : Nat) : Int))]) (M := fun (x : Nat) => [(1, .rd oi 1 (encI ids)), (2, .rd ow 1 (encI ws)), (3, .osl (some (Addr.mk (fr1 2).x 0 none)) ids.length 3 1 (encI (shareState ids ws x)))]) ?_ 0 (Or.inr rfl)
      rintro x hx ih
      refine GS.seq ?_
      refine GS.seq ?_
      -- region 7, ref.go:68
      refine GS.region (env' := fun _ => [(0, .slice oi ids.length ci), (1, .slice ow ws.length cw), (2, .int .i64 m), (7, .slice (some (Addr.mk (fr1 2).x 0 none)) ids.length ids.length), (8, .int .i64 ((x : Nat) : Int)), (23, .bool (decide (((x : Nat) : Int) < m)))]) (mem' := fun _ => [(1, .rd oi 1 (encI ids)), (2, .rd ow 1 (encI ws)), (3, .osl (some (Addr.mk (fr1 2).x 0 none)) ids.length 3 1 (encI (shareState ids ws x)))]) (RunsTo.mk [] [0, 1, 2, 7, 8, 23] [1, 2, 3] (fun _ => []) (fun _ => by kernel_rfl) (fun _ => trivial)) ?_
      intro _
      refine GS.cond (t := decide (((x : Nat) : Int) < m)) rfl rfl (fun h1 => ?_) (fun h1 => ?_)
      · replace h1 := of_decide_eq_true h1
        refine GS.skip ?_
        refine GS.seq ?_
        refine GS.block ?_
        refine GS.seq ?_
        -- region 9, ref.go:69
        refine GS.region (env' := fun _ => [(0, .slice oi ids.length ci), (1, .slice ow ws.length cw), (2, .int .i64 m), (7, .slice (some (Addr.mk (fr1 2).x 0 none)) ids.length ids.length), (8, .int .i64 ((x : Nat) : Int)), (9, .int .i64 ((chooseF ids ws (IntKind.u32.wrap ((x : Nat) : Int)) 0).1)), (10, .bool ((chooseF ids ws (IntKind.u32.wrap ((x : Nat) : Int)) 0).2))]) (mem' := fun _ => [(1, .rd oi 1 (encI ids)), (2, .rd ow 1 (encI ws)), (3, .osl (some (Addr.mk (fr1 2).x 0 none)) ids.length 3 1 (encI (shareState ids ws x)))]) (RunsTo.mk [(4, { act := .call [1, 2] (.tuple #[.int .i64 ((chooseF ids ws (IntKind.u32.wrap ((x : Nat) : Int)) 0).1), .bool ((chooseF ids ws (IntKind.u32.wrap ((x : Nat) : Int)) 0).2)]) })] [0, 1, 2, 7, 8, 9, 10] [1, 2, 3] (fun _ => [CallOK Try.prog 15 #[.slice oi ids.length ci, .slice ow ws.length cw, .int .u32 (IntKind.u32.wrap ((x : Nat) : Int)), .int .i64 0] (.tuple #[.int .i64 ((chooseF ids ws (IntKind.u32.wrap ((x : Nat) : Int)) 0).1), .bool ((chooseF ids ws (IntKind.u32.wrap ((x : Nat) : Int)) 0).2)]) [some (.rd oi 1 (encI ids)), some (.rd ow 1 (encI ws))]]) (fun _ => by kernel_rfl) (fun _ => ⟨chooseref_ok oi ow ci cw ids ws (IntKind.u32.wrap ((x : Nat) : Int)) 0 (by first | omega | (simp <;> omega)), trivial⟩)) ?_
        intro _
        refine GS.seq ?_
        -- region 10, ref.go:69
        refine GS.region (env' := fun _ => [(0, .slice oi ids.length ci), (1, .slice ow ws.length cw), (2, .int .i64 m), (7, .slice (some (Addr.mk (fr1 2).x 0 none)) ids.length ids.length), (8, .int .i64 ((x : Nat) : Int)), (9, .int .i64 ((chooseF ids ws (IntKind.u32.wrap ((x : Nat) : Int)) 0).1)), (34, .bool ((chooseF ids ws (IntKind.u32.wrap ((x : Nat) : Int)) 0).2))]) (mem' := fun _ => [(1, .rd oi 1 (encI ids)), (2, .rd ow 1 (encI ws)), (3, .osl (some (Addr.mk (fr1 2).x 0 none)) ids.length 3 1 (encI (shareState ids ws x)))]) (RunsTo.mk [] [0, 1, 2, 7, 8, 9, 34] [1, 2, 3] (fun _ => []) (fun _ => by kernel_rfl) (fun _ => trivial)) ?_
        intro _
        refine GS.cond (t := (chooseF ids ws (IntKind.u32.wrap ((x : Nat) : Int)) 0).2) rfl rfl (fun h2 => ?_) (fun h2 => ?_)
        · skip
          obtain ⟨j, hj, hbest, _⟩ := chooseF_some h2
          have hjl := hbest.lt
          have hlen := shareState_len ids ws x
          have hb := shareState_le ids ws x j
          refine GS.conv (env' := [(0, .slice oi ids.length ci), (1, .slice ow ws.length cw), (2, .int .i64 m), (7, .slice (some (Addr.mk (fr1 2).x 0 none)) ids.length ids.length), (8, .int .i64 ((x : Nat) : Int)), (9, .int .i64 ((j : Nat) : Int)), (34, .bool ((chooseF ids ws (IntKind.u32.wrap ((x : Nat) : Int)) 0).2))]) (congrArg (fun v : Value => [(0, .slice oi ids.length ci), (1, .slice ow ws.length cw), (2, .int .i64 m), (7, .slice (some (Addr.mk (fr1 2).x 0 none)) ids.length ids.length), (8, .int .i64 ((x : Nat) : Int)), (9, v), (34, .bool ((chooseF ids ws (IntKind.u32.wrap ((x : Nat) : Int)) 0).2))]) (show ((.int .i64 ((chooseF ids ws (IntKind.u32.wrap ((x : Nat) : Int)) 0).1) : Value) = .int .i64 ((j : Nat) : Int)) from int_eq hj)) rfl ?_
          -- region 11, ref.go:70
          refine GS.region (env' := fun _ => [(0, .slice oi ids.length ci), (1, .slice ow ws.length cw), (2, .int .i64 m), (7, .slice (some (Addr.mk (fr1 2).x 0 none)) ids.length ids.length), (8, .int .i64 ((x : Nat) : Int))]) (mem' := fun _ => [(1, .rd oi 1 (encI ids)), (2, .rd ow 1 (encI ws)), (3, .osl (some (Addr.mk (fr1 2).x 0 none)) ids.length 3 1 ((encI (shareState ids ws x)).set j [.int .i64 (((shareState ids ws x).getD j 0) + 1)]))]) (RunsTo.mk [(2, { act := .idx 3 j }), (3, { act := .load 3 j 0 [.int .i64 ((shareState ids ws x).getD j 0)] }), (4, { sp := some (.int .i64 (((shareState ids ws x).getD j 0) + 1)) }), (5, { act := .idx 3 j }), (6, { act := .store j 0 [.int .i64 ((shareState ids ws x).getD j 0)], key := some 3 })] [0, 1, 2, 7, 8] [1, 2, 3] (fun _ => [some (Addr.mk (fr1 2).x 0 none) = some (Addr.mk (fr1 2).x 0 none), ids.length = (encI (shareState ids ws x)).length, (((j : Nat) : Int) : Int) = ((j : Nat) : Int), j < ids.length, blk (some (Addr.mk (fr1 2).x 0 none)) = blk (some (Addr.mk (fr1 2).x 0 none)), offs (some (Addr.mk (fr1 2).x 0 none)) + j * 1 = offs (some (Addr.mk (fr1 2).x 0 none)) + (j * 1 + 0), (encI (shareState ids ws x))[j]? = some [.int .i64 ((shareState ids ws x).getD j 0)], ((.int .i64 (IntKind.i64.wrap (((shareState ids ws x).getD j 0) + 1))) : Value) = .int .i64 (((shareState ids ws x).getD j 0) + 1), some (Addr.mk (fr1 2).x 0 none) = some (Addr.mk (fr1 2).x 0 none), ids.length = (encI (shareState ids ws x)).length, (((j : Nat) : Int) : Int) = ((j : Nat) : Int), j < ids.length, blk (some (Addr.mk (fr1 2).x 0 none)) = blk (some (Addr.mk (fr1 2).x 0 none)), offs (some (Addr.mk (fr1 2).x 0 none)) + j * 1 = offs (some (Addr.mk (fr1 2).x 0 none)) + (j * 1 + 0), (encI (shareState ids ws x))[j]? = some [.int .i64 ((shareState ids ws x).getD j 0)], ((.int .i64 (((shareState ids ws x).getD j 0) + 1)) : Value).cells.toList.all Value.oneCell' = true]) (fun _ => by kernel_rfl) (fun _ => ⟨rfl, (by rw [← encI_len, shareState_len]), rfl, by omega, rfl, rfl, encI_at (by omega), w64 rfl (by omega) (by omega), rfl, (by rw [← encI_len, shareState_len]), rfl, by omega, rfl, rfl, encI_at (by omega), rfl, trivial⟩)) ?_
          intro _
          refine GS.inBlock ?_
          refine GS.conv (mem' := [(1, .rd oi 1 (encI ids)), (2, .rd ow 1 (encI ws)), (3, .osl (some (Addr.mk (fr1 2).x 0 none)) ids.length 3 1 (encI (shareState ids ws (x + 1))))]) rfl (congrArg (fun rr : List (List Value) => ([(1, .rd oi 1 (encI ids)), (2, .rd ow 1 (encI ws)), (3, .osl (some (Addr.mk (fr1 2).x 0 none)) ids.length 3 1 rr)] : List (Nat × Ent))) (show (encI (shareState ids ws x)).set j [.int .i64 (((shareState ids ws x).getD j 0) + 1)] = encI (shareState ids ws (x + 1)) from by rw [encI_set, shareState_yes h2 hj])) ?_
          -- region 8, ref.go:68
          refine GS.region (env' := fun _ => [(0, .slice oi ids.length ci), (1, .slice ow ws.length cw), (2, .int .i64 m), (7, .slice (some (Addr.mk (fr1 2).x 0 none)) ids.length ids.length), (8, .int .i64 ((x + 1 : Nat) : Int))]) (mem' := fun _ => [(1, .rd oi 1 (encI ids)), (2, .rd ow 1 (encI ws)), (3, .osl (some (Addr.mk (fr1 2).x 0 none)) ids.length 3 1 (encI (shareState ids ws (x + 1))))]) (RunsTo.mk [(1, { sp := some (.int .i64 ((x + 1 : Nat) : Int)) })] [0, 1, 2, 7, 8] [1, 2, 3] (fun _ => [(.int .i64 (IntKind.i64.wrap (((x : Nat) : Int) + 1)) : Value) = .int .i64 ((x + 1 : Nat) : Int)]) (fun _ => by kernel_rfl) (fun _ => ⟨w64 (by omega) (by omega) (by omega), trivial⟩)) ?_
          intro _
          refine GS.inLoop ?_
          exact ih (x + 1) (by omega) (show m.toNat - (x + 1) < m.toNat - (x) from by omega)
        · skip
          refine GS.conv (mem' := [(1, .rd oi 1 (encI ids)), (2, .rd ow 1 (encI ws)), (3, .osl (some (Addr.mk (fr1 2).x 0 none)) ids.length 3 1 (encI (shareState ids ws (x + 1))))]) rfl (congrArg (fun rr : List (List Value) => ([(1, .rd oi 1 (encI ids)), (2, .rd ow 1 (encI ws)), (3, .osl (some (Addr.mk (fr1 2).x 0 none)) ids.length 3 1 rr)] : List (Nat × Ent))) (show encI (shareState ids ws x) = encI (shareState ids ws (x + 1)) from by rw [shareState_no (by simpa using h2)])) ?_
          refine GS.skip ?_
          refine GS.inBlock ?_
          -- region 8, ref.go:68
          refine GS.region (env' := fun _ => [(0, .slice oi ids.length ci), (1, .slice ow ws.length cw), (2, .int .i64 m), (7, .slice (some (Addr.mk (fr1 2).x 0 none)) ids.length ids.length), (8, .int .i64 ((x + 1 : Nat) : Int))]) (mem' := fun _ => [(1, .rd oi 1 (encI ids)), (2, .rd ow 1 (encI ws)), (3, .osl (some (Addr.mk (fr1 2).x 0 none)) ids.length 3 1 (encI (shareState ids ws (x + 1))))]) (RunsTo.mk [(1, { sp := some (.int .i64 ((x + 1 : Nat) : Int)) })] [0, 1, 2, 7, 8] [1, 2, 3] (fun _ => [(.int .i64 (IntKind.i64.wrap (((x : Nat) : Int) + 1)) : Value) = .int .i64 ((x + 1 : Nat) : Int)]) (fun _ => by kernel_rfl) (fun _ => ⟨w64 (by omega) (by omega) (by omega), trivial⟩)) ?_
          intro _
          refine GS.inLoop ?_
          exact ih (x + 1) (by omega) (show m.toNat - (x + 1) < m.toNat - (x) from by omega)
      · replace h1 := of_decide_eq_false h1
        refine GS.exit rfl ?_
        refine GS.seq ?_
        -- region 12, ref.go:73
        refine GS.region (env' := fun _ => [(6, .slice (some (Addr.mk (fr1 2).x 0 none)) ids.length ids.length)]) (mem' := fun _ => [(1, .rd oi 1 (encI ids)), (2, .rd ow 1 (encI ws)), (3, .osl (some (Addr.mk (fr1 2).x 0 none)) ids.length 3 1 (encI (shareState ids ws x)))]) (RunsTo.mk [] [6] [1, 2, 3] (fun _ => []) (fun _ => by kernel_rfl) (fun _ => trivial)) ?_
        intro _
        have hF : shareF ids ws n = shareState ids ws x := shareF_eq (by omega) (by rw [hm]; omega)
        refine GS.ret (fn := Try.f18) [0] [.slice (some (Addr.mk (fr1 2).x 0 none)) ids.length ids.length] [] rfl Try.func18 (by kernel_rfl) trivial (fun w' hs => ?_)
        refine ⟨⟨some (Addr.mk (fr1 2).x 0 none), ids.length⟩, by rw [hF, shareState_len] <;> rfl, ?_⟩
        rw [hF]
        exact hs.turned (ks := [1, 2, 3]) (nodupB_spec rfl) rfl (by intro e he; simp only [List.mem_cons, List.not_mem_nil, or_false] at he; rcases he with rfl | rfl | rfl <;> first | exact .inl rfl | exact .inr (by simp))

theorem ints_ok (oa ob : Option Addr) (ca cb : Nat) (la lb : List Int) (hl : la.length ≤ 9223372036854775807) : CallOK Try.prog 16 #[.slice oa la.length ca, .slice ob lb.length cb] (.bool (decide (la = lb))) [some (.rd oa 1 (encI la)), some (.rd ob 1 (encI lb))] := by
  intro w hr
  refine GS.start (S := fun _ => False) (mem := [(1, .rd oa 1 (encI la)), (2, .rd ob 1 (encI lb))]) Try.func16 rfl Try.ntmps16 (Nat.le_of_ble_eq_true rfl) (Sat.startRo (es := [.rd oa 1 (encI la), .rd ob 1 (encI lb)]) hr rfl) ?_
  refine GS.conv (env' := [(0, .slice oa la.length ca), (1, .slice ob lb.length cb)]) rfl rfl ?_
  refine GS.seq ?_
  -- region 0, ref.go:210
  refine GS.region (env' := fun _ => [(0, .slice oa la.length ca), (1, .slice ob lb.length cb)]) (mem' := fun _ => [(1, .rd oa 1 (encI la)), (2, .rd ob 1 (encI lb))]) (RunsTo.mk [] [0, 1] [1, 2] (fun _ => []) (fun _ => by kernel_rfl) (fun _ => trivial)) ?_
  intro _
  refine GS.seq ?_
  refine GS.seq ?_
  -- region 1, ref.go:211
  refine GS.region (env' := fun _ => [(0, .slice oa la.length ca), (1, .slice ob lb.length cb), (10, .bool (((la.length : Nat) : Int) != ((lb.length : Nat) : Int)))]) (mem' := fun _ => [(1, .rd oa 1 (encI la)), (2, .rd ob 1 (encI lb))]) (RunsTo.mk [] [0, 1, 10] [1, 2] (fun _ => []) (fun _ => by kernel_rfl) (fun _ => trivial)) ?_
  intro _
  refine GS.cond (t := ((la.length : Nat) : Int) != ((lb.length : Nat) : Int)) rfl rfl (fun h => ?_) (fun h => ?_)
  · replace h := ne_of_bne h
    refine GS.seq ?_
    -- region 2, ref.go:212
    refine GS.region (env' := fun _ => [(4, .bool false)]) (mem' := fun _ => [(1, .rd oa 1 (encI la)), (2, .rd ob 1 (encI lb))]) (RunsTo.mk [] [4] [1, 2] (fun _ => []) (fun _ => by kernel_rfl) (fun _ => trivial)) ?_
    intro _
    refine GS.ret (fn := Try.f16) [0] [.bool false] [] rfl Try.func16 (by kernel_rfl) trivial (fun w' hs => ?_)
    exact ⟨by rw [decide_eq_false (fun e => by rw [e] at h; omega)] <;> rfl, hs.keep⟩
  · replace h := eq_of_bne_false h
    refine GS.skip ?_
    refine GS.seq ?_
    refine GS.seq ?_
    -- region 3, ref.go:214
    refine GS.region (env' := fun _ => [(0, .slice oa la.length ca), (1, .slice ob lb.length cb), (12, .int .i64 ((la.length : Nat) : Int)), (13, .int .i64 ((0 : Nat) : Int))]) (mem' := fun _ => [(1, .rd oa 1 (encI la)), (2, .rd ob 1 (encI lb))]) (RunsTo.mk [(2, { sp := some (.int .i64 ((0 : Nat) : Int)) })] [0, 1, 12, 13] [1, 2] (fun _ => [(.int .i64 0 : Value) = .int .i64 ((0 : Nat) : Int)]) (fun _ => by kernel_rfl) (fun _ => ⟨rfl, trivial⟩)) ?_
    intro _
    refine GS.block ?_
    refine GS.loop ?_
    refine GS.loopInv (ι := Nat) (I := fun (i : Nat) => i ≤ la.length ∧ ∀ j, j < i → la.getD j 0 = lb.getD j 0) (μ := fun (i : Nat) => la.length - (i)) (E := fun (i : Nat) => [(0, .slice oa la.length ca), (1, .slice ob lb.length cb), (12, .int .i64 ((la.length : Nat) : Int)), (13, .int .i64 ((i : Nat) : Int))]) (M := fun (i : Nat) => [(1, .rd oa 1 (encI la)), (2, .rd ob 1 (encI lb))]) ?_ 0 ⟨Nat.zero_le _, fun j hj => by omega⟩
    rintro i ⟨hi, hall⟩ ih
    refine GS.seq ?_
    -- region 4, ref.go:214
    refine GS.region (env' := fun _ => [(0, .slice oa la.length ca), (1, .slice ob lb.length cb), (12, .int .i64 ((la.length : Nat) : Int)), (13, .int .i64 ((i : Nat) : Int)), (14, .bool (decide (((i : Nat) : Int) < ((la.length : Nat) : Int))))]) (mem' := fun _ => [(1, .rd oa 1 (encI la)), (2, .rd ob 1 (encI lb))]) (RunsTo.mk [] [0, 1, 12, 13, 14] [1, 2] (fun _ => []) (fun _ => by kernel_rfl) (fun _ => trivial)) ?_
    intro _
    refine GS.seq ?_
    refine GS.cond (t := decide (((i : Nat) : Int) < ((la.length : Nat) : Int))) rfl rfl (fun h1 => ?_) (fun h1 => ?_)
    · replace h1 := of_decide_eq_true h1
      refine GS.skip ?_
      refine GS.seq ?_
      refine GS.block ?_
      refine GS.seq ?_
      -- region 5, ref.go:214
      refine GS.region (env' := fun _ => [(0, .slice oa la.length ca), (1, .slice ob lb.length cb), (5, .int .i64 ((i : Nat) : Int)), (12, .int .i64 ((la.length : Nat) : Int)), (13, .int .i64 ((i : Nat) : Int))]) (mem' := fun _ => [(1, .rd oa 1 (encI la)), (2, .rd ob 1 (encI lb))]) (RunsTo.mk [] [0, 1, 5, 12, 13] [1, 2] (fun _ => []) (fun _ => by kernel_rfl) (fun _ => trivial)) ?_
      intro _
      refine GS.seq ?_
      -- region 6, ref.go:215
      refine GS.region (env' := fun _ => [(0, .slice oa la.length ca), (1, .slice ob lb.length cb), (12, .int .i64 ((la.length : Nat) : Int)), (13, .int .i64 ((i : Nat) : Int)), (24, .bool ((la.getD i 0) != (lb.getD i 0)))]) (mem' := fun _ => [(1, .rd oa 1 (encI la)), (2, .rd ob 1 (encI lb))]) (RunsTo.mkd [(2, { act := .idx 1 i }), (3, { act := .load 1 i 0 [.int .i64 (la.getD i 0)] }), (6, { act := .idx 2 i }), (7, { act := .load 2 i 0 [.int .i64 (lb.getD i 0)] })] [0, 1, 12, 13, 24] [1, 2] (fun _ => [oa = oa, la.length = (encI la).length, (((i : Nat) : Int) : Int) = ((i : Nat) : Int), i < la.length, blk oa = blk oa, offs oa + i * 1 = offs oa + (i * 1 + 0), (encI la)[i]? = some [.int .i64 (la.getD i 0)], ob = ob, lb.length = (encI lb).length, (((i : Nat) : Int) : Int) = ((i : Nat) : Int), i < lb.length, blk ob = blk ob, offs ob + i * 1 = offs ob + (i * 1 + 0), (encI lb)[i]? = some [.int .i64 (lb.getD i 0)]]) (by kernel_rfl) (by kernel_rfl) (fun _ => by kernel_rfl) (fun _ => ⟨rfl, encI_len _, rfl, by omega, rfl, rfl, encI_at (by omega), rfl, encI_len _, rfl, by omega, rfl, rfl, encI_at (by omega), trivial⟩)) ?_
      intro _
      refine GS.cond (t := (la.getD i 0) != (lb.getD i 0)) rfl rfl (fun h2 => ?_) (fun h2 => ?_)
      · replace h2 := ne_of_bne h2
        refine GS.seq ?_
        -- region 7, ref.go:216
        refine GS.region (env' := fun _ => [(4, .bool false)]) (mem' := fun _ => [(1, .rd oa 1 (encI la)), (2, .rd ob 1 (encI lb))]) (RunsTo.mk [] [4] [1, 2] (fun _ => []) (fun _ => by kernel_rfl) (fun _ => trivial)) ?_
        intro _
        refine GS.ret (fn := Try.f16) [0] [.bool false] [] rfl Try.func16 (by kernel_rfl) trivial (fun w' hs => ?_)
        exact ⟨by rw [decide_eq_false (fun e => h2 (by rw [e]))] <;> rfl, hs.keep⟩
      · replace h2 := eq_of_bne_false h2
        refine GS.skip ?_
        refine GS.inBlock ?_
        -- region 8, ref.go:214
        refine GS.region (env' := fun _ => [(0, .slice oa la.length ca), (1, .slice ob lb.length cb), (12, .int .i64 ((la.length : Nat) : Int)), (13, .int .i64 ((i + 1 : Nat) : Int))]) (mem' := fun _ => [(1, .rd oa 1 (encI la)), (2, .rd ob 1 (encI lb))]) (RunsTo.mk [(0, { sp := some (.int .i64 ((i + 1 : Nat) : Int)) })] [0, 1, 12, 13] [1, 2] (fun _ => [(.int .i64 (IntKind.i64.wrap (((i : Nat) : Int) + 1)) : Value) = .int .i64 ((i + 1 : Nat) : Int)]) (fun _ => by kernel_rfl) (fun _ => ⟨w64 (by omega) (by omega) (by omega), trivial⟩)) ?_
        intro _
        refine GS.inLoop ?_
        exact ih (i + 1) ⟨by omega, all_succ hall h2⟩ (show la.length - (i + 1) < la.length - (i) from by omega)
    · replace h1 := of_decide_eq_false h1
      refine GS.exit rfl ?_
      refine GS.seq ?_
      -- region 9, ref.go:219
      refine GS.region (env' := fun _ => [(4, .bool true)]) (mem' := fun _ => [(1, .rd oa 1 (encI la)), (2, .rd ob 1 (encI lb))]) (RunsTo.mk [] [4] [1, 2] (fun _ => []) (fun _ => by kernel_rfl) (fun _ => trivial)) ?_
      intro _
      refine GS.ret (fn := Try.f16) [0] [.bool true] [] rfl Try.func16 (by kernel_rfl) trivial (fun w' hs => ?_)
      exact ⟨by rw [decide_eq_true (ext_getD (by omega) (fun j hj => hall j (by omega)))] <;> rfl, hs.keep⟩

end Go.Proofs.Ytmdmfjgpjpfoaaa
