/-
  CHAPTER 7: the walks of Draw, Choose, Share.
-/
import Derived.Test.YtmdmfjgpjpfoaaaW07a
import Derived.Test.YtmdmfjgpjpfoaaaWdig
set_option linter.unusedVariables false
set_option maxRecDepth 100000
namespace Go.Proofs.Ytmdmfjgpjpfoaaa
open Go Go.RowKit Sx

theorem draw_ok (hh ww : Int) : CallOK Try.prog 12 #[.int .u32 hh, .int .i64 ww] (.int .i64 (drawF hh ww)) [] := by
  intro w _
  refine GS.start (S := fun _ => False) (mem := []) Try.func12 rfl Try.ntmps12 (Nat.le_of_ble_eq_true rfl) Sat.start ?_
  refine GS.conv (env' := [(0, .int .u32 hh), (1, .int .i64 ww)]) rfl rfl ?_
  refine GS.seq ?_
  -- region 0, straw.go:31
  refine GS.region (env' := fun _ => [(0, .int .u32 hh), (1, .int .i64 ww)]) (mem' := fun _ => []) (RunsTo.mk [] [0, 1] [] (fun _ => []) (fun _ => by kernel_rfl) (fun _ => trivial)) ?_
  intro _
  refine GS.seq ?_
  refine GS.seq ?_
  -- region 1, straw.go:32
  refine GS.region (env' := fun _ => [(0, .int .u32 hh), (1, .int .i64 ww), (6, .bool (decide (ww < 1)))]) (mem' := fun _ => []) (RunsTo.mk [] [0, 1, 6] [] (fun _ => []) (fun _ => by kernel_rfl) (fun _ => trivial)) ?_
  intro _
  refine GS.cond (t := decide (ww < 1)) rfl rfl (fun h => ?_) (fun h => ?_)
  · replace h := of_decide_eq_true h
    refine GS.seq ?_
    -- region 2, straw.go:33
    refine GS.region (env' := fun _ => [(4, .int .i64 (-9223372036854775808))]) (mem' := fun _ => []) (RunsTo.mk [] [4] [] (fun _ => []) (fun _ => by kernel_rfl) (fun _ => trivial)) ?_
    intro _
    refine GS.ret (fn := Try.f12) [0] [.int .i64 (-9223372036854775808)] [] rfl Try.func12 (by kernel_rfl) trivial (fun w' hs => ?_)
    exact ⟨by unfold drawF; rw [if_pos h]; rfl, hs.keep⟩
  · replace h := of_decide_eq_false h
    refine GS.skip ?_
    refine GS.seq ?_
    -- region 3, straw.go:35
    refine GS.region (env' := fun _ => [(4, .int .i64 (Int.tdiv ((lnF (IntKind.i64.wrap (iand .u32 hh 65535)) : Int) - 281474976710656) ww))]) (mem' := fun _ => []) (RunsTo.mk [(3, { act := .call [] (.int .i64 (lnF (IntKind.i64.wrap (iand .u32 hh 65535)) : Int)) }), (4, { sp := some (.int .i64 ((lnF (IntKind.i64.wrap (iand .u32 hh 65535)) : Int) - 281474976710656)) }), (6, { act := .div, sp := some (.int .i64 (Int.tdiv ((lnF (IntKind.i64.wrap (iand .u32 hh 65535)) : Int) - 281474976710656) ww)) })] [4] [] (fun _ => [CallOK Try.prog 9 #[.int .i64 (IntKind.i64.wrap (iand .u32 hh 65535))] (.int .i64 (lnF (IntKind.i64.wrap (iand .u32 hh 65535)) : Int)) [], (.int .i64 (IntKind.i64.wrap ((lnF (IntKind.i64.wrap (iand .u32 hh 65535)) : Int) - 281474976710656)) : Value) = .int .i64 ((lnF (IntKind.i64.wrap (iand .u32 hh 65535)) : Int) - 281474976710656), ww ≠ 0, (.int .i64 (IntKind.i64.wrap (Int.tdiv ((lnF (IntKind.i64.wrap (iand .u32 hh 65535)) : Int) - 281474976710656) ww)) : Value) = .int .i64 (Int.tdiv ((lnF (IntKind.i64.wrap (iand .u32 hh 65535)) : Int) - 281474976710656) ww)]) (fun _ => by kernel_rfl) (fun _ => ⟨ln_ok (IntKind.i64.wrap (iand .u32 hh 65535)), w64 rfl (by have := lnF_le (IntKind.i64.wrap (iand .u32 hh 65535)); omega) (by have := lnF_le (IntKind.i64.wrap (iand .u32 hh 65535)); omega), by omega, draw_wrap _ _ h, trivial⟩)) ?_
    intro _
    refine GS.ret (fn := Try.f12) [0] [.int .i64 (Int.tdiv ((lnF (IntKind.i64.wrap (iand .u32 hh 65535)) : Int) - 281474976710656) ww)] [] rfl Try.func12 (by kernel_rfl) trivial (fun w' hs => ?_)
    exact ⟨by unfold drawF; rw [if_neg h]; rfl, hs.keep⟩

theorem drawref_ok (hh ww : Int) : CallOK Try.prog 13 #[.int .u32 hh, .int .i64 ww] (.int .i64 (drawF hh ww)) [] := by
  intro w _
  refine GS.start (S := fun _ => False) (mem := []) Try.func13 rfl Try.ntmps13 (Nat.le_of_ble_eq_true rfl) Sat.start ?_
  refine GS.conv (env' := [(0, .int .u32 hh), (1, .int .i64 ww)]) rfl rfl ?_
  refine GS.seq ?_
  -- region 0, ref.go:31
  refine GS.region (env' := fun _ => [(0, .int .u32 hh), (1, .int .i64 ww)]) (mem' := fun _ => []) (RunsTo.mk [] [0, 1] [] (fun _ => []) (fun _ => by kernel_rfl) (fun _ => trivial)) ?_
  intro _
  refine GS.seq ?_
  refine GS.seq ?_
  -- region 1, ref.go:32
  refine GS.region (env' := fun _ => [(0, .int .u32 hh), (1, .int .i64 ww), (6, .bool (decide (ww < 1)))]) (mem' := fun _ => []) (RunsTo.mk [] [0, 1, 6] [] (fun _ => []) (fun _ => by kernel_rfl) (fun _ => trivial)) ?_
  intro _
  refine GS.cond (t := decide (ww < 1)) rfl rfl (fun h => ?_) (fun h => ?_)
  · replace h := of_decide_eq_true h
    refine GS.seq ?_
    -- region 2, ref.go:33
    refine GS.region (env' := fun _ => [(4, .int .i64 (-9223372036854775808))]) (mem' := fun _ => []) (RunsTo.mk [] [4] [] (fun _ => []) (fun _ => by kernel_rfl) (fun _ => trivial)) ?_
    intro _
    refine GS.ret (fn := Try.f13) [0] [.int .i64 (-9223372036854775808)] [] rfl Try.func13 (by kernel_rfl) trivial (fun w' hs => ?_)
    exact ⟨by unfold drawF; rw [if_pos h]; rfl, hs.keep⟩
  · replace h := of_decide_eq_false h
    refine GS.skip ?_
    refine GS.seq ?_
    -- region 3, ref.go:35
    refine GS.region (env' := fun _ => [(4, .int .i64 (Int.tdiv ((lnF (IntKind.i64.wrap (iand .u32 hh 65535)) : Int) - 281474976710656) ww))]) (mem' := fun _ => []) (RunsTo.mk [(3, { act := .call [] (.int .i64 (lnF (IntKind.i64.wrap (iand .u32 hh 65535)) : Int)) }), (4, { sp := some (.int .i64 ((lnF (IntKind.i64.wrap (iand .u32 hh 65535)) : Int) - 281474976710656)) }), (6, { act := .div, sp := some (.int .i64 (Int.tdiv ((lnF (IntKind.i64.wrap (iand .u32 hh 65535)) : Int) - 281474976710656) ww)) })] [4] [] (fun _ => [CallOK Try.prog 10 #[.int .i64 (IntKind.i64.wrap (iand .u32 hh 65535))] (.int .i64 (lnF (IntKind.i64.wrap (iand .u32 hh 65535)) : Int)) [], (.int .i64 (IntKind.i64.wrap ((lnF (IntKind.i64.wrap (iand .u32 hh 65535)) : Int) - 281474976710656)) : Value) = .int .i64 ((lnF (IntKind.i64.wrap (iand .u32 hh 65535)) : Int) - 281474976710656), ww ≠ 0, (.int .i64 (IntKind.i64.wrap (Int.tdiv ((lnF (IntKind.i64.wrap (iand .u32 hh 65535)) : Int) - 281474976710656) ww)) : Value) = .int .i64 (Int.tdiv ((lnF (IntKind.i64.wrap (iand .u32 hh 65535)) : Int) - 281474976710656) ww)]) (fun _ => by kernel_rfl) (fun _ => ⟨lnref_ok (IntKind.i64.wrap (iand .u32 hh 65535)), w64 rfl (by have := lnF_le (IntKind.i64.wrap (iand .u32 hh 65535)); omega) (by have := lnF_le (IntKind.i64.wrap (iand .u32 hh 65535)); omega), by omega, draw_wrap _ _ h, trivial⟩)) ?_
    intro _
    refine GS.ret (fn := Try.f13) [0] [.int .i64 (Int.tdiv ((lnF (IntKind.i64.wrap (iand .u32 hh 65535)) : Int) - 281474976710656) ww)] [] rfl Try.func13 (by kernel_rfl) trivial (fun w' hs => ?_)
    exact ⟨by unfold drawF; rw [if_neg h]; rfl, hs.keep⟩

theorem closure_ok (be bx bi br bw : Nat) (e : Addr) (oi ow : Option Addr) (ci cw : Nat) (ids ws : List Int) (x r : Int) (i : Nat) (h1 : i < ids.length) (h2 : i < ws.length) : CallT Try.prog 21 #[.int .i64 ((i : Nat) : Int), .pointer (some ⟨be, 0, none⟩), .pointer (some ⟨bx, 0, none⟩), .pointer (some ⟨bi, 0, none⟩), .pointer (some ⟨br, 0, none⟩), .pointer (some ⟨bw, 0, none⟩)] (fun _ : Unit => .int .i64 (strawOf ids ws x r i)) [.cells be 44 [.pointer (some e)], .cells bx 25 [.int .u32 x], .cells bi 30 [.slice oi ids.length ci], .cells br 3 [.int .i64 r], .cells bw 30 [.slice ow ws.length cw], .rd oi 1 (encI ids), .rd ow 1 (encI ws)] (fun _ : Unit => [.cells be 44 [.pointer (some e)], .cells bx 25 [.int .u32 x], .cells bi 30 [.slice oi ids.length ci], .cells br 3 [.int .i64 r], .cells bw 30 [.slice ow ws.length cw], .rd oi 1 (encI ids), .rd ow 1 (encI ws)]) := by
  intro w hg
  refine GS.start (S := mayTurn [.cells be 44 [.pointer (some e)], .cells bx 25 [.int .u32 x], .cells bi 30 [.slice oi ids.length ci], .cells br 3 [.int .i64 r], .cells bw 30 [.slice ow ws.length cw], .rd oi 1 (encI ids), .rd ow 1 (encI ws)]) (mem := [(1, .cells be 44 [.pointer (some e)]), (2, .cells bx 25 [.int .u32 x]), (3, .cells bi 30 [.slice oi ids.length ci]), (4, .cells br 3 [.int .i64 r]), (5, .cells bw 30 [.slice ow ws.length cw]), (6, .rd oi 1 (encI ids)), (7, .rd ow 1 (encI ws))]) Try.func21 rfl Try.ntmps21 (Nat.le_of_ble_eq_true rfl) hg.start ?_
  refine GS.conv (env' := [(0, .int .i64 ((i : Nat) : Int)), (1, .pointer (some ⟨be, 0, none⟩)), (2, .pointer (some ⟨bx, 0, none⟩)), (3, .pointer (some ⟨bi, 0, none⟩)), (4, .pointer (some ⟨br, 0, none⟩)), (5, .pointer (some ⟨bw, 0, none⟩))]) rfl rfl ?_
  refine GS.seq ?_
  -- region 0, straw.go:44
  refine GS.region (env' := fun _ => [(0, .int .i64 ((i : Nat) : Int)), (1, .pointer (some ⟨be, 0, none⟩)), (2, .pointer (some ⟨bx, 0, none⟩)), (3, .pointer (some ⟨bi, 0, none⟩)), (4, .pointer (some ⟨br, 0, none⟩)), (5, .pointer (some ⟨bw, 0, none⟩))]) (mem' := fun _ => [(1, .cells be 44 [.pointer (some e)]), (2, .cells bx 25 [.int .u32 x]), (3, .cells bi 30 [.slice oi ids.length ci]), (4, .cells br 3 [.int .i64 r]), (5, .cells bw 30 [.slice ow ws.length cw]), (6, .rd oi 1 (encI ids)), (7, .rd ow 1 (encI ws))]) (RunsTo.mk [] [0, 1, 2, 3, 4, 5] [1, 2, 3, 4, 5, 6, 7] (fun _ => []) (fun _ => by kernel_rfl) (fun _ => trivial)) ?_
  intro _
  refine GS.seq ?_
  -- region 1, straw.go:44
  refine GS.region (env' := fun _ => [(7, .int .i64 (drawF (hash3F x (IntKind.u32.wrap (ids.getD i 0)) (IntKind.u32.wrap r)) (ws.getD i 0)))]) (mem' := fun _ => [(1, .cells be 44 [.pointer (some e)]), (2, .cells bx 25 [.int .u32 x]), (3, .cells bi 30 [.slice oi ids.length ci]), (4, .cells br 3 [.int .i64 r]), (5, .cells bw 30 [.slice ow ws.length cw]), (6, .rd oi 1 (encI ids)), (7, .rd ow 1 (encI ws))]) (RunsTo.mkd [(0, { act := .load 1 0 0 [] }), (1, { act := .load 2 0 0 [] }), (2, { act := .load 3 0 0 [] }), (4, { act := .idx 6 i }), (5, { act := .load 6 i 0 [.int .i64 (ids.getD i 0)] }), (7, { act := .load 4 0 0 [] }), (9, { act := .call [] (.int .u32 (hash3F x (IntKind.u32.wrap (ids.getD i 0)) (IntKind.u32.wrap r))) }), (10, { act := .load 5 0 0 [] }), (12, { act := .idx 7 i }), (13, { act := .load 7 i 0 [.int .i64 (ws.getD i 0)] }), (14, { act := .call [] (.int .i64 (drawF (hash3F x (IntKind.u32.wrap (ids.getD i 0)) (IntKind.u32.wrap r)) (ws.getD i 0))) })] [7] [1, 2, 3, 4, 5, 6, 7] (fun _ => [be = be, bx = bx, bi = bi, oi = oi, ids.length = (encI ids).length, (((i : Nat) : Int) : Int) = ((i : Nat) : Int), i < ids.length, blk oi = blk oi, offs oi + i * 1 = offs oi + (i * 1 + 0), (encI ids)[i]? = some [.int .i64 (ids.getD i 0)], br = br, CallOK Try.prog 22 #[.pointer (some e), .int .u32 x, .int .u32 (IntKind.u32.wrap (ids.getD i 0)), .int .u32 (IntKind.u32.wrap r)] (.int .u32 (hash3F x (IntKind.u32.wrap (ids.getD i 0)) (IntKind.u32.wrap r))) [], bw = bw, ow = ow, ws.length = (encI ws).length, (((i : Nat) : Int) : Int) = ((i : Nat) : Int), i < ws.length, blk ow = blk ow, offs ow + i * 1 = offs ow + (i * 1 + 0), (encI ws)[i]? = some [.int .i64 (ws.getD i 0)], CallOK Try.prog 12 #[.int .u32 (hash3F x (IntKind.u32.wrap (ids.getD i 0)) (IntKind.u32.wrap r)), .int .i64 (ws.getD i 0)] (.int .i64 (drawF (hash3F x (IntKind.u32.wrap (ids.getD i 0)) (IntKind.u32.wrap r)) (ws.getD i 0))) []]) (by kernel_rfl) (by kernel_rfl) (fun _ => by kernel_rfl) (fun _ => ⟨rfl, rfl, rfl, rfl, encI_len _, rfl, by omega, rfl, rfl, encI_at (by omega), rfl, hash3_ok e x (IntKind.u32.wrap (ids.getD i 0)) (IntKind.u32.wrap r), rfl, rfl, encI_len _, rfl, by omega, rfl, rfl, encI_at (by omega), draw_ok (hash3F x (IntKind.u32.wrap (ids.getD i 0)) (IntKind.u32.wrap r)) (ws.getD i 0), trivial⟩)) ?_
  intro _
  refine GS.ret (fn := Try.f21) [0] [.int .i64 (drawF (hash3F x (IntKind.u32.wrap (ids.getD i 0)) (IntKind.u32.wrap r)) (ws.getD i 0))] [] rfl Try.func21 (by kernel_rfl) trivial (fun w' hs => ?_)
  exact ⟨(), rfl, hs.turned (ks := [1, 2, 3, 4, 5, 6, 7]) (nodupB_spec rfl) rfl (by intro e he; simp only [List.mem_cons, List.not_mem_nil, or_false] at he; rcases he with rfl | rfl | rfl | rfl | rfl | rfl | rfl <;> first | exact .inl rfl | exact .inr (by simp))⟩

theorem choose_ok (oi ow : Option Addr) (ci cw : Nat) (ids ws : List Int) (x r : Int) (hl : ids.length ≤ 9223372036854775807) : CallOK Try.prog 14 #[.slice oi ids.length ci, .slice ow ws.length cw, .int .u32 x, .int .i64 r] (.tuple #[.int .i64 (chooseF ids ws x r).1, .bool (chooseF ids ws x r).2]) [some (.rd oi 1 (encI ids)), some (.rd ow 1 (encI ws))] := by
  intro w hr
  refine GS.start (S := fun _ => False) (mem := [(1, .rd oi 1 (encI ids)), (2, .rd ow 1 (encI ws))]) Try.func14 rfl Try.ntmps14 (Nat.le_of_ble_eq_true rfl) (Sat.startRo (es := [.rd oi 1 (encI ids), .rd ow 1 (encI ws)]) hr rfl) ?_
  refine GS.conv (env' := [(0, .slice oi ids.length ci), (1, .slice ow ws.length cw), (2, .int .u32 x), (3, .int .i64 r)]) rfl rfl ?_
  refine GS.seq ?_
  -- region 0, straw.go:39
  refine GS.region (env' := fun fr0 => [(4, .pointer (some ⟨(fr0 0).x, 0, none⟩)), (5, .pointer (some ⟨(fr0 1).x, 0, none⟩)), (6, .pointer (some ⟨(fr0 2).x, 0, none⟩)), (7, .pointer (some ⟨(fr0 3).x, 0, none⟩))]) (mem' := fun fr0 => [(1, .rd oi 1 (encI ids)), (2, .rd ow 1 (encI ws)), (3, .cells ((fr0 0).x) 30 [.slice oi ids.length ci]), (4, .cells ((fr0 1).x) 30 [.slice ow ws.length cw]), (5, .cells ((fr0 2).x) 25 [.int .u32 x]), (6, .cells ((fr0 3).x) 3 [.int .i64 r])]) (RunsTo.mk [(0, { act := .new .var, key := some 3 }), (1, { act := .new .var, key := some 4 }), (2, { act := .new .var, key := some 5 }), (3, { act := .new .var, key := some 6 })] [4, 5, 6, 7] [1, 2, 3, 4, 5, 6] (fun fr0 => []) (fun fr0 => by kernel_rfl) (fun fr0 => trivial)) ?_
  intro fr0
  refine GS.scope ?_
  refine GS.seq ?_
  refine GS.seq ?_
  -- region 1, straw.go:40
  refine GS.region (env' := fun _ => [(4, .pointer (some ⟨(fr0 0).x, 0, none⟩)), (5, .pointer (some ⟨(fr0 1).x, 0, none⟩)), (6, .pointer (some ⟨(fr0 2).x, 0, none⟩)), (7, .pointer (some ⟨(fr0 3).x, 0, none⟩)), (21, .bool (((ids.length : Nat) : Int) != ((ws.length : Nat) : Int)))]) (mem' := fun _ => [(1, .rd oi 1 (encI ids)), (2, .rd ow 1 (encI ws)), (3, .cells ((fr0 0).x) 30 [.slice oi ids.length ci]), (4, .cells ((fr0 1).x) 30 [.slice ow ws.length cw]), (5, .cells ((fr0 2).x) 25 [.int .u32 x]), (6, .cells ((fr0 3).x) 3 [.int .i64 r])]) (RunsTo.mk [(0, { act := .load 3 0 0 [] }), (2, { act := .load 4 0 0 [] })] [4, 5, 6, 7, 21] [1, 2, 3, 4, 5, 6] (fun _ => [(fr0 0).x = (fr0 0).x, (fr0 1).x = (fr0 1).x]) (fun _ => by kernel_rfl) (fun _ => ⟨rfl, rfl, trivial⟩)) ?_
  intro _
  refine GS.cond (t := ((ids.length : Nat) : Int) != ((ws.length : Nat) : Int)) rfl rfl (fun h => ?_) (fun h => ?_)
  · replace h := ne_of_bne h
    refine GS.seq ?_
    -- region 2, straw.go:41
    refine GS.region (env' := fun _ => [(8, .int .i64 0), (9, .bool false)]) (mem' := fun _ => [(1, .rd oi 1 (encI ids)), (2, .rd ow 1 (encI ws)), (3, .cells ((fr0 0).x) 30 [.slice oi ids.length ci]), (4, .cells ((fr0 1).x) 30 [.slice ow ws.length cw]), (5, .cells ((fr0 2).x) 25 [.int .u32 x]), (6, .cells ((fr0 3).x) 3 [.int .i64 r])]) (RunsTo.mk [] [8, 9] [1, 2, 3, 4, 5, 6] (fun _ => []) (fun _ => by kernel_rfl) (fun _ => trivial)) ?_
    intro _
    refine GS.ret (fn := Try.f14) [0, 0] [.int .i64 0, .bool false] [] rfl Try.func14 (by kernel_rfl) trivial (fun w' hs => ?_)
    exact ⟨by rw [chooseF_ne (by omega)]; rfl, hs.keep⟩
  · replace h := eq_of_bne_false h
    refine GS.skip ?_
    refine GS.seq ?_
    -- region 3, straw.go:43
    refine GS.open_ ?_
    refine GR.callT (X := Addr) (i := 0) (g := 20) (args := #[]) (v := fun (ea1 : Addr) => .pointer (some ea1)) (es := []) (es' := fun (ea1 : Addr) => []) (mem' := fun (ea1 : Addr) => [(1, .rd oi 1 (encI ids)), (2, .rd ow 1 (encI ws)), (3, .cells ((fr0 0).x) 30 [.slice oi ids.length ci]), (4, .cells ((fr0 1).x) 30 [.slice ow ws.length cw]), (5, .cells ((fr0 2).x) 25 [.int .u32 x]), (6, .cells ((fr0 3).x) 3 [.int .i64 r])]) (env' := fun (ea1 : Addr) => [(4, .pointer (some ⟨(fr0 0).x, 0, none⟩)), (5, .pointer (some ⟨(fr0 1).x, 0, none⟩)), (6, .pointer (some ⟨(fr0 2).x, 0, none⟩)), (7, .pointer (some ⟨(fr0 3).x, 0, none⟩)), (22, .pointer (some ea1))]) [] [] [4, 5, 6, 7, 22] [1, 2, 3, 4, 5, 6] (by kernel_rfl) (by kernel_rfl) (by kernel_rfl) (by kernel_rfl) (by kernel_rfl) (by kernel_rfl) (fun _ => rfl) (by rintro ea1; kernel_rfl) (by rintro ea1; kernel_rfl) new_ok0 ?_
    rintro ea1
    refine GR.run (i := 1) 2 (env' := fun fr1 => [(4, .pointer (some ⟨(fr0 0).x, 0, none⟩)), (5, .pointer (some ⟨(fr0 1).x, 0, none⟩)), (6, .pointer (some ⟨(fr0 2).x, 0, none⟩)), (7, .pointer (some ⟨(fr0 3).x, 0, none⟩)), (10, .pointer (some ⟨(fr1 1).x, 0, none⟩))]) (mem' := fun fr1 => [(1, .rd oi 1 (encI ids)), (2, .rd ow 1 (encI ws)), (3, .cells ((fr0 0).x) 30 [.slice oi ids.length ci]), (4, .cells ((fr0 1).x) 30 [.slice ow ws.length cw]), (5, .cells ((fr0 2).x) 25 [.int .u32 x]), (6, .cells ((fr0 3).x) 3 [.int .i64 r]), (7, .cells ((fr1 1).x) 44 [.pointer (some ea1)])]) (Nat.le_of_ble_eq_true (by kernel_rfl)) (RunsTo.mk [(1, { act := .new .var, key := some 7 }), (2, { act := .store 0 0 [], key := some 7 })] [4, 5, 6, 7, 10] [1, 2, 3, 4, 5, 6, 7] (fun fr1 => [(fr1 1).x = (fr1 1).x, ((.pointer (some ea1)) : Value).cells.toList.all Value.oneCell' = true]) (fun fr1 => by kernel_rfl) (fun fr1 => ⟨rfl, rfl, trivial⟩)) ?_
    intro fr1
    refine GR.done (Nat.le_of_ble_eq_true (by kernel_rfl)) ?_
    refine GS.seq ?_
    -- region 4, straw.go:44
    refine GS.region (env' := fun _ => [(5, .pointer (some ⟨(fr0 1).x, 0, none⟩)), (11, .func (.func 21) #[] #[.pointer (some ⟨(fr1 1).x, 0, none⟩), .pointer (some ⟨(fr0 2).x, 0, none⟩), .pointer (some ⟨(fr0 0).x, 0, none⟩), .pointer (some ⟨(fr0 3).x, 0, none⟩), .pointer (some ⟨(fr0 1).x, 0, none⟩)])]) (mem' := fun _ => [(1, .rd oi 1 (encI ids)), (2, .rd ow 1 (encI ws)), (3, .cells ((fr0 0).x) 30 [.slice oi ids.length ci]), (4, .cells ((fr0 1).x) 30 [.slice ow ws.length cw]), (5, .cells ((fr0 2).x) 25 [.int .u32 x]), (6, .cells ((fr0 3).x) 3 [.int .i64 r]), (7, .cells ((fr1 1).x) 44 [.pointer (some ea1)])]) (RunsTo.mk [] [5, 11] [1, 2, 3, 4, 5, 6, 7] (fun _ => []) (fun _ => by kernel_rfl) (fun _ => trivial)) ?_
    intro _
    refine GS.seq ?_
    -- region 5, straw.go:45
    refine GS.region (env' := fun _ => [(5, .pointer (some ⟨(fr0 1).x, 0, none⟩)), (11, .func (.func 21) #[] #[.pointer (some ⟨(fr1 1).x, 0, none⟩), .pointer (some ⟨(fr0 2).x, 0, none⟩), .pointer (some ⟨(fr0 0).x, 0, none⟩), .pointer (some ⟨(fr0 3).x, 0, none⟩), .pointer (some ⟨(fr0 1).x, 0, none⟩)]), (12, .int .i64 0), (13, .int .i64 (-1))]) (mem' := fun _ => [(1, .rd oi 1 (encI ids)), (2, .rd ow 1 (encI ws)), (3, .cells ((fr0 0).x) 30 [.slice oi ids.length ci]), (4, .cells ((fr0 1).x) 30 [.slice ow ws.length cw]), (5, .cells ((fr0 2).x) 25 [.int .u32 x]), (6, .cells ((fr0 3).x) 3 [.int .i64 r]), (7, .cells ((fr1 1).x) 44 [.pointer (some ea1)])]) (RunsTo.mk [] [5, 11, 12, 13] [1, 2, 3, 4, 5, 6, 7] (fun _ => []) (fun _ => by kernel_rfl) (fun _ => trivial)) ?_
    intro _
    refine GS.seq ?_
    refine GS.label ?_
    refine GS.seq ?_
    refine GS.seq ?_
    -- region 6, straw.go:47
    refine GS.region (env' := fun _ => [(11, .func (.func 21) #[] #[.pointer (some ⟨(fr1 1).x, 0, none⟩), .pointer (some ⟨(fr0 2).x, 0, none⟩), .pointer (some ⟨(fr0 0).x, 0, none⟩), .pointer (some ⟨(fr0 3).x, 0, none⟩), .pointer (some ⟨(fr0 1).x, 0, none⟩)]), (12, .int .i64 0), (13, .int .i64 (-1)), (24, .slice ow ws.length cw), (25, .int .i64 ((ws.length : Nat) : Int)), (26, .int .i64 ((0 : Nat) : Int))]) (mem' := fun _ => [(1, .rd oi 1 (encI ids)), (2, .rd ow 1 (encI ws)), (3, .cells ((fr0 0).x) 30 [.slice oi ids.length ci]), (4, .cells ((fr0 1).x) 30 [.slice ow ws.length cw]), (5, .cells ((fr0 2).x) 25 [.int .u32 x]), (6, .cells ((fr0 3).x) 3 [.int .i64 r]), (7, .cells ((fr1 1).x) 44 [.pointer (some ea1)])]) (RunsTo.mk [(0, { act := .load 4 0 0 [] }), (2, { sp := some (.int .i64 ((0 : Nat) : Int)) })] [11, 12, 13, 24, 25, 26] [1, 2, 3, 4, 5, 6, 7] (fun _ => [(fr0 1).x = (fr0 1).x, (.int .i64 0 : Value) = .int .i64 ((0 : Nat) : Int)]) (fun _ => by kernel_rfl) (fun _ => ⟨rfl, rfl, trivial⟩)) ?_
    intro _
    refine GS.block ?_
    refine GS.loop ?_
    refine GS.loopInv (ι := Nat × Int × Int) (I := fun ⟨i, best, at'⟩ => i ≤ ids.length ∧ chState ids ws x r (i) = (best, at')) (μ := fun ⟨i, best, at'⟩ => ids.length - (i)) (E := fun ⟨i, best, at'⟩ => [(11, .func (.func 21) #[] #[.pointer (some ⟨(fr1 1).x, 0, none⟩), .pointer (some ⟨(fr0 2).x, 0, none⟩), .pointer (some ⟨(fr0 0).x, 0, none⟩), .pointer (some ⟨(fr0 3).x, 0, none⟩), .pointer (some ⟨(fr0 1).x, 0, none⟩)]), (12, .int .i64 best), (13, .int .i64 at'), (24, .slice ow ws.length cw), (25, .int .i64 ((ws.length : Nat) : Int)), (26, .int .i64 ((i : Nat) : Int))]) (M := fun ⟨i, best, at'⟩ => [(1, .rd oi 1 (encI ids)), (2, .rd ow 1 (encI ws)), (3, .cells ((fr0 0).x) 30 [.slice oi ids.length ci]), (4, .cells ((fr0 1).x) 30 [.slice ow ws.length cw]), (5, .cells ((fr0 2).x) 25 [.int .u32 x]), (6, .cells ((fr0 3).x) 3 [.int .i64 r]), (7, .cells ((fr1 1).x) 44 [.pointer (some ea1)])]) ?_ ⟨0, 0, (-1)⟩ ⟨Nat.zero_le _, rfl⟩
    rintro ⟨i, best, at'⟩ ⟨hi, hst⟩ ih
    refine GS.seq ?_
    -- region 7, straw.go:47
    refine GS.region (env' := fun _ => [(11, .func (.func 21) #[] #[.pointer (some ⟨(fr1 1).x, 0, none⟩), .pointer (some ⟨(fr0 2).x, 0, none⟩), .pointer (some ⟨(fr0 0).x, 0, none⟩), .pointer (some ⟨(fr0 3).x, 0, none⟩), .pointer (some ⟨(fr0 1).x, 0, none⟩)]), (12, .int .i64 best), (13, .int .i64 at'), (24, .slice ow ws.length cw), (25, .int .i64 ((ws.length : Nat) : Int)), (26, .int .i64 ((i : Nat) : Int)), (27, .bool (decide (((i : Nat) : Int) < ((ws.length : Nat) : Int))))]) (mem' := fun _ => [(1, .rd oi 1 (encI ids)), (2, .rd ow 1 (encI ws)), (3, .cells ((fr0 0).x) 30 [.slice oi ids.length ci]), (4, .cells ((fr0 1).x) 30 [.slice ow ws.length cw]), (5, .cells ((fr0 2).x) 25 [.int .u32 x]), (6, .cells ((fr0 3).x) 3 [.int .i64 r]), (7, .cells ((fr1 1).x) 44 [.pointer (some ea1)])]) (RunsTo.mk [] [11, 12, 13, 24, 25, 26, 27] [1, 2, 3, 4, 5, 6, 7] (fun _ => []) (fun _ => by kernel_rfl) (fun _ => trivial)) ?_
    intro _
    refine GS.seq ?_
    refine GS.cond (t := decide (((i : Nat) : Int) < ((ws.length : Nat) : Int))) rfl rfl (fun h1 => ?_) (fun h1 => ?_)
    · replace h1 := of_decide_eq_true h1
      refine GS.skip ?_
      refine GS.seq ?_
      refine GS.block ?_
      refine GS.seq ?_
      -- region 8, straw.go:47
      refine GS.region (env' := fun _ => [(11, .func (.func 21) #[] #[.pointer (some ⟨(fr1 1).x, 0, none⟩), .pointer (some ⟨(fr0 2).x, 0, none⟩), .pointer (some ⟨(fr0 0).x, 0, none⟩), .pointer (some ⟨(fr0 3).x, 0, none⟩), .pointer (some ⟨(fr0 1).x, 0, none⟩)]), (12, .int .i64 best), (13, .int .i64 at'), (14, .int .i64 ((i : Nat) : Int)), (15, .int .i64 (ws.getD i 0)), (24, .slice ow ws.length cw), (25, .int .i64 ((ws.length : Nat) : Int)), (26, .int .i64 ((i : Nat) : Int))]) (mem' := fun _ => [(1, .rd oi 1 (encI ids)), (2, .rd ow 1 (encI ws)), (3, .cells ((fr0 0).x) 30 [.slice oi ids.length ci]), (4, .cells ((fr0 1).x) 30 [.slice ow ws.length cw]), (5, .cells ((fr0 2).x) 25 [.int .u32 x]), (6, .cells ((fr0 3).x) 3 [.int .i64 r]), (7, .cells ((fr1 1).x) 44 [.pointer (some ea1)])]) (RunsTo.mk [(1, { act := .idx 2 i }), (2, { act := .load 2 i 0 [.int .i64 (ws.getD i 0)] })] [11, 12, 13, 14, 15, 24, 25, 26] [1, 2, 3, 4, 5, 6, 7] (fun _ => [ow = ow, ws.length = (encI ws).length, (((i : Nat) : Int) : Int) = ((i : Nat) : Int), i < ws.length, blk ow = blk ow, offs ow + i * 1 = offs ow + (i * 1 + 0), (encI ws)[i]? = some [.int .i64 (ws.getD i 0)]]) (fun _ => by kernel_rfl) (fun _ => ⟨rfl, encI_len _, rfl, by omega, rfl, rfl, encI_at (by omega), trivial⟩)) ?_
      intro _
      refine GS.seq ?_
      refine GS.seq ?_
      -- region 9, straw.go:48
      refine GS.region (env' := fun _ => [(11, .func (.func 21) #[] #[.pointer (some ⟨(fr1 1).x, 0, none⟩), .pointer (some ⟨(fr0 2).x, 0, none⟩), .pointer (some ⟨(fr0 0).x, 0, none⟩), .pointer (some ⟨(fr0 3).x, 0, none⟩), .pointer (some ⟨(fr0 1).x, 0, none⟩)]), (12, .int .i64 best), (13, .int .i64 at'), (14, .int .i64 ((i : Nat) : Int)), (24, .slice ow ws.length cw), (25, .int .i64 ((ws.length : Nat) : Int)), (26, .int .i64 ((i : Nat) : Int)), (32, .bool (decide ((ws.getD i 0) < 1)))]) (mem' := fun _ => [(1, .rd oi 1 (encI ids)), (2, .rd ow 1 (encI ws)), (3, .cells ((fr0 0).x) 30 [.slice oi ids.length ci]), (4, .cells ((fr0 1).x) 30 [.slice ow ws.length cw]), (5, .cells ((fr0 2).x) 25 [.int .u32 x]), (6, .cells ((fr0 3).x) 3 [.int .i64 r]), (7, .cells ((fr1 1).x) 44 [.pointer (some ea1)])]) (RunsTo.mk [] [11, 12, 13, 14, 24, 25, 26, 32] [1, 2, 3, 4, 5, 6, 7] (fun _ => []) (fun _ => by kernel_rfl) (fun _ => trivial)) ?_
      intro _
      refine GS.cond (t := decide ((ws.getD i 0) < 1)) rfl rfl (fun h2 => ?_) (fun h2 => ?_)
      · replace h2 := of_decide_eq_true h2
        refine GS.exit rfl ?_
        -- region 13, straw.go:47
        refine GS.region (env' := fun _ => [(11, .func (.func 21) #[] #[.pointer (some ⟨(fr1 1).x, 0, none⟩), .pointer (some ⟨(fr0 2).x, 0, none⟩), .pointer (some ⟨(fr0 0).x, 0, none⟩), .pointer (some ⟨(fr0 3).x, 0, none⟩), .pointer (some ⟨(fr0 1).x, 0, none⟩)]), (12, .int .i64 best), (13, .int .i64 at'), (24, .slice ow ws.length cw), (25, .int .i64 ((ws.length : Nat) : Int)), (26, .int .i64 ((i + 1 : Nat) : Int))]) (mem' := fun _ => [(1, .rd oi 1 (encI ids)), (2, .rd ow 1 (encI ws)), (3, .cells ((fr0 0).x) 30 [.slice oi ids.length ci]), (4, .cells ((fr0 1).x) 30 [.slice ow ws.length cw]), (5, .cells ((fr0 2).x) 25 [.int .u32 x]), (6, .cells ((fr0 3).x) 3 [.int .i64 r]), (7, .cells ((fr1 1).x) 44 [.pointer (some ea1)])]) (RunsTo.mk [(0, { sp := some (.int .i64 ((i + 1 : Nat) : Int)) })] [11, 12, 13, 24, 25, 26] [1, 2, 3, 4, 5, 6, 7] (fun _ => [(.int .i64 (IntKind.i64.wrap (((i : Nat) : Int) + 1)) : Value) = .int .i64 ((i + 1 : Nat) : Int)]) (fun _ => by kernel_rfl) (fun _ => ⟨w64 (by omega) (by omega) (by omega), trivial⟩)) ?_
        intro _
        refine GS.inLoop ?_
        exact ih ⟨i + 1, best, at'⟩ ⟨by omega, by rw [chState_succ, hst]; exact chStep_skip h2⟩ (show ids.length - (i + 1) < ids.length - (i) from by omega)
      · replace h2 := of_decide_eq_false h2
        refine GS.skip ?_
        refine GS.seq ?_
        -- region 10, straw.go:51
        refine GS.open_ ?_
        refine GR.run (i := 0) 2 (env' := fun _ => [(11, .func (.func 21) #[] #[.pointer (some ⟨(fr1 1).x, 0, none⟩), .pointer (some ⟨(fr0 2).x, 0, none⟩), .pointer (some ⟨(fr0 0).x, 0, none⟩), .pointer (some ⟨(fr0 3).x, 0, none⟩), .pointer (some ⟨(fr0 1).x, 0, none⟩)]), (12, .int .i64 best), (13, .int .i64 at'), (14, .int .i64 ((i : Nat) : Int)), (24, .slice ow ws.length cw), (25, .int .i64 ((ws.length : Nat) : Int)), (26, .int .i64 ((i : Nat) : Int)), (33, .func (.func 21) #[] #[.pointer (some ⟨(fr1 1).x, 0, none⟩), .pointer (some ⟨(fr0 2).x, 0, none⟩), .pointer (some ⟨(fr0 0).x, 0, none⟩), .pointer (some ⟨(fr0 3).x, 0, none⟩), .pointer (some ⟨(fr0 1).x, 0, none⟩)]), (34, .int .i64 ((i : Nat) : Int))]) (mem' := fun _ => [(1, .rd oi 1 (encI ids)), (2, .rd ow 1 (encI ws)), (3, .cells ((fr0 0).x) 30 [.slice oi ids.length ci]), (4, .cells ((fr0 1).x) 30 [.slice ow ws.length cw]), (5, .cells ((fr0 2).x) 25 [.int .u32 x]), (6, .cells ((fr0 3).x) 3 [.int .i64 r]), (7, .cells ((fr1 1).x) 44 [.pointer (some ea1)])]) (Nat.le_of_ble_eq_true (by kernel_rfl)) (RunsTo.mk [] [11, 12, 13, 14, 24, 25, 26, 33, 34] [1, 2, 3, 4, 5, 6, 7] (fun _ => []) (fun _ => by kernel_rfl) (fun _ => trivial)) ?_
        intro _
        refine GR.callT (X := Unit) (i := 2) (g := 21) (args := #[.int .i64 ((i : Nat) : Int), .pointer (some ⟨(fr1 1).x, 0, none⟩), .pointer (some ⟨(fr0 2).x, 0, none⟩), .pointer (some ⟨(fr0 0).x, 0, none⟩), .pointer (some ⟨(fr0 3).x, 0, none⟩), .pointer (some ⟨(fr0 1).x, 0, none⟩)]) (v := fun (_ : Unit) => .int .i64 (strawOf ids ws x r i)) (es := [.cells ((fr1 1).x) 44 [.pointer (some ea1)], .cells ((fr0 2).x) 25 [.int .u32 x], .cells ((fr0 0).x) 30 [.slice oi ids.length ci], .cells ((fr0 3).x) 3 [.int .i64 r], .cells ((fr0 1).x) 30 [.slice ow ws.length cw], .rd oi 1 (encI ids), .rd ow 1 (encI ws)]) (es' := fun (_ : Unit) => [.cells ((fr1 1).x) 44 [.pointer (some ea1)], .cells ((fr0 2).x) 25 [.int .u32 x], .cells ((fr0 0).x) 30 [.slice oi ids.length ci], .cells ((fr0 3).x) 3 [.int .i64 r], .cells ((fr0 1).x) 30 [.slice ow ws.length cw], .rd oi 1 (encI ids), .rd ow 1 (encI ws)]) (mem' := fun (_ : Unit) => [(1, .rd oi 1 (encI ids)), (2, .rd ow 1 (encI ws)), (3, .cells ((fr0 0).x) 30 [.slice oi ids.length ci]), (4, .cells ((fr0 1).x) 30 [.slice ow ws.length cw]), (5, .cells ((fr0 2).x) 25 [.int .u32 x]), (6, .cells ((fr0 3).x) 3 [.int .i64 r]), (7, .cells ((fr1 1).x) 44 [.pointer (some ea1)])]) (env' := fun (_ : Unit) => [(11, .func (.func 21) #[] #[.pointer (some ⟨(fr1 1).x, 0, none⟩), .pointer (some ⟨(fr0 2).x, 0, none⟩), .pointer (some ⟨(fr0 0).x, 0, none⟩), .pointer (some ⟨(fr0 3).x, 0, none⟩), .pointer (some ⟨(fr0 1).x, 0, none⟩)]), (12, .int .i64 best), (13, .int .i64 at'), (14, .int .i64 ((i : Nat) : Int)), (24, .slice ow ws.length cw), (25, .int .i64 ((ws.length : Nat) : Int)), (26, .int .i64 ((i : Nat) : Int)), (35, .int .i64 (strawOf ids ws x r i))]) [7, 5, 3, 6, 4, 1, 2] [] [11, 12, 13, 14, 24, 25, 26, 35] [1, 2, 3, 4, 5, 6, 7] (by kernel_rfl) (by kernel_rfl) (by kernel_rfl) (by kernel_rfl) (by kernel_rfl) (by kernel_rfl) (fun _ => rfl) (by rintro _; kernel_rfl) (by rintro _; kernel_rfl) (closure_ok ((fr1 1).x) ((fr0 2).x) ((fr0 0).x) ((fr0 3).x) ((fr0 1).x) ea1 oi ow ci cw ids ws x r i (by omega) (by omega)) ?_
        rintro _
        refine GR.run (i := 3) 1 (env' := fun _ => [(11, .func (.func 21) #[] #[.pointer (some ⟨(fr1 1).x, 0, none⟩), .pointer (some ⟨(fr0 2).x, 0, none⟩), .pointer (some ⟨(fr0 0).x, 0, none⟩), .pointer (some ⟨(fr0 3).x, 0, none⟩), .pointer (some ⟨(fr0 1).x, 0, none⟩)]), (12, .int .i64 best), (13, .int .i64 at'), (14, .int .i64 ((i : Nat) : Int)), (16, .int .i64 (strawOf ids ws x r i)), (24, .slice ow ws.length cw), (25, .int .i64 ((ws.length : Nat) : Int)), (26, .int .i64 ((i : Nat) : Int))]) (mem' := fun _ => [(1, .rd oi 1 (encI ids)), (2, .rd ow 1 (encI ws)), (3, .cells ((fr0 0).x) 30 [.slice oi ids.length ci]), (4, .cells ((fr0 1).x) 30 [.slice ow ws.length cw]), (5, .cells ((fr0 2).x) 25 [.int .u32 x]), (6, .cells ((fr0 3).x) 3 [.int .i64 r]), (7, .cells ((fr1 1).x) 44 [.pointer (some ea1)])]) (Nat.le_of_ble_eq_true (by kernel_rfl)) (RunsTo.mk [] [11, 12, 13, 14, 16, 24, 25, 26] [1, 2, 3, 4, 5, 6, 7] (fun _ => []) (fun _ => by kernel_rfl) (fun _ => trivial)) ?_
        intro _
        refine GR.done (Nat.le_of_ble_eq_true (by kernel_rfl)) ?_
        refine GS.seq ?_
        -- region 11, straw.go:51
        refine GS.region (env' := fun _ => [(11, .func (.func 21) #[] #[.pointer (some ⟨(fr1 1).x, 0, none⟩), .pointer (some ⟨(fr0 2).x, 0, none⟩), .pointer (some ⟨(fr0 0).x, 0, none⟩), .pointer (some ⟨(fr0 3).x, 0, none⟩), .pointer (some ⟨(fr0 1).x, 0, none⟩)]), (12, .int .i64 best), (13, .int .i64 at'), (14, .int .i64 ((i : Nat) : Int)), (16, .int .i64 (strawOf ids ws x r i)), (24, .slice ow ws.length cw), (25, .int .i64 ((ws.length : Nat) : Int)), (26, .int .i64 ((i : Nat) : Int)), (42, .bool ((decide (at' < 0)) || (decide ((strawOf ids ws x r i) > best))))]) (mem' := fun _ => [(1, .rd oi 1 (encI ids)), (2, .rd ow 1 (encI ws)), (3, .cells ((fr0 0).x) 30 [.slice oi ids.length ci]), (4, .cells ((fr0 1).x) 30 [.slice ow ws.length cw]), (5, .cells ((fr0 2).x) 25 [.int .u32 x]), (6, .cells ((fr0 3).x) 3 [.int .i64 r]), (7, .cells ((fr1 1).x) 44 [.pointer (some ea1)])]) ?_ ?_
        · rcases Bool.eq_false_or_eq_true (decide (at' < 0)) with hg0 | hg0
          · have hg0' := of_decide_eq_true hg0
            exact RunsTo.mk [(2, { sp := some (.bool true) }), (6, { sp := some (.bool ((decide (at' < 0)) || (decide ((strawOf ids ws x r i) > best)))) })] [11, 12, 13, 14, 16, 24, 25, 26, 42] [1, 2, 3, 4, 5, 6, 7] (fun _ => [((.bool (decide (at' < 0))) : Value) = .bool true, ((.bool true) : Value) = .bool ((decide (at' < 0)) || (decide ((strawOf ids ws x r i) > best)))]) (fun _ => by kernel_rfl) (fun _ => ⟨bool_eq (by assumption), bool_eq (by simp [hg0]), trivial⟩)
          · have hg0' := of_decide_eq_false hg0
            exact RunsTo.mk [(2, { sp := some (.bool false) }), (6, { sp := some (.bool ((decide (at' < 0)) || (decide ((strawOf ids ws x r i) > best)))) })] [11, 12, 13, 14, 16, 24, 25, 26, 42] [1, 2, 3, 4, 5, 6, 7] (fun _ => [((.bool (decide (at' < 0))) : Value) = .bool false, ((.bool (decide ((strawOf ids ws x r i) > best))) : Value) = .bool ((decide (at' < 0)) || (decide ((strawOf ids ws x r i) > best)))]) (fun _ => by kernel_rfl) (fun _ => ⟨bool_eq (by assumption), bool_eq (by simp [hg0]), trivial⟩)
        intro _
        refine GS.cond (t := (decide (at' < 0)) || (decide ((strawOf ids ws x r i) > best))) rfl rfl (fun h3 => ?_) (fun h3 => ?_)
        · skip
          -- region 12, straw.go:52
          refine GS.region (env' := fun _ => [(11, .func (.func 21) #[] #[.pointer (some ⟨(fr1 1).x, 0, none⟩), .pointer (some ⟨(fr0 2).x, 0, none⟩), .pointer (some ⟨(fr0 0).x, 0, none⟩), .pointer (some ⟨(fr0 3).x, 0, none⟩), .pointer (some ⟨(fr0 1).x, 0, none⟩)]), (12, .int .i64 (strawOf ids ws x r i)), (13, .int .i64 ((i : Nat) : Int)), (24, .slice ow ws.length cw), (25, .int .i64 ((ws.length : Nat) : Int)), (26, .int .i64 ((i : Nat) : Int))]) (mem' := fun _ => [(1, .rd oi 1 (encI ids)), (2, .rd ow 1 (encI ws)), (3, .cells ((fr0 0).x) 30 [.slice oi ids.length ci]), (4, .cells ((fr0 1).x) 30 [.slice ow ws.length cw]), (5, .cells ((fr0 2).x) 25 [.int .u32 x]), (6, .cells ((fr0 3).x) 3 [.int .i64 r]), (7, .cells ((fr1 1).x) 44 [.pointer (some ea1)])]) (RunsTo.mk [] [11, 12, 13, 24, 25, 26] [1, 2, 3, 4, 5, 6, 7] (fun _ => []) (fun _ => by kernel_rfl) (fun _ => trivial)) ?_
          intro _
          refine GS.inBlock ?_
          -- region 13, straw.go:47
          refine GS.region (env' := fun _ => [(11, .func (.func 21) #[] #[.pointer (some ⟨(fr1 1).x, 0, none⟩), .pointer (some ⟨(fr0 2).x, 0, none⟩), .pointer (some ⟨(fr0 0).x, 0, none⟩), .pointer (some ⟨(fr0 3).x, 0, none⟩), .pointer (some ⟨(fr0 1).x, 0, none⟩)]), (12, .int .i64 (strawOf ids ws x r i)), (13, .int .i64 ((i : Nat) : Int)), (24, .slice ow ws.length cw), (25, .int .i64 ((ws.length : Nat) : Int)), (26, .int .i64 ((i + 1 : Nat) : Int))]) (mem' := fun _ => [(1, .rd oi 1 (encI ids)), (2, .rd ow 1 (encI ws)), (3, .cells ((fr0 0).x) 30 [.slice oi ids.length ci]), (4, .cells ((fr0 1).x) 30 [.slice ow ws.length cw]), (5, .cells ((fr0 2).x) 25 [.int .u32 x]), (6, .cells ((fr0 3).x) 3 [.int .i64 r]), (7, .cells ((fr1 1).x) 44 [.pointer (some ea1)])]) (RunsTo.mk [(0, { sp := some (.int .i64 ((i + 1 : Nat) : Int)) })] [11, 12, 13, 24, 25, 26] [1, 2, 3, 4, 5, 6, 7] (fun _ => [(.int .i64 (IntKind.i64.wrap (((i : Nat) : Int) + 1)) : Value) = .int .i64 ((i + 1 : Nat) : Int)]) (fun _ => by kernel_rfl) (fun _ => ⟨w64 (by omega) (by omega) (by omega), trivial⟩)) ?_
          intro _
          refine GS.inLoop ?_
          exact ih ⟨i + 1, strawOf ids ws x r i, ((i : Nat) : Int)⟩ ⟨by omega, by rw [chState_succ, hst]; exact chStep_take h2 h3⟩ (show ids.length - (i + 1) < ids.length - (i) from by omega)
        · skip
          refine GS.skip ?_
          refine GS.inBlock ?_
          -- region 13, straw.go:47
          refine GS.region (env' := fun _ => [(11, .func (.func 21) #[] #[.pointer (some ⟨(fr1 1).x, 0, none⟩), .pointer (some ⟨(fr0 2).x, 0, none⟩), .pointer (some ⟨(fr0 0).x, 0, none⟩), .pointer (some ⟨(fr0 3).x, 0, none⟩), .pointer (some ⟨(fr0 1).x, 0, none⟩)]), (12, .int .i64 best), (13, .int .i64 at'), (24, .slice ow ws.length cw), (25, .int .i64 ((ws.length : Nat) : Int)), (26, .int .i64 ((i + 1 : Nat) : Int))]) (mem' := fun _ => [(1, .rd oi 1 (encI ids)), (2, .rd ow 1 (encI ws)), (3, .cells ((fr0 0).x) 30 [.slice oi ids.length ci]), (4, .cells ((fr0 1).x) 30 [.slice ow ws.length cw]), (5, .cells ((fr0 2).x) 25 [.int .u32 x]), (6, .cells ((fr0 3).x) 3 [.int .i64 r]), (7, .cells ((fr1 1).x) 44 [.pointer (some ea1)])]) (RunsTo.mk [(0, { sp := some (.int .i64 ((i + 1 : Nat) : Int)) })] [11, 12, 13, 24, 25, 26] [1, 2, 3, 4, 5, 6, 7] (fun _ => [(.int .i64 (IntKind.i64.wrap (((i : Nat) : Int) + 1)) : Value) = .int .i64 ((i + 1 : Nat) : Int)]) (fun _ => by kernel_rfl) (fun _ => ⟨w64 (by omega) (by omega) (by omega), trivial⟩)) ?_
          intro _
          refine GS.inLoop ?_
          exact ih ⟨i + 1, best, at'⟩ ⟨by omega, by rw [chState_succ, hst]; exact chStep_stay h2 h3⟩ (show ids.length - (i + 1) < ids.length - (i) from by omega)
    · replace h1 := of_decide_eq_false h1
      obtain rfl : i = ids.length := by omega
      refine GS.exit rfl ?_
      refine GS.seq ?_
      -- region 14, straw.go:55
      refine GS.region (env' := fun _ => [(8, .int .i64 (if 0 > at' then 0 else at')), (9, .bool (decide (at' ≥ 0)))]) (mem' := fun _ => [(1, .rd oi 1 (encI ids)), (2, .rd ow 1 (encI ws)), (3, .cells ((fr0 0).x) 30 [.slice oi ids.length ci]), (4, .cells ((fr0 1).x) 30 [.slice ow ws.length cw]), (5, .cells ((fr0 2).x) 25 [.int .u32 x]), (6, .cells ((fr0 3).x) 3 [.int .i64 r]), (7, .cells ((fr1 1).x) 44 [.pointer (some ea1)])]) (RunsTo.mk [] [8, 9] [1, 2, 3, 4, 5, 6, 7] (fun _ => []) (fun _ => by kernel_rfl) (fun _ => trivial)) ?_
      intro _
      refine GS.ret (fn := Try.f14) [0, 0] [.int .i64 (if 0 > at' then 0 else at'), .bool (decide (at' ≥ 0))] [] rfl Try.func14 (by kernel_rfl) trivial (fun w' hs => ?_)
      exact ⟨by rw [chooseF_eq (by omega) hst]; rfl, hs.keep⟩

theorem chooseref_ok (oi ow : Option Addr) (ci cw : Nat) (ids ws : List Int) (x r : Int) (hl : ids.length ≤ 9223372036854775807) : CallOK Try.prog 15 #[.slice oi ids.length ci, .slice ow ws.length cw, .int .u32 x, .int .i64 r] (.tuple #[.int .i64 (chooseF ids ws x r).1, .bool (chooseF ids ws x r).2]) [some (.rd oi 1 (encI ids)), some (.rd ow 1 (encI ws))] := by
  intro w hr
  refine GS.start (S := fun _ => False) (mem := [(1, .rd oi 1 (encI ids)), (2, .rd ow 1 (encI ws))]) Try.func15 rfl Try.ntmps15 (Nat.le_of_ble_eq_true rfl) (Sat.startRo (es := [.rd oi 1 (encI ids), .rd ow 1 (encI ws)]) hr rfl) ?_
  refine GS.conv (env' := [(0, .slice oi ids.length ci), (1, .slice ow ws.length cw), (2, .int .u32 x), (3, .int .i64 r)]) rfl rfl ?_
  refine GS.seq ?_
  -- region 0, ref.go:39
  refine GS.region (env' := fun _ => [(0, .slice oi ids.length ci), (1, .slice ow ws.length cw), (2, .int .u32 x), (3, .int .i64 r)]) (mem' := fun _ => [(1, .rd oi 1 (encI ids)), (2, .rd ow 1 (encI ws))]) (RunsTo.mk [] [0, 1, 2, 3] [1, 2] (fun _ => []) (fun _ => by kernel_rfl) (fun _ => trivial)) ?_
  intro _
  refine GS.seq ?_
  refine GS.seq ?_
  -- region 1, ref.go:40
  refine GS.region (env' := fun _ => [(0, .slice oi ids.length ci), (1, .slice ow ws.length cw), (2, .int .u32 x), (3, .int .i64 r), (19, .bool (((ids.length : Nat) : Int) != ((ws.length : Nat) : Int)))]) (mem' := fun _ => [(1, .rd oi 1 (encI ids)), (2, .rd ow 1 (encI ws))]) (RunsTo.mk [] [0, 1, 2, 3, 19] [1, 2] (fun _ => []) (fun _ => by kernel_rfl) (fun _ => trivial)) ?_
  intro _
  refine GS.cond (t := ((ids.length : Nat) : Int) != ((ws.length : Nat) : Int)) rfl rfl (fun h => ?_) (fun h => ?_)
  · replace h := ne_of_bne h
    refine GS.seq ?_
    -- region 2, ref.go:41
    refine GS.region (env' := fun _ => [(8, .int .i64 0), (9, .bool false)]) (mem' := fun _ => [(1, .rd oi 1 (encI ids)), (2, .rd ow 1 (encI ws))]) (RunsTo.mk [] [8, 9] [1, 2] (fun _ => []) (fun _ => by kernel_rfl) (fun _ => trivial)) ?_
    intro _
    refine GS.ret (fn := Try.f15) [0, 0] [.int .i64 0, .bool false] [] rfl Try.func15 (by kernel_rfl) trivial (fun w' hs => ?_)
    exact ⟨by rw [chooseF_ne (by omega)]; rfl, hs.keep⟩
  · replace h := eq_of_bne_false h
    refine GS.skip ?_
    refine GS.seq ?_
    -- region 3, ref.go:43
    refine GS.region (env' := fun _ => [(0, .slice oi ids.length ci), (1, .slice ow ws.length cw), (2, .int .u32 x), (3, .int .i64 r), (10, .int .i64 0), (11, .int .i64 (-1))]) (mem' := fun _ => [(1, .rd oi 1 (encI ids)), (2, .rd ow 1 (encI ws))]) (RunsTo.mk [] [0, 1, 2, 3, 10, 11] [1, 2] (fun _ => []) (fun _ => by kernel_rfl) (fun _ => trivial)) ?_
    intro _
    refine GS.seq ?_
    refine GS.seq ?_
    -- region 4, ref.go:44
    refine GS.region (env' := fun _ => [(1, .slice ow ws.length cw), (2, .int .u32 x), (3, .int .i64 r), (10, .int .i64 0), (11, .int .i64 (-1)), (20, .slice oi ids.length ci), (21, .int .i64 ((ids.length : Nat) : Int)), (22, .int .i64 ((0 : Nat) : Int))]) (mem' := fun _ => [(1, .rd oi 1 (encI ids)), (2, .rd ow 1 (encI ws))]) (RunsTo.mk [(2, { sp := some (.int .i64 ((0 : Nat) : Int)) })] [1, 2, 3, 10, 11, 20, 21, 22] [1, 2] (fun _ => [(.int .i64 0 : Value) = .int .i64 ((0 : Nat) : Int)]) (fun _ => by kernel_rfl) (fun _ => ⟨rfl, trivial⟩)) ?_
    intro _
    refine GS.block ?_
    refine GS.loop ?_
    refine GS.loopInv (ι := Nat × Int × Int) (I := fun ⟨i, best, at'⟩ => i ≤ ids.length ∧ chState ids ws x r (i) = (best, at')) (μ := fun ⟨i, best, at'⟩ => ids.length - (i)) (E := fun ⟨i, best, at'⟩ => [(1, .slice ow ws.length cw), (2, .int .u32 x), (3, .int .i64 r), (10, .int .i64 best), (11, .int .i64 at'), (20, .slice oi ids.length ci), (21, .int .i64 ((ids.length : Nat) : Int)), (22, .int .i64 ((i : Nat) : Int))]) (M := fun ⟨i, best, at'⟩ => [(1, .rd oi 1 (encI ids)), (2, .rd ow 1 (encI ws))]) ?_ ⟨0, 0, (-1)⟩ ⟨Nat.zero_le _, rfl⟩
    rintro ⟨i, best, at'⟩ ⟨hi, hst⟩ ih
    refine GS.seq ?_
    -- region 5, ref.go:44
    refine GS.region (env' := fun _ => [(1, .slice ow ws.length cw), (2, .int .u32 x), (3, .int .i64 r), (10, .int .i64 best), (11, .int .i64 at'), (20, .slice oi ids.length ci), (21, .int .i64 ((ids.length : Nat) : Int)), (22, .int .i64 ((i : Nat) : Int)), (23, .bool (decide (((i : Nat) : Int) < ((ids.length : Nat) : Int))))]) (mem' := fun _ => [(1, .rd oi 1 (encI ids)), (2, .rd ow 1 (encI ws))]) (RunsTo.mk [] [1, 2, 3, 10, 11, 20, 21, 22, 23] [1, 2] (fun _ => []) (fun _ => by kernel_rfl) (fun _ => trivial)) ?_
    intro _
    refine GS.seq ?_
    refine GS.cond (t := decide (((i : Nat) : Int) < ((ids.length : Nat) : Int))) rfl rfl (fun h1 => ?_) (fun h1 => ?_)
    · replace h1 := of_decide_eq_true h1
      refine GS.skip ?_
      refine GS.seq ?_
      refine GS.block ?_
      refine GS.seq ?_
      -- region 6, ref.go:44
      refine GS.region (env' := fun _ => [(1, .slice ow ws.length cw), (2, .int .u32 x), (3, .int .i64 r), (10, .int .i64 best), (11, .int .i64 at'), (12, .int .i64 ((i : Nat) : Int)), (13, .int .i64 (ids.getD i 0)), (20, .slice oi ids.length ci), (21, .int .i64 ((ids.length : Nat) : Int)), (22, .int .i64 ((i : Nat) : Int))]) (mem' := fun _ => [(1, .rd oi 1 (encI ids)), (2, .rd ow 1 (encI ws))]) (RunsTo.mk [(1, { act := .idx 1 i }), (2, { act := .load 1 i 0 [.int .i64 (ids.getD i 0)] })] [1, 2, 3, 10, 11, 12, 13, 20, 21, 22] [1, 2] (fun _ => [oi = oi, ids.length = (encI ids).length, (((i : Nat) : Int) : Int) = ((i : Nat) : Int), i < ids.length, blk oi = blk oi, offs oi + i * 1 = offs oi + (i * 1 + 0), (encI ids)[i]? = some [.int .i64 (ids.getD i 0)]]) (fun _ => by kernel_rfl) (fun _ => ⟨rfl, encI_len _, rfl, by omega, rfl, rfl, encI_at (by omega), trivial⟩)) ?_
      intro _
      refine GS.seq ?_
      refine GS.seq ?_
      -- region 7, ref.go:45
      refine GS.region (env' := fun _ => [(1, .slice ow ws.length cw), (2, .int .u32 x), (3, .int .i64 r), (10, .int .i64 best), (11, .int .i64 at'), (12, .int .i64 ((i : Nat) : Int)), (13, .int .i64 (ids.getD i 0)), (20, .slice oi ids.length ci), (21, .int .i64 ((ids.length : Nat) : Int)), (22, .int .i64 ((i : Nat) : Int)), (31, .bool (decide ((ws.getD i 0) < 1)))]) (mem' := fun _ => [(1, .rd oi 1 (encI ids)), (2, .rd ow 1 (encI ws))]) (RunsTo.mk [(2, { act := .idx 2 i }), (3, { act := .load 2 i 0 [.int .i64 (ws.getD i 0)] })] [1, 2, 3, 10, 11, 12, 13, 20, 21, 22, 31] [1, 2] (fun _ => [ow = ow, ws.length = (encI ws).length, (((i : Nat) : Int) : Int) = ((i : Nat) : Int), i < ws.length, blk ow = blk ow, offs ow + i * 1 = offs ow + (i * 1 + 0), (encI ws)[i]? = some [.int .i64 (ws.getD i 0)]]) (fun _ => by kernel_rfl) (fun _ => ⟨rfl, encI_len _, rfl, by omega, rfl, rfl, encI_at (by omega), trivial⟩)) ?_
      intro _
      refine GS.cond (t := decide ((ws.getD i 0) < 1)) rfl rfl (fun h2 => ?_) (fun h2 => ?_)
      · replace h2 := of_decide_eq_true h2
        refine GS.exit rfl ?_
        -- region 11, ref.go:44
        refine GS.region (env' := fun _ => [(1, .slice ow ws.length cw), (2, .int .u32 x), (3, .int .i64 r), (10, .int .i64 best), (11, .int .i64 at'), (20, .slice oi ids.length ci), (21, .int .i64 ((ids.length : Nat) : Int)), (22, .int .i64 ((i + 1 : Nat) : Int))]) (mem' := fun _ => [(1, .rd oi 1 (encI ids)), (2, .rd ow 1 (encI ws))]) (RunsTo.mk [(0, { sp := some (.int .i64 ((i + 1 : Nat) : Int)) })] [1, 2, 3, 10, 11, 20, 21, 22] [1, 2] (fun _ => [(.int .i64 (IntKind.i64.wrap (((i : Nat) : Int) + 1)) : Value) = .int .i64 ((i + 1 : Nat) : Int)]) (fun _ => by kernel_rfl) (fun _ => ⟨w64 (by omega) (by omega) (by omega), trivial⟩)) ?_
        intro _
        refine GS.inLoop ?_
        exact ih ⟨i + 1, best, at'⟩ ⟨by omega, by rw [chState_succ, hst]; exact chStep_skip h2⟩ (show ids.length - (i + 1) < ids.length - (i) from by omega)
      · replace h2 := of_decide_eq_false h2
        refine GS.skip ?_
        refine GS.seq ?_
        -- region 8, ref.go:48
        refine GS.region (env' := fun _ => [(1, .slice ow ws.length cw), (2, .int .u32 x), (3, .int .i64 r), (10, .int .i64 best), (11, .int .i64 at'), (12, .int .i64 ((i : Nat) : Int)), (14, .int .i64 (strawOf ids ws x r i)), (20, .slice oi ids.length ci), (21, .int .i64 ((ids.length : Nat) : Int)), (22, .int .i64 ((i : Nat) : Int))]) (mem' := fun _ => [(1, .rd oi 1 (encI ids)), (2, .rd ow 1 (encI ws))]) (RunsTo.mkd [(5, { act := .call [] (.int .u32 (hash3F x (IntKind.u32.wrap (ids.getD i 0)) (IntKind.u32.wrap r))) }), (8, { act := .idx 2 i }), (9, { act := .load 2 i 0 [.int .i64 (ws.getD i 0)] }), (10, { act := .call [] (.int .i64 (drawF (hash3F x (IntKind.u32.wrap (ids.getD i 0)) (IntKind.u32.wrap r)) (ws.getD i 0))) }), (11, { sp := some (.int .i64 (strawOf ids ws x r i)) })] [1, 2, 3, 10, 11, 12, 14, 20, 21, 22] [1, 2] (fun _ => [CallOK Try.prog 23 #[.int .u32 x, .int .u32 (IntKind.u32.wrap (ids.getD i 0)), .int .u32 (IntKind.u32.wrap r)] (.int .u32 (hash3F x (IntKind.u32.wrap (ids.getD i 0)) (IntKind.u32.wrap r))) [], ow = ow, ws.length = (encI ws).length, (((i : Nat) : Int) : Int) = ((i : Nat) : Int), i < ws.length, blk ow = blk ow, offs ow + i * 1 = offs ow + (i * 1 + 0), (encI ws)[i]? = some [.int .i64 (ws.getD i 0)], CallOK Try.prog 13 #[.int .u32 (hash3F x (IntKind.u32.wrap (ids.getD i 0)) (IntKind.u32.wrap r)), .int .i64 (ws.getD i 0)] (.int .i64 (drawF (hash3F x (IntKind.u32.wrap (ids.getD i 0)) (IntKind.u32.wrap r)) (ws.getD i 0))) [], (.int .i64 (drawF (hash3F x (IntKind.u32.wrap (ids.getD i 0)) (IntKind.u32.wrap r)) (ws.getD i 0)) : Value) = .int .i64 (strawOf ids ws x r i)]) (by kernel_rfl) (by kernel_rfl) (fun _ => by kernel_rfl) (fun _ => ⟨refhash3_ok x (IntKind.u32.wrap (ids.getD i 0)) (IntKind.u32.wrap r), rfl, encI_len _, rfl, by omega, rfl, rfl, encI_at (by omega), drawref_ok (hash3F x (IntKind.u32.wrap (ids.getD i 0)) (IntKind.u32.wrap r)) (ws.getD i 0), rfl, trivial⟩)) ?_
        intro _
        refine GS.seq ?_
        -- region 9, ref.go:49
        refine GS.region (env' := fun _ => [(1, .slice ow ws.length cw), (2, .int .u32 x), (3, .int .i64 r), (10, .int .i64 best), (11, .int .i64 at'), (12, .int .i64 ((i : Nat) : Int)), (14, .int .i64 (strawOf ids ws x r i)), (20, .slice oi ids.length ci), (21, .int .i64 ((ids.length : Nat) : Int)), (22, .int .i64 ((i : Nat) : Int)), (49, .bool ((decide (at' < 0)) || (decide ((strawOf ids ws x r i) > best))))]) (mem' := fun _ => [(1, .rd oi 1 (encI ids)), (2, .rd ow 1 (encI ws))]) ?_ ?_
        · rcases Bool.eq_false_or_eq_true (decide (at' < 0)) with hg0 | hg0
          · have hg0' := of_decide_eq_true hg0
            exact RunsTo.mk [(2, { sp := some (.bool true) }), (6, { sp := some (.bool ((decide (at' < 0)) || (decide ((strawOf ids ws x r i) > best)))) })] [1, 2, 3, 10, 11, 12, 14, 20, 21, 22, 49] [1, 2] (fun _ => [((.bool (decide (at' < 0))) : Value) = .bool true, ((.bool true) : Value) = .bool ((decide (at' < 0)) || (decide ((strawOf ids ws x r i) > best)))]) (fun _ => by kernel_rfl) (fun _ => ⟨bool_eq (by assumption), bool_eq (by simp [hg0]), trivial⟩)
          · have hg0' := of_decide_eq_false hg0
            exact RunsTo.mk [(2, { sp := some (.bool false) }), (6, { sp := some (.bool ((decide (at' < 0)) || (decide ((strawOf ids ws x r i) > best)))) })] [1, 2, 3, 10, 11, 12, 14, 20, 21, 22, 49] [1, 2] (fun _ => [((.bool (decide (at' < 0))) : Value) = .bool false, ((.bool (decide ((strawOf ids ws x r i) > best))) : Value) = .bool ((decide (at' < 0)) || (decide ((strawOf ids ws x r i) > best)))]) (fun _ => by kernel_rfl) (fun _ => ⟨bool_eq (by assumption), bool_eq (by simp [hg0]), trivial⟩)
        intro _
        refine GS.cond (t := (decide (at' < 0)) || (decide ((strawOf ids ws x r i) > best))) rfl rfl (fun h3 => ?_) (fun h3 => ?_)
        · skip
          -- region 10, ref.go:50
          refine GS.region (env' := fun _ => [(1, .slice ow ws.length cw), (2, .int .u32 x), (3, .int .i64 r), (10, .int .i64 (strawOf ids ws x r i)), (11, .int .i64 ((i : Nat) : Int)), (20, .slice oi ids.length ci), (21, .int .i64 ((ids.length : Nat) : Int)), (22, .int .i64 ((i : Nat) : Int))]) (mem' := fun _ => [(1, .rd oi 1 (encI ids)), (2, .rd ow 1 (encI ws))]) (RunsTo.mk [] [1, 2, 3, 10, 11, 20, 21, 22] [1, 2] (fun _ => []) (fun _ => by kernel_rfl) (fun _ => trivial)) ?_
          intro _
          refine GS.inBlock ?_
          -- region 11, ref.go:44
          refine GS.region (env' := fun _ => [(1, .slice ow ws.length cw), (2, .int .u32 x), (3, .int .i64 r), (10, .int .i64 (strawOf ids ws x r i)), (11, .int .i64 ((i : Nat) : Int)), (20, .slice oi ids.length ci), (21, .int .i64 ((ids.length : Nat) : Int)), (22, .int .i64 ((i + 1 : Nat) : Int))]) (mem' := fun _ => [(1, .rd oi 1 (encI ids)), (2, .rd ow 1 (encI ws))]) (RunsTo.mk [(0, { sp := some (.int .i64 ((i + 1 : Nat) : Int)) })] [1, 2, 3, 10, 11, 20, 21, 22] [1, 2] (fun _ => [(.int .i64 (IntKind.i64.wrap (((i : Nat) : Int) + 1)) : Value) = .int .i64 ((i + 1 : Nat) : Int)]) (fun _ => by kernel_rfl) (fun _ => ⟨w64 (by omega) (by omega) (by omega), trivial⟩)) ?_
          intro _
          refine GS.inLoop ?_
          exact ih ⟨i + 1, strawOf ids ws x r i, ((i : Nat) : Int)⟩ ⟨by omega, by rw [chState_succ, hst]; exact chStep_take h2 h3⟩ (show ids.length - (i + 1) < ids.length - (i) from by omega)
        · skip
          refine GS.skip ?_
          refine GS.inBlock ?_
          -- region 11, ref.go:44
          refine GS.region (env' := fun _ => [(1, .slice ow ws.length cw), (2, .int .u32 x), (3, .int .i64 r), (10, .int .i64 best), (11, .int .i64 at'), (20, .slice oi ids.length ci), (21, .int .i64 ((ids.length : Nat) : Int)), (22, .int .i64 ((i + 1 : Nat) : Int))]) (mem' := fun _ => [(1, .rd oi 1 (encI ids)), (2, .rd ow 1 (encI ws))]) (RunsTo.mk [(0, { sp := some (.int .i64 ((i + 1 : Nat) : Int)) })] [1, 2, 3, 10, 11, 20, 21, 22] [1, 2] (fun _ => [(.int .i64 (IntKind.i64.wrap (((i : Nat) : Int) + 1)) : Value) = .int .i64 ((i + 1 : Nat) : Int)]) (fun _ => by kernel_rfl) (fun _ => ⟨w64 (by omega) (by omega) (by omega), trivial⟩)) ?_
          intro _
          refine GS.inLoop ?_
          exact ih ⟨i + 1, best, at'⟩ ⟨by omega, by rw [chState_succ, hst]; exact chStep_stay h2 h3⟩ (show ids.length - (i + 1) < ids.length - (i) from by omega)
    · replace h1 := of_decide_eq_false h1
      obtain rfl : i = ids.length := by omega
      refine GS.exit rfl ?_
      refine GS.seq ?_
      refine GS.seq ?_
      -- region 12, ref.go:53
      refine GS.region (env' := fun _ => [(11, .int .i64 at'), (54, .bool (decide (at' < 0)))]) (mem' := fun _ => [(1, .rd oi 1 (encI ids)), (2, .rd ow 1 (encI ws))]) (RunsTo.mk [] [11, 54] [1, 2] (fun _ => []) (fun _ => by kernel_rfl) (fun _ => trivial)) ?_
      intro _
      refine GS.cond (t := decide (at' < 0)) rfl rfl (fun h4 => ?_) (fun h4 => ?_)
      · replace h4 := of_decide_eq_true h4
        refine GS.seq ?_
        -- region 13, ref.go:54
        refine GS.region (env' := fun _ => [(8, .int .i64 0), (9, .bool false)]) (mem' := fun _ => [(1, .rd oi 1 (encI ids)), (2, .rd ow 1 (encI ws))]) (RunsTo.mk [] [8, 9] [1, 2] (fun _ => []) (fun _ => by kernel_rfl) (fun _ => trivial)) ?_
        intro _
        refine GS.ret (fn := Try.f15) [0, 0] [.int .i64 0, .bool false] [] rfl Try.func15 (by kernel_rfl) trivial (fun w' hs => ?_)
        exact ⟨by rw [chooseF_eq (by omega) hst, if_pos (by omega), decide_eq_false (by omega)]; rfl, hs.keep⟩
      · replace h4 := of_decide_eq_false h4
        refine GS.skip ?_
        refine GS.seq ?_
        -- region 14, ref.go:56
        refine GS.region (env' := fun _ => [(8, .int .i64 at'), (9, .bool true)]) (mem' := fun _ => [(1, .rd oi 1 (encI ids)), (2, .rd ow 1 (encI ws))]) (RunsTo.mk [] [8, 9] [1, 2] (fun _ => []) (fun _ => by kernel_rfl) (fun _ => trivial)) ?_
        intro _
        refine GS.ret (fn := Try.f15) [0, 0] [.int .i64 at', .bool true] [] rfl Try.func15 (by kernel_rfl) trivial (fun w' hs => ?_)
        exact ⟨by rw [chooseF_eq (by omega) hst, if_neg (by omega), decide_eq_true (by omega)]; rfl, hs.keep⟩

end Go.Proofs.Ytmdmfjgpjpfoaaa
