/-
  CHAPTER 16: the walks of Eligible and of two laws.
-/
import Derived.Test.YthaokdobgmbeeaaW16c
set_option linter.unusedVariables false
set_option linter.unusedSimpArgs false
set_option maxRecDepth 100000
namespace Go.Proofs.Ythaokdobgmbeeaa
open Go Go.RowKit Sx

theorem elig_ok (oi : Option Addr) (ci : Nat) (infos : List Inf) (hl : infos.length ≤ 1048576) : CallT Try.prog 17 #[.slice oi infos.length ci] (fun x : Option Addr × Nat => .slice x.1 (eligTo infos infos.length).length x.2) [.rd oi 6 (encInf infos)] (fun x : Option Addr × Nat => [.rd oi 6 (encInf infos), .osl x.1 x.2 4 1 (encBo (eligTo infos infos.length))]) := by
  intro w hg
  refine GS.start (S := mayTurn [.rd oi 6 (encInf infos)]) (mem := [(1, .rd oi 6 (encInf infos))]) Try.func17 rfl Try.ntmps17 (Nat.le_of_ble_eq_true rfl) hg.start ?_
  refine GS.conv (env' := [(0, .slice oi infos.length ci)]) rfl rfl ?_
  refine GS.seq ?_
  -- region 0, authority.go:37
  refine GS.region (env' := fun _ => [(0, .slice oi infos.length ci)]) (mem' := fun _ => [(1, .rd oi 6 (encInf infos))]) (RunsTo.mk [] [0] [1] (fun _ => []) (fun _ => by kernel_rfl) (fun _ => trivial)) ?_
  intro _
  refine GS.seq ?_
  -- region 1, authority.go:38
  refine GS.region (env' := fun _ => [(0, .slice oi infos.length ci), (3, .int .i64 (lesTo infos infos.length))]) (mem' := fun _ => [(1, .rd oi 6 (encInf infos))]) (RunsTo.mk [(1, { act := .call [1] (.int .i64 (lesTo infos infos.length)) })] [0, 3] [1] (fun _ => [CallOK Try.prog 16 #[.slice oi infos.length ci] (.int .i64 (lesTo infos infos.length)) [some (.rd oi 6 (encInf infos))]]) (fun _ => by kernel_rfl) (fun _ => ⟨les_ok oi ci infos (by omega), trivial⟩)) ?_
  intro _
  refine GS.seq ?_
  -- region 2, authority.go:39
  refine GS.region (env' := fun fr0 => [(0, .slice oi infos.length ci), (3, .int .i64 (lesTo infos infos.length)), (4, .slice (some (Addr.mk (fr0 2).x 0 none)) infos.length infos.length)]) (mem' := fun fr0 => [(1, .rd oi 6 (encInf infos)), (2, .osl (some (Addr.mk (fr0 2).x 0 none)) infos.length 4 1 (List.replicate infos.length [.bool false]))]) (RunsTo.mk [(2, { act := .makeSlice infos.length infos.length, key := some 2 })] [0, 3, 4] [1, 2] (fun fr0 => [((infos.length : Nat) : Int) = ((infos.length : Nat) : Int), ((infos.length : Nat) : Int) = ((infos.length : Nat) : Int), infos.length ≤ infos.length, infos.length * 1 ≤ 281474976710656, infos.length ≤ 9223372036854775807]) (fun fr0 => by kernel_rfl) (fun fr0 => ⟨rfl, rfl, by omega, by omega, by omega, trivial⟩)) ?_
  intro fr0
  refine GS.seq ?_
  refine GS.seq ?_
  refine GS.conv (mem' := [(1, .rd oi 6 (encInf infos)), (2, .osl (some (Addr.mk (fr0 2).x 0 none)) infos.length 4 1 (encBo ((eligTo infos 0) ++ List.replicate (infos.length - 0) false)))]) rfl (congrArg (fun rr : List (List Value) => ([(1, .rd oi 6 (encInf infos)), (2, .osl (some (Addr.mk (fr0 2).x 0 none)) infos.length 4 1 rr)] : List (Nat × Ent))) (show List.replicate infos.length [.bool false] = encBo ((eligTo infos 0) ++ List.replicate (infos.length - 0) false) from by rw [encBo_replicate] <;> rfl)) ?_
  -- region 3, authority.go:40
  refine GS.region (env' := fun _ => [(3, .int .i64 (lesTo infos infos.length)), (4, .slice (some (Addr.mk (fr0 2).x 0 none)) infos.length infos.length), (12, .slice oi infos.length ci), (13, .int .i64 ((infos.length : Nat) : Int)), (14, .int .i64 ((0 : Nat) : Int))]) (mem' := fun _ => [(1, .rd oi 6 (encInf infos)), (2, .osl (some (Addr.mk (fr0 2).x 0 none)) infos.length 4 1 (encBo ((eligTo infos 0) ++ List.replicate (infos.length - 0) false)))]) (RunsTo.mk [(2, { sp := some (.int .i64 ((0 : Nat) : Int)) })] [3, 4, 12, 13, 14] [1, 2] (fun _ => [(.int .i64 0 : Value) = .int .i64 ((0 : Nat) : Int)]) (fun _ => by kernel_rfl) (fun _ => ⟨rfl, trivial⟩)) ?_
  intro _
  refine GS.block ?_
  refine GS.loop ?_
  refine GS.loopInv (ι := Nat) (I := fun (i : Nat) => i ≤ infos.length) (μ := fun (i : Nat) => infos.length - (i)) (E := fun (i : Nat) => [(3, .int .i64 (lesTo infos infos.length)), (4, .slice (some (Addr.mk (fr0 2).x 0 none)) infos.length infos.length), (12, .slice oi infos.length ci), (13, .int .i64 ((infos.length : Nat) : Int)), (14, .int .i64 ((i : Nat) : Int))]) (M := fun (i : Nat) => [(1, .rd oi 6 (encInf infos)), (2, .osl (some (Addr.mk (fr0 2).x 0 none)) infos.length 4 1 (encBo ((eligTo infos i) ++ List.replicate (infos.length - i) false)))]) ?_ 0 (Nat.zero_le _)
  rintro i hi ih
  refine GS.seq ?_
  -- region 4, authority.go:40
  refine GS.region (env' := fun _ => [(3, .int .i64 (lesTo infos infos.length)), (4, .slice (some (Addr.mk (fr0 2).x 0 none)) infos.length infos.length), (12, .slice oi infos.length ci), (13, .int .i64 ((infos.length : Nat) : Int)), (14, .int .i64 ((i : Nat) : Int)), (15, .bool (decide (((i : Nat) : Int) < ((infos.length : Nat) : Int))))]) (mem' := fun _ => [(1, .rd oi 6 (encInf infos)), (2, .osl (some (Addr.mk (fr0 2).x 0 none)) infos.length 4 1 (encBo ((eligTo infos i) ++ List.replicate (infos.length - i) false)))]) (RunsTo.mk [] [3, 4, 12, 13, 14, 15] [1, 2] (fun _ => []) (fun _ => by kernel_rfl) (fun _ => trivial)) ?_
  intro _
  refine GS.seq ?_
  refine GS.cond (t := decide (((i : Nat) : Int) < ((infos.length : Nat) : Int))) rfl rfl (fun h1 => ?_) (fun h1 => ?_)
  · replace h1 := of_decide_eq_true h1
    have hle : ((eligTo infos i) ++ List.replicate (infos.length - i) false).length = infos.length := by rw [List.length_append, List.length_replicate, eligTo_len]; omega
    refine GS.skip ?_
    refine GS.seq ?_
    refine GS.block ?_
    refine GS.seq ?_
    -- region 5, authority.go:40
    refine GS.region (env' := fun fr1 => [(3, .int .i64 (lesTo infos infos.length)), (4, .slice (some (Addr.mk (fr0 2).x 0 none)) infos.length infos.length), (5, .int .i64 ((i : Nat) : Int)), (6, .pointer (some ⟨(fr1 3).x, 0, none⟩)), (12, .slice oi infos.length ci), (13, .int .i64 ((infos.length : Nat) : Int)), (14, .int .i64 ((i : Nat) : Int))]) (mem' := fun fr1 => [(1, .rd oi 6 (encInf infos)), (2, .osl (some (Addr.mk (fr0 2).x 0 none)) infos.length 4 1 (encBo ((eligTo infos i) ++ List.replicate (infos.length - i) false))), (3, .cells ((fr1 3).x) 34 [.int .i64 ((infos.getD i dI).les), .int .i64 ((infos.getD i dI).he), .int .i64 ((infos.getD i dI).hn), .int .i64 ((infos.getD i dI).te), .int .i64 ((infos.getD i dI).tn), .int .i64 ((infos.getD i dI).born)])]) (RunsTo.mk [(1, { act := .idx 1 i }), (2, { act := .load 1 i 0 [.int .i64 ((infos.getD i dI).les), .int .i64 ((infos.getD i dI).he), .int .i64 ((infos.getD i dI).hn), .int .i64 ((infos.getD i dI).te), .int .i64 ((infos.getD i dI).tn), .int .i64 ((infos.getD i dI).born)] }), (3, { act := .new .var, key := some 3 }), (5, { act := .store 0 0 [], key := some 3 })] [3, 4, 5, 6, 12, 13, 14] [1, 2, 3] (fun fr1 => [oi = oi, infos.length = (encInf infos).length, (((i : Nat) : Int) : Int) = ((i : Nat) : Int), i < infos.length, blk oi = blk oi, offs oi + i * 6 = offs oi + (i * 6 + 0), (encInf infos)[i]? = some [.int .i64 ((infos.getD i dI).les), .int .i64 ((infos.getD i dI).he), .int .i64 ((infos.getD i dI).hn), .int .i64 ((infos.getD i dI).te), .int .i64 ((infos.getD i dI).tn), .int .i64 ((infos.getD i dI).born)], (fr1 3).x = (fr1 3).x, ((.agg #[.int .i64 ((infos.getD i dI).les), .int .i64 ((infos.getD i dI).he), .int .i64 ((infos.getD i dI).hn), .int .i64 ((infos.getD i dI).te), .int .i64 ((infos.getD i dI).tn), .int .i64 ((infos.getD i dI).born)]) : Value).cells.toList.all Value.oneCell' = true]) (fun fr1 => by kernel_rfl) (fun fr1 => ⟨rfl, encInf_len _, rfl, by omega, rfl, rfl, encInf_at (by omega), rfl, rfl, trivial⟩)) ?_
    intro fr1
    -- region 6, authority.go:41
    refine GS.region (env' := fun _ => [(3, .int .i64 (lesTo infos infos.length)), (4, .slice (some (Addr.mk (fr0 2).x 0 none)) infos.length infos.length), (12, .slice oi infos.length ci), (13, .int .i64 ((infos.length : Nat) : Int)), (14, .int .i64 ((i : Nat) : Int))]) (mem' := fun _ => [(1, .rd oi 6 (encInf infos)), (2, .osl (some (Addr.mk (fr0 2).x 0 none)) infos.length 4 1 ((encBo ((eligTo infos i) ++ List.replicate (infos.length - i) false)).set i [.bool (((infos.getD i dI).les) == (lesTo infos infos.length))])), (3, .cells ((fr1 3).x) 34 [.int .i64 ((infos.getD i dI).les), .int .i64 ((infos.getD i dI).he), .int .i64 ((infos.getD i dI).hn), .int .i64 ((infos.getD i dI).te), .int .i64 ((infos.getD i dI).tn), .int .i64 ((infos.getD i dI).born)])]) (RunsTo.mk [(3, { act := .load 3 0 0 [] }), (6, { act := .idx 2 i }), (7, { act := .store i 0 [.bool (((eligTo infos i) ++ List.replicate (infos.length - i) false).getD i false)], key := some 2 })] [3, 4, 12, 13, 14] [1, 2, 3] (fun _ => [(fr1 3).x = (fr1 3).x, some (Addr.mk (fr0 2).x 0 none) = some (Addr.mk (fr0 2).x 0 none), infos.length = (encBo ((eligTo infos i) ++ List.replicate (infos.length - i) false)).length, (((i : Nat) : Int) : Int) = ((i : Nat) : Int), i < infos.length, blk (some (Addr.mk (fr0 2).x 0 none)) = blk (some (Addr.mk (fr0 2).x 0 none)), offs (some (Addr.mk (fr0 2).x 0 none)) + i * 1 = offs (some (Addr.mk (fr0 2).x 0 none)) + (i * 1 + 0), (encBo ((eligTo infos i) ++ List.replicate (infos.length - i) false))[i]? = some [.bool (((eligTo infos i) ++ List.replicate (infos.length - i) false).getD i false)], ((.bool (((infos.getD i dI).les) == (lesTo infos infos.length))) : Value).cells.toList.all Value.oneCell' = true]) (fun _ => by kernel_rfl) (fun _ => ⟨rfl, rfl, (by rw [← encBo_len, List.length_append, List.length_replicate, eligTo_len]; omega), rfl, by omega, rfl, rfl, encBo_at (by omega), rfl, trivial⟩)) ?_
    intro _
    refine GS.inBlock ?_
    refine GS.conv (mem' := [(1, .rd oi 6 (encInf infos)), (2, .osl (some (Addr.mk (fr0 2).x 0 none)) infos.length 4 1 (encBo ((eligTo infos (i + 1)) ++ List.replicate (infos.length - (i + 1)) false))), (3, .cells ((fr1 3).x) 34 [.int .i64 ((infos.getD i dI).les), .int .i64 ((infos.getD i dI).he), .int .i64 ((infos.getD i dI).hn), .int .i64 ((infos.getD i dI).te), .int .i64 ((infos.getD i dI).tn), .int .i64 ((infos.getD i dI).born)])]) rfl (congrArg (fun rr : List (List Value) => ([(1, .rd oi 6 (encInf infos)), (2, .osl (some (Addr.mk (fr0 2).x 0 none)) infos.length 4 1 rr), (3, .cells ((fr1 3).x) 34 [.int .i64 ((infos.getD i dI).les), .int .i64 ((infos.getD i dI).he), .int .i64 ((infos.getD i dI).hn), .int .i64 ((infos.getD i dI).te), .int .i64 ((infos.getD i dI).tn), .int .i64 ((infos.getD i dI).born)])] : List (Nat × Ent))) (show (encBo ((eligTo infos i) ++ List.replicate (infos.length - i) false)).set i [.bool (((infos.getD i dI).les) == (lesTo infos infos.length))] = encBo ((eligTo infos (i + 1)) ++ List.replicate (infos.length - (i + 1)) false) from by rw [encBo_set, fill_setG _ _ _ _ _ (eligTo_len _ i) (by omega)] <;> rfl)) ?_
    -- region 7, authority.go:40
    refine GS.region (env' := fun _ => [(3, .int .i64 (lesTo infos infos.length)), (4, .slice (some (Addr.mk (fr0 2).x 0 none)) infos.length infos.length), (12, .slice oi infos.length ci), (13, .int .i64 ((infos.length : Nat) : Int)), (14, .int .i64 ((i + 1 : Nat) : Int))]) (mem' := fun _ => [(1, .rd oi 6 (encInf infos)), (2, .osl (some (Addr.mk (fr0 2).x 0 none)) infos.length 4 1 (encBo ((eligTo infos (i + 1)) ++ List.replicate (infos.length - (i + 1)) false))), (3, .cells ((fr1 3).x) 34 [.int .i64 ((infos.getD i dI).les), .int .i64 ((infos.getD i dI).he), .int .i64 ((infos.getD i dI).hn), .int .i64 ((infos.getD i dI).te), .int .i64 ((infos.getD i dI).tn), .int .i64 ((infos.getD i dI).born)])]) (RunsTo.mk [(0, { sp := some (.int .i64 ((i + 1 : Nat) : Int)) })] [3, 4, 12, 13, 14] [1, 2, 3] (fun _ => [(.int .i64 (IntKind.i64.wrap (((i : Nat) : Int) + 1)) : Value) = .int .i64 ((i + 1 : Nat) : Int)]) (fun _ => by kernel_rfl) (fun _ => ⟨w64 (by omega) (by omega) (by omega), trivial⟩)) ?_
    intro _
    refine GS.inLoop ?_
    refine GS.trim (env' := [(3, .int .i64 (lesTo infos infos.length)), (4, .slice (some (Addr.mk (fr0 2).x 0 none)) infos.length infos.length), (12, .slice oi infos.length ci), (13, .int .i64 ((infos.length : Nat) : Int)), (14, .int .i64 ((i + 1 : Nat) : Int))]) (mem' := [(1, .rd oi 6 (encInf infos)), (2, .osl (some (Addr.mk (fr0 2).x 0 none)) infos.length 4 1 (encBo ((eligTo infos (i + 1)) ++ List.replicate (infos.length - (i + 1)) false)))]) [3, 4, 12, 13, 14] [1, 2] (by kernel_rfl) (by kernel_rfl) ?_
    exact ih (i + 1) (by omega) (show infos.length - (i + 1) < infos.length - (i) from by omega)
  · replace h1 := of_decide_eq_false h1
    have hi2 : i = infos.length := by omega
    refine GS.conv (mem' := [(1, .rd oi 6 (encInf infos)), (2, .osl (some (Addr.mk (fr0 2).x 0 none)) infos.length 4 1 (encBo (eligTo infos infos.length)))]) rfl (congrArg (fun rr : List (List Value) => ([(1, .rd oi 6 (encInf infos)), (2, .osl (some (Addr.mk (fr0 2).x 0 none)) infos.length 4 1 rr)] : List (Nat × Ent))) (show encBo ((eligTo infos i) ++ List.replicate (infos.length - i) false) = encBo (eligTo infos infos.length) from by rw [hi2, Nat.sub_self, List.replicate_zero, List.append_nil])) ?_
    refine GS.exit rfl ?_
    refine GS.seq ?_
    -- region 8, authority.go:43
    refine GS.region (env' := fun _ => [(2, .slice (some (Addr.mk (fr0 2).x 0 none)) infos.length infos.length)]) (mem' := fun _ => [(1, .rd oi 6 (encInf infos)), (2, .osl (some (Addr.mk (fr0 2).x 0 none)) infos.length 4 1 (encBo (eligTo infos infos.length)))]) (RunsTo.mk [] [2] [1, 2] (fun _ => []) (fun _ => by kernel_rfl) (fun _ => trivial)) ?_
    intro _
    refine GS.ret (fn := Try.f17) [0] [.slice (some (Addr.mk (fr0 2).x 0 none)) infos.length infos.length] [] rfl Try.func17 (by kernel_rfl) trivial (fun w' hs => ?_)
    exact ⟨⟨some (Addr.mk (fr0 2).x 0 none), infos.length⟩, by rw [eligTo_len] <;> rfl, hs.turned (ks := [1, 2]) (nodupB_spec rfl) rfl (by intro e he; simp only [List.mem_cons, List.not_mem_nil, or_false] at he; rcases he with rfl | rfl <;> first | exact .inl rfl | exact .inr (by simp))⟩

theorem eligref_ok (oi : Option Addr) (ci : Nat) (infos : List Inf) (hl : infos.length ≤ 1048576) : CallT Try.prog 18 #[.slice oi infos.length ci] (fun x : Option Addr × Nat => .slice x.1 (eligTo infos infos.length).length x.2) [.rd oi 6 (encInf infos)] (fun x : Option Addr × Nat => [.rd oi 6 (encInf infos), .osl x.1 x.2 4 1 (encBo (eligTo infos infos.length))]) := by
  intro w hg
  refine GS.start (S := mayTurn [.rd oi 6 (encInf infos)]) (mem := [(1, .rd oi 6 (encInf infos))]) Try.func18 rfl Try.ntmps18 (Nat.le_of_ble_eq_true rfl) hg.start ?_
  refine GS.conv (env' := [(0, .slice oi infos.length ci)]) rfl rfl ?_
  refine GS.seq ?_
  -- region 0, ref.go:36
  refine GS.region (env' := fun _ => [(0, .slice oi infos.length ci)]) (mem' := fun _ => [(1, .rd oi 6 (encInf infos))]) (RunsTo.mk [] [0] [1] (fun _ => []) (fun _ => by kernel_rfl) (fun _ => trivial)) ?_
  intro _
  refine GS.seq ?_
  -- region 1, ref.go:37
  refine GS.region (env' := fun _ => [(0, .slice oi infos.length ci), (3, .slice none 0 0)]) (mem' := fun _ => [(1, .rd oi 6 (encInf infos))]) (RunsTo.mk [] [0, 3] [1] (fun _ => []) (fun _ => by kernel_rfl) (fun _ => trivial)) ?_
  intro _
  refine GS.seq ?_
  refine GS.seq ?_
  -- region 2, ref.go:38
  refine GS.region (env' := fun _ => [(0, .slice oi infos.length ci), (3, .slice none 0 0), (6, .slice oi infos.length ci), (7, .int .i64 ((infos.length : Nat) : Int)), (8, .int .i64 ((0 : Nat) : Int))]) (mem' := fun _ => [(1, .rd oi 6 (encInf infos))]) (RunsTo.mk [(2, { sp := some (.int .i64 ((0 : Nat) : Int)) })] [0, 3, 6, 7, 8] [1] (fun _ => [(.int .i64 0 : Value) = .int .i64 ((0 : Nat) : Int)]) (fun _ => by kernel_rfl) (fun _ => ⟨rfl, trivial⟩)) ?_
  intro _
  refine GS.block ?_
  refine GS.loop ?_
  refine GS.setMem (mem' := [(1, .rd oi 6 (encInf infos)), (2, .osl none 0 4 1 (encBo (eligTo infos 0)))]) (fun w hw => Sat.addNil hw rfl) ?_
  refine GS.conv (env' := [(0, .slice oi infos.length ci), (3, .slice none ((eligTo infos 0).length) 0), (6, .slice oi infos.length ci), (7, .int .i64 ((infos.length : Nat) : Int)), (8, .int .i64 ((0 : Nat) : Int))]) (congrArg (fun vhole : Value => [(0, .slice oi infos.length ci), (3, vhole), (6, .slice oi infos.length ci), (7, .int .i64 ((infos.length : Nat) : Int)), (8, .int .i64 ((0 : Nat) : Int))]) (show ((.slice none 0 0 : Value) = .slice none ((eligTo infos 0).length) 0) from rfl)) rfl ?_
  refine GS.loopInv (ι := Nat × Option Addr × Nat) (I := fun ⟨i, so, sc⟩ => i ≤ infos.length) (μ := fun ⟨i, so, sc⟩ => infos.length - (i)) (E := fun ⟨i, so, sc⟩ => [(0, .slice oi infos.length ci), (3, .slice so ((eligTo infos i).length) sc), (6, .slice oi infos.length ci), (7, .int .i64 ((infos.length : Nat) : Int)), (8, .int .i64 ((i : Nat) : Int))]) (M := fun ⟨i, so, sc⟩ => [(1, .rd oi 6 (encInf infos)), (2, .osl so sc 4 1 (encBo (eligTo infos i)))]) ?_ ⟨0, none, 0⟩ (Nat.zero_le _)
  rintro ⟨i, so, sc⟩ hi ih
  refine GS.seq ?_
  -- region 3, ref.go:38
  refine GS.region (env' := fun _ => [(0, .slice oi infos.length ci), (3, .slice so ((eligTo infos i).length) sc), (6, .slice oi infos.length ci), (7, .int .i64 ((infos.length : Nat) : Int)), (8, .int .i64 ((i : Nat) : Int)), (9, .bool (decide (((i : Nat) : Int) < ((infos.length : Nat) : Int))))]) (mem' := fun _ => [(1, .rd oi 6 (encInf infos)), (2, .osl so sc 4 1 (encBo (eligTo infos i)))]) (RunsTo.mk [] [0, 3, 6, 7, 8, 9] [1, 2] (fun _ => []) (fun _ => by kernel_rfl) (fun _ => trivial)) ?_
  intro _
  refine GS.seq ?_
  refine GS.cond (t := decide (((i : Nat) : Int) < ((infos.length : Nat) : Int))) rfl rfl (fun h1 => ?_) (fun h1 => ?_)
  · replace h1 := of_decide_eq_true h1
    refine GS.skip ?_
    refine GS.seq ?_
    refine GS.block ?_
    refine GS.seq ?_
    -- region 4, ref.go:38
    refine GS.region (env' := fun fr0 => [(0, .slice oi infos.length ci), (3, .slice so ((eligTo infos i).length) sc), (5, .pointer (some ⟨(fr0 2).x, 0, none⟩)), (6, .slice oi infos.length ci), (7, .int .i64 ((infos.length : Nat) : Int)), (8, .int .i64 ((i : Nat) : Int))]) (mem' := fun fr0 => [(1, .rd oi 6 (encInf infos)), (2, .osl so sc 4 1 (encBo (eligTo infos i))), (3, .cells ((fr0 2).x) 34 [.int .i64 ((infos.getD i dI).les), .int .i64 ((infos.getD i dI).he), .int .i64 ((infos.getD i dI).hn), .int .i64 ((infos.getD i dI).te), .int .i64 ((infos.getD i dI).tn), .int .i64 ((infos.getD i dI).born)])]) (RunsTo.mk [(0, { act := .idx 1 i }), (1, { act := .load 1 i 0 [.int .i64 ((infos.getD i dI).les), .int .i64 ((infos.getD i dI).he), .int .i64 ((infos.getD i dI).hn), .int .i64 ((infos.getD i dI).te), .int .i64 ((infos.getD i dI).tn), .int .i64 ((infos.getD i dI).born)] }), (2, { act := .new .var, key := some 3 }), (3, { act := .store 0 0 [], key := some 3 })] [0, 3, 5, 6, 7, 8] [1, 2, 3] (fun fr0 => [oi = oi, infos.length = (encInf infos).length, (((i : Nat) : Int) : Int) = ((i : Nat) : Int), i < infos.length, blk oi = blk oi, offs oi + i * 6 = offs oi + (i * 6 + 0), (encInf infos)[i]? = some [.int .i64 ((infos.getD i dI).les), .int .i64 ((infos.getD i dI).he), .int .i64 ((infos.getD i dI).hn), .int .i64 ((infos.getD i dI).te), .int .i64 ((infos.getD i dI).tn), .int .i64 ((infos.getD i dI).born)], (fr0 2).x = (fr0 2).x, ((.agg #[.int .i64 ((infos.getD i dI).les), .int .i64 ((infos.getD i dI).he), .int .i64 ((infos.getD i dI).hn), .int .i64 ((infos.getD i dI).te), .int .i64 ((infos.getD i dI).tn), .int .i64 ((infos.getD i dI).born)]) : Value).cells.toList.all Value.oneCell' = true]) (fun fr0 => by kernel_rfl) (fun fr0 => ⟨rfl, encInf_len _, rfl, by omega, rfl, rfl, encInf_at (by omega), rfl, rfl, trivial⟩)) ?_
    intro fr0
    -- region 5, ref.go:39
    refine GS.region (env' := fun fr1 => [(0, .slice oi infos.length ci), (3, .slice ((fr1 7).ob) (((eligTo infos i).length) + ([[.bool (((infos.getD i dI).les) == (lesTo infos infos.length))]] : List (List Value)).length) ((fr1 7).cap)), (6, .slice oi infos.length ci), (7, .int .i64 ((infos.length : Nat) : Int)), (8, .int .i64 ((i : Nat) : Int))]) (mem' := fun fr1 => [(1, .rd oi 6 (encInf infos)), (2, .osl ((fr1 7).ob) ((fr1 7).cap) 4 1 ((encBo (eligTo infos i)) ++ ([[.bool (((infos.getD i dI).les) == (lesTo infos infos.length))]] : List (List Value)))), (3, .cells ((fr0 2).x) 34 [.int .i64 ((infos.getD i dI).les), .int .i64 ((infos.getD i dI).he), .int .i64 ((infos.getD i dI).hn), .int .i64 ((infos.getD i dI).te), .int .i64 ((infos.getD i dI).tn), .int .i64 ((infos.getD i dI).born)]), (4, .osl (some (Addr.mk (fr1 6).x 0 none)) 1 4 1 ([[.bool (((infos.getD i dI).les) == (lesTo infos infos.length))]] : List (List Value)))]) (RunsTo.mkd [(2, { act := .load 3 0 0 [] }), (4, { act := .call [1] (.int .i64 (lesTo infos infos.length)) }), (6, { act := .new (.row 1 1), key := some 4 }), (7, { act := .app (some 4), key := some 2 })] [0, 3, 6, 7, 8] [1, 2, 3, 4] (fun fr1 => [(fr0 2).x = (fr0 2).x, CallOK Try.prog 19 #[.slice oi infos.length ci] (.int .i64 (lesTo infos infos.length)) [some (.rd oi 6 (encInf infos))], (some (Addr.mk (fr1 6).x 0 none)) = (some (Addr.mk (fr1 6).x 0 none)), 1 = ([[.bool (((infos.getD i dI).les) == (lesTo infos infos.length))]] : List (List Value)).length, so = so, sc = sc, (eligTo infos i).length = (encBo (eligTo infos i)).length, ((encBo (eligTo infos i)).length + ([[.bool (((infos.getD i dI).les) == (lesTo infos infos.length))]] : List (List Value)).length) * (1 + 1) ≤ 70368744177664, ([[.bool (((infos.getD i dI).les) == (lesTo infos infos.length))]] : List (List Value)).flatten.all Value.oneCell' = true]) (by kernel_rfl) (by kernel_rfl) (fun fr1 => by kernel_rfl) (fun fr1 => ⟨rfl, lesref_ok oi ci infos (by omega), rfl, rfl, rfl, rfl, encBo_len _, by rw [← encBo_len, eligTo_len]; simp only [List.length_cons, List.length_nil]; omega, rfl, trivial⟩)) ?_
    intro fr1
    refine GS.inBlock ?_
    refine GS.conv (mem' := [(1, .rd oi 6 (encInf infos)), (2, .osl ((fr1 7).ob) ((fr1 7).cap) 4 1 (encBo (eligTo infos (i + 1)))), (3, .cells ((fr0 2).x) 34 [.int .i64 ((infos.getD i dI).les), .int .i64 ((infos.getD i dI).he), .int .i64 ((infos.getD i dI).hn), .int .i64 ((infos.getD i dI).te), .int .i64 ((infos.getD i dI).tn), .int .i64 ((infos.getD i dI).born)]), (4, .osl (some (Addr.mk (fr1 6).x 0 none)) 1 4 1 ([[.bool (((infos.getD i dI).les) == (lesTo infos infos.length))]] : List (List Value)))]) rfl (congrArg (fun rr : List (List Value) => ([(1, .rd oi 6 (encInf infos)), (2, .osl ((fr1 7).ob) ((fr1 7).cap) 4 1 rr), (3, .cells ((fr0 2).x) 34 [.int .i64 ((infos.getD i dI).les), .int .i64 ((infos.getD i dI).he), .int .i64 ((infos.getD i dI).hn), .int .i64 ((infos.getD i dI).te), .int .i64 ((infos.getD i dI).tn), .int .i64 ((infos.getD i dI).born)]), (4, .osl (some (Addr.mk (fr1 6).x 0 none)) 1 4 1 ([[.bool (((infos.getD i dI).les) == (lesTo infos infos.length))]] : List (List Value)))] : List (Nat × Ent))) (show (encBo (eligTo infos i)) ++ ([[.bool (((infos.getD i dI).les) == (lesTo infos infos.length))]] : List (List Value)) = encBo (eligTo infos (i + 1)) from by rw [eligTo, ← encBo_append] <;> rfl)) ?_
    refine GS.conv (env' := [(0, .slice oi infos.length ci), (3, .slice ((fr1 7).ob) ((eligTo infos (i + 1)).length) ((fr1 7).cap)), (6, .slice oi infos.length ci), (7, .int .i64 ((infos.length : Nat) : Int)), (8, .int .i64 ((i : Nat) : Int))]) (congrArg (fun vhole : Value => [(0, .slice oi infos.length ci), (3, vhole), (6, .slice oi infos.length ci), (7, .int .i64 ((infos.length : Nat) : Int)), (8, .int .i64 ((i : Nat) : Int))]) (show ((.slice ((fr1 7).ob) (((eligTo infos i).length) + ([[.bool (((infos.getD i dI).les) == (lesTo infos infos.length))]] : List (List Value)).length) ((fr1 7).cap) : Value) = .slice ((fr1 7).ob) ((eligTo infos (i + 1)).length) ((fr1 7).cap)) from by rw [eligTo_len, eligTo_len] <;> rfl)) rfl ?_
    -- region 6, ref.go:38
    refine GS.region (env' := fun _ => [(0, .slice oi infos.length ci), (3, .slice ((fr1 7).ob) ((eligTo infos (i + 1)).length) ((fr1 7).cap)), (6, .slice oi infos.length ci), (7, .int .i64 ((infos.length : Nat) : Int)), (8, .int .i64 ((i + 1 : Nat) : Int))]) (mem' := fun _ => [(1, .rd oi 6 (encInf infos)), (2, .osl ((fr1 7).ob) ((fr1 7).cap) 4 1 (encBo (eligTo infos (i + 1)))), (3, .cells ((fr0 2).x) 34 [.int .i64 ((infos.getD i dI).les), .int .i64 ((infos.getD i dI).he), .int .i64 ((infos.getD i dI).hn), .int .i64 ((infos.getD i dI).te), .int .i64 ((infos.getD i dI).tn), .int .i64 ((infos.getD i dI).born)]), (4, .osl (some (Addr.mk (fr1 6).x 0 none)) 1 4 1 ([[.bool (((infos.getD i dI).les) == (lesTo infos infos.length))]] : List (List Value)))]) (RunsTo.mk [(0, { sp := some (.int .i64 ((i + 1 : Nat) : Int)) })] [0, 3, 6, 7, 8] [1, 2, 3, 4] (fun _ => [(.int .i64 (IntKind.i64.wrap (((i : Nat) : Int) + 1)) : Value) = .int .i64 ((i + 1 : Nat) : Int)]) (fun _ => by kernel_rfl) (fun _ => ⟨w64 (by omega) (by omega) (by omega), trivial⟩)) ?_
    intro _
    refine GS.inLoop ?_
    refine GS.trim (env' := [(0, .slice oi infos.length ci), (3, .slice ((fr1 7).ob) ((eligTo infos (i + 1)).length) ((fr1 7).cap)), (6, .slice oi infos.length ci), (7, .int .i64 ((infos.length : Nat) : Int)), (8, .int .i64 ((i + 1 : Nat) : Int))]) (mem' := [(1, .rd oi 6 (encInf infos)), (2, .osl ((fr1 7).ob) ((fr1 7).cap) 4 1 (encBo (eligTo infos (i + 1))))]) [0, 3, 6, 7, 8] [1, 2] (by kernel_rfl) (by kernel_rfl) ?_
    exact ih ⟨i + 1, (fr1 7).ob, (fr1 7).cap⟩ (by omega) (show infos.length - (i + 1) < infos.length - (i) from by omega)
  · replace h1 := of_decide_eq_false h1
    have hi2 : i = infos.length := by omega
    refine GS.exit rfl ?_
    refine GS.seq ?_
    -- region 7, ref.go:41
    refine GS.region (env' := fun _ => [(2, .slice so ((eligTo infos i).length) sc)]) (mem' := fun _ => [(1, .rd oi 6 (encInf infos)), (2, .osl so sc 4 1 (encBo (eligTo infos i)))]) (RunsTo.mk [] [2] [1, 2] (fun _ => []) (fun _ => by kernel_rfl) (fun _ => trivial)) ?_
    intro _
    refine GS.ret (fn := Try.f18) [0] [.slice so ((eligTo infos i).length) sc] [] rfl Try.func18 (by kernel_rfl) trivial (fun w' hs => ?_)
    exact ⟨⟨so, sc⟩, by rw [hi2] <;> rfl, by rw [← hi2]; exact hs.turned (ks := [1, 2]) (nodupB_spec rfl) rfl (by intro e he; simp only [List.mem_cons, List.not_mem_nil, or_false] at he; rcases he with rfl | rfl <;> first | exact .inl rfl | exact .inr (by simp))⟩

theorem far_ok (oa ob : Option Addr) (na nb ca cb : Nat) : CallOK Try.prog 7 #[.slice oa na ca, .slice ob nb cb] (.bool (decide (((na : Nat) : Int) > 200) || decide (((nb : Nat) : Int) > 200))) [] := by
  intro w _
  refine GS.start (S := fun _ => False) (mem := []) Try.func7 rfl Try.ntmps7 (Nat.le_of_ble_eq_true rfl) Sat.start ?_
  refine GS.conv (env' := [(0, .slice oa na ca), (1, .slice ob nb cb)]) rfl rfl ?_
  refine GS.seq ?_
  -- region 0, law.go:20
  refine GS.region (env' := fun _ => [(0, .slice oa na ca), (1, .slice ob nb cb)]) (mem' := fun _ => []) (RunsTo.mk [] [0, 1] [] (fun _ => []) (fun _ => by kernel_rfl) (fun _ => trivial)) ?_
  intro _
  refine GS.seq ?_
  -- region 1, law.go:20
  refine GS.region (env' := fun _ => [(4, .bool ((decide (((na : Nat) : Int) > 200)) || (decide (((nb : Nat) : Int) > 200))))]) (mem' := fun _ => []) ?_ ?_
  · rcases Bool.eq_false_or_eq_true (decide (((na : Nat) : Int) > 200)) with hg0 | hg0
    · have hg0' := of_decide_eq_true hg0
      exact RunsTo.mk [(3, { sp := some (.bool true) }), (8, { sp := some (.bool ((decide (((na : Nat) : Int) > 200)) || (decide (((nb : Nat) : Int) > 200)))) })] [4] [] (fun _ => [((.bool (decide (((na : Nat) : Int) > 200))) : Value) = .bool true, ((.bool true) : Value) = .bool ((decide (((na : Nat) : Int) > 200)) || (decide (((nb : Nat) : Int) > 200)))]) (fun _ => by kernel_rfl) (fun _ => ⟨bool_eq (by assumption), bool_eq (by first | (simp only [hg0, Bool.true_and, Bool.false_and, Bool.and_true, Bool.and_false, Bool.true_or, Bool.false_or, Bool.or_true, Bool.or_false, Bool.not_true, Bool.not_false]) | simp [hg0]), trivial⟩)
    · have hg0' := of_decide_eq_false hg0
      exact RunsTo.mk [(3, { sp := some (.bool false) }), (8, { sp := some (.bool ((decide (((na : Nat) : Int) > 200)) || (decide (((nb : Nat) : Int) > 200)))) })] [4] [] (fun _ => [((.bool (decide (((na : Nat) : Int) > 200))) : Value) = .bool false, ((.bool (decide (((nb : Nat) : Int) > 200))) : Value) = .bool ((decide (((na : Nat) : Int) > 200)) || (decide (((nb : Nat) : Int) > 200)))]) (fun _ => by kernel_rfl) (fun _ => ⟨bool_eq (by assumption), bool_eq (by first | (simp only [hg0, Bool.true_and, Bool.false_and, Bool.and_true, Bool.and_false, Bool.true_or, Bool.false_or, Bool.or_true, Bool.or_false, Bool.not_true, Bool.not_false]) | simp [hg0]), trivial⟩)
  intro _
  refine GS.ret (fn := Try.f7) [0] [.bool ((decide (((na : Nat) : Int) > 200)) || (decide (((nb : Nat) : Int) > 200)))] [] rfl Try.func7 (by kernel_rfl) trivial (fun w' hs => ?_)
  exact ⟨rfl, hs.keep⟩

theorem law_les (oi : Option Addr) (ci : Nat) (infos : List Inf) (hl : infos.length ≤ 1048576) : CallOK Try.prog 6 #[.slice oi infos.length ci] (.bool true) [some (.rd oi 6 (encInf infos))] := by
  intro w hr
  refine GS.start (S := fun _ => False) (mem := [(1, .rd oi 6 (encInf infos))]) Try.func6 rfl Try.ntmps6 (Nat.le_of_ble_eq_true rfl) (Sat.startRo (es := [.rd oi 6 (encInf infos)]) hr rfl) ?_
  refine GS.conv (env' := [(0, .slice oi infos.length ci)]) rfl rfl ?_
  refine GS.seq ?_
  -- region 0, law.go:33
  refine GS.region (env' := fun _ => [(0, .slice oi infos.length ci)]) (mem' := fun _ => [(1, .rd oi 6 (encInf infos))]) (RunsTo.mk [] [0] [1] (fun _ => []) (fun _ => by kernel_rfl) (fun _ => trivial)) ?_
  intro _
  refine GS.seq ?_
  refine GS.seq ?_
  -- region 1, law.go:34
  refine GS.region (env' := fun _ => [(0, .slice oi infos.length ci), (7, .bool (decide (((0 : Nat) : Int) > 200) || decide (((infos.length : Nat) : Int) > 200)))]) (mem' := fun _ => [(1, .rd oi 6 (encInf infos))]) (RunsTo.mk [(1, { act := .call [] (.bool (decide (((0 : Nat) : Int) > 200) || decide (((infos.length : Nat) : Int) > 200))) })] [0, 7] [1] (fun _ => [CallOK Try.prog 7 #[.slice none 0 0, .slice oi infos.length ci] (.bool (decide (((0 : Nat) : Int) > 200) || decide (((infos.length : Nat) : Int) > 200))) []]) (fun _ => by kernel_rfl) (fun _ => ⟨far_ok none oi 0 infos.length 0 ci, trivial⟩)) ?_
  intro _
  refine GS.cond (t := decide (((0 : Nat) : Int) > 200) || decide (((infos.length : Nat) : Int) > 200)) rfl rfl (fun h => ?_) (fun h => ?_)
  · replace h := of_decide_eq_true h
    refine GS.seq ?_
    -- region 2, law.go:35
    refine GS.region (env' := fun _ => [(2, .bool true)]) (mem' := fun _ => [(1, .rd oi 6 (encInf infos))]) (RunsTo.mk [(0, { act := .call [] (.bool true) })] [2] [1] (fun _ => [CallOK Try.prog 8 #[] (.bool true) []]) (fun _ => by kernel_rfl) (fun _ => ⟨awake_ok, trivial⟩)) ?_
    intro _
    refine GS.ret (fn := Try.f6) [0] [.bool true] [] rfl Try.func6 (by kernel_rfl) trivial (fun w' hs => ?_)
    exact ⟨rfl, hs.keep⟩
  · replace h := of_decide_eq_false h
    have hfl := eligTo_len infos infos.length
    refine GS.skip ?_
    refine GS.seq ?_
    -- region 3, law.go:37
    refine GS.open_ ?_
    refine GR.run (i := 0) 1 (env' := fun _ => [(0, .slice oi infos.length ci), (9, .slice oi infos.length ci)]) (mem' := fun _ => [(1, .rd oi 6 (encInf infos))]) (Nat.le_of_ble_eq_true (by kernel_rfl)) (RunsTo.mk [] [0, 9] [1] (fun _ => []) (fun _ => by kernel_rfl) (fun _ => trivial)) ?_
    intro _
    refine GR.callT (X := Option Addr × Nat) (i := 1) (g := 17) (args := #[.slice oi infos.length ci]) (v := fun ⟨so1, sc1⟩ => .slice so1 ((eligTo infos infos.length).length) sc1) (es := [.rd oi 6 (encInf infos)]) (es' := fun ⟨so1, sc1⟩ => [.rd oi 6 (encInf infos), .osl so1 sc1 4 1 (encBo (eligTo infos infos.length))]) (mem' := fun ⟨so1, sc1⟩ => [(1, .rd oi 6 (encInf infos)), (2, .osl so1 sc1 4 1 (encBo (eligTo infos infos.length)))]) (env' := fun ⟨so1, sc1⟩ => [(0, .slice oi infos.length ci), (10, .slice so1 ((eligTo infos infos.length).length) sc1)]) [1] [2] [0, 10] [1, 2] (by kernel_rfl) (by kernel_rfl) (by kernel_rfl) (by kernel_rfl) (by kernel_rfl) (by kernel_rfl) (fun _ => rfl) (by rintro ⟨so1, sc1⟩; kernel_rfl) (by rintro ⟨so1, sc1⟩; kernel_rfl) (elig_ok oi ci infos (by omega)) ?_
    rintro ⟨so1, sc1⟩
    refine GR.run (i := 2) 1 (env' := fun _ => [(0, .slice oi infos.length ci), (10, .slice so1 ((eligTo infos infos.length).length) sc1), (11, .slice oi infos.length ci)]) (mem' := fun _ => [(1, .rd oi 6 (encInf infos)), (2, .osl so1 sc1 4 1 (encBo (eligTo infos infos.length)))]) (Nat.le_of_ble_eq_true (by kernel_rfl)) (RunsTo.mk [] [0, 10, 11] [1, 2] (fun _ => []) (fun _ => by kernel_rfl) (fun _ => trivial)) ?_
    intro _
    refine GR.callT (X := Option Addr × Nat) (i := 3) (g := 18) (args := #[.slice oi infos.length ci]) (v := fun ⟨so2, sc2⟩ => .slice so2 ((eligTo infos infos.length).length) sc2) (es := [.rd oi 6 (encInf infos)]) (es' := fun ⟨so2, sc2⟩ => [.rd oi 6 (encInf infos), .osl so2 sc2 4 1 (encBo (eligTo infos infos.length))]) (mem' := fun ⟨so2, sc2⟩ => [(1, .rd oi 6 (encInf infos)), (2, .osl so1 sc1 4 1 (encBo (eligTo infos infos.length))), (3, .osl so2 sc2 4 1 (encBo (eligTo infos infos.length)))]) (env' := fun ⟨so2, sc2⟩ => [(0, .slice oi infos.length ci), (10, .slice so1 ((eligTo infos infos.length).length) sc1), (12, .slice so2 ((eligTo infos infos.length).length) sc2)]) [1] [3] [0, 10, 12] [1, 2, 3] (by kernel_rfl) (by kernel_rfl) (by kernel_rfl) (by kernel_rfl) (by kernel_rfl) (by kernel_rfl) (fun _ => rfl) (by rintro ⟨so2, sc2⟩; kernel_rfl) (by rintro ⟨so2, sc2⟩; kernel_rfl) (eligref_ok oi ci infos (by omega)) ?_
    rintro ⟨so2, sc2⟩
    refine GR.run (i := 4) 2 (env' := fun _ => [(0, .slice oi infos.length ci), (3, .slice so1 ((eligTo infos infos.length).length) sc1), (4, .slice so2 ((eligTo infos infos.length).length) sc2)]) (mem' := fun _ => [(1, .rd oi 6 (encInf infos)), (2, .osl so1 sc1 4 1 (encBo (eligTo infos infos.length))), (3, .osl so2 sc2 4 1 (encBo (eligTo infos infos.length)))]) (Nat.le_of_ble_eq_true (by kernel_rfl)) (RunsTo.mk [] [0, 3, 4] [1, 2, 3] (fun _ => []) (fun _ => by kernel_rfl) (fun _ => trivial)) ?_
    intro _
    refine GR.done (Nat.le_of_ble_eq_true (by kernel_rfl)) ?_
    refine GS.seq ?_
    refine GS.seq ?_
    -- region 4, law.go:38
    refine GS.region (env' := fun _ => [(3, .slice so1 ((eligTo infos infos.length).length) sc1), (4, .slice so2 ((eligTo infos infos.length).length) sc2), (24, .bool false)]) (mem' := fun _ => [(1, .rd oi 6 (encInf infos)), (2, .osl so1 sc1 4 1 (encBo (eligTo infos infos.length))), (3, .osl so2 sc2 4 1 (encBo (eligTo infos infos.length)))]) (RunsTo.mk [(1, { act := .call [1] (.int .i64 (lesTo infos infos.length)) }), (3, { act := .call [1] (.int .i64 (lesTo infos infos.length)) }), (4, { sp := some (.bool false) }), (10, { sp := some (.bool false) })] [3, 4, 24] [1, 2, 3] (fun _ => [CallOK Try.prog 16 #[.slice oi infos.length ci] (.int .i64 (lesTo infos infos.length)) [some (.rd oi 6 (encInf infos))], CallOK Try.prog 19 #[.slice oi infos.length ci] (.int .i64 (lesTo infos infos.length)) [some (.rd oi 6 (encInf infos))], (.bool ((lesTo infos infos.length) != (lesTo infos infos.length)) : Value) = .bool false, (.bool ((((eligTo infos infos.length).length : Nat) : Int) != (((eligTo infos infos.length).length : Nat) : Int)) : Value) = .bool false]) (fun _ => by kernel_rfl) (fun _ => ⟨les_ok oi ci infos (by omega), lesref_ok oi ci infos (by omega), bool_eq (by simp), bool_eq (by simp), trivial⟩)) ?_
    intro _
    refine GS.cond (t := false) rfl rfl (fun hf => by cases hf) (fun _ => ?_)
    refine GS.skip ?_
    refine GS.seq ?_
    refine GS.seq ?_
    -- region 6, law.go:41
    refine GS.region (env' := fun _ => [(3, .slice so1 ((eligTo infos infos.length).length) sc1), (4, .slice so2 ((eligTo infos infos.length).length) sc2), (26, .int .i64 (((eligTo infos infos.length).length : Nat) : Int)), (27, .int .i64 ((0 : Nat) : Int))]) (mem' := fun _ => [(1, .rd oi 6 (encInf infos)), (2, .osl so1 sc1 4 1 (encBo (eligTo infos infos.length))), (3, .osl so2 sc2 4 1 (encBo (eligTo infos infos.length)))]) (RunsTo.mk [(2, { sp := some (.int .i64 ((0 : Nat) : Int)) })] [3, 4, 26, 27] [1, 2, 3] (fun _ => [(.int .i64 0 : Value) = .int .i64 ((0 : Nat) : Int)]) (fun _ => by kernel_rfl) (fun _ => ⟨rfl, trivial⟩)) ?_
    intro _
    refine GS.block ?_
    refine GS.loop ?_
    refine GS.loopInv (ι := Nat) (I := fun (i : Nat) => i ≤ infos.length) (μ := fun (i : Nat) => infos.length - (i)) (E := fun (i : Nat) => [(3, .slice so1 ((eligTo infos infos.length).length) sc1), (4, .slice so2 ((eligTo infos infos.length).length) sc2), (26, .int .i64 (((eligTo infos infos.length).length : Nat) : Int)), (27, .int .i64 ((i : Nat) : Int))]) (M := fun (i : Nat) => [(1, .rd oi 6 (encInf infos)), (2, .osl so1 sc1 4 1 (encBo (eligTo infos infos.length))), (3, .osl so2 sc2 4 1 (encBo (eligTo infos infos.length)))]) ?_ 0 (Nat.zero_le _)
    rintro i hi ih
    refine GS.seq ?_
    -- region 7, law.go:41
    refine GS.region (env' := fun _ => [(3, .slice so1 ((eligTo infos infos.length).length) sc1), (4, .slice so2 ((eligTo infos infos.length).length) sc2), (26, .int .i64 (((eligTo infos infos.length).length : Nat) : Int)), (27, .int .i64 ((i : Nat) : Int)), (28, .bool (decide (((i : Nat) : Int) < (((eligTo infos infos.length).length : Nat) : Int))))]) (mem' := fun _ => [(1, .rd oi 6 (encInf infos)), (2, .osl so1 sc1 4 1 (encBo (eligTo infos infos.length))), (3, .osl so2 sc2 4 1 (encBo (eligTo infos infos.length)))]) (RunsTo.mk [] [3, 4, 26, 27, 28] [1, 2, 3] (fun _ => []) (fun _ => by kernel_rfl) (fun _ => trivial)) ?_
    intro _
    refine GS.seq ?_
    refine GS.cond (t := decide (((i : Nat) : Int) < (((eligTo infos infos.length).length : Nat) : Int))) rfl rfl (fun h1 => ?_) (fun h1 => ?_)
    · replace h1 := of_decide_eq_true h1
      refine GS.skip ?_
      refine GS.seq ?_
      refine GS.block ?_
      refine GS.seq ?_
      -- region 8, law.go:41
      refine GS.region (env' := fun _ => [(3, .slice so1 ((eligTo infos infos.length).length) sc1), (4, .slice so2 ((eligTo infos infos.length).length) sc2), (5, .int .i64 ((i : Nat) : Int)), (26, .int .i64 (((eligTo infos infos.length).length : Nat) : Int)), (27, .int .i64 ((i : Nat) : Int))]) (mem' := fun _ => [(1, .rd oi 6 (encInf infos)), (2, .osl so1 sc1 4 1 (encBo (eligTo infos infos.length))), (3, .osl so2 sc2 4 1 (encBo (eligTo infos infos.length)))]) (RunsTo.mk [] [3, 4, 5, 26, 27] [1, 2, 3] (fun _ => []) (fun _ => by kernel_rfl) (fun _ => trivial)) ?_
      intro _
      refine GS.seq ?_
      -- region 9, law.go:42
      refine GS.region (env' := fun _ => [(3, .slice so1 ((eligTo infos infos.length).length) sc1), (4, .slice so2 ((eligTo infos infos.length).length) sc2), (26, .int .i64 (((eligTo infos infos.length).length : Nat) : Int)), (27, .int .i64 ((i : Nat) : Int)), (38, .bool false)]) (mem' := fun _ => [(1, .rd oi 6 (encInf infos)), (2, .osl so1 sc1 4 1 (encBo (eligTo infos infos.length))), (3, .osl so2 sc2 4 1 (encBo (eligTo infos infos.length)))]) (RunsTo.mkd [(2, { act := .idx 2 i }), (3, { act := .load 2 i 0 [.bool ((eligTo infos infos.length).getD i false)] }), (6, { act := .idx 3 i }), (7, { act := .load 3 i 0 [.bool ((eligTo infos infos.length).getD i false)] }), (8, { sp := some (.bool false) })] [3, 4, 26, 27, 38] [1, 2, 3] (fun _ => [so1 = so1, (eligTo infos infos.length).length = (encBo (eligTo infos infos.length)).length, (((i : Nat) : Int) : Int) = ((i : Nat) : Int), i < (eligTo infos infos.length).length, blk so1 = blk so1, offs so1 + i * 1 = offs so1 + (i * 1 + 0), (encBo (eligTo infos infos.length))[i]? = some [.bool ((eligTo infos infos.length).getD i false)], so2 = so2, (eligTo infos infos.length).length = (encBo (eligTo infos infos.length)).length, (((i : Nat) : Int) : Int) = ((i : Nat) : Int), i < (eligTo infos infos.length).length, blk so2 = blk so2, offs so2 + i * 1 = offs so2 + (i * 1 + 0), (encBo (eligTo infos infos.length))[i]? = some [.bool ((eligTo infos infos.length).getD i false)], (.bool (!(((eligTo infos infos.length).getD i false) == ((eligTo infos infos.length).getD i false))) : Value) = .bool false]) (by kernel_rfl) (by kernel_rfl) (fun _ => by kernel_rfl) (fun _ => ⟨rfl, encBo_len _, rfl, by omega, rfl, rfl, encBo_at (by omega), rfl, encBo_len _, rfl, by omega, rfl, rfl, encBo_at (by omega), bool_eq (by simp), trivial⟩)) ?_
      intro _
      refine GS.cond (t := false) rfl rfl (fun hf => by cases hf) (fun _ => ?_)
      refine GS.skip ?_
      refine GS.inBlock ?_
      -- region 11, law.go:41
      refine GS.region (env' := fun _ => [(3, .slice so1 ((eligTo infos infos.length).length) sc1), (4, .slice so2 ((eligTo infos infos.length).length) sc2), (26, .int .i64 (((eligTo infos infos.length).length : Nat) : Int)), (27, .int .i64 ((i + 1 : Nat) : Int))]) (mem' := fun _ => [(1, .rd oi 6 (encInf infos)), (2, .osl so1 sc1 4 1 (encBo (eligTo infos infos.length))), (3, .osl so2 sc2 4 1 (encBo (eligTo infos infos.length)))]) (RunsTo.mk [(0, { sp := some (.int .i64 ((i + 1 : Nat) : Int)) })] [3, 4, 26, 27] [1, 2, 3] (fun _ => [(.int .i64 (IntKind.i64.wrap (((i : Nat) : Int) + 1)) : Value) = .int .i64 ((i + 1 : Nat) : Int)]) (fun _ => by kernel_rfl) (fun _ => ⟨w64 (by omega) (by omega) (by omega), trivial⟩)) ?_
      intro _
      refine GS.inLoop ?_
      exact ih (i + 1) (by omega) (show infos.length - (i + 1) < infos.length - (i) from by omega)
    · replace h1 := of_decide_eq_false h1
      refine GS.exit rfl ?_
      refine GS.seq ?_
      -- region 12, law.go:46
      refine GS.region (env' := fun _ => [(2, .bool true)]) (mem' := fun _ => [(1, .rd oi 6 (encInf infos)), (2, .osl so1 sc1 4 1 (encBo (eligTo infos infos.length))), (3, .osl so2 sc2 4 1 (encBo (eligTo infos infos.length)))]) (RunsTo.mk [(0, { act := .call [] (.bool true) })] [2] [1, 2, 3] (fun _ => [CallOK Try.prog 8 #[] (.bool true) []]) (fun _ => by kernel_rfl) (fun _ => ⟨awake_ok, trivial⟩)) ?_
      intro _
      refine GS.ret (fn := Try.f6) [0] [.bool true] [] rfl Try.func6 (by kernel_rfl) trivial (fun w' hs => ?_)
      exact ⟨rfl, hs.keep⟩

theorem law_orders (x y z : Inf) : CallOK Try.prog 4 #[.agg #[.int .i64 x.les, .int .i64 x.he, .int .i64 x.hn, .int .i64 x.te, .int .i64 x.tn, .int .i64 x.born], .agg #[.int .i64 y.les, .int .i64 y.he, .int .i64 y.hn, .int .i64 y.te, .int .i64 y.tn, .int .i64 y.born], .agg #[.int .i64 z.les, .int .i64 z.he, .int .i64 z.hn, .int .i64 z.te, .int .i64 z.tn, .int .i64 z.born]] (.bool true) [] := by
  intro w _
  refine GS.start (S := fun _ => False) (mem := []) Try.func4 rfl Try.ntmps4 (Nat.le_of_ble_eq_true rfl) Sat.start ?_
  refine GS.conv (env' := [(0, .agg #[.int .i64 x.les, .int .i64 x.he, .int .i64 x.hn, .int .i64 x.te, .int .i64 x.tn, .int .i64 x.born]), (1, .agg #[.int .i64 y.les, .int .i64 y.he, .int .i64 y.hn, .int .i64 y.te, .int .i64 y.tn, .int .i64 y.born]), (2, .agg #[.int .i64 z.les, .int .i64 z.he, .int .i64 z.hn, .int .i64 z.te, .int .i64 z.tn, .int .i64 z.born])]) rfl rfl ?_
  have hba := infF_anti x y
  have hxx := infF_self x
  have hr := infF_range x y
  obtain ⟨ht1, ht2⟩ := infF_trans x y z
  refine GS.seq ?_
  -- region 0, law.go:50
  refine GS.region (env' := fun fr0 => [(3, .pointer (some ⟨(fr0 0).x, 0, none⟩)), (4, .pointer (some ⟨(fr0 1).x, 0, none⟩)), (5, .pointer (some ⟨(fr0 2).x, 0, none⟩))]) (mem' := fun fr0 => [(1, .cells ((fr0 0).x) 34 [.int .i64 x.les, .int .i64 x.he, .int .i64 x.hn, .int .i64 x.te, .int .i64 x.tn, .int .i64 x.born]), (2, .cells ((fr0 1).x) 34 [.int .i64 y.les, .int .i64 y.he, .int .i64 y.hn, .int .i64 y.te, .int .i64 y.tn, .int .i64 y.born]), (3, .cells ((fr0 2).x) 34 [.int .i64 z.les, .int .i64 z.he, .int .i64 z.hn, .int .i64 z.te, .int .i64 z.tn, .int .i64 z.born])]) (RunsTo.mk [(0, { act := .new .var, key := some 1 }), (1, { act := .new .var, key := some 2 }), (2, { act := .new .var, key := some 3 })] [3, 4, 5] [1, 2, 3] (fun fr0 => []) (fun fr0 => by kernel_rfl) (fun fr0 => trivial)) ?_
  intro fr0
  refine GS.seq ?_
  -- region 1, law.go:51
  refine GS.region (env' := fun _ => [(3, .pointer (some ⟨(fr0 0).x, 0, none⟩)), (4, .pointer (some ⟨(fr0 1).x, 0, none⟩)), (7, .int .i64 (infF x y)), (8, .int .i64 (infF y z)), (9, .int .i64 (infF x z))]) (mem' := fun _ => [(1, .cells ((fr0 0).x) 34 [.int .i64 x.les, .int .i64 x.he, .int .i64 x.hn, .int .i64 x.te, .int .i64 x.tn, .int .i64 x.born]), (2, .cells ((fr0 1).x) 34 [.int .i64 y.les, .int .i64 y.he, .int .i64 y.hn, .int .i64 y.te, .int .i64 y.tn, .int .i64 y.born]), (3, .cells ((fr0 2).x) 34 [.int .i64 z.les, .int .i64 z.he, .int .i64 z.hn, .int .i64 z.te, .int .i64 z.tn, .int .i64 z.born])]) (RunsTo.mkd [(0, { act := .load 1 0 0 [] }), (1, { act := .load 2 0 0 [] }), (2, { act := .call [] (.int .i64 (infF x y)) }), (3, { act := .load 2 0 0 [] }), (4, { act := .load 3 0 0 [] }), (5, { act := .call [] (.int .i64 (infF y z)) }), (6, { act := .load 1 0 0 [] }), (7, { act := .load 3 0 0 [] }), (8, { act := .call [] (.int .i64 (infF x z)) })] [3, 4, 7, 8, 9] [1, 2, 3] (fun _ => [(fr0 0).x = (fr0 0).x, (fr0 1).x = (fr0 1).x, CallOK Try.prog 14 #[.agg #[.int .i64 x.les, .int .i64 x.he, .int .i64 x.hn, .int .i64 x.te, .int .i64 x.tn, .int .i64 x.born], .agg #[.int .i64 y.les, .int .i64 y.he, .int .i64 y.hn, .int .i64 y.te, .int .i64 y.tn, .int .i64 y.born]] (.int .i64 (infF x y)) [], (fr0 1).x = (fr0 1).x, (fr0 2).x = (fr0 2).x, CallOK Try.prog 14 #[.agg #[.int .i64 y.les, .int .i64 y.he, .int .i64 y.hn, .int .i64 y.te, .int .i64 y.tn, .int .i64 y.born], .agg #[.int .i64 z.les, .int .i64 z.he, .int .i64 z.hn, .int .i64 z.te, .int .i64 z.tn, .int .i64 z.born]] (.int .i64 (infF y z)) [], (fr0 0).x = (fr0 0).x, (fr0 2).x = (fr0 2).x, CallOK Try.prog 14 #[.agg #[.int .i64 x.les, .int .i64 x.he, .int .i64 x.hn, .int .i64 x.te, .int .i64 x.tn, .int .i64 x.born], .agg #[.int .i64 z.les, .int .i64 z.he, .int .i64 z.hn, .int .i64 z.te, .int .i64 z.tn, .int .i64 z.born]] (.int .i64 (infF x z)) []]) (by kernel_rfl) (by kernel_rfl) (fun _ => by kernel_rfl) (fun _ => ⟨rfl, rfl, infcmp_ok x y, rfl, rfl, infcmp_ok y z, rfl, rfl, infcmp_ok x z, trivial⟩)) ?_
  intro _
  refine GS.seq ?_
  refine GS.seq ?_
  -- region 2, law.go:52
  refine GS.region (env' := fun _ => [(7, .int .i64 (infF x y)), (8, .int .i64 (infF y z)), (9, .int .i64 (infF x z)), (37, .bool false)]) (mem' := fun _ => [(1, .cells ((fr0 0).x) 34 [.int .i64 x.les, .int .i64 x.he, .int .i64 x.hn, .int .i64 x.te, .int .i64 x.tn, .int .i64 x.born]), (2, .cells ((fr0 1).x) 34 [.int .i64 y.les, .int .i64 y.he, .int .i64 y.hn, .int .i64 y.te, .int .i64 y.tn, .int .i64 y.born]), (3, .cells ((fr0 2).x) 34 [.int .i64 z.les, .int .i64 z.he, .int .i64 z.hn, .int .i64 z.te, .int .i64 z.tn, .int .i64 z.born])]) (RunsTo.mk [(1, { act := .load 1 0 0 [] }), (2, { act := .load 2 0 0 [] }), (3, { act := .call [] (.int .i64 (infF x y)) }), (4, { sp := some (.bool false) }), (6, { act := .load 2 0 0 [] }), (7, { act := .load 1 0 0 [] }), (8, { act := .call [] (.int .i64 (infF y x)) }), (10, { sp := some (.int .i64 (0 - (infF x y))) }), (11, { sp := some (.bool false) }), (14, { act := .load 1 0 0 [] }), (15, { act := .load 1 0 0 [] }), (16, { act := .call [] (.int .i64 (infF x x)) }), (17, { sp := some (.bool false) })] [7, 8, 9, 37] [1, 2, 3] (fun _ => [(fr0 0).x = (fr0 0).x, (fr0 1).x = (fr0 1).x, CallOK Try.prog 15 #[.agg #[.int .i64 x.les, .int .i64 x.he, .int .i64 x.hn, .int .i64 x.te, .int .i64 x.tn, .int .i64 x.born], .agg #[.int .i64 y.les, .int .i64 y.he, .int .i64 y.hn, .int .i64 y.te, .int .i64 y.tn, .int .i64 y.born]] (.int .i64 (infF x y)) [], (.bool ((infF x y) != (infF x y)) : Value) = .bool false, (fr0 1).x = (fr0 1).x, (fr0 0).x = (fr0 0).x, CallOK Try.prog 14 #[.agg #[.int .i64 y.les, .int .i64 y.he, .int .i64 y.hn, .int .i64 y.te, .int .i64 y.tn, .int .i64 y.born], .agg #[.int .i64 x.les, .int .i64 x.he, .int .i64 x.hn, .int .i64 x.te, .int .i64 x.tn, .int .i64 x.born]] (.int .i64 (infF y x)) [], ((.int .i64 (IntKind.i64.wrap (0 - (infF x y)))) : Value) = .int .i64 (0 - (infF x y)), (.bool ((infF y x) != (0 - (infF x y))) : Value) = .bool false, (fr0 0).x = (fr0 0).x, (fr0 0).x = (fr0 0).x, CallOK Try.prog 14 #[.agg #[.int .i64 x.les, .int .i64 x.he, .int .i64 x.hn, .int .i64 x.te, .int .i64 x.tn, .int .i64 x.born], .agg #[.int .i64 x.les, .int .i64 x.he, .int .i64 x.hn, .int .i64 x.te, .int .i64 x.tn, .int .i64 x.born]] (.int .i64 (infF x x)) [], (.bool ((infF x x) != 0) : Value) = .bool false]) (fun _ => by kernel_rfl) (fun _ => ⟨rfl, rfl, infcmpref_ok x y, bool_eq (by simp), rfl, rfl, infcmp_ok y x, w64 rfl (by omega) (by omega), bool_eq (by rw [hba]; simp), rfl, rfl, infcmp_ok x x, bool_eq (by rw [hxx] <;> rfl), trivial⟩)) ?_
  intro _
  refine GS.cond (t := false) rfl rfl (fun hf => by cases hf) (fun _ => ?_)
  obtain ⟨u, hu⟩ : ∃ u, u = infF x y := ⟨_, rfl⟩
  obtain ⟨v, hv⟩ : ∃ v, v = infF y z := ⟨_, rfl⟩
  obtain ⟨q, hq⟩ : ∃ q, q = infF x z := ⟨_, rfl⟩
  rw [← hu, ← hv, ← hq] at ht1 ht2
  refine GS.conv (env' := [(7, .int .i64 u), (8, .int .i64 (infF y z)), (9, .int .i64 (infF x z)), (37, .bool false)]) (congrArg (fun vhole : Value => [(7, vhole), (8, .int .i64 (infF y z)), (9, .int .i64 (infF x z)), (37, .bool false)]) (show ((.int .i64 (infF x y) : Value) = .int .i64 u) from int_eq hu.symm)) rfl ?_
  refine GS.conv (env' := [(7, .int .i64 u), (8, .int .i64 v), (9, .int .i64 (infF x z)), (37, .bool false)]) (congrArg (fun vhole : Value => [(7, .int .i64 u), (8, vhole), (9, .int .i64 (infF x z)), (37, .bool false)]) (show ((.int .i64 (infF y z) : Value) = .int .i64 v) from int_eq hv.symm)) rfl ?_
  refine GS.conv (env' := [(7, .int .i64 u), (8, .int .i64 v), (9, .int .i64 q), (37, .bool false)]) (congrArg (fun vhole : Value => [(7, .int .i64 u), (8, .int .i64 v), (9, vhole), (37, .bool false)]) (show ((.int .i64 (infF x z) : Value) = .int .i64 q) from int_eq hq.symm)) rfl ?_
  refine GS.skip ?_
  refine GS.seq ?_
  by_cases k1 : u < 0
  · skip
    by_cases k3 : u > 0
    · skip
      -- region 4, law.go:55
      refine GS.region (env' := fun _ => [(6, .bool true)]) (mem' := fun _ => [(1, .cells ((fr0 0).x) 34 [.int .i64 x.les, .int .i64 x.he, .int .i64 x.hn, .int .i64 x.te, .int .i64 x.tn, .int .i64 x.born]), (2, .cells ((fr0 1).x) 34 [.int .i64 y.les, .int .i64 y.he, .int .i64 y.hn, .int .i64 y.te, .int .i64 y.tn, .int .i64 y.born]), (3, .cells ((fr0 2).x) 34 [.int .i64 z.les, .int .i64 z.he, .int .i64 z.hn, .int .i64 z.te, .int .i64 z.tn, .int .i64 z.born])]) (RunsTo.mk [(1, { sp := some (.bool true) }), (12, { sp := some (.bool true) }), (23, { act := .call [] (.bool true) })] [6] [1, 2, 3] (fun _ => [(.bool (decide (u < 0)) : Value) = .bool true, (.bool (decide (u > 0)) : Value) = .bool true, CallOK Try.prog 8 #[] (.bool true) []]) (fun _ => by kernel_rfl) (fun _ => ⟨bool_eq (decide_eq_true (by omega)), bool_eq (decide_eq_true (by omega)), awake_ok, trivial⟩)) ?_
      intro _
      refine GS.ret (fn := Try.f4) [0] [.bool true] [] rfl Try.func4 (by kernel_rfl) trivial (fun w' hs => ?_)
      exact ⟨rfl, hs.keep⟩
    · skip
      by_cases k4 : v > 0
      · skip
        -- region 4, law.go:55
        refine GS.region (env' := fun _ => [(6, .bool true)]) (mem' := fun _ => [(1, .cells ((fr0 0).x) 34 [.int .i64 x.les, .int .i64 x.he, .int .i64 x.hn, .int .i64 x.te, .int .i64 x.tn, .int .i64 x.born]), (2, .cells ((fr0 1).x) 34 [.int .i64 y.les, .int .i64 y.he, .int .i64 y.hn, .int .i64 y.te, .int .i64 y.tn, .int .i64 y.born]), (3, .cells ((fr0 2).x) 34 [.int .i64 z.les, .int .i64 z.he, .int .i64 z.hn, .int .i64 z.te, .int .i64 z.tn, .int .i64 z.born])]) (RunsTo.mk [(1, { sp := some (.bool true) }), (12, { sp := some (.bool false) }), (15, { sp := some (.bool true) }), (23, { act := .call [] (.bool true) })] [6] [1, 2, 3] (fun _ => [(.bool (decide (u < 0)) : Value) = .bool true, (.bool (decide (u > 0)) : Value) = .bool false, (.bool (decide (v > 0)) : Value) = .bool true, CallOK Try.prog 8 #[] (.bool true) []]) (fun _ => by kernel_rfl) (fun _ => ⟨bool_eq (decide_eq_true (by omega)), bool_eq (decide_eq_false (by omega)), bool_eq (decide_eq_true (by omega)), awake_ok, trivial⟩)) ?_
        intro _
        refine GS.ret (fn := Try.f4) [0] [.bool true] [] rfl Try.func4 (by kernel_rfl) trivial (fun w' hs => ?_)
        exact ⟨rfl, hs.keep⟩
      · skip
        -- region 4, law.go:55
        refine GS.region (env' := fun _ => [(6, .bool true)]) (mem' := fun _ => [(1, .cells ((fr0 0).x) 34 [.int .i64 x.les, .int .i64 x.he, .int .i64 x.hn, .int .i64 x.te, .int .i64 x.tn, .int .i64 x.born]), (2, .cells ((fr0 1).x) 34 [.int .i64 y.les, .int .i64 y.he, .int .i64 y.hn, .int .i64 y.te, .int .i64 y.tn, .int .i64 y.born]), (3, .cells ((fr0 2).x) 34 [.int .i64 z.les, .int .i64 z.he, .int .i64 z.hn, .int .i64 z.te, .int .i64 z.tn, .int .i64 z.born])]) (RunsTo.mk [(1, { sp := some (.bool true) }), (12, { sp := some (.bool false) }), (15, { sp := some (.bool false) }), (19, { sp := some (.bool true) }), (23, { act := .call [] (.bool true) })] [6] [1, 2, 3] (fun _ => [(.bool (decide (u < 0)) : Value) = .bool true, (.bool (decide (u > 0)) : Value) = .bool false, (.bool (decide (v > 0)) : Value) = .bool false, (.bool (decide (q ≤ 0)) : Value) = .bool true, CallOK Try.prog 8 #[] (.bool true) []]) (fun _ => by kernel_rfl) (fun _ => ⟨bool_eq (decide_eq_true (by omega)), bool_eq (decide_eq_false (by omega)), bool_eq (decide_eq_false (by omega)), bool_eq (decide_eq_true (by omega)), awake_ok, trivial⟩)) ?_
        intro _
        refine GS.ret (fn := Try.f4) [0] [.bool true] [] rfl Try.func4 (by kernel_rfl) trivial (fun w' hs => ?_)
        exact ⟨rfl, hs.keep⟩
  · skip
    by_cases k2 : v < 0
    · skip
      by_cases k3 : u > 0
      · skip
        -- region 4, law.go:55
        refine GS.region (env' := fun _ => [(6, .bool true)]) (mem' := fun _ => [(1, .cells ((fr0 0).x) 34 [.int .i64 x.les, .int .i64 x.he, .int .i64 x.hn, .int .i64 x.te, .int .i64 x.tn, .int .i64 x.born]), (2, .cells ((fr0 1).x) 34 [.int .i64 y.les, .int .i64 y.he, .int .i64 y.hn, .int .i64 y.te, .int .i64 y.tn, .int .i64 y.born]), (3, .cells ((fr0 2).x) 34 [.int .i64 z.les, .int .i64 z.he, .int .i64 z.hn, .int .i64 z.te, .int .i64 z.tn, .int .i64 z.born])]) (RunsTo.mk [(1, { sp := some (.bool false) }), (4, { sp := some (.bool true) }), (12, { sp := some (.bool true) }), (23, { act := .call [] (.bool true) })] [6] [1, 2, 3] (fun _ => [(.bool (decide (u < 0)) : Value) = .bool false, (.bool (decide (v < 0)) : Value) = .bool true, (.bool (decide (u > 0)) : Value) = .bool true, CallOK Try.prog 8 #[] (.bool true) []]) (fun _ => by kernel_rfl) (fun _ => ⟨bool_eq (decide_eq_false (by omega)), bool_eq (decide_eq_true (by omega)), bool_eq (decide_eq_true (by omega)), awake_ok, trivial⟩)) ?_
        intro _
        refine GS.ret (fn := Try.f4) [0] [.bool true] [] rfl Try.func4 (by kernel_rfl) trivial (fun w' hs => ?_)
        exact ⟨rfl, hs.keep⟩
      · skip
        by_cases k4 : v > 0
        · skip
          -- region 4, law.go:55
          refine GS.region (env' := fun _ => [(6, .bool true)]) (mem' := fun _ => [(1, .cells ((fr0 0).x) 34 [.int .i64 x.les, .int .i64 x.he, .int .i64 x.hn, .int .i64 x.te, .int .i64 x.tn, .int .i64 x.born]), (2, .cells ((fr0 1).x) 34 [.int .i64 y.les, .int .i64 y.he, .int .i64 y.hn, .int .i64 y.te, .int .i64 y.tn, .int .i64 y.born]), (3, .cells ((fr0 2).x) 34 [.int .i64 z.les, .int .i64 z.he, .int .i64 z.hn, .int .i64 z.te, .int .i64 z.tn, .int .i64 z.born])]) (RunsTo.mk [(1, { sp := some (.bool false) }), (4, { sp := some (.bool true) }), (12, { sp := some (.bool false) }), (15, { sp := some (.bool true) }), (23, { act := .call [] (.bool true) })] [6] [1, 2, 3] (fun _ => [(.bool (decide (u < 0)) : Value) = .bool false, (.bool (decide (v < 0)) : Value) = .bool true, (.bool (decide (u > 0)) : Value) = .bool false, (.bool (decide (v > 0)) : Value) = .bool true, CallOK Try.prog 8 #[] (.bool true) []]) (fun _ => by kernel_rfl) (fun _ => ⟨bool_eq (decide_eq_false (by omega)), bool_eq (decide_eq_true (by omega)), bool_eq (decide_eq_false (by omega)), bool_eq (decide_eq_true (by omega)), awake_ok, trivial⟩)) ?_
          intro _
          refine GS.ret (fn := Try.f4) [0] [.bool true] [] rfl Try.func4 (by kernel_rfl) trivial (fun w' hs => ?_)
          exact ⟨rfl, hs.keep⟩
        · skip
          -- region 4, law.go:55
          refine GS.region (env' := fun _ => [(6, .bool true)]) (mem' := fun _ => [(1, .cells ((fr0 0).x) 34 [.int .i64 x.les, .int .i64 x.he, .int .i64 x.hn, .int .i64 x.te, .int .i64 x.tn, .int .i64 x.born]), (2, .cells ((fr0 1).x) 34 [.int .i64 y.les, .int .i64 y.he, .int .i64 y.hn, .int .i64 y.te, .int .i64 y.tn, .int .i64 y.born]), (3, .cells ((fr0 2).x) 34 [.int .i64 z.les, .int .i64 z.he, .int .i64 z.hn, .int .i64 z.te, .int .i64 z.tn, .int .i64 z.born])]) (RunsTo.mk [(1, { sp := some (.bool false) }), (4, { sp := some (.bool true) }), (12, { sp := some (.bool false) }), (15, { sp := some (.bool false) }), (19, { sp := some (.bool true) }), (23, { act := .call [] (.bool true) })] [6] [1, 2, 3] (fun _ => [(.bool (decide (u < 0)) : Value) = .bool false, (.bool (decide (v < 0)) : Value) = .bool true, (.bool (decide (u > 0)) : Value) = .bool false, (.bool (decide (v > 0)) : Value) = .bool false, (.bool (decide (q ≤ 0)) : Value) = .bool true, CallOK Try.prog 8 #[] (.bool true) []]) (fun _ => by kernel_rfl) (fun _ => ⟨bool_eq (decide_eq_false (by omega)), bool_eq (decide_eq_true (by omega)), bool_eq (decide_eq_false (by omega)), bool_eq (decide_eq_false (by omega)), bool_eq (decide_eq_true (by omega)), awake_ok, trivial⟩)) ?_
          intro _
          refine GS.ret (fn := Try.f4) [0] [.bool true] [] rfl Try.func4 (by kernel_rfl) trivial (fun w' hs => ?_)
          exact ⟨rfl, hs.keep⟩
    · skip
      by_cases k3 : u > 0
      · skip
        -- region 4, law.go:55
        refine GS.region (env' := fun _ => [(6, .bool true)]) (mem' := fun _ => [(1, .cells ((fr0 0).x) 34 [.int .i64 x.les, .int .i64 x.he, .int .i64 x.hn, .int .i64 x.te, .int .i64 x.tn, .int .i64 x.born]), (2, .cells ((fr0 1).x) 34 [.int .i64 y.les, .int .i64 y.he, .int .i64 y.hn, .int .i64 y.te, .int .i64 y.tn, .int .i64 y.born]), (3, .cells ((fr0 2).x) 34 [.int .i64 z.les, .int .i64 z.he, .int .i64 z.hn, .int .i64 z.te, .int .i64 z.tn, .int .i64 z.born])]) (RunsTo.mk [(1, { sp := some (.bool false) }), (4, { sp := some (.bool false) }), (8, { sp := some (.bool true) }), (12, { sp := some (.bool true) }), (23, { act := .call [] (.bool true) })] [6] [1, 2, 3] (fun _ => [(.bool (decide (u < 0)) : Value) = .bool false, (.bool (decide (v < 0)) : Value) = .bool false, (.bool (decide (q ≥ 0)) : Value) = .bool true, (.bool (decide (u > 0)) : Value) = .bool true, CallOK Try.prog 8 #[] (.bool true) []]) (fun _ => by kernel_rfl) (fun _ => ⟨bool_eq (decide_eq_false (by omega)), bool_eq (decide_eq_false (by omega)), bool_eq (decide_eq_true (by omega)), bool_eq (decide_eq_true (by omega)), awake_ok, trivial⟩)) ?_
        intro _
        refine GS.ret (fn := Try.f4) [0] [.bool true] [] rfl Try.func4 (by kernel_rfl) trivial (fun w' hs => ?_)
        exact ⟨rfl, hs.keep⟩
      · skip
        by_cases k4 : v > 0
        · skip
          -- region 4, law.go:55
          refine GS.region (env' := fun _ => [(6, .bool true)]) (mem' := fun _ => [(1, .cells ((fr0 0).x) 34 [.int .i64 x.les, .int .i64 x.he, .int .i64 x.hn, .int .i64 x.te, .int .i64 x.tn, .int .i64 x.born]), (2, .cells ((fr0 1).x) 34 [.int .i64 y.les, .int .i64 y.he, .int .i64 y.hn, .int .i64 y.te, .int .i64 y.tn, .int .i64 y.born]), (3, .cells ((fr0 2).x) 34 [.int .i64 z.les, .int .i64 z.he, .int .i64 z.hn, .int .i64 z.te, .int .i64 z.tn, .int .i64 z.born])]) (RunsTo.mk [(1, { sp := some (.bool false) }), (4, { sp := some (.bool false) }), (8, { sp := some (.bool true) }), (12, { sp := some (.bool false) }), (15, { sp := some (.bool true) }), (23, { act := .call [] (.bool true) })] [6] [1, 2, 3] (fun _ => [(.bool (decide (u < 0)) : Value) = .bool false, (.bool (decide (v < 0)) : Value) = .bool false, (.bool (decide (q ≥ 0)) : Value) = .bool true, (.bool (decide (u > 0)) : Value) = .bool false, (.bool (decide (v > 0)) : Value) = .bool true, CallOK Try.prog 8 #[] (.bool true) []]) (fun _ => by kernel_rfl) (fun _ => ⟨bool_eq (decide_eq_false (by omega)), bool_eq (decide_eq_false (by omega)), bool_eq (decide_eq_true (by omega)), bool_eq (decide_eq_false (by omega)), bool_eq (decide_eq_true (by omega)), awake_ok, trivial⟩)) ?_
          intro _
          refine GS.ret (fn := Try.f4) [0] [.bool true] [] rfl Try.func4 (by kernel_rfl) trivial (fun w' hs => ?_)
          exact ⟨rfl, hs.keep⟩
        · skip
          -- region 4, law.go:55
          refine GS.region (env' := fun _ => [(6, .bool true)]) (mem' := fun _ => [(1, .cells ((fr0 0).x) 34 [.int .i64 x.les, .int .i64 x.he, .int .i64 x.hn, .int .i64 x.te, .int .i64 x.tn, .int .i64 x.born]), (2, .cells ((fr0 1).x) 34 [.int .i64 y.les, .int .i64 y.he, .int .i64 y.hn, .int .i64 y.te, .int .i64 y.tn, .int .i64 y.born]), (3, .cells ((fr0 2).x) 34 [.int .i64 z.les, .int .i64 z.he, .int .i64 z.hn, .int .i64 z.te, .int .i64 z.tn, .int .i64 z.born])]) (RunsTo.mk [(1, { sp := some (.bool false) }), (4, { sp := some (.bool false) }), (8, { sp := some (.bool true) }), (12, { sp := some (.bool false) }), (15, { sp := some (.bool false) }), (19, { sp := some (.bool true) }), (23, { act := .call [] (.bool true) })] [6] [1, 2, 3] (fun _ => [(.bool (decide (u < 0)) : Value) = .bool false, (.bool (decide (v < 0)) : Value) = .bool false, (.bool (decide (q ≥ 0)) : Value) = .bool true, (.bool (decide (u > 0)) : Value) = .bool false, (.bool (decide (v > 0)) : Value) = .bool false, (.bool (decide (q ≤ 0)) : Value) = .bool true, CallOK Try.prog 8 #[] (.bool true) []]) (fun _ => by kernel_rfl) (fun _ => ⟨bool_eq (decide_eq_false (by omega)), bool_eq (decide_eq_false (by omega)), bool_eq (decide_eq_true (by omega)), bool_eq (decide_eq_false (by omega)), bool_eq (decide_eq_false (by omega)), bool_eq (decide_eq_true (by omega)), awake_ok, trivial⟩)) ?_
          intro _
          refine GS.ret (fn := Try.f4) [0] [.bool true] [] rfl Try.func4 (by kernel_rfl) trivial (fun w' hs => ?_)
          exact ⟨rfl, hs.keep⟩

end Go.Proofs.Ythaokdobgmbeeaa
