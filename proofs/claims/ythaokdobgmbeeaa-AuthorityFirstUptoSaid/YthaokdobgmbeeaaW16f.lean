/-
  CHAPTER 16: the walk of the law on the first of the rank.
-/
import Derived.Test.YthaokdobgmbeeaaW16e
import Derived.Test.YthaokdobgmbeeaaPfirst
import Derived.Test.YthaokdobgmbeeaaSxi
set_option linter.unusedVariables false
set_option linter.unusedSimpArgs false
set_option maxRecDepth 100000
namespace Go.Proofs.Ythaokdobgmbeeaa
open Go Go.RowKit Sx

theorem law_first (oo oi : Option Addr) (co ci : Nat) (osds : List Int) (infos : List Inf) (self : Int) (hl1 : osds.length ≤ 1048576) (hl2 : infos.length ≤ 1048576) (hci : infos.length ≤ ci) : CallOK Try.prog 5 #[.slice oo osds.length co, .slice oi infos.length ci, .int .i64 self] (.bool true) [some (.rd oo 1 (encI osds)), some (.rd oi 6 (encInf infos))] := by
  intro w hr
  obtain ⟨m, hm⟩ : ∃ m, m = minL osds infos := ⟨_, rfl⟩
  have hm1 : m ≤ osds.length := by rw [hm, minL]; split <;> omega
  have hm2 : m ≤ infos.length := by rw [hm, minL]; split <;> omega
  refine GS.start (S := fun _ => False) (mem := [(1, .rd oo 1 (encI osds)), (2, .rd oi 6 (encInf infos))]) Try.func5 rfl Try.ntmps5 (Nat.le_of_ble_eq_true rfl) (Sat.startRo (es := [.rd oo 1 (encI osds), .rd oi 6 (encInf infos)]) hr rfl) ?_
  refine GS.conv (env' := [(0, .slice oo osds.length co), (1, .slice oi infos.length ci), (2, .int .i64 self)]) rfl rfl ?_
  refine GS.seq ?_
  -- region 0, law.go:59
  refine GS.region (env' := fun _ => [(0, .slice oo osds.length co), (1, .slice oi infos.length ci), (2, .int .i64 self)]) (mem' := fun _ => [(1, .rd oo 1 (encI osds)), (2, .rd oi 6 (encInf infos))]) (RunsTo.mk [] [0, 1, 2] [1, 2] (fun _ => []) (fun _ => by kernel_rfl) (fun _ => trivial)) ?_
  intro _
  refine GS.seq ?_
  refine GS.seq ?_
  -- region 1, law.go:60
  refine GS.region (env' := fun _ => [(0, .slice oo osds.length co), (1, .slice oi infos.length ci), (2, .int .i64 self), (22, .bool (decide (((osds.length : Nat) : Int) > 200) || decide (((infos.length : Nat) : Int) > 200)))]) (mem' := fun _ => [(1, .rd oo 1 (encI osds)), (2, .rd oi 6 (encInf infos))]) (RunsTo.mk [(2, { act := .call [] (.bool (decide (((osds.length : Nat) : Int) > 200) || decide (((infos.length : Nat) : Int) > 200))) })] [0, 1, 2, 22] [1, 2] (fun _ => [CallOK Try.prog 7 #[.slice oo osds.length co, .slice oi infos.length ci] (.bool (decide (((osds.length : Nat) : Int) > 200) || decide (((infos.length : Nat) : Int) > 200))) []]) (fun _ => by kernel_rfl) (fun _ => ⟨far_ok oo oi osds.length infos.length co ci, trivial⟩)) ?_
  intro _
  refine GS.cond (t := decide (((osds.length : Nat) : Int) > 200) || decide (((infos.length : Nat) : Int) > 200)) rfl rfl (fun h => ?_) (fun h => ?_)
  · skip
    refine GS.seq ?_
    -- region 2, law.go:61
    refine GS.region (env' := fun _ => [(6, .bool true)]) (mem' := fun _ => [(1, .rd oo 1 (encI osds)), (2, .rd oi 6 (encInf infos))]) (RunsTo.mk [(0, { act := .call [] (.bool true) })] [6] [1, 2] (fun _ => [CallOK Try.prog 8 #[] (.bool true) []]) (fun _ => by kernel_rfl) (fun _ => ⟨awake_ok, trivial⟩)) ?_
    intro _
    refine GS.ret (fn := Try.f5) [0] [.bool true] [] rfl Try.func5 (by kernel_rfl) trivial (fun w' hs => ?_)
    exact ⟨rfl, hs.keep⟩
  · skip
    refine GS.skip ?_
    refine GS.seq ?_
    -- region 3, law.go:63
    refine GS.region (env' := fun _ => [(0, .slice oo osds.length co), (1, .slice oi infos.length ci), (2, .int .i64 self), (7, .int .i64 ((osds.length : Nat) : Int))]) (mem' := fun _ => [(1, .rd oo 1 (encI osds)), (2, .rd oi 6 (encInf infos))]) (RunsTo.mk [] [0, 1, 2, 7] [1, 2] (fun _ => []) (fun _ => by kernel_rfl) (fun _ => trivial)) ?_
    intro _
    refine GS.seq ?_
    refine GS.seq ?_
    -- region 4, law.go:64
    refine GS.region (env' := fun _ => [(0, .slice oo osds.length co), (1, .slice oi infos.length ci), (2, .int .i64 self), (7, .int .i64 ((osds.length : Nat) : Int)), (29, .bool (decide (((infos.length : Nat) : Int) < ((osds.length : Nat) : Int))))]) (mem' := fun _ => [(1, .rd oo 1 (encI osds)), (2, .rd oi 6 (encInf infos))]) (RunsTo.mk [] [0, 1, 2, 7, 29] [1, 2] (fun _ => []) (fun _ => by kernel_rfl) (fun _ => trivial)) ?_
    intro _
    refine GS.cut (ι := Unit) (I := fun _ => True) (E := fun _ => [(0, .slice oo osds.length co), (1, .slice oi infos.length ci), (2, .int .i64 self), (7, .int .i64 ((m : Nat) : Int))]) (M := fun _ => [(1, .rd oo 1 (encI osds)), (2, .rd oi 6 (encInf infos))]) ?_ ?_
    rotate_left
    · intro H0
      refine GS.cond (t := decide (((infos.length : Nat) : Int) < ((osds.length : Nat) : Int))) rfl rfl (fun hc => ?_) (fun hc => ?_)
      · replace hc := of_decide_eq_true hc
        -- region 5, law.go:65
        refine GS.region (env' := fun _ => [(0, .slice oo osds.length co), (1, .slice oi infos.length ci), (2, .int .i64 self), (7, .int .i64 ((m : Nat) : Int))]) (mem' := fun _ => [(1, .rd oo 1 (encI osds)), (2, .rd oi 6 (encInf infos))]) (RunsTo.mk [(2, { sp := some (.int .i64 ((m : Nat) : Int)) })] [0, 1, 2, 7] [1, 2] (fun _ => [(.int .i64 ((infos.length : Nat) : Int) : Value) = .int .i64 ((m : Nat) : Int)]) (fun _ => by kernel_rfl) (fun _ => ⟨int_eq (by rw [hm, minL, if_pos (by omega)]), trivial⟩)) ?_
        intro _
        exact H0 () trivial
      · replace hc := of_decide_eq_false hc
        refine GS.conv (env' := [(0, .slice oo osds.length co), (1, .slice oi infos.length ci), (2, .int .i64 self), (7, .int .i64 ((m : Nat) : Int)), (29, .bool (decide (((infos.length : Nat) : Int) < ((osds.length : Nat) : Int))))]) (congrArg (fun vhole : Value => [(0, .slice oo osds.length co), (1, .slice oi infos.length ci), (2, .int .i64 self), (7, vhole), (29, .bool (decide (((infos.length : Nat) : Int) < ((osds.length : Nat) : Int))))]) (show ((.int .i64 ((osds.length : Nat) : Int) : Value) = .int .i64 ((m : Nat) : Int)) from int_eq (by rw [hm, minL, if_neg (by omega)]))) rfl ?_
        refine GS.skip ?_
        refine GS.trim (env' := [(0, .slice oo osds.length co), (1, .slice oi infos.length ci), (2, .int .i64 self), (7, .int .i64 ((m : Nat) : Int))]) (mem' := [(1, .rd oo 1 (encI osds)), (2, .rd oi 6 (encInf infos))]) [0, 1, 2, 7] [1, 2] (by kernel_rfl) (by kernel_rfl) ?_
        exact H0 () trivial
    · rintro _ _
      refine GS.seq ?_
      -- region 6, law.go:67
      refine GS.region (env' := fun _ => [(0, .slice oo osds.length co), (1, .slice oi infos.length ci), (2, .int .i64 self), (7, .int .i64 ((m : Nat) : Int)), (8, .int .i64 ((bestF osds infos self).1)), (9, .bool ((bestF osds infos self).2))]) (mem' := fun _ => [(1, .rd oo 1 (encI osds)), (2, .rd oi 6 (encInf infos))]) (RunsTo.mk [(3, { act := .call [1, 2] (.tuple #[.int .i64 ((bestF osds infos self).1), .bool ((bestF osds infos self).2)]) })] [0, 1, 2, 7, 8, 9] [1, 2] (fun _ => [CallOK Try.prog 9 #[.slice oo osds.length co, .slice oi infos.length ci, .int .i64 self] (.tuple #[.int .i64 ((bestF osds infos self).1), .bool ((bestF osds infos self).2)]) [some (.rd oo 1 (encI osds)), some (.rd oi 6 (encInf infos))]]) (fun _ => by kernel_rfl) (fun _ => ⟨best_ok oo oi co ci osds infos self (by rw [← hm]; omega), trivial⟩)) ?_
      intro _
      refine GS.seq ?_
      -- region 7, law.go:68
      refine GS.open_ ?_
      refine GR.run (i := 0) 3 (env' := fun _ => [(0, .slice oo osds.length co), (1, .slice oi infos.length ci), (7, .int .i64 ((m : Nat) : Int)), (8, .int .i64 ((bestF osds infos self).1)), (9, .bool ((bestF osds infos self).2)), (39, .slice oo osds.length co), (40, .slice oi infos.length ci), (41, .int .i64 self)]) (mem' := fun _ => [(1, .rd oo 1 (encI osds)), (2, .rd oi 6 (encInf infos))]) (Nat.le_of_ble_eq_true (by kernel_rfl)) (RunsTo.mk [] [0, 1, 7, 8, 9, 39, 40, 41] [1, 2] (fun _ => []) (fun _ => by kernel_rfl) (fun _ => trivial)) ?_
      intro _
      refine GR.callT (X := Option Addr × Nat) (i := 3) (g := 12) (args := #[.slice oo osds.length co, .slice oi infos.length ci, .int .i64 self]) (v := fun ⟨so1, sc1⟩ => .slice so1 ((rankedF osds infos self).length) sc1) (es := [.rd oo 1 (encI osds), .rd oi 6 (encInf infos)]) (es' := fun ⟨so1, sc1⟩ => [.rd oo 1 (encI osds), .rd oi 6 (encInf infos), .osl so1 sc1 3 1 (encI (rankedF osds infos self))]) (mem' := fun ⟨so1, sc1⟩ => [(1, .rd oo 1 (encI osds)), (2, .rd oi 6 (encInf infos)), (3, .osl so1 sc1 3 1 (encI (rankedF osds infos self)))]) (env' := fun ⟨so1, sc1⟩ => [(0, .slice oo osds.length co), (1, .slice oi infos.length ci), (7, .int .i64 ((m : Nat) : Int)), (8, .int .i64 ((bestF osds infos self).1)), (9, .bool ((bestF osds infos self).2)), (42, .slice so1 ((rankedF osds infos self).length) sc1)]) [1, 2] [3] [0, 1, 7, 8, 9, 42] [1, 2, 3] (by kernel_rfl) (by kernel_rfl) (by kernel_rfl) (by kernel_rfl) (by kernel_rfl) (by kernel_rfl) (fun _ => rfl) (by rintro ⟨so1, sc1⟩; kernel_rfl) (by rintro ⟨so1, sc1⟩; kernel_rfl) (ranked_ok oo oi co ci osds infos self (by rw [← hm]; omega)) ?_
      rintro ⟨so1, sc1⟩
      refine GR.run (i := 4) 1 (env' := fun _ => [(0, .slice oo osds.length co), (1, .slice oi infos.length ci), (7, .int .i64 ((m : Nat) : Int)), (8, .int .i64 ((bestF osds infos self).1)), (9, .bool ((bestF osds infos self).2)), (10, .slice so1 ((rankedF osds infos self).length) sc1)]) (mem' := fun _ => [(1, .rd oo 1 (encI osds)), (2, .rd oi 6 (encInf infos)), (3, .osl so1 sc1 3 1 (encI (rankedF osds infos self)))]) (Nat.le_of_ble_eq_true (by kernel_rfl)) (RunsTo.mk [] [0, 1, 7, 8, 9, 10] [1, 2, 3] (fun _ => []) (fun _ => by kernel_rfl) (fun _ => trivial)) ?_
      intro _
      refine GR.done (Nat.le_of_ble_eq_true (by kernel_rfl)) ?_
      refine GS.seq ?_
      refine GS.seq ?_
      have hrl : (rankedF osds infos self).length = m := by rw [rankedF_len, hm]
      by_cases h0 : m = 0
      · skip
        have hbz : bestF osds infos self = (0, false) := by rw [bestF, if_pos (by omega)]
        refine GS.conv (env' := [(0, .slice oo osds.length co), (1, .slice oi infos.length ci), (7, .int .i64 ((m : Nat) : Int)), (8, .int .i64 0), (9, .bool ((bestF osds infos self).2)), (10, .slice so1 ((rankedF osds infos self).length) sc1)]) (congrArg (fun vhole : Value => [(0, .slice oo osds.length co), (1, .slice oi infos.length ci), (7, .int .i64 ((m : Nat) : Int)), (8, vhole), (9, .bool ((bestF osds infos self).2)), (10, .slice so1 ((rankedF osds infos self).length) sc1)]) (show ((.int .i64 ((bestF osds infos self).1) : Value) = .int .i64 0) from by rw [hbz])) rfl ?_
        refine GS.conv (env' := [(0, .slice oo osds.length co), (1, .slice oi infos.length ci), (7, .int .i64 ((m : Nat) : Int)), (8, .int .i64 0), (9, .bool false), (10, .slice so1 ((rankedF osds infos self).length) sc1)]) (congrArg (fun vhole : Value => [(0, .slice oo osds.length co), (1, .slice oi infos.length ci), (7, .int .i64 ((m : Nat) : Int)), (8, .int .i64 0), (9, vhole), (10, .slice so1 ((rankedF osds infos self).length) sc1)]) (show ((.bool ((bestF osds infos self).2) : Value) = .bool false) from by rw [hbz])) rfl ?_
        -- region 8, law.go:69
        refine GS.region (env' := fun _ => [(0, .slice oo osds.length co), (1, .slice oi infos.length ci), (7, .int .i64 ((m : Nat) : Int)), (8, .int .i64 0), (9, .bool false), (10, .slice so1 ((rankedF osds infos self).length) sc1), (62, .bool false)]) (mem' := fun _ => [(1, .rd oo 1 (encI osds)), (2, .rd oi 6 (encInf infos)), (3, .osl so1 sc1 3 1 (encI (rankedF osds infos self)))]) (RunsTo.mk [(2, { sp := some (.bool false) }), (3, { sp := some (.bool false) }), (8, { sp := some (.bool false) })] [0, 1, 7, 8, 9, 10, 62] [1, 2, 3] (fun _ => [(.bool (decide (((m : Nat) : Int) > 0)) : Value) = .bool false, (.bool (!(false == false)) : Value) = .bool false, (.bool ((((rankedF osds infos self).length : Nat) : Int) != ((m : Nat) : Int)) : Value) = .bool false]) (fun _ => by kernel_rfl) (fun _ => ⟨bool_eq (by exact decide_eq_false (by omega)), bool_eq (by rfl), bool_eq (by rw [hrl]; simp), trivial⟩)) ?_
        intro _
        refine GS.cond (t := false) rfl rfl (fun hf => by cases hf) (fun _ => ?_)
        refine GS.skip ?_
        refine GS.seq ?_
        -- region 10, law.go:72
        refine GS.region (env' := fun fr0 => [(0, .slice oo osds.length co), (1, .slice oi infos.length ci), (7, .int .i64 ((m : Nat) : Int)), (8, .int .i64 0), (9, .bool false), (10, .slice so1 ((rankedF osds infos self).length) sc1), (11, .slice (some (Addr.mk (fr0 1).x 0 none)) m m)]) (mem' := fun fr0 => [(1, .rd oo 1 (encI osds)), (2, .rd oi 6 (encInf infos)), (3, .osl so1 sc1 3 1 (encI (rankedF osds infos self))), (4, .osl (some (Addr.mk (fr0 1).x 0 none)) m 4 1 (List.replicate m [.bool false]))]) (RunsTo.mk [(1, { act := .makeSlice m m, key := some 4 })] [0, 1, 7, 8, 9, 10, 11] [1, 2, 3, 4] (fun fr0 => [((m : Nat) : Int) = ((m : Nat) : Int), ((m : Nat) : Int) = ((m : Nat) : Int), m ≤ m, m * 1 ≤ 281474976710656, m ≤ 9223372036854775807]) (fun fr0 => by kernel_rfl) (fun fr0 => ⟨rfl, rfl, by omega, by omega, by omega, trivial⟩)) ?_
        intro fr0
        refine GS.seq ?_
        refine GS.seq ?_
        refine GS.conv (mem' := [(1, .rd oo 1 (encI osds)), (2, .rd oi 6 (encInf infos)), (3, .osl so1 sc1 3 1 (encI (rankedF osds infos self))), (4, .osl (some (Addr.mk (fr0 1).x 0 none)) m 4 1 (encBo (List.replicate m false)))]) rfl (congrArg (fun rr : List (List Value) => ([(1, .rd oo 1 (encI osds)), (2, .rd oi 6 (encInf infos)), (3, .osl so1 sc1 3 1 (encI (rankedF osds infos self))), (4, .osl (some (Addr.mk (fr0 1).x 0 none)) m 4 1 rr)] : List (Nat × Ent))) (show List.replicate m [.bool false] = encBo (List.replicate m false) from by rw [encBo_replicate])) ?_
        -- region 11, law.go:73
        refine GS.region (env' := fun _ => [(0, .slice oo osds.length co), (1, .slice oi infos.length ci), (7, .int .i64 ((m : Nat) : Int)), (8, .int .i64 0), (9, .bool false), (11, .slice (some (Addr.mk (fr0 1).x 0 none)) m m), (65, .slice so1 ((rankedF osds infos self).length) sc1), (66, .int .i64 (((rankedF osds infos self).length : Nat) : Int)), (67, .int .i64 ((0 : Nat) : Int))]) (mem' := fun _ => [(1, .rd oo 1 (encI osds)), (2, .rd oi 6 (encInf infos)), (3, .osl so1 sc1 3 1 (encI (rankedF osds infos self))), (4, .osl (some (Addr.mk (fr0 1).x 0 none)) m 4 1 (encBo (List.replicate m false)))]) (RunsTo.mk [(2, { sp := some (.int .i64 ((0 : Nat) : Int)) })] [0, 1, 7, 8, 9, 11, 65, 66, 67] [1, 2, 3, 4] (fun _ => [(.int .i64 0 : Value) = .int .i64 ((0 : Nat) : Int)]) (fun _ => by kernel_rfl) (fun _ => ⟨rfl, trivial⟩)) ?_
        intro _
        refine GS.block ?_
        refine GS.loop ?_
        refine GS.loopInv (ι := Nat × List Bool) (I := fun ⟨q, U⟩ => q ≤ m ∧ U.length = m ∧ List.Perm (uv U osds m) ((rankedF osds infos self).drop q)) (μ := fun ⟨q, U⟩ => m - q) (E := fun ⟨q, U⟩ => [(0, .slice oo osds.length co), (1, .slice oi infos.length ci), (7, .int .i64 ((m : Nat) : Int)), (8, .int .i64 0), (9, .bool false), (11, .slice (some (Addr.mk (fr0 1).x 0 none)) m m), (65, .slice so1 ((rankedF osds infos self).length) sc1), (66, .int .i64 (((rankedF osds infos self).length : Nat) : Int)), (67, .int .i64 ((q : Nat) : Int))]) (M := fun ⟨q, U⟩ => [(1, .rd oo 1 (encI osds)), (2, .rd oi 6 (encInf infos)), (3, .osl so1 sc1 3 1 (encI (rankedF osds infos self))), (4, .osl (some (Addr.mk (fr0 1).x 0 none)) m 4 1 (encBo U))]) ?_ ⟨0, (List.replicate m false)⟩ ⟨by omega, List.length_replicate, by rw [List.drop_zero, hm]; exact ranked_perm _ _ _⟩
        rintro ⟨q, U⟩ ⟨hq, hU, hP⟩ ih
        refine GS.seq ?_
        -- region 12, law.go:73
        refine GS.region (env' := fun _ => [(0, .slice oo osds.length co), (1, .slice oi infos.length ci), (7, .int .i64 ((m : Nat) : Int)), (8, .int .i64 0), (9, .bool false), (11, .slice (some (Addr.mk (fr0 1).x 0 none)) m m), (65, .slice so1 ((rankedF osds infos self).length) sc1), (66, .int .i64 (((rankedF osds infos self).length : Nat) : Int)), (67, .int .i64 ((q : Nat) : Int)), (68, .bool (decide (((q : Nat) : Int) < (((rankedF osds infos self).length : Nat) : Int))))]) (mem' := fun _ => [(1, .rd oo 1 (encI osds)), (2, .rd oi 6 (encInf infos)), (3, .osl so1 sc1 3 1 (encI (rankedF osds infos self))), (4, .osl (some (Addr.mk (fr0 1).x 0 none)) m 4 1 (encBo U))]) (RunsTo.mk [] [0, 1, 7, 8, 9, 11, 65, 66, 67, 68] [1, 2, 3, 4] (fun _ => []) (fun _ => by kernel_rfl) (fun _ => trivial)) ?_
        intro _
        refine GS.seq ?_
        refine GS.cond (t := decide (((q : Nat) : Int) < (((rankedF osds infos self).length : Nat) : Int))) rfl rfl (fun h1 => ?_) (fun h1 => ?_)
        · replace h1 := of_decide_eq_true h1
          obtain ⟨k, hk⟩ : ∃ k, k = (rankedF osds infos self).getD q 0 := ⟨_, rfl⟩
          refine GS.skip ?_
          refine GS.seq ?_
          refine GS.block ?_
          refine GS.seq ?_
          -- region 13, law.go:73
          refine GS.region (env' := fun _ => [(0, .slice oo osds.length co), (1, .slice oi infos.length ci), (7, .int .i64 ((m : Nat) : Int)), (8, .int .i64 0), (9, .bool false), (11, .slice (some (Addr.mk (fr0 1).x 0 none)) m m), (13, .int .i64 k), (65, .slice so1 ((rankedF osds infos self).length) sc1), (66, .int .i64 (((rankedF osds infos self).length : Nat) : Int)), (67, .int .i64 ((q : Nat) : Int))]) (mem' := fun _ => [(1, .rd oo 1 (encI osds)), (2, .rd oi 6 (encInf infos)), (3, .osl so1 sc1 3 1 (encI (rankedF osds infos self))), (4, .osl (some (Addr.mk (fr0 1).x 0 none)) m 4 1 (encBo U))]) (RunsTo.mk [(0, { act := .idx 3 q }), (1, { act := .load 3 q 0 [.int .i64 ((rankedF osds infos self).getD q 0)], sp := some (.int .i64 k) })] [0, 1, 7, 8, 9, 11, 13, 65, 66, 67] [1, 2, 3, 4] (fun _ => [so1 = so1, (rankedF osds infos self).length = (encI (rankedF osds infos self)).length, (((q : Nat) : Int) : Int) = ((q : Nat) : Int), q < (rankedF osds infos self).length, blk so1 = blk so1, offs so1 + q * 1 = offs so1 + (q * 1 + 0), (encI (rankedF osds infos self))[q]? = some [.int .i64 ((rankedF osds infos self).getD q 0)], (.int .i64 ((rankedF osds infos self).getD q 0) : Value) = .int .i64 k]) (fun _ => by kernel_rfl) (fun _ => ⟨rfl, encI_len _, rfl, by omega, rfl, rfl, encI_at (by omega), int_eq hk.symm, trivial⟩)) ?_
          intro _
          refine GS.seq ?_
          -- region 14, law.go:74
          refine GS.region (env' := fun _ => [(0, .slice oo osds.length co), (1, .slice oi infos.length ci), (7, .int .i64 ((m : Nat) : Int)), (8, .int .i64 0), (9, .bool false), (11, .slice (some (Addr.mk (fr0 1).x 0 none)) m m), (13, .int .i64 k), (14, .bool false), (65, .slice so1 ((rankedF osds infos self).length) sc1), (66, .int .i64 (((rankedF osds infos self).length : Nat) : Int)), (67, .int .i64 ((q : Nat) : Int))]) (mem' := fun _ => [(1, .rd oo 1 (encI osds)), (2, .rd oi 6 (encInf infos)), (3, .osl so1 sc1 3 1 (encI (rankedF osds infos self))), (4, .osl (some (Addr.mk (fr0 1).x 0 none)) m 4 1 (encBo U))]) (RunsTo.mk [] [0, 1, 7, 8, 9, 11, 13, 14, 65, 66, 67] [1, 2, 3, 4] (fun _ => []) (fun _ => by kernel_rfl) (fun _ => trivial)) ?_
          intro _
          refine GS.seq ?_
          refine GS.seq ?_
          -- region 15, law.go:75
          refine GS.region (env' := fun _ => [(0, .slice oo osds.length co), (1, .slice oi infos.length ci), (7, .int .i64 ((m : Nat) : Int)), (8, .int .i64 0), (9, .bool false), (11, .slice (some (Addr.mk (fr0 1).x 0 none)) m m), (13, .int .i64 k), (14, .bool false), (65, .slice so1 ((rankedF osds infos self).length) sc1), (66, .int .i64 (((rankedF osds infos self).length : Nat) : Int)), (67, .int .i64 ((q : Nat) : Int)), (71, .int .i64 ((m : Nat) : Int)), (72, .int .i64 ((0 : Nat) : Int))]) (mem' := fun _ => [(1, .rd oo 1 (encI osds)), (2, .rd oi 6 (encInf infos)), (3, .osl so1 sc1 3 1 (encI (rankedF osds infos self))), (4, .osl (some (Addr.mk (fr0 1).x 0 none)) m 4 1 (encBo U))]) (RunsTo.mk [(1, { sp := some (.int .i64 ((0 : Nat) : Int)) })] [0, 1, 7, 8, 9, 11, 13, 14, 65, 66, 67, 71, 72] [1, 2, 3, 4] (fun _ => [(.int .i64 0 : Value) = .int .i64 ((0 : Nat) : Int)]) (fun _ => by kernel_rfl) (fun _ => ⟨rfl, trivial⟩)) ?_
          intro _
          refine GS.block ?_
          refine GS.loop ?_
          refine GS.loopInv (ι := Nat × Bool × List Bool) (I := fun ⟨i, F, V⟩ => i ≤ m ∧ V.length = m ∧ ((F = false ∧ V = U ∧ ∀ t, t < i → U.getD t false = false → osds.getD t 0 ≠ k) ∨ (F = true ∧ ∃ t, t < i ∧ U.getD t false = false ∧ osds.getD t 0 = k ∧ V = U.set t true))) (μ := fun ⟨i, F, V⟩ => m - i) (E := fun ⟨i, F, V⟩ => [(0, .slice oo osds.length co), (1, .slice oi infos.length ci), (7, .int .i64 ((m : Nat) : Int)), (8, .int .i64 0), (9, .bool false), (11, .slice (some (Addr.mk (fr0 1).x 0 none)) m m), (13, .int .i64 k), (14, .bool F), (65, .slice so1 ((rankedF osds infos self).length) sc1), (66, .int .i64 (((rankedF osds infos self).length : Nat) : Int)), (67, .int .i64 ((q : Nat) : Int)), (71, .int .i64 ((m : Nat) : Int)), (72, .int .i64 ((i : Nat) : Int))]) (M := fun ⟨i, F, V⟩ => [(1, .rd oo 1 (encI osds)), (2, .rd oi 6 (encInf infos)), (3, .osl so1 sc1 3 1 (encI (rankedF osds infos self))), (4, .osl (some (Addr.mk (fr0 1).x 0 none)) m 4 1 (encBo V))]) ?_ ⟨0, false, U⟩ ⟨by omega, hU, .inl ⟨rfl, rfl, fun t ht => by omega⟩⟩
          rintro ⟨i, F, V⟩ ⟨i1, i2, i3⟩ ih1
          refine GS.seq ?_
          -- region 16, law.go:75
          refine GS.region (env' := fun _ => [(0, .slice oo osds.length co), (1, .slice oi infos.length ci), (7, .int .i64 ((m : Nat) : Int)), (8, .int .i64 0), (9, .bool false), (11, .slice (some (Addr.mk (fr0 1).x 0 none)) m m), (13, .int .i64 k), (14, .bool F), (65, .slice so1 ((rankedF osds infos self).length) sc1), (66, .int .i64 (((rankedF osds infos self).length : Nat) : Int)), (67, .int .i64 ((q : Nat) : Int)), (71, .int .i64 ((m : Nat) : Int)), (72, .int .i64 ((i : Nat) : Int)), (73, .bool (decide (((i : Nat) : Int) < ((m : Nat) : Int))))]) (mem' := fun _ => [(1, .rd oo 1 (encI osds)), (2, .rd oi 6 (encInf infos)), (3, .osl so1 sc1 3 1 (encI (rankedF osds infos self))), (4, .osl (some (Addr.mk (fr0 1).x 0 none)) m 4 1 (encBo V))]) (RunsTo.mk [] [0, 1, 7, 8, 9, 11, 13, 14, 65, 66, 67, 71, 72, 73] [1, 2, 3, 4] (fun _ => []) (fun _ => by kernel_rfl) (fun _ => trivial)) ?_
          intro _
          refine GS.seq ?_
          refine GS.cond (t := decide (((i : Nat) : Int) < ((m : Nat) : Int))) rfl rfl (fun h3 => ?_) (fun h3 => ?_)
          · replace h3 := of_decide_eq_true h3
            refine GS.skip ?_
            refine GS.seq ?_
            refine GS.block ?_
            refine GS.seq ?_
            -- region 17, law.go:75
            refine GS.region (env' := fun _ => [(0, .slice oo osds.length co), (1, .slice oi infos.length ci), (7, .int .i64 ((m : Nat) : Int)), (8, .int .i64 0), (9, .bool false), (11, .slice (some (Addr.mk (fr0 1).x 0 none)) m m), (13, .int .i64 k), (14, .bool F), (15, .int .i64 ((i : Nat) : Int)), (65, .slice so1 ((rankedF osds infos self).length) sc1), (66, .int .i64 (((rankedF osds infos self).length : Nat) : Int)), (67, .int .i64 ((q : Nat) : Int)), (71, .int .i64 ((m : Nat) : Int)), (72, .int .i64 ((i : Nat) : Int))]) (mem' := fun _ => [(1, .rd oo 1 (encI osds)), (2, .rd oi 6 (encInf infos)), (3, .osl so1 sc1 3 1 (encI (rankedF osds infos self))), (4, .osl (some (Addr.mk (fr0 1).x 0 none)) m 4 1 (encBo V))]) (RunsTo.mk [] [0, 1, 7, 8, 9, 11, 13, 14, 15, 65, 66, 67, 71, 72] [1, 2, 3, 4] (fun _ => []) (fun _ => by kernel_rfl) (fun _ => trivial)) ?_
            intro _
            refine GS.seq ?_
            -- region 18, law.go:76
            refine GS.region (env' := fun _ => [(0, .slice oo osds.length co), (1, .slice oi infos.length ci), (7, .int .i64 ((m : Nat) : Int)), (8, .int .i64 0), (9, .bool false), (11, .slice (some (Addr.mk (fr0 1).x 0 none)) m m), (13, .int .i64 k), (14, .bool F), (15, .int .i64 ((i : Nat) : Int)), (65, .slice so1 ((rankedF osds infos self).length) sc1), (66, .int .i64 (((rankedF osds infos self).length : Nat) : Int)), (67, .int .i64 ((q : Nat) : Int)), (71, .int .i64 ((m : Nat) : Int)), (72, .int .i64 ((i : Nat) : Int)), (91, .bool (!F && ((!(V.getD i false)) && ((osds.getD i 0) == k))))]) (mem' := fun _ => [(1, .rd oo 1 (encI osds)), (2, .rd oi 6 (encInf infos)), (3, .osl so1 sc1 3 1 (encI (rankedF osds infos self))), (4, .osl (some (Addr.mk (fr0 1).x 0 none)) m 4 1 (encBo V))]) ?_ ?_
            · rcases Bool.eq_false_or_eq_true (!F) with hg0 | hg0
              · have hg0' := hg0
                rcases Bool.eq_false_or_eq_true (!(V.getD i false)) with hg1 | hg1
                · have hg1' := hg1
                  exact RunsTo.mk [(2, { sp := some (.bool true) }), (5, { act := .idx 4 i }), (6, { act := .load 4 i 0 [.bool (V.getD i false)] }), (9, { sp := some (.bool true) }), (12, { act := .idx 1 i }), (13, { act := .load 1 i 0 [.int .i64 (osds.getD i 0)] }), (16, { sp := some (.bool (!F && ((!(V.getD i false)) && ((osds.getD i 0) == k)))) })] [0, 1, 7, 8, 9, 11, 13, 14, 15, 65, 66, 67, 71, 72, 91] [1, 2, 3, 4] (fun _ => [((.bool !F) : Value) = .bool true, some (Addr.mk (fr0 1).x 0 none) = some (Addr.mk (fr0 1).x 0 none), m = (encBo V).length, (((i : Nat) : Int) : Int) = ((i : Nat) : Int), i < m, blk (some (Addr.mk (fr0 1).x 0 none)) = blk (some (Addr.mk (fr0 1).x 0 none)), offs (some (Addr.mk (fr0 1).x 0 none)) + i * 1 = offs (some (Addr.mk (fr0 1).x 0 none)) + (i * 1 + 0), (encBo V)[i]? = some [.bool (V.getD i false)], ((.bool (!(V.getD i false))) : Value) = .bool true, oo = oo, osds.length = (encI osds).length, (((i : Nat) : Int) : Int) = ((i : Nat) : Int), i < osds.length, blk oo = blk oo, offs oo + i * 1 = offs oo + (i * 1 + 0), (encI osds)[i]? = some [.int .i64 (osds.getD i 0)], ((.bool ((osds.getD i 0) == k)) : Value) = .bool (!F && ((!(V.getD i false)) && ((osds.getD i 0) == k)))]) (fun _ => by kernel_rfl) (fun _ => ⟨bool_eq (by assumption), rfl, (by rw [← encBo_len]; omega), rfl, by omega, rfl, rfl, encBo_at (by omega), bool_eq (by assumption), rfl, encI_len _, rfl, by omega, rfl, rfl, encI_at (by omega), bool_eq (by first | (simp only [hg0, hg1, Bool.true_and, Bool.false_and, Bool.and_true, Bool.and_false, Bool.true_or, Bool.false_or, Bool.or_true, Bool.or_false, Bool.not_true, Bool.not_false]) | simp [hg0, hg1]), trivial⟩)
                · have hg1' := hg1
                  exact RunsTo.mk [(2, { sp := some (.bool true) }), (5, { act := .idx 4 i }), (6, { act := .load 4 i 0 [.bool (V.getD i false)] }), (9, { sp := some (.bool false) }), (16, { sp := some (.bool (!F && ((!(V.getD i false)) && ((osds.getD i 0) == k)))) })] [0, 1, 7, 8, 9, 11, 13, 14, 15, 65, 66, 67, 71, 72, 91] [1, 2, 3, 4] (fun _ => [((.bool !F) : Value) = .bool true, some (Addr.mk (fr0 1).x 0 none) = some (Addr.mk (fr0 1).x 0 none), m = (encBo V).length, (((i : Nat) : Int) : Int) = ((i : Nat) : Int), i < m, blk (some (Addr.mk (fr0 1).x 0 none)) = blk (some (Addr.mk (fr0 1).x 0 none)), offs (some (Addr.mk (fr0 1).x 0 none)) + i * 1 = offs (some (Addr.mk (fr0 1).x 0 none)) + (i * 1 + 0), (encBo V)[i]? = some [.bool (V.getD i false)], ((.bool (!(V.getD i false))) : Value) = .bool false, ((.bool false) : Value) = .bool (!F && ((!(V.getD i false)) && ((osds.getD i 0) == k)))]) (fun _ => by kernel_rfl) (fun _ => ⟨bool_eq (by assumption), rfl, (by rw [← encBo_len]; omega), rfl, by omega, rfl, rfl, encBo_at (by omega), bool_eq (by assumption), bool_eq (by first | (simp only [hg0, hg1, Bool.true_and, Bool.false_and, Bool.and_true, Bool.and_false, Bool.true_or, Bool.false_or, Bool.or_true, Bool.or_false, Bool.not_true, Bool.not_false]) | simp [hg0, hg1]), trivial⟩)
              · have hg0' := hg0
                exact RunsTo.mk [(2, { sp := some (.bool false) }), (16, { sp := some (.bool (!F && ((!(V.getD i false)) && ((osds.getD i 0) == k)))) })] [0, 1, 7, 8, 9, 11, 13, 14, 15, 65, 66, 67, 71, 72, 91] [1, 2, 3, 4] (fun _ => [((.bool !F) : Value) = .bool false, ((.bool false) : Value) = .bool (!F && ((!(V.getD i false)) && ((osds.getD i 0) == k)))]) (fun _ => by kernel_rfl) (fun _ => ⟨bool_eq (by assumption), bool_eq (by first | (simp only [hg0, Bool.true_and, Bool.false_and, Bool.and_true, Bool.and_false, Bool.true_or, Bool.false_or, Bool.or_true, Bool.or_false, Bool.not_true, Bool.not_false]) | simp [hg0]), trivial⟩)
            intro _
            refine GS.cond (t := !F && ((!(V.getD i false)) && ((osds.getD i 0) == k))) rfl rfl (fun h4 => ?_) (fun h4 => ?_)
            · skip
              have hh : F = false ∧ V.getD i false = false ∧ osds.getD i 0 = k := by simp only [Bool.and_eq_true, Bool.not_eq_true', beq_iff_eq] at h4; exact h4
              refine GS.seq ?_
              -- region 19, law.go:77
              refine GS.region (env' := fun _ => [(0, .slice oo osds.length co), (1, .slice oi infos.length ci), (7, .int .i64 ((m : Nat) : Int)), (8, .int .i64 0), (9, .bool false), (11, .slice (some (Addr.mk (fr0 1).x 0 none)) m m), (13, .int .i64 k), (65, .slice so1 ((rankedF osds infos self).length) sc1), (66, .int .i64 (((rankedF osds infos self).length : Nat) : Int)), (67, .int .i64 ((q : Nat) : Int)), (71, .int .i64 ((m : Nat) : Int)), (72, .int .i64 ((i : Nat) : Int))]) (mem' := fun _ => [(1, .rd oo 1 (encI osds)), (2, .rd oi 6 (encInf infos)), (3, .osl so1 sc1 3 1 (encI (rankedF osds infos self))), (4, .osl (some (Addr.mk (fr0 1).x 0 none)) m 4 1 ((encBo V).set i [.bool true]))]) (RunsTo.mk [(2, { act := .idx 4 i }), (3, { act := .store i 0 [.bool (V.getD i false)], key := some 4 })] [0, 1, 7, 8, 9, 11, 13, 65, 66, 67, 71, 72] [1, 2, 3, 4] (fun _ => [some (Addr.mk (fr0 1).x 0 none) = some (Addr.mk (fr0 1).x 0 none), m = (encBo V).length, (((i : Nat) : Int) : Int) = ((i : Nat) : Int), i < m, blk (some (Addr.mk (fr0 1).x 0 none)) = blk (some (Addr.mk (fr0 1).x 0 none)), offs (some (Addr.mk (fr0 1).x 0 none)) + i * 1 = offs (some (Addr.mk (fr0 1).x 0 none)) + (i * 1 + 0), (encBo V)[i]? = some [.bool (V.getD i false)], ((.bool true) : Value).cells.toList.all Value.oneCell' = true]) (fun _ => by kernel_rfl) (fun _ => ⟨rfl, (by rw [← encBo_len]; omega), rfl, by omega, rfl, rfl, encBo_at (by omega), rfl, trivial⟩)) ?_
              intro _
              refine GS.conv (mem' := [(1, .rd oo 1 (encI osds)), (2, .rd oi 6 (encInf infos)), (3, .osl so1 sc1 3 1 (encI (rankedF osds infos self))), (4, .osl (some (Addr.mk (fr0 1).x 0 none)) m 4 1 (encBo (V.set i true)))]) rfl (congrArg (fun rr : List (List Value) => ([(1, .rd oo 1 (encI osds)), (2, .rd oi 6 (encInf infos)), (3, .osl so1 sc1 3 1 (encI (rankedF osds infos self))), (4, .osl (some (Addr.mk (fr0 1).x 0 none)) m 4 1 rr)] : List (Nat × Ent))) (show (encBo V).set i [.bool true] = encBo (V.set i true) from encBo_set _ _ _)) ?_
              have hV : V = U := by
                rcases i3 with ⟨_, g2, _⟩ | ⟨g1, _⟩
                · exact g2
                · rw [hh.1] at g1; cases g1
              -- region 20, law.go:78
              refine GS.region (env' := fun _ => [(0, .slice oo osds.length co), (1, .slice oi infos.length ci), (7, .int .i64 ((m : Nat) : Int)), (8, .int .i64 0), (9, .bool false), (11, .slice (some (Addr.mk (fr0 1).x 0 none)) m m), (13, .int .i64 k), (14, .bool true), (65, .slice so1 ((rankedF osds infos self).length) sc1), (66, .int .i64 (((rankedF osds infos self).length : Nat) : Int)), (67, .int .i64 ((q : Nat) : Int)), (71, .int .i64 ((m : Nat) : Int)), (72, .int .i64 ((i : Nat) : Int))]) (mem' := fun _ => [(1, .rd oo 1 (encI osds)), (2, .rd oi 6 (encInf infos)), (3, .osl so1 sc1 3 1 (encI (rankedF osds infos self))), (4, .osl (some (Addr.mk (fr0 1).x 0 none)) m 4 1 (encBo (V.set i true)))]) (RunsTo.mk [] [0, 1, 7, 8, 9, 11, 13, 14, 65, 66, 67, 71, 72] [1, 2, 3, 4] (fun _ => []) (fun _ => by kernel_rfl) (fun _ => trivial)) ?_
              intro _
              refine GS.inBlock ?_
              -- region 21, law.go:75
              refine GS.region (env' := fun _ => [(0, .slice oo osds.length co), (1, .slice oi infos.length ci), (7, .int .i64 ((m : Nat) : Int)), (8, .int .i64 0), (9, .bool false), (11, .slice (some (Addr.mk (fr0 1).x 0 none)) m m), (13, .int .i64 k), (14, .bool true), (65, .slice so1 ((rankedF osds infos self).length) sc1), (66, .int .i64 (((rankedF osds infos self).length : Nat) : Int)), (67, .int .i64 ((q : Nat) : Int)), (71, .int .i64 ((m : Nat) : Int)), (72, .int .i64 ((i + 1 : Nat) : Int))]) (mem' := fun _ => [(1, .rd oo 1 (encI osds)), (2, .rd oi 6 (encInf infos)), (3, .osl so1 sc1 3 1 (encI (rankedF osds infos self))), (4, .osl (some (Addr.mk (fr0 1).x 0 none)) m 4 1 (encBo (V.set i true)))]) (RunsTo.mk [(0, { sp := some (.int .i64 ((i + 1 : Nat) : Int)) })] [0, 1, 7, 8, 9, 11, 13, 14, 65, 66, 67, 71, 72] [1, 2, 3, 4] (fun _ => [(.int .i64 (IntKind.i64.wrap (((i : Nat) : Int) + 1)) : Value) = .int .i64 ((i + 1 : Nat) : Int)]) (fun _ => by kernel_rfl) (fun _ => ⟨w64 (by omega) (by omega) (by omega), trivial⟩)) ?_
              intro _
              refine GS.inLoop ?_
              exact ih1 ⟨i + 1, true, (V.set i true)⟩ ⟨by omega, by rw [List.length_set]; exact i2, .inr ⟨rfl, i, by omega, by rw [← hV]; exact hh.2.1, hh.2.2, by rw [hV]⟩⟩ (show m - (i + 1) < m - i from by omega)
            · skip
              have hh : ¬ (F = false ∧ V.getD i false = false ∧ osds.getD i 0 = k) := fun ⟨g1, g2, g3⟩ => by rw [g1, g2, g3] at h4; simp at h4
              have hn : (F = false ∧ V = U ∧ ∀ t, t < i + 1 → U.getD t false = false → osds.getD t 0 ≠ k) ∨ (F = true ∧ ∃ t, t < i + 1 ∧ U.getD t false = false ∧ osds.getD t 0 = k ∧ V = U.set t true) := by
                rcases i3 with ⟨g1, g2, g3⟩ | ⟨g1, t, g2, g3⟩
                · exact .inl ⟨g1, g2, fun t ht hu hv => if hti : t = i then hh ⟨g1, by rw [g2, ← hti]; exact hu, by rw [← hti]; exact hv⟩ else g3 t (by omega) hu hv⟩
                · exact .inr ⟨g1, t, by omega, g3⟩
              refine GS.skip ?_
              refine GS.inBlock ?_
              -- region 21, law.go:75
              refine GS.region (env' := fun _ => [(0, .slice oo osds.length co), (1, .slice oi infos.length ci), (7, .int .i64 ((m : Nat) : Int)), (8, .int .i64 0), (9, .bool false), (11, .slice (some (Addr.mk (fr0 1).x 0 none)) m m), (13, .int .i64 k), (14, .bool F), (65, .slice so1 ((rankedF osds infos self).length) sc1), (66, .int .i64 (((rankedF osds infos self).length : Nat) : Int)), (67, .int .i64 ((q : Nat) : Int)), (71, .int .i64 ((m : Nat) : Int)), (72, .int .i64 ((i + 1 : Nat) : Int))]) (mem' := fun _ => [(1, .rd oo 1 (encI osds)), (2, .rd oi 6 (encInf infos)), (3, .osl so1 sc1 3 1 (encI (rankedF osds infos self))), (4, .osl (some (Addr.mk (fr0 1).x 0 none)) m 4 1 (encBo V))]) (RunsTo.mk [(0, { sp := some (.int .i64 ((i + 1 : Nat) : Int)) })] [0, 1, 7, 8, 9, 11, 13, 14, 65, 66, 67, 71, 72] [1, 2, 3, 4] (fun _ => [(.int .i64 (IntKind.i64.wrap (((i : Nat) : Int) + 1)) : Value) = .int .i64 ((i + 1 : Nat) : Int)]) (fun _ => by kernel_rfl) (fun _ => ⟨w64 (by omega) (by omega) (by omega), trivial⟩)) ?_
              intro _
              refine GS.inLoop ?_
              exact ih1 ⟨i + 1, F, V⟩ ⟨by omega, i2, hn⟩ (show m - (i + 1) < m - i from by omega)
          · replace h3 := of_decide_eq_false h3
            have him : i = m := by omega
            refine GS.exit rfl ?_
            refine GS.seq ?_
            -- region 22, law.go:81
            refine GS.region (env' := fun _ => [(0, .slice oo osds.length co), (1, .slice oi infos.length ci), (7, .int .i64 ((m : Nat) : Int)), (8, .int .i64 0), (9, .bool false), (11, .slice (some (Addr.mk (fr0 1).x 0 none)) m m), (65, .slice so1 ((rankedF osds infos self).length) sc1), (66, .int .i64 (((rankedF osds infos self).length : Nat) : Int)), (67, .int .i64 ((q : Nat) : Int)), (97, .bool !F)]) (mem' := fun _ => [(1, .rd oo 1 (encI osds)), (2, .rd oi 6 (encInf infos)), (3, .osl so1 sc1 3 1 (encI (rankedF osds infos self))), (4, .osl (some (Addr.mk (fr0 1).x 0 none)) m 4 1 (encBo V))]) (RunsTo.mk [] [0, 1, 7, 8, 9, 11, 65, 66, 67, 97] [1, 2, 3, 4] (fun _ => []) (fun _ => by kernel_rfl) (fun _ => trivial)) ?_
            intro _
            refine GS.cond (t := !F) rfl rfl (fun h5 => ?_) (fun h5 => ?_)
            · skip
              exfalso
              obtain ⟨t, t1, t2, t3⟩ := used_some hP (by omega) hk
              rcases i3 with ⟨g1, g2, g3⟩ | ⟨g1, _⟩
              · exact g3 t (by omega) t2 t3
              · rw [g1] at h5; cases h5
            · skip
              have hst : List.Perm (uv V osds m) ((rankedF osds infos self).drop (q + 1)) := by
                rcases i3 with ⟨g1, _⟩ | ⟨g1, t, g2, g3, g4, g5⟩
                · rw [g1] at h5; cases h5
                · exact used_step hP (by omega) hk (by omega) hU g3 g4 g5
              refine GS.skip ?_
              refine GS.inBlock ?_
              -- region 24, law.go:73
              refine GS.region (env' := fun _ => [(0, .slice oo osds.length co), (1, .slice oi infos.length ci), (7, .int .i64 ((m : Nat) : Int)), (8, .int .i64 0), (9, .bool false), (11, .slice (some (Addr.mk (fr0 1).x 0 none)) m m), (65, .slice so1 ((rankedF osds infos self).length) sc1), (66, .int .i64 (((rankedF osds infos self).length : Nat) : Int)), (67, .int .i64 ((q + 1 : Nat) : Int))]) (mem' := fun _ => [(1, .rd oo 1 (encI osds)), (2, .rd oi 6 (encInf infos)), (3, .osl so1 sc1 3 1 (encI (rankedF osds infos self))), (4, .osl (some (Addr.mk (fr0 1).x 0 none)) m 4 1 (encBo V))]) (RunsTo.mk [(0, { sp := some (.int .i64 ((q + 1 : Nat) : Int)) })] [0, 1, 7, 8, 9, 11, 65, 66, 67] [1, 2, 3, 4] (fun _ => [(.int .i64 (IntKind.i64.wrap (((q : Nat) : Int) + 1)) : Value) = .int .i64 ((q + 1 : Nat) : Int)]) (fun _ => by kernel_rfl) (fun _ => ⟨w64 (by omega) (by omega) (by omega), trivial⟩)) ?_
              intro _
              refine GS.inLoop ?_
              exact ih ⟨q + 1, V⟩ ⟨by omega, i2, hst⟩ (show m - (q + 1) < m - q from by omega)
        · replace h1 := of_decide_eq_false h1
          refine GS.exit rfl ?_
          refine GS.seq ?_
          refine GS.seq ?_
          -- region 25, law.go:85
          refine GS.region (env' := fun _ => [(0, .slice oo osds.length co), (1, .slice oi infos.length ci), (7, .int .i64 ((m : Nat) : Int)), (8, .int .i64 0), (100, .bool true)]) (mem' := fun _ => [(1, .rd oo 1 (encI osds)), (2, .rd oi 6 (encInf infos)), (3, .osl so1 sc1 3 1 (encI (rankedF osds infos self))), (4, .osl (some (Addr.mk (fr0 1).x 0 none)) m 4 1 (encBo U))]) (RunsTo.mk [] [0, 1, 7, 8, 100] [1, 2, 3, 4] (fun _ => []) (fun _ => by kernel_rfl) (fun _ => trivial)) ?_
          intro _
          refine GS.cond (t := true) rfl rfl (fun _ => ?_) (fun hf => by cases hf)
          refine GS.seq ?_
          -- region 26, law.go:86
          refine GS.region (env' := fun _ => [(6, .bool true)]) (mem' := fun _ => [(1, .rd oo 1 (encI osds)), (2, .rd oi 6 (encInf infos)), (3, .osl so1 sc1 3 1 (encI (rankedF osds infos self))), (4, .osl (some (Addr.mk (fr0 1).x 0 none)) m 4 1 (encBo U))]) (RunsTo.mk [(0, { act := .call [] (.bool true) })] [6] [1, 2, 3, 4] (fun _ => [CallOK Try.prog 8 #[] (.bool true) []]) (fun _ => by kernel_rfl) (fun _ => ⟨awake_ok, trivial⟩)) ?_
          intro _
          refine GS.ret (fn := Try.f5) [0] [.bool true] [] rfl Try.func5 (by kernel_rfl) trivial (fun w' hs => ?_)
          exact ⟨rfl, hs.keep⟩
      · skip
        have hbn : bestF osds infos self = ((rankedF osds infos self).getD 0 0, true) := by rw [bestF, if_neg (by omega)]
        refine GS.conv (env' := [(0, .slice oo osds.length co), (1, .slice oi infos.length ci), (7, .int .i64 ((m : Nat) : Int)), (8, .int .i64 ((rankedF osds infos self).getD 0 0)), (9, .bool ((bestF osds infos self).2)), (10, .slice so1 ((rankedF osds infos self).length) sc1)]) (congrArg (fun vhole : Value => [(0, .slice oo osds.length co), (1, .slice oi infos.length ci), (7, .int .i64 ((m : Nat) : Int)), (8, vhole), (9, .bool ((bestF osds infos self).2)), (10, .slice so1 ((rankedF osds infos self).length) sc1)]) (show ((.int .i64 ((bestF osds infos self).1) : Value) = .int .i64 ((rankedF osds infos self).getD 0 0)) from by rw [hbn])) rfl ?_
        refine GS.conv (env' := [(0, .slice oo osds.length co), (1, .slice oi infos.length ci), (7, .int .i64 ((m : Nat) : Int)), (8, .int .i64 ((rankedF osds infos self).getD 0 0)), (9, .bool true), (10, .slice so1 ((rankedF osds infos self).length) sc1)]) (congrArg (fun vhole : Value => [(0, .slice oo osds.length co), (1, .slice oi infos.length ci), (7, .int .i64 ((m : Nat) : Int)), (8, .int .i64 ((rankedF osds infos self).getD 0 0)), (9, vhole), (10, .slice so1 ((rankedF osds infos self).length) sc1)]) (show ((.bool ((bestF osds infos self).2) : Value) = .bool true) from by rw [hbn])) rfl ?_
        -- region 8, law.go:69
        refine GS.region (env' := fun _ => [(0, .slice oo osds.length co), (1, .slice oi infos.length ci), (7, .int .i64 ((m : Nat) : Int)), (8, .int .i64 ((rankedF osds infos self).getD 0 0)), (9, .bool true), (10, .slice so1 ((rankedF osds infos self).length) sc1), (62, .bool false)]) (mem' := fun _ => [(1, .rd oo 1 (encI osds)), (2, .rd oi 6 (encInf infos)), (3, .osl so1 sc1 3 1 (encI (rankedF osds infos self)))]) (RunsTo.mk [(2, { sp := some (.bool true) }), (3, { sp := some (.bool false) }), (8, { sp := some (.bool false) }), (14, { act := .idx 3 0 }), (15, { act := .load 3 0 0 [.int .i64 ((rankedF osds infos self).getD 0 0)] }), (17, { sp := some (.bool false) })] [0, 1, 7, 8, 9, 10, 62] [1, 2, 3] (fun _ => [(.bool (decide (((m : Nat) : Int) > 0)) : Value) = .bool true, (.bool (!(true == true)) : Value) = .bool false, (.bool ((((rankedF osds infos self).length : Nat) : Int) != ((m : Nat) : Int)) : Value) = .bool false, so1 = so1, (rankedF osds infos self).length = (encI (rankedF osds infos self)).length, (0 : Int) = ((0 : Nat) : Int), 0 < (rankedF osds infos self).length, blk so1 = blk so1, offs so1 + 0 * 1 = offs so1 + (0 * 1 + 0), (encI (rankedF osds infos self))[0]? = some [.int .i64 ((rankedF osds infos self).getD 0 0)], (.bool (((rankedF osds infos self).getD 0 0) != ((rankedF osds infos self).getD 0 0)) : Value) = .bool false]) (fun _ => by kernel_rfl) (fun _ => ⟨bool_eq (by exact decide_eq_true (by omega)), bool_eq (by rfl), bool_eq (by rw [hrl]; simp), rfl, encI_len _, rfl, by omega, rfl, rfl, encI_at (by omega), bool_eq (by simp), trivial⟩)) ?_
        intro _
        refine GS.cond (t := false) rfl rfl (fun hf => by cases hf) (fun _ => ?_)
        refine GS.skip ?_
        refine GS.seq ?_
        -- region 10, law.go:72
        refine GS.region (env' := fun fr1 => [(0, .slice oo osds.length co), (1, .slice oi infos.length ci), (7, .int .i64 ((m : Nat) : Int)), (8, .int .i64 ((rankedF osds infos self).getD 0 0)), (9, .bool true), (10, .slice so1 ((rankedF osds infos self).length) sc1), (11, .slice (some (Addr.mk (fr1 1).x 0 none)) m m)]) (mem' := fun fr1 => [(1, .rd oo 1 (encI osds)), (2, .rd oi 6 (encInf infos)), (3, .osl so1 sc1 3 1 (encI (rankedF osds infos self))), (4, .osl (some (Addr.mk (fr1 1).x 0 none)) m 4 1 (List.replicate m [.bool false]))]) (RunsTo.mk [(1, { act := .makeSlice m m, key := some 4 })] [0, 1, 7, 8, 9, 10, 11] [1, 2, 3, 4] (fun fr1 => [((m : Nat) : Int) = ((m : Nat) : Int), ((m : Nat) : Int) = ((m : Nat) : Int), m ≤ m, m * 1 ≤ 281474976710656, m ≤ 9223372036854775807]) (fun fr1 => by kernel_rfl) (fun fr1 => ⟨rfl, rfl, by omega, by omega, by omega, trivial⟩)) ?_
        intro fr1
        refine GS.seq ?_
        refine GS.seq ?_
        refine GS.conv (mem' := [(1, .rd oo 1 (encI osds)), (2, .rd oi 6 (encInf infos)), (3, .osl so1 sc1 3 1 (encI (rankedF osds infos self))), (4, .osl (some (Addr.mk (fr1 1).x 0 none)) m 4 1 (encBo (List.replicate m false)))]) rfl (congrArg (fun rr : List (List Value) => ([(1, .rd oo 1 (encI osds)), (2, .rd oi 6 (encInf infos)), (3, .osl so1 sc1 3 1 (encI (rankedF osds infos self))), (4, .osl (some (Addr.mk (fr1 1).x 0 none)) m 4 1 rr)] : List (Nat × Ent))) (show List.replicate m [.bool false] = encBo (List.replicate m false) from by rw [encBo_replicate])) ?_
        -- region 11, law.go:73
        refine GS.region (env' := fun _ => [(0, .slice oo osds.length co), (1, .slice oi infos.length ci), (7, .int .i64 ((m : Nat) : Int)), (8, .int .i64 ((rankedF osds infos self).getD 0 0)), (9, .bool true), (11, .slice (some (Addr.mk (fr1 1).x 0 none)) m m), (65, .slice so1 ((rankedF osds infos self).length) sc1), (66, .int .i64 (((rankedF osds infos self).length : Nat) : Int)), (67, .int .i64 ((0 : Nat) : Int))]) (mem' := fun _ => [(1, .rd oo 1 (encI osds)), (2, .rd oi 6 (encInf infos)), (3, .osl so1 sc1 3 1 (encI (rankedF osds infos self))), (4, .osl (some (Addr.mk (fr1 1).x 0 none)) m 4 1 (encBo (List.replicate m false)))]) (RunsTo.mk [(2, { sp := some (.int .i64 ((0 : Nat) : Int)) })] [0, 1, 7, 8, 9, 11, 65, 66, 67] [1, 2, 3, 4] (fun _ => [(.int .i64 0 : Value) = .int .i64 ((0 : Nat) : Int)]) (fun _ => by kernel_rfl) (fun _ => ⟨rfl, trivial⟩)) ?_
        intro _
        refine GS.block ?_
        refine GS.loop ?_
        refine GS.loopInv (ι := Nat × List Bool) (I := fun ⟨q, U⟩ => q ≤ m ∧ U.length = m ∧ List.Perm (uv U osds m) ((rankedF osds infos self).drop q)) (μ := fun ⟨q, U⟩ => m - q) (E := fun ⟨q, U⟩ => [(0, .slice oo osds.length co), (1, .slice oi infos.length ci), (7, .int .i64 ((m : Nat) : Int)), (8, .int .i64 ((rankedF osds infos self).getD 0 0)), (9, .bool true), (11, .slice (some (Addr.mk (fr1 1).x 0 none)) m m), (65, .slice so1 ((rankedF osds infos self).length) sc1), (66, .int .i64 (((rankedF osds infos self).length : Nat) : Int)), (67, .int .i64 ((q : Nat) : Int))]) (M := fun ⟨q, U⟩ => [(1, .rd oo 1 (encI osds)), (2, .rd oi 6 (encInf infos)), (3, .osl so1 sc1 3 1 (encI (rankedF osds infos self))), (4, .osl (some (Addr.mk (fr1 1).x 0 none)) m 4 1 (encBo U))]) ?_ ⟨0, (List.replicate m false)⟩ ⟨by omega, List.length_replicate, by rw [List.drop_zero, hm]; exact ranked_perm _ _ _⟩
        rintro ⟨q, U⟩ ⟨hq, hU, hP⟩ ih
        refine GS.seq ?_
        -- region 12, law.go:73
        refine GS.region (env' := fun _ => [(0, .slice oo osds.length co), (1, .slice oi infos.length ci), (7, .int .i64 ((m : Nat) : Int)), (8, .int .i64 ((rankedF osds infos self).getD 0 0)), (9, .bool true), (11, .slice (some (Addr.mk (fr1 1).x 0 none)) m m), (65, .slice so1 ((rankedF osds infos self).length) sc1), (66, .int .i64 (((rankedF osds infos self).length : Nat) : Int)), (67, .int .i64 ((q : Nat) : Int)), (68, .bool (decide (((q : Nat) : Int) < (((rankedF osds infos self).length : Nat) : Int))))]) (mem' := fun _ => [(1, .rd oo 1 (encI osds)), (2, .rd oi 6 (encInf infos)), (3, .osl so1 sc1 3 1 (encI (rankedF osds infos self))), (4, .osl (some (Addr.mk (fr1 1).x 0 none)) m 4 1 (encBo U))]) (RunsTo.mk [] [0, 1, 7, 8, 9, 11, 65, 66, 67, 68] [1, 2, 3, 4] (fun _ => []) (fun _ => by kernel_rfl) (fun _ => trivial)) ?_
        intro _
        refine GS.seq ?_
        refine GS.cond (t := decide (((q : Nat) : Int) < (((rankedF osds infos self).length : Nat) : Int))) rfl rfl (fun h1 => ?_) (fun h1 => ?_)
        · replace h1 := of_decide_eq_true h1
          obtain ⟨k, hk⟩ : ∃ k, k = (rankedF osds infos self).getD q 0 := ⟨_, rfl⟩
          refine GS.skip ?_
          refine GS.seq ?_
          refine GS.block ?_
          refine GS.seq ?_
          -- region 13, law.go:73
          refine GS.region (env' := fun _ => [(0, .slice oo osds.length co), (1, .slice oi infos.length ci), (7, .int .i64 ((m : Nat) : Int)), (8, .int .i64 ((rankedF osds infos self).getD 0 0)), (9, .bool true), (11, .slice (some (Addr.mk (fr1 1).x 0 none)) m m), (13, .int .i64 k), (65, .slice so1 ((rankedF osds infos self).length) sc1), (66, .int .i64 (((rankedF osds infos self).length : Nat) : Int)), (67, .int .i64 ((q : Nat) : Int))]) (mem' := fun _ => [(1, .rd oo 1 (encI osds)), (2, .rd oi 6 (encInf infos)), (3, .osl so1 sc1 3 1 (encI (rankedF osds infos self))), (4, .osl (some (Addr.mk (fr1 1).x 0 none)) m 4 1 (encBo U))]) (RunsTo.mk [(0, { act := .idx 3 q }), (1, { act := .load 3 q 0 [.int .i64 ((rankedF osds infos self).getD q 0)], sp := some (.int .i64 k) })] [0, 1, 7, 8, 9, 11, 13, 65, 66, 67] [1, 2, 3, 4] (fun _ => [so1 = so1, (rankedF osds infos self).length = (encI (rankedF osds infos self)).length, (((q : Nat) : Int) : Int) = ((q : Nat) : Int), q < (rankedF osds infos self).length, blk so1 = blk so1, offs so1 + q * 1 = offs so1 + (q * 1 + 0), (encI (rankedF osds infos self))[q]? = some [.int .i64 ((rankedF osds infos self).getD q 0)], (.int .i64 ((rankedF osds infos self).getD q 0) : Value) = .int .i64 k]) (fun _ => by kernel_rfl) (fun _ => ⟨rfl, encI_len _, rfl, by omega, rfl, rfl, encI_at (by omega), int_eq hk.symm, trivial⟩)) ?_
          intro _
          refine GS.seq ?_
          -- region 14, law.go:74
          refine GS.region (env' := fun _ => [(0, .slice oo osds.length co), (1, .slice oi infos.length ci), (7, .int .i64 ((m : Nat) : Int)), (8, .int .i64 ((rankedF osds infos self).getD 0 0)), (9, .bool true), (11, .slice (some (Addr.mk (fr1 1).x 0 none)) m m), (13, .int .i64 k), (14, .bool false), (65, .slice so1 ((rankedF osds infos self).length) sc1), (66, .int .i64 (((rankedF osds infos self).length : Nat) : Int)), (67, .int .i64 ((q : Nat) : Int))]) (mem' := fun _ => [(1, .rd oo 1 (encI osds)), (2, .rd oi 6 (encInf infos)), (3, .osl so1 sc1 3 1 (encI (rankedF osds infos self))), (4, .osl (some (Addr.mk (fr1 1).x 0 none)) m 4 1 (encBo U))]) (RunsTo.mk [] [0, 1, 7, 8, 9, 11, 13, 14, 65, 66, 67] [1, 2, 3, 4] (fun _ => []) (fun _ => by kernel_rfl) (fun _ => trivial)) ?_
          intro _
          refine GS.seq ?_
          refine GS.seq ?_
          -- region 15, law.go:75
          refine GS.region (env' := fun _ => [(0, .slice oo osds.length co), (1, .slice oi infos.length ci), (7, .int .i64 ((m : Nat) : Int)), (8, .int .i64 ((rankedF osds infos self).getD 0 0)), (9, .bool true), (11, .slice (some (Addr.mk (fr1 1).x 0 none)) m m), (13, .int .i64 k), (14, .bool false), (65, .slice so1 ((rankedF osds infos self).length) sc1), (66, .int .i64 (((rankedF osds infos self).length : Nat) : Int)), (67, .int .i64 ((q : Nat) : Int)), (71, .int .i64 ((m : Nat) : Int)), (72, .int .i64 ((0 : Nat) : Int))]) (mem' := fun _ => [(1, .rd oo 1 (encI osds)), (2, .rd oi 6 (encInf infos)), (3, .osl so1 sc1 3 1 (encI (rankedF osds infos self))), (4, .osl (some (Addr.mk (fr1 1).x 0 none)) m 4 1 (encBo U))]) (RunsTo.mk [(1, { sp := some (.int .i64 ((0 : Nat) : Int)) })] [0, 1, 7, 8, 9, 11, 13, 14, 65, 66, 67, 71, 72] [1, 2, 3, 4] (fun _ => [(.int .i64 0 : Value) = .int .i64 ((0 : Nat) : Int)]) (fun _ => by kernel_rfl) (fun _ => ⟨rfl, trivial⟩)) ?_
          intro _
          refine GS.block ?_
          refine GS.loop ?_
          refine GS.loopInv (ι := Nat × Bool × List Bool) (I := fun ⟨i, F, V⟩ => i ≤ m ∧ V.length = m ∧ ((F = false ∧ V = U ∧ ∀ t, t < i → U.getD t false = false → osds.getD t 0 ≠ k) ∨ (F = true ∧ ∃ t, t < i ∧ U.getD t false = false ∧ osds.getD t 0 = k ∧ V = U.set t true))) (μ := fun ⟨i, F, V⟩ => m - i) (E := fun ⟨i, F, V⟩ => [(0, .slice oo osds.length co), (1, .slice oi infos.length ci), (7, .int .i64 ((m : Nat) : Int)), (8, .int .i64 ((rankedF osds infos self).getD 0 0)), (9, .bool true), (11, .slice (some (Addr.mk (fr1 1).x 0 none)) m m), (13, .int .i64 k), (14, .bool F), (65, .slice so1 ((rankedF osds infos self).length) sc1), (66, .int .i64 (((rankedF osds infos self).length : Nat) : Int)), (67, .int .i64 ((q : Nat) : Int)), (71, .int .i64 ((m : Nat) : Int)), (72, .int .i64 ((i : Nat) : Int))]) (M := fun ⟨i, F, V⟩ => [(1, .rd oo 1 (encI osds)), (2, .rd oi 6 (encInf infos)), (3, .osl so1 sc1 3 1 (encI (rankedF osds infos self))), (4, .osl (some (Addr.mk (fr1 1).x 0 none)) m 4 1 (encBo V))]) ?_ ⟨0, false, U⟩ ⟨by omega, hU, .inl ⟨rfl, rfl, fun t ht => by omega⟩⟩
          rintro ⟨i, F, V⟩ ⟨i1, i2, i3⟩ ih1
          refine GS.seq ?_
          -- region 16, law.go:75
          refine GS.region (env' := fun _ => [(0, .slice oo osds.length co), (1, .slice oi infos.length ci), (7, .int .i64 ((m : Nat) : Int)), (8, .int .i64 ((rankedF osds infos self).getD 0 0)), (9, .bool true), (11, .slice (some (Addr.mk (fr1 1).x 0 none)) m m), (13, .int .i64 k), (14, .bool F), (65, .slice so1 ((rankedF osds infos self).length) sc1), (66, .int .i64 (((rankedF osds infos self).length : Nat) : Int)), (67, .int .i64 ((q : Nat) : Int)), (71, .int .i64 ((m : Nat) : Int)), (72, .int .i64 ((i : Nat) : Int)), (73, .bool (decide (((i : Nat) : Int) < ((m : Nat) : Int))))]) (mem' := fun _ => [(1, .rd oo 1 (encI osds)), (2, .rd oi 6 (encInf infos)), (3, .osl so1 sc1 3 1 (encI (rankedF osds infos self))), (4, .osl (some (Addr.mk (fr1 1).x 0 none)) m 4 1 (encBo V))]) (RunsTo.mk [] [0, 1, 7, 8, 9, 11, 13, 14, 65, 66, 67, 71, 72, 73] [1, 2, 3, 4] (fun _ => []) (fun _ => by kernel_rfl) (fun _ => trivial)) ?_
          intro _
          refine GS.seq ?_
          refine GS.cond (t := decide (((i : Nat) : Int) < ((m : Nat) : Int))) rfl rfl (fun h3 => ?_) (fun h3 => ?_)
          · replace h3 := of_decide_eq_true h3
            refine GS.skip ?_
            refine GS.seq ?_
            refine GS.block ?_
            refine GS.seq ?_
            -- region 17, law.go:75
            refine GS.region (env' := fun _ => [(0, .slice oo osds.length co), (1, .slice oi infos.length ci), (7, .int .i64 ((m : Nat) : Int)), (8, .int .i64 ((rankedF osds infos self).getD 0 0)), (9, .bool true), (11, .slice (some (Addr.mk (fr1 1).x 0 none)) m m), (13, .int .i64 k), (14, .bool F), (15, .int .i64 ((i : Nat) : Int)), (65, .slice so1 ((rankedF osds infos self).length) sc1), (66, .int .i64 (((rankedF osds infos self).length : Nat) : Int)), (67, .int .i64 ((q : Nat) : Int)), (71, .int .i64 ((m : Nat) : Int)), (72, .int .i64 ((i : Nat) : Int))]) (mem' := fun _ => [(1, .rd oo 1 (encI osds)), (2, .rd oi 6 (encInf infos)), (3, .osl so1 sc1 3 1 (encI (rankedF osds infos self))), (4, .osl (some (Addr.mk (fr1 1).x 0 none)) m 4 1 (encBo V))]) (RunsTo.mk [] [0, 1, 7, 8, 9, 11, 13, 14, 15, 65, 66, 67, 71, 72] [1, 2, 3, 4] (fun _ => []) (fun _ => by kernel_rfl) (fun _ => trivial)) ?_
            intro _
            refine GS.seq ?_
            -- region 18, law.go:76
            refine GS.region (env' := fun _ => [(0, .slice oo osds.length co), (1, .slice oi infos.length ci), (7, .int .i64 ((m : Nat) : Int)), (8, .int .i64 ((rankedF osds infos self).getD 0 0)), (9, .bool true), (11, .slice (some (Addr.mk (fr1 1).x 0 none)) m m), (13, .int .i64 k), (14, .bool F), (15, .int .i64 ((i : Nat) : Int)), (65, .slice so1 ((rankedF osds infos self).length) sc1), (66, .int .i64 (((rankedF osds infos self).length : Nat) : Int)), (67, .int .i64 ((q : Nat) : Int)), (71, .int .i64 ((m : Nat) : Int)), (72, .int .i64 ((i : Nat) : Int)), (91, .bool (!F && ((!(V.getD i false)) && ((osds.getD i 0) == k))))]) (mem' := fun _ => [(1, .rd oo 1 (encI osds)), (2, .rd oi 6 (encInf infos)), (3, .osl so1 sc1 3 1 (encI (rankedF osds infos self))), (4, .osl (some (Addr.mk (fr1 1).x 0 none)) m 4 1 (encBo V))]) ?_ ?_
            · rcases Bool.eq_false_or_eq_true (!F) with hg0 | hg0
              · have hg0' := hg0
                rcases Bool.eq_false_or_eq_true (!(V.getD i false)) with hg1 | hg1
                · have hg1' := hg1
                  exact RunsTo.mk [(2, { sp := some (.bool true) }), (5, { act := .idx 4 i }), (6, { act := .load 4 i 0 [.bool (V.getD i false)] }), (9, { sp := some (.bool true) }), (12, { act := .idx 1 i }), (13, { act := .load 1 i 0 [.int .i64 (osds.getD i 0)] }), (16, { sp := some (.bool (!F && ((!(V.getD i false)) && ((osds.getD i 0) == k)))) })] [0, 1, 7, 8, 9, 11, 13, 14, 15, 65, 66, 67, 71, 72, 91] [1, 2, 3, 4] (fun _ => [((.bool !F) : Value) = .bool true, some (Addr.mk (fr1 1).x 0 none) = some (Addr.mk (fr1 1).x 0 none), m = (encBo V).length, (((i : Nat) : Int) : Int) = ((i : Nat) : Int), i < m, blk (some (Addr.mk (fr1 1).x 0 none)) = blk (some (Addr.mk (fr1 1).x 0 none)), offs (some (Addr.mk (fr1 1).x 0 none)) + i * 1 = offs (some (Addr.mk (fr1 1).x 0 none)) + (i * 1 + 0), (encBo V)[i]? = some [.bool (V.getD i false)], ((.bool (!(V.getD i false))) : Value) = .bool true, oo = oo, osds.length = (encI osds).length, (((i : Nat) : Int) : Int) = ((i : Nat) : Int), i < osds.length, blk oo = blk oo, offs oo + i * 1 = offs oo + (i * 1 + 0), (encI osds)[i]? = some [.int .i64 (osds.getD i 0)], ((.bool ((osds.getD i 0) == k)) : Value) = .bool (!F && ((!(V.getD i false)) && ((osds.getD i 0) == k)))]) (fun _ => by kernel_rfl) (fun _ => ⟨bool_eq (by assumption), rfl, (by rw [← encBo_len]; omega), rfl, by omega, rfl, rfl, encBo_at (by omega), bool_eq (by assumption), rfl, encI_len _, rfl, by omega, rfl, rfl, encI_at (by omega), bool_eq (by first | (simp only [hg0, hg1, Bool.true_and, Bool.false_and, Bool.and_true, Bool.and_false, Bool.true_or, Bool.false_or, Bool.or_true, Bool.or_false, Bool.not_true, Bool.not_false]) | simp [hg0, hg1]), trivial⟩)
                · have hg1' := hg1
                  exact RunsTo.mk [(2, { sp := some (.bool true) }), (5, { act := .idx 4 i }), (6, { act := .load 4 i 0 [.bool (V.getD i false)] }), (9, { sp := some (.bool false) }), (16, { sp := some (.bool (!F && ((!(V.getD i false)) && ((osds.getD i 0) == k)))) })] [0, 1, 7, 8, 9, 11, 13, 14, 15, 65, 66, 67, 71, 72, 91] [1, 2, 3, 4] (fun _ => [((.bool !F) : Value) = .bool true, some (Addr.mk (fr1 1).x 0 none) = some (Addr.mk (fr1 1).x 0 none), m = (encBo V).length, (((i : Nat) : Int) : Int) = ((i : Nat) : Int), i < m, blk (some (Addr.mk (fr1 1).x 0 none)) = blk (some (Addr.mk (fr1 1).x 0 none)), offs (some (Addr.mk (fr1 1).x 0 none)) + i * 1 = offs (some (Addr.mk (fr1 1).x 0 none)) + (i * 1 + 0), (encBo V)[i]? = some [.bool (V.getD i false)], ((.bool (!(V.getD i false))) : Value) = .bool false, ((.bool false) : Value) = .bool (!F && ((!(V.getD i false)) && ((osds.getD i 0) == k)))]) (fun _ => by kernel_rfl) (fun _ => ⟨bool_eq (by assumption), rfl, (by rw [← encBo_len]; omega), rfl, by omega, rfl, rfl, encBo_at (by omega), bool_eq (by assumption), bool_eq (by first | (simp only [hg0, hg1, Bool.true_and, Bool.false_and, Bool.and_true, Bool.and_false, Bool.true_or, Bool.false_or, Bool.or_true, Bool.or_false, Bool.not_true, Bool.not_false]) | simp [hg0, hg1]), trivial⟩)
              · have hg0' := hg0
                exact RunsTo.mk [(2, { sp := some (.bool false) }), (16, { sp := some (.bool (!F && ((!(V.getD i false)) && ((osds.getD i 0) == k)))) })] [0, 1, 7, 8, 9, 11, 13, 14, 15, 65, 66, 67, 71, 72, 91] [1, 2, 3, 4] (fun _ => [((.bool !F) : Value) = .bool false, ((.bool false) : Value) = .bool (!F && ((!(V.getD i false)) && ((osds.getD i 0) == k)))]) (fun _ => by kernel_rfl) (fun _ => ⟨bool_eq (by assumption), bool_eq (by first | (simp only [hg0, Bool.true_and, Bool.false_and, Bool.and_true, Bool.and_false, Bool.true_or, Bool.false_or, Bool.or_true, Bool.or_false, Bool.not_true, Bool.not_false]) | simp [hg0]), trivial⟩)
            intro _
            refine GS.cond (t := !F && ((!(V.getD i false)) && ((osds.getD i 0) == k))) rfl rfl (fun h4 => ?_) (fun h4 => ?_)
            · skip
              have hh : F = false ∧ V.getD i false = false ∧ osds.getD i 0 = k := by simp only [Bool.and_eq_true, Bool.not_eq_true', beq_iff_eq] at h4; exact h4
              refine GS.seq ?_
              -- region 19, law.go:77
              refine GS.region (env' := fun _ => [(0, .slice oo osds.length co), (1, .slice oi infos.length ci), (7, .int .i64 ((m : Nat) : Int)), (8, .int .i64 ((rankedF osds infos self).getD 0 0)), (9, .bool true), (11, .slice (some (Addr.mk (fr1 1).x 0 none)) m m), (13, .int .i64 k), (65, .slice so1 ((rankedF osds infos self).length) sc1), (66, .int .i64 (((rankedF osds infos self).length : Nat) : Int)), (67, .int .i64 ((q : Nat) : Int)), (71, .int .i64 ((m : Nat) : Int)), (72, .int .i64 ((i : Nat) : Int))]) (mem' := fun _ => [(1, .rd oo 1 (encI osds)), (2, .rd oi 6 (encInf infos)), (3, .osl so1 sc1 3 1 (encI (rankedF osds infos self))), (4, .osl (some (Addr.mk (fr1 1).x 0 none)) m 4 1 ((encBo V).set i [.bool true]))]) (RunsTo.mk [(2, { act := .idx 4 i }), (3, { act := .store i 0 [.bool (V.getD i false)], key := some 4 })] [0, 1, 7, 8, 9, 11, 13, 65, 66, 67, 71, 72] [1, 2, 3, 4] (fun _ => [some (Addr.mk (fr1 1).x 0 none) = some (Addr.mk (fr1 1).x 0 none), m = (encBo V).length, (((i : Nat) : Int) : Int) = ((i : Nat) : Int), i < m, blk (some (Addr.mk (fr1 1).x 0 none)) = blk (some (Addr.mk (fr1 1).x 0 none)), offs (some (Addr.mk (fr1 1).x 0 none)) + i * 1 = offs (some (Addr.mk (fr1 1).x 0 none)) + (i * 1 + 0), (encBo V)[i]? = some [.bool (V.getD i false)], ((.bool true) : Value).cells.toList.all Value.oneCell' = true]) (fun _ => by kernel_rfl) (fun _ => ⟨rfl, (by rw [← encBo_len]; omega), rfl, by omega, rfl, rfl, encBo_at (by omega), rfl, trivial⟩)) ?_
              intro _
              refine GS.conv (mem' := [(1, .rd oo 1 (encI osds)), (2, .rd oi 6 (encInf infos)), (3, .osl so1 sc1 3 1 (encI (rankedF osds infos self))), (4, .osl (some (Addr.mk (fr1 1).x 0 none)) m 4 1 (encBo (V.set i true)))]) rfl (congrArg (fun rr : List (List Value) => ([(1, .rd oo 1 (encI osds)), (2, .rd oi 6 (encInf infos)), (3, .osl so1 sc1 3 1 (encI (rankedF osds infos self))), (4, .osl (some (Addr.mk (fr1 1).x 0 none)) m 4 1 rr)] : List (Nat × Ent))) (show (encBo V).set i [.bool true] = encBo (V.set i true) from encBo_set _ _ _)) ?_
              have hV : V = U := by
                rcases i3 with ⟨_, g2, _⟩ | ⟨g1, _⟩
                · exact g2
                · rw [hh.1] at g1; cases g1
              -- region 20, law.go:78
              refine GS.region (env' := fun _ => [(0, .slice oo osds.length co), (1, .slice oi infos.length ci), (7, .int .i64 ((m : Nat) : Int)), (8, .int .i64 ((rankedF osds infos self).getD 0 0)), (9, .bool true), (11, .slice (some (Addr.mk (fr1 1).x 0 none)) m m), (13, .int .i64 k), (14, .bool true), (65, .slice so1 ((rankedF osds infos self).length) sc1), (66, .int .i64 (((rankedF osds infos self).length : Nat) : Int)), (67, .int .i64 ((q : Nat) : Int)), (71, .int .i64 ((m : Nat) : Int)), (72, .int .i64 ((i : Nat) : Int))]) (mem' := fun _ => [(1, .rd oo 1 (encI osds)), (2, .rd oi 6 (encInf infos)), (3, .osl so1 sc1 3 1 (encI (rankedF osds infos self))), (4, .osl (some (Addr.mk (fr1 1).x 0 none)) m 4 1 (encBo (V.set i true)))]) (RunsTo.mk [] [0, 1, 7, 8, 9, 11, 13, 14, 65, 66, 67, 71, 72] [1, 2, 3, 4] (fun _ => []) (fun _ => by kernel_rfl) (fun _ => trivial)) ?_
              intro _
              refine GS.inBlock ?_
              -- region 21, law.go:75
              refine GS.region (env' := fun _ => [(0, .slice oo osds.length co), (1, .slice oi infos.length ci), (7, .int .i64 ((m : Nat) : Int)), (8, .int .i64 ((rankedF osds infos self).getD 0 0)), (9, .bool true), (11, .slice (some (Addr.mk (fr1 1).x 0 none)) m m), (13, .int .i64 k), (14, .bool true), (65, .slice so1 ((rankedF osds infos self).length) sc1), (66, .int .i64 (((rankedF osds infos self).length : Nat) : Int)), (67, .int .i64 ((q : Nat) : Int)), (71, .int .i64 ((m : Nat) : Int)), (72, .int .i64 ((i + 1 : Nat) : Int))]) (mem' := fun _ => [(1, .rd oo 1 (encI osds)), (2, .rd oi 6 (encInf infos)), (3, .osl so1 sc1 3 1 (encI (rankedF osds infos self))), (4, .osl (some (Addr.mk (fr1 1).x 0 none)) m 4 1 (encBo (V.set i true)))]) (RunsTo.mk [(0, { sp := some (.int .i64 ((i + 1 : Nat) : Int)) })] [0, 1, 7, 8, 9, 11, 13, 14, 65, 66, 67, 71, 72] [1, 2, 3, 4] (fun _ => [(.int .i64 (IntKind.i64.wrap (((i : Nat) : Int) + 1)) : Value) = .int .i64 ((i + 1 : Nat) : Int)]) (fun _ => by kernel_rfl) (fun _ => ⟨w64 (by omega) (by omega) (by omega), trivial⟩)) ?_
              intro _
              refine GS.inLoop ?_
              exact ih1 ⟨i + 1, true, (V.set i true)⟩ ⟨by omega, by rw [List.length_set]; exact i2, .inr ⟨rfl, i, by omega, by rw [← hV]; exact hh.2.1, hh.2.2, by rw [hV]⟩⟩ (show m - (i + 1) < m - i from by omega)
            · skip
              have hh : ¬ (F = false ∧ V.getD i false = false ∧ osds.getD i 0 = k) := fun ⟨g1, g2, g3⟩ => by rw [g1, g2, g3] at h4; simp at h4
              have hn : (F = false ∧ V = U ∧ ∀ t, t < i + 1 → U.getD t false = false → osds.getD t 0 ≠ k) ∨ (F = true ∧ ∃ t, t < i + 1 ∧ U.getD t false = false ∧ osds.getD t 0 = k ∧ V = U.set t true) := by
                rcases i3 with ⟨g1, g2, g3⟩ | ⟨g1, t, g2, g3⟩
                · exact .inl ⟨g1, g2, fun t ht hu hv => if hti : t = i then hh ⟨g1, by rw [g2, ← hti]; exact hu, by rw [← hti]; exact hv⟩ else g3 t (by omega) hu hv⟩
                · exact .inr ⟨g1, t, by omega, g3⟩
              refine GS.skip ?_
              refine GS.inBlock ?_
              -- region 21, law.go:75
              refine GS.region (env' := fun _ => [(0, .slice oo osds.length co), (1, .slice oi infos.length ci), (7, .int .i64 ((m : Nat) : Int)), (8, .int .i64 ((rankedF osds infos self).getD 0 0)), (9, .bool true), (11, .slice (some (Addr.mk (fr1 1).x 0 none)) m m), (13, .int .i64 k), (14, .bool F), (65, .slice so1 ((rankedF osds infos self).length) sc1), (66, .int .i64 (((rankedF osds infos self).length : Nat) : Int)), (67, .int .i64 ((q : Nat) : Int)), (71, .int .i64 ((m : Nat) : Int)), (72, .int .i64 ((i + 1 : Nat) : Int))]) (mem' := fun _ => [(1, .rd oo 1 (encI osds)), (2, .rd oi 6 (encInf infos)), (3, .osl so1 sc1 3 1 (encI (rankedF osds infos self))), (4, .osl (some (Addr.mk (fr1 1).x 0 none)) m 4 1 (encBo V))]) (RunsTo.mk [(0, { sp := some (.int .i64 ((i + 1 : Nat) : Int)) })] [0, 1, 7, 8, 9, 11, 13, 14, 65, 66, 67, 71, 72] [1, 2, 3, 4] (fun _ => [(.int .i64 (IntKind.i64.wrap (((i : Nat) : Int) + 1)) : Value) = .int .i64 ((i + 1 : Nat) : Int)]) (fun _ => by kernel_rfl) (fun _ => ⟨w64 (by omega) (by omega) (by omega), trivial⟩)) ?_
              intro _
              refine GS.inLoop ?_
              exact ih1 ⟨i + 1, F, V⟩ ⟨by omega, i2, hn⟩ (show m - (i + 1) < m - i from by omega)
          · replace h3 := of_decide_eq_false h3
            have him : i = m := by omega
            refine GS.exit rfl ?_
            refine GS.seq ?_
            -- region 22, law.go:81
            refine GS.region (env' := fun _ => [(0, .slice oo osds.length co), (1, .slice oi infos.length ci), (7, .int .i64 ((m : Nat) : Int)), (8, .int .i64 ((rankedF osds infos self).getD 0 0)), (9, .bool true), (11, .slice (some (Addr.mk (fr1 1).x 0 none)) m m), (65, .slice so1 ((rankedF osds infos self).length) sc1), (66, .int .i64 (((rankedF osds infos self).length : Nat) : Int)), (67, .int .i64 ((q : Nat) : Int)), (97, .bool !F)]) (mem' := fun _ => [(1, .rd oo 1 (encI osds)), (2, .rd oi 6 (encInf infos)), (3, .osl so1 sc1 3 1 (encI (rankedF osds infos self))), (4, .osl (some (Addr.mk (fr1 1).x 0 none)) m 4 1 (encBo V))]) (RunsTo.mk [] [0, 1, 7, 8, 9, 11, 65, 66, 67, 97] [1, 2, 3, 4] (fun _ => []) (fun _ => by kernel_rfl) (fun _ => trivial)) ?_
            intro _
            refine GS.cond (t := !F) rfl rfl (fun h5 => ?_) (fun h5 => ?_)
            · skip
              exfalso
              obtain ⟨t, t1, t2, t3⟩ := used_some hP (by omega) hk
              rcases i3 with ⟨g1, g2, g3⟩ | ⟨g1, _⟩
              · exact g3 t (by omega) t2 t3
              · rw [g1] at h5; cases h5
            · skip
              have hst : List.Perm (uv V osds m) ((rankedF osds infos self).drop (q + 1)) := by
                rcases i3 with ⟨g1, _⟩ | ⟨g1, t, g2, g3, g4, g5⟩
                · rw [g1] at h5; cases h5
                · exact used_step hP (by omega) hk (by omega) hU g3 g4 g5
              refine GS.skip ?_
              refine GS.inBlock ?_
              -- region 24, law.go:73
              refine GS.region (env' := fun _ => [(0, .slice oo osds.length co), (1, .slice oi infos.length ci), (7, .int .i64 ((m : Nat) : Int)), (8, .int .i64 ((rankedF osds infos self).getD 0 0)), (9, .bool true), (11, .slice (some (Addr.mk (fr1 1).x 0 none)) m m), (65, .slice so1 ((rankedF osds infos self).length) sc1), (66, .int .i64 (((rankedF osds infos self).length : Nat) : Int)), (67, .int .i64 ((q + 1 : Nat) : Int))]) (mem' := fun _ => [(1, .rd oo 1 (encI osds)), (2, .rd oi 6 (encInf infos)), (3, .osl so1 sc1 3 1 (encI (rankedF osds infos self))), (4, .osl (some (Addr.mk (fr1 1).x 0 none)) m 4 1 (encBo V))]) (RunsTo.mk [(0, { sp := some (.int .i64 ((q + 1 : Nat) : Int)) })] [0, 1, 7, 8, 9, 11, 65, 66, 67] [1, 2, 3, 4] (fun _ => [(.int .i64 (IntKind.i64.wrap (((q : Nat) : Int) + 1)) : Value) = .int .i64 ((q + 1 : Nat) : Int)]) (fun _ => by kernel_rfl) (fun _ => ⟨w64 (by omega) (by omega) (by omega), trivial⟩)) ?_
              intro _
              refine GS.inLoop ?_
              exact ih ⟨q + 1, V⟩ ⟨by omega, i2, hst⟩ (show m - (q + 1) < m - q from by omega)
        · replace h1 := of_decide_eq_false h1
          refine GS.exit rfl ?_
          refine GS.seq ?_
          refine GS.seq ?_
          -- region 25, law.go:85
          refine GS.region (env' := fun _ => [(0, .slice oo osds.length co), (1, .slice oi infos.length ci), (7, .int .i64 ((m : Nat) : Int)), (8, .int .i64 ((rankedF osds infos self).getD 0 0)), (100, .bool false)]) (mem' := fun _ => [(1, .rd oo 1 (encI osds)), (2, .rd oi 6 (encInf infos)), (3, .osl so1 sc1 3 1 (encI (rankedF osds infos self))), (4, .osl (some (Addr.mk (fr1 1).x 0 none)) m 4 1 (encBo U))]) (RunsTo.mk [] [0, 1, 7, 8, 100] [1, 2, 3, 4] (fun _ => []) (fun _ => by kernel_rfl) (fun _ => trivial)) ?_
          intro _
          refine GS.cond (t := false) rfl rfl (fun hf => by cases hf) (fun _ => ?_)
          refine GS.skip ?_
          refine GS.seq ?_
          -- region 27, law.go:88
          refine GS.region (env' := fun _ => [(0, .slice oo osds.length co), (1, .slice oi infos.length ci), (7, .int .i64 ((m : Nat) : Int)), (8, .int .i64 ((rankedF osds infos self).getD 0 0)), (16, .bool false)]) (mem' := fun _ => [(1, .rd oo 1 (encI osds)), (2, .rd oi 6 (encInf infos)), (3, .osl so1 sc1 3 1 (encI (rankedF osds infos self))), (4, .osl (some (Addr.mk (fr1 1).x 0 none)) m 4 1 (encBo U))]) (RunsTo.mk [] [0, 1, 7, 8, 16] [1, 2, 3, 4] (fun _ => []) (fun _ => by kernel_rfl) (fun _ => trivial)) ?_
          intro _
          refine GS.seq ?_
          refine GS.seq ?_
          refine GS.setMem (mem' := [(1, .rd oo 1 (encI osds)), (2, .rd oi 6 (encInf infos)), (3, .osl so1 sc1 3 1 (encI (rankedF osds infos self))), (4, .osl (some (Addr.mk (fr1 1).x 0 none)) m 4 1 (encBo U)), (5, .rd oi 6 (encInf (infos.take m)))]) (fun w hw => Sat.addRd (k0 := 2) hw rfl (encInf_take) rfl) ?_
          have htl := take_len (infos := infos) (m := m) hm2
          -- region 28, law.go:89
          refine GS.region (env' := fun _ => [(0, .slice oo osds.length co), (1, .slice oi infos.length ci), (7, .int .i64 ((m : Nat) : Int)), (8, .int .i64 ((rankedF osds infos self).getD 0 0)), (16, .bool false), (102, .int .i64 ((m : Nat) : Int)), (103, .int .i64 ((0 : Nat) : Int))]) (mem' := fun _ => [(1, .rd oo 1 (encI osds)), (2, .rd oi 6 (encInf infos)), (3, .osl so1 sc1 3 1 (encI (rankedF osds infos self))), (4, .osl (some (Addr.mk (fr1 1).x 0 none)) m 4 1 (encBo U)), (5, .rd oi 6 (encInf (infos.take m)))]) (RunsTo.mk [(1, { sp := some (.int .i64 ((0 : Nat) : Int)) })] [0, 1, 7, 8, 16, 102, 103] [1, 2, 3, 4, 5] (fun _ => [(.int .i64 0 : Value) = .int .i64 ((0 : Nat) : Int)]) (fun _ => by kernel_rfl) (fun _ => ⟨rfl, trivial⟩)) ?_
          intro _
          refine GS.block ?_
          refine GS.loop ?_
          refine GS.loopInv (ι := Nat) (I := fun (i : Nat) => i ≤ m) (μ := fun (i : Nat) => m - i) (E := fun (i : Nat) => [(0, .slice oo osds.length co), (1, .slice oi infos.length ci), (7, .int .i64 ((m : Nat) : Int)), (8, .int .i64 ((rankedF osds infos self).getD 0 0)), (16, .bool (gTo osds infos ((rankedF osds infos self).getD 0 0) (lesTo infos m) m i)), (102, .int .i64 ((m : Nat) : Int)), (103, .int .i64 ((i : Nat) : Int))]) (M := fun (i : Nat) => [(1, .rd oo 1 (encI osds)), (2, .rd oi 6 (encInf infos)), (3, .osl so1 sc1 3 1 (encI (rankedF osds infos self))), (4, .osl (some (Addr.mk (fr1 1).x 0 none)) m 4 1 (encBo U)), (5, .rd oi 6 (encInf (infos.take m)))]) ?_ 0 (Nat.zero_le _)
          rintro i him0 ih1
          refine GS.seq ?_
          -- region 29, law.go:89
          refine GS.region (env' := fun _ => [(0, .slice oo osds.length co), (1, .slice oi infos.length ci), (7, .int .i64 ((m : Nat) : Int)), (8, .int .i64 ((rankedF osds infos self).getD 0 0)), (16, .bool (gTo osds infos ((rankedF osds infos self).getD 0 0) (lesTo infos m) m i)), (102, .int .i64 ((m : Nat) : Int)), (103, .int .i64 ((i : Nat) : Int)), (104, .bool (decide (((i : Nat) : Int) < ((m : Nat) : Int))))]) (mem' := fun _ => [(1, .rd oo 1 (encI osds)), (2, .rd oi 6 (encInf infos)), (3, .osl so1 sc1 3 1 (encI (rankedF osds infos self))), (4, .osl (some (Addr.mk (fr1 1).x 0 none)) m 4 1 (encBo U)), (5, .rd oi 6 (encInf (infos.take m)))]) (RunsTo.mk [] [0, 1, 7, 8, 16, 102, 103, 104] [1, 2, 3, 4, 5] (fun _ => []) (fun _ => by kernel_rfl) (fun _ => trivial)) ?_
          intro _
          refine GS.seq ?_
          refine GS.cond (t := decide (((i : Nat) : Int) < ((m : Nat) : Int))) rfl rfl (fun h6 => ?_) (fun h6 => ?_)
          · replace h6 := of_decide_eq_true h6
            refine GS.skip ?_
            refine GS.seq ?_
            refine GS.block ?_
            refine GS.seq ?_
            -- region 30, law.go:89
            refine GS.region (env' := fun _ => [(0, .slice oo osds.length co), (1, .slice oi infos.length ci), (7, .int .i64 ((m : Nat) : Int)), (8, .int .i64 ((rankedF osds infos self).getD 0 0)), (16, .bool (gTo osds infos ((rankedF osds infos self).getD 0 0) (lesTo infos m) m i)), (17, .int .i64 ((i : Nat) : Int)), (102, .int .i64 ((m : Nat) : Int)), (103, .int .i64 ((i : Nat) : Int))]) (mem' := fun _ => [(1, .rd oo 1 (encI osds)), (2, .rd oi 6 (encInf infos)), (3, .osl so1 sc1 3 1 (encI (rankedF osds infos self))), (4, .osl (some (Addr.mk (fr1 1).x 0 none)) m 4 1 (encBo U)), (5, .rd oi 6 (encInf (infos.take m)))]) (RunsTo.mk [] [0, 1, 7, 8, 16, 17, 102, 103] [1, 2, 3, 4, 5] (fun _ => []) (fun _ => by kernel_rfl) (fun _ => trivial)) ?_
            intro _
            refine GS.seq ?_
            -- region 31, law.go:90
            refine GS.region (env' := fun _ => [(0, .slice oo osds.length co), (1, .slice oi infos.length ci), (7, .int .i64 ((m : Nat) : Int)), (8, .int .i64 ((rankedF osds infos self).getD 0 0)), (16, .bool (gTo osds infos ((rankedF osds infos self).getD 0 0) (lesTo infos m) m i)), (17, .int .i64 ((i : Nat) : Int)), (18, .bool true), (102, .int .i64 ((m : Nat) : Int)), (103, .int .i64 ((i : Nat) : Int))]) (mem' := fun _ => [(1, .rd oo 1 (encI osds)), (2, .rd oi 6 (encInf infos)), (3, .osl so1 sc1 3 1 (encI (rankedF osds infos self))), (4, .osl (some (Addr.mk (fr1 1).x 0 none)) m 4 1 (encBo U)), (5, .rd oi 6 (encInf (infos.take m)))]) (RunsTo.mk [] [0, 1, 7, 8, 16, 17, 18, 102, 103] [1, 2, 3, 4, 5] (fun _ => []) (fun _ => by kernel_rfl) (fun _ => trivial)) ?_
            intro _
            refine GS.seq ?_
            refine GS.seq ?_
            -- region 32, law.go:91
            refine GS.region (env' := fun _ => [(0, .slice oo osds.length co), (1, .slice oi infos.length ci), (7, .int .i64 ((m : Nat) : Int)), (8, .int .i64 ((rankedF osds infos self).getD 0 0)), (16, .bool (gTo osds infos ((rankedF osds infos self).getD 0 0) (lesTo infos m) m i)), (17, .int .i64 ((i : Nat) : Int)), (18, .bool true), (102, .int .i64 ((m : Nat) : Int)), (103, .int .i64 ((i : Nat) : Int)), (106, .int .i64 ((m : Nat) : Int)), (107, .int .i64 ((0 : Nat) : Int))]) (mem' := fun _ => [(1, .rd oo 1 (encI osds)), (2, .rd oi 6 (encInf infos)), (3, .osl so1 sc1 3 1 (encI (rankedF osds infos self))), (4, .osl (some (Addr.mk (fr1 1).x 0 none)) m 4 1 (encBo U)), (5, .rd oi 6 (encInf (infos.take m)))]) (RunsTo.mk [(1, { sp := some (.int .i64 ((0 : Nat) : Int)) })] [0, 1, 7, 8, 16, 17, 18, 102, 103, 106, 107] [1, 2, 3, 4, 5] (fun _ => [(.int .i64 0 : Value) = .int .i64 ((0 : Nat) : Int)]) (fun _ => by kernel_rfl) (fun _ => ⟨rfl, trivial⟩)) ?_
            intro _
            refine GS.block ?_
            refine GS.loop ?_
            refine GS.loopInv (ι := Nat) (I := fun (k : Nat) => k ≤ m) (μ := fun (k : Nat) => m - k) (E := fun (k : Nat) => [(0, .slice oo osds.length co), (1, .slice oi infos.length ci), (7, .int .i64 ((m : Nat) : Int)), (8, .int .i64 ((rankedF osds infos self).getD 0 0)), (16, .bool (gTo osds infos ((rankedF osds infos self).getD 0 0) (lesTo infos m) m i)), (17, .int .i64 ((i : Nat) : Int)), (18, .bool (topTo infos i k)), (102, .int .i64 ((m : Nat) : Int)), (103, .int .i64 ((i : Nat) : Int)), (106, .int .i64 ((m : Nat) : Int)), (107, .int .i64 ((k : Nat) : Int))]) (M := fun (k : Nat) => [(1, .rd oo 1 (encI osds)), (2, .rd oi 6 (encInf infos)), (3, .osl so1 sc1 3 1 (encI (rankedF osds infos self))), (4, .osl (some (Addr.mk (fr1 1).x 0 none)) m 4 1 (encBo U)), (5, .rd oi 6 (encInf (infos.take m)))]) ?_ 0 (Nat.zero_le _)
            rintro k hkm0 ih2
            refine GS.seq ?_
            -- region 33, law.go:91
            refine GS.region (env' := fun _ => [(0, .slice oo osds.length co), (1, .slice oi infos.length ci), (7, .int .i64 ((m : Nat) : Int)), (8, .int .i64 ((rankedF osds infos self).getD 0 0)), (16, .bool (gTo osds infos ((rankedF osds infos self).getD 0 0) (lesTo infos m) m i)), (17, .int .i64 ((i : Nat) : Int)), (18, .bool (topTo infos i k)), (102, .int .i64 ((m : Nat) : Int)), (103, .int .i64 ((i : Nat) : Int)), (106, .int .i64 ((m : Nat) : Int)), (107, .int .i64 ((k : Nat) : Int)), (108, .bool (decide (((k : Nat) : Int) < ((m : Nat) : Int))))]) (mem' := fun _ => [(1, .rd oo 1 (encI osds)), (2, .rd oi 6 (encInf infos)), (3, .osl so1 sc1 3 1 (encI (rankedF osds infos self))), (4, .osl (some (Addr.mk (fr1 1).x 0 none)) m 4 1 (encBo U)), (5, .rd oi 6 (encInf (infos.take m)))]) (RunsTo.mk [] [0, 1, 7, 8, 16, 17, 18, 102, 103, 106, 107, 108] [1, 2, 3, 4, 5] (fun _ => []) (fun _ => by kernel_rfl) (fun _ => trivial)) ?_
            intro _
            refine GS.seq ?_
            refine GS.cond (t := decide (((k : Nat) : Int) < ((m : Nat) : Int))) rfl rfl (fun h7 => ?_) (fun h7 => ?_)
            · replace h7 := of_decide_eq_true h7
              refine GS.skip ?_
              refine GS.seq ?_
              refine GS.block ?_
              refine GS.seq ?_
              -- region 34, law.go:91
              refine GS.region (env' := fun _ => [(0, .slice oo osds.length co), (1, .slice oi infos.length ci), (7, .int .i64 ((m : Nat) : Int)), (8, .int .i64 ((rankedF osds infos self).getD 0 0)), (16, .bool (gTo osds infos ((rankedF osds infos self).getD 0 0) (lesTo infos m) m i)), (17, .int .i64 ((i : Nat) : Int)), (18, .bool (topTo infos i k)), (19, .int .i64 ((k : Nat) : Int)), (102, .int .i64 ((m : Nat) : Int)), (103, .int .i64 ((i : Nat) : Int)), (106, .int .i64 ((m : Nat) : Int)), (107, .int .i64 ((k : Nat) : Int))]) (mem' := fun _ => [(1, .rd oo 1 (encI osds)), (2, .rd oi 6 (encInf infos)), (3, .osl so1 sc1 3 1 (encI (rankedF osds infos self))), (4, .osl (some (Addr.mk (fr1 1).x 0 none)) m 4 1 (encBo U)), (5, .rd oi 6 (encInf (infos.take m)))]) (RunsTo.mk [] [0, 1, 7, 8, 16, 17, 18, 19, 102, 103, 106, 107] [1, 2, 3, 4, 5] (fun _ => []) (fun _ => by kernel_rfl) (fun _ => trivial)) ?_
              intro _
              -- region 35, law.go:92
              refine GS.region (env' := fun _ => [(0, .slice oo osds.length co), (1, .slice oi infos.length ci), (7, .int .i64 ((m : Nat) : Int)), (8, .int .i64 ((rankedF osds infos self).getD 0 0)), (16, .bool (gTo osds infos ((rankedF osds infos self).getD 0 0) (lesTo infos m) m i)), (17, .int .i64 ((i : Nat) : Int)), (18, .bool ((topTo infos i k) && (decide ((infF (infos.getD k dI) (infos.getD i dI)) ≤ 0)))), (102, .int .i64 ((m : Nat) : Int)), (103, .int .i64 ((i : Nat) : Int)), (106, .int .i64 ((m : Nat) : Int)), (107, .int .i64 ((k : Nat) : Int))]) (mem' := fun _ => [(1, .rd oo 1 (encI osds)), (2, .rd oi 6 (encInf infos)), (3, .osl so1 sc1 3 1 (encI (rankedF osds infos self))), (4, .osl (some (Addr.mk (fr1 1).x 0 none)) m 4 1 (encBo U)), (5, .rd oi 6 (encInf (infos.take m)))]) ?_ ?_
              · rcases Bool.eq_false_or_eq_true (topTo infos i k) with hg0 | hg0
                · have hg0' := hg0
                  exact RunsTo.mkd [(1, { sp := some (.bool true) }), (4, { act := .idx 2 k }), (5, { act := .load 2 k 0 [.int .i64 ((infos.getD k dI).les), .int .i64 ((infos.getD k dI).he), .int .i64 ((infos.getD k dI).hn), .int .i64 ((infos.getD k dI).te), .int .i64 ((infos.getD k dI).tn), .int .i64 ((infos.getD k dI).born)] }), (8, { act := .idx 2 i }), (9, { act := .load 2 i 0 [.int .i64 ((infos.getD i dI).les), .int .i64 ((infos.getD i dI).he), .int .i64 ((infos.getD i dI).hn), .int .i64 ((infos.getD i dI).te), .int .i64 ((infos.getD i dI).tn), .int .i64 ((infos.getD i dI).born)] }), (10, { act := .call [] (.int .i64 (infF (infos.getD k dI) (infos.getD i dI))) }), (13, { sp := some (.bool ((topTo infos i k) && (decide ((infF (infos.getD k dI) (infos.getD i dI)) ≤ 0)))) })] [0, 1, 7, 8, 16, 17, 18, 102, 103, 106, 107] [1, 2, 3, 4, 5] (fun _ => [((.bool (topTo infos i k)) : Value) = .bool true, oi = oi, infos.length = (encInf infos).length, (((k : Nat) : Int) : Int) = ((k : Nat) : Int), k < infos.length, blk oi = blk oi, offs oi + k * 6 = offs oi + (k * 6 + 0), (encInf infos)[k]? = some [.int .i64 ((infos.getD k dI).les), .int .i64 ((infos.getD k dI).he), .int .i64 ((infos.getD k dI).hn), .int .i64 ((infos.getD k dI).te), .int .i64 ((infos.getD k dI).tn), .int .i64 ((infos.getD k dI).born)], oi = oi, infos.length = (encInf infos).length, (((i : Nat) : Int) : Int) = ((i : Nat) : Int), i < infos.length, blk oi = blk oi, offs oi + i * 6 = offs oi + (i * 6 + 0), (encInf infos)[i]? = some [.int .i64 ((infos.getD i dI).les), .int .i64 ((infos.getD i dI).he), .int .i64 ((infos.getD i dI).hn), .int .i64 ((infos.getD i dI).te), .int .i64 ((infos.getD i dI).tn), .int .i64 ((infos.getD i dI).born)], CallOK Try.prog 14 #[.agg #[.int .i64 ((infos.getD k dI).les), .int .i64 ((infos.getD k dI).he), .int .i64 ((infos.getD k dI).hn), .int .i64 ((infos.getD k dI).te), .int .i64 ((infos.getD k dI).tn), .int .i64 ((infos.getD k dI).born)], .agg #[.int .i64 ((infos.getD i dI).les), .int .i64 ((infos.getD i dI).he), .int .i64 ((infos.getD i dI).hn), .int .i64 ((infos.getD i dI).te), .int .i64 ((infos.getD i dI).tn), .int .i64 ((infos.getD i dI).born)]] (.int .i64 (infF (infos.getD k dI) (infos.getD i dI))) [], ((.bool (decide ((infF (infos.getD k dI) (infos.getD i dI)) ≤ 0))) : Value) = .bool ((topTo infos i k) && (decide ((infF (infos.getD k dI) (infos.getD i dI)) ≤ 0)))]) (by kernel_rfl) (by kernel_rfl) (fun _ => by kernel_rfl) (fun _ => ⟨bool_eq (by assumption), rfl, encInf_len _, rfl, by omega, rfl, rfl, encInf_at (by omega), rfl, encInf_len _, rfl, by omega, rfl, rfl, encInf_at (by omega), infcmp_ok (infos.getD k dI) (infos.getD i dI), bool_eq (by first | (simp only [hg0, Bool.true_and, Bool.false_and, Bool.and_true, Bool.and_false, Bool.true_or, Bool.false_or, Bool.or_true, Bool.or_false, Bool.not_true, Bool.not_false]) | simp [hg0]), trivial⟩)
                · have hg0' := hg0
                  exact RunsTo.mkd [(1, { sp := some (.bool false) }), (13, { sp := some (.bool ((topTo infos i k) && (decide ((infF (infos.getD k dI) (infos.getD i dI)) ≤ 0)))) })] [0, 1, 7, 8, 16, 17, 18, 102, 103, 106, 107] [1, 2, 3, 4, 5] (fun _ => [((.bool (topTo infos i k)) : Value) = .bool false, ((.bool false) : Value) = .bool ((topTo infos i k) && (decide ((infF (infos.getD k dI) (infos.getD i dI)) ≤ 0)))]) (by kernel_rfl) (by kernel_rfl) (fun _ => by kernel_rfl) (fun _ => ⟨bool_eq (by assumption), bool_eq (by first | (simp only [hg0, Bool.true_and, Bool.false_and, Bool.and_true, Bool.and_false, Bool.true_or, Bool.false_or, Bool.or_true, Bool.or_false, Bool.not_true, Bool.not_false]) | simp [hg0]), trivial⟩)
              intro _
              refine GS.inBlock ?_
              -- region 36, law.go:91
              refine GS.region (env' := fun _ => [(0, .slice oo osds.length co), (1, .slice oi infos.length ci), (7, .int .i64 ((m : Nat) : Int)), (8, .int .i64 ((rankedF osds infos self).getD 0 0)), (16, .bool (gTo osds infos ((rankedF osds infos self).getD 0 0) (lesTo infos m) m i)), (17, .int .i64 ((i : Nat) : Int)), (18, .bool ((topTo infos i k) && (decide ((infF (infos.getD k dI) (infos.getD i dI)) ≤ 0)))), (102, .int .i64 ((m : Nat) : Int)), (103, .int .i64 ((i : Nat) : Int)), (106, .int .i64 ((m : Nat) : Int)), (107, .int .i64 ((k + 1 : Nat) : Int))]) (mem' := fun _ => [(1, .rd oo 1 (encI osds)), (2, .rd oi 6 (encInf infos)), (3, .osl so1 sc1 3 1 (encI (rankedF osds infos self))), (4, .osl (some (Addr.mk (fr1 1).x 0 none)) m 4 1 (encBo U)), (5, .rd oi 6 (encInf (infos.take m)))]) (RunsTo.mk [(0, { sp := some (.int .i64 ((k + 1 : Nat) : Int)) })] [0, 1, 7, 8, 16, 17, 18, 102, 103, 106, 107] [1, 2, 3, 4, 5] (fun _ => [(.int .i64 (IntKind.i64.wrap (((k : Nat) : Int) + 1)) : Value) = .int .i64 ((k + 1 : Nat) : Int)]) (fun _ => by kernel_rfl) (fun _ => ⟨w64 (by omega) (by omega) (by omega), trivial⟩)) ?_
              intro _
              refine GS.inLoop ?_
              exact ih2 (k + 1) (by omega) (show m - (k + 1) < m - k from by omega)
            · replace h7 := of_decide_eq_false h7
              have hkm : k = m := by omega
              refine GS.exit rfl ?_
              -- region 37, law.go:94
              refine GS.region (env' := fun _ => [(0, .slice oo osds.length co), (1, .slice oi infos.length ci), (7, .int .i64 ((m : Nat) : Int)), (8, .int .i64 ((rankedF osds infos self).getD 0 0)), (16, .bool ((gTo osds infos ((rankedF osds infos self).getD 0 0) (lesTo infos m) m i) || ((topTo infos i k) && (((osds.getD i 0) == ((rankedF osds infos self).getD 0 0)) && (((infos.getD i dI).les) == (lesTo (infos.take m) (infos.take m).length)))))), (102, .int .i64 ((m : Nat) : Int)), (103, .int .i64 ((i : Nat) : Int))]) (mem' := fun _ => [(1, .rd oo 1 (encI osds)), (2, .rd oi 6 (encInf infos)), (3, .osl so1 sc1 3 1 (encI (rankedF osds infos self))), (4, .osl (some (Addr.mk (fr1 1).x 0 none)) m 4 1 (encBo U)), (5, .rd oi 6 (encInf (infos.take m)))]) ?_ ?_
              · rcases Bool.eq_false_or_eq_true (gTo osds infos ((rankedF osds infos self).getD 0 0) (lesTo infos m) m i) with hg0 | hg0
                · have hg0' := hg0
                  exact RunsTo.mkd [(1, { sp := some (.bool true) }), (24, { sp := some (.bool ((gTo osds infos ((rankedF osds infos self).getD 0 0) (lesTo infos m) m i) || ((topTo infos i k) && (((osds.getD i 0) == ((rankedF osds infos self).getD 0 0)) && (((infos.getD i dI).les) == (lesTo (infos.take m) (infos.take m).length)))))) })] [0, 1, 7, 8, 16, 102, 103] [1, 2, 3, 4, 5] (fun _ => [((.bool (gTo osds infos ((rankedF osds infos self).getD 0 0) (lesTo infos m) m i)) : Value) = .bool true, ((.bool true) : Value) = .bool ((gTo osds infos ((rankedF osds infos self).getD 0 0) (lesTo infos m) m i) || ((topTo infos i k) && (((osds.getD i 0) == ((rankedF osds infos self).getD 0 0)) && (((infos.getD i dI).les) == (lesTo (infos.take m) (infos.take m).length)))))]) (by kernel_rfl) (by kernel_rfl) (fun _ => by kernel_rfl) (fun _ => ⟨bool_eq (by assumption), bool_eq (by first | (simp only [hg0, Bool.true_and, Bool.false_and, Bool.and_true, Bool.and_false, Bool.true_or, Bool.false_or, Bool.or_true, Bool.or_false, Bool.not_true, Bool.not_false]) | simp [hg0]), trivial⟩)
                · have hg0' := hg0
                  rcases Bool.eq_false_or_eq_true (topTo infos i k) with hg1 | hg1
                  · have hg1' := hg1
                    rcases Bool.eq_false_or_eq_true ((osds.getD i 0) == ((rankedF osds infos self).getD 0 0)) with hg2 | hg2
                    · have hg2' := hg2
                      exact RunsTo.mkd [(1, { sp := some (.bool false) }), (3, { sp := some (.bool true) }), (6, { act := .idx 1 i }), (7, { act := .load 1 i 0 [.int .i64 (osds.getD i 0)] }), (11, { sp := some (.bool true) }), (14, { act := .idx 2 i }), (16, { act := .load 2 i 0 [.int .i64 ((infos.getD i dI).les), .int .i64 ((infos.getD i dI).he), .int .i64 ((infos.getD i dI).hn), .int .i64 ((infos.getD i dI).te), .int .i64 ((infos.getD i dI).tn), .int .i64 ((infos.getD i dI).born)] }), (19, { act := .cut 0 ((infos.take m).length) ci, sp := some (.slice oi ((infos.take m).length) ci) }), (20, { act := .call [5] (.int .i64 (lesTo (infos.take m) (infos.take m).length)) }), (24, { sp := some (.bool ((gTo osds infos ((rankedF osds infos self).getD 0 0) (lesTo infos m) m i) || ((topTo infos i k) && (((osds.getD i 0) == ((rankedF osds infos self).getD 0 0)) && (((infos.getD i dI).les) == (lesTo (infos.take m) (infos.take m).length)))))) })] [0, 1, 7, 8, 16, 102, 103] [1, 2, 3, 4, 5] (fun _ => [((.bool (gTo osds infos ((rankedF osds infos self).getD 0 0) (lesTo infos m) m i)) : Value) = .bool false, ((.bool (topTo infos i k)) : Value) = .bool true, oo = oo, osds.length = (encI osds).length, (((i : Nat) : Int) : Int) = ((i : Nat) : Int), i < osds.length, blk oo = blk oo, offs oo + i * 1 = offs oo + (i * 1 + 0), (encI osds)[i]? = some [.int .i64 (osds.getD i 0)], ((.bool ((osds.getD i 0) == ((rankedF osds infos self).getD 0 0))) : Value) = .bool true, oi = oi, infos.length = (encInf infos).length, (((i : Nat) : Int) : Int) = ((i : Nat) : Int), i < infos.length, blk oi = blk oi, offs oi + i * 6 = offs oi + (i * 6 + 0), (encInf infos)[i]? = some [.int .i64 ((infos.getD i dI).les), .int .i64 ((infos.getD i dI).he), .int .i64 ((infos.getD i dI).hn), .int .i64 ((infos.getD i dI).te), .int .i64 ((infos.getD i dI).tn), .int .i64 ((infos.getD i dI).born)], 0 = 0, ((m : Nat) : Int) = (((infos.take m).length : Nat) : Int), ci = ci, 0 ≤ (infos.take m).length, (infos.take m).length ≤ ci, ci ≤ ci, (some (Operand.tmp 142) : Option Operand) = none → (none : Option Operand) = none, (.slice (if ci = 0 then oi else (oi).map (fun a => a.add (0 * 6))) (((infos.take m).length) - 0) (ci - 0) : Value) = .slice oi ((infos.take m).length) ci, CallOK Try.prog 16 #[.slice oi ((infos.take m).length) ci] (.int .i64 (lesTo (infos.take m) (infos.take m).length)) [some (.rd oi 6 (encInf (infos.take m)))], ((.bool (((infos.getD i dI).les) == (lesTo (infos.take m) (infos.take m).length))) : Value) = .bool ((gTo osds infos ((rankedF osds infos self).getD 0 0) (lesTo infos m) m i) || ((topTo infos i k) && (((osds.getD i 0) == ((rankedF osds infos self).getD 0 0)) && (((infos.getD i dI).les) == (lesTo (infos.take m) (infos.take m).length)))))]) (by kernel_rfl) (by kernel_rfl) (fun _ => by kernel_rfl) (fun _ => ⟨bool_eq (by assumption), bool_eq (by assumption), rfl, encI_len _, rfl, by omega, rfl, rfl, encI_at (by omega), bool_eq (by assumption), rfl, encInf_len _, rfl, by omega, rfl, rfl, encInf_at (by omega), rfl, by rw [htl], rfl, by omega, by omega, by omega, (by intro h; first | rfl | cases h), cut_zero _ _ _ _, les_ok oi ci (infos.take m) (by omega), bool_eq (by first | (simp only [hg0, hg1, hg2, Bool.true_and, Bool.false_and, Bool.and_true, Bool.and_false, Bool.true_or, Bool.false_or, Bool.or_true, Bool.or_false, Bool.not_true, Bool.not_false]) | simp [hg0, hg1, hg2]), trivial⟩)
                    · have hg2' := hg2
                      exact RunsTo.mkd [(1, { sp := some (.bool false) }), (3, { sp := some (.bool true) }), (6, { act := .idx 1 i }), (7, { act := .load 1 i 0 [.int .i64 (osds.getD i 0)] }), (11, { sp := some (.bool false) }), (24, { sp := some (.bool ((gTo osds infos ((rankedF osds infos self).getD 0 0) (lesTo infos m) m i) || ((topTo infos i k) && (((osds.getD i 0) == ((rankedF osds infos self).getD 0 0)) && (((infos.getD i dI).les) == (lesTo (infos.take m) (infos.take m).length)))))) })] [0, 1, 7, 8, 16, 102, 103] [1, 2, 3, 4, 5] (fun _ => [((.bool (gTo osds infos ((rankedF osds infos self).getD 0 0) (lesTo infos m) m i)) : Value) = .bool false, ((.bool (topTo infos i k)) : Value) = .bool true, oo = oo, osds.length = (encI osds).length, (((i : Nat) : Int) : Int) = ((i : Nat) : Int), i < osds.length, blk oo = blk oo, offs oo + i * 1 = offs oo + (i * 1 + 0), (encI osds)[i]? = some [.int .i64 (osds.getD i 0)], ((.bool ((osds.getD i 0) == ((rankedF osds infos self).getD 0 0))) : Value) = .bool false, ((.bool false) : Value) = .bool ((gTo osds infos ((rankedF osds infos self).getD 0 0) (lesTo infos m) m i) || ((topTo infos i k) && (((osds.getD i 0) == ((rankedF osds infos self).getD 0 0)) && (((infos.getD i dI).les) == (lesTo (infos.take m) (infos.take m).length)))))]) (by kernel_rfl) (by kernel_rfl) (fun _ => by kernel_rfl) (fun _ => ⟨bool_eq (by assumption), bool_eq (by assumption), rfl, encI_len _, rfl, by omega, rfl, rfl, encI_at (by omega), bool_eq (by assumption), bool_eq (by first | (simp only [hg0, hg1, hg2, Bool.true_and, Bool.false_and, Bool.and_true, Bool.and_false, Bool.true_or, Bool.false_or, Bool.or_true, Bool.or_false, Bool.not_true, Bool.not_false]) | simp [hg0, hg1, hg2]), trivial⟩)
                  · have hg1' := hg1
                    exact RunsTo.mkd [(1, { sp := some (.bool false) }), (3, { sp := some (.bool false) }), (24, { sp := some (.bool ((gTo osds infos ((rankedF osds infos self).getD 0 0) (lesTo infos m) m i) || ((topTo infos i k) && (((osds.getD i 0) == ((rankedF osds infos self).getD 0 0)) && (((infos.getD i dI).les) == (lesTo (infos.take m) (infos.take m).length)))))) })] [0, 1, 7, 8, 16, 102, 103] [1, 2, 3, 4, 5] (fun _ => [((.bool (gTo osds infos ((rankedF osds infos self).getD 0 0) (lesTo infos m) m i)) : Value) = .bool false, ((.bool (topTo infos i k)) : Value) = .bool false, ((.bool false) : Value) = .bool ((gTo osds infos ((rankedF osds infos self).getD 0 0) (lesTo infos m) m i) || ((topTo infos i k) && (((osds.getD i 0) == ((rankedF osds infos self).getD 0 0)) && (((infos.getD i dI).les) == (lesTo (infos.take m) (infos.take m).length)))))]) (by kernel_rfl) (by kernel_rfl) (fun _ => by kernel_rfl) (fun _ => ⟨bool_eq (by assumption), bool_eq (by assumption), bool_eq (by first | (simp only [hg0, hg1, Bool.true_and, Bool.false_and, Bool.and_true, Bool.and_false, Bool.true_or, Bool.false_or, Bool.or_true, Bool.or_false, Bool.not_true, Bool.not_false]) | simp [hg0, hg1]), trivial⟩)
              intro _
              refine GS.inBlock ?_
              refine GS.conv (env' := [(0, .slice oo osds.length co), (1, .slice oi infos.length ci), (7, .int .i64 ((m : Nat) : Int)), (8, .int .i64 ((rankedF osds infos self).getD 0 0)), (16, .bool (gTo osds infos ((rankedF osds infos self).getD 0 0) (lesTo infos m) m (i + 1))), (102, .int .i64 ((m : Nat) : Int)), (103, .int .i64 ((i : Nat) : Int))]) (congrArg (fun vhole : Value => [(0, .slice oo osds.length co), (1, .slice oi infos.length ci), (7, .int .i64 ((m : Nat) : Int)), (8, .int .i64 ((rankedF osds infos self).getD 0 0)), (16, vhole), (102, .int .i64 ((m : Nat) : Int)), (103, .int .i64 ((i : Nat) : Int))]) (show ((.bool ((gTo osds infos ((rankedF osds infos self).getD 0 0) (lesTo infos m) m i) || ((topTo infos i k) && (((osds.getD i 0) == ((rankedF osds infos self).getD 0 0)) && (((infos.getD i dI).les) == (lesTo (infos.take m) (infos.take m).length))))) : Value) = .bool (gTo osds infos ((rankedF osds infos self).getD 0 0) (lesTo infos m) m (i + 1))) from bool_eq (by simp only [gTo, htl, lesTo_take m (Nat.le_refl m), hkm, Bool.and_assoc]))) rfl ?_
              -- region 38, law.go:89
              refine GS.region (env' := fun _ => [(0, .slice oo osds.length co), (1, .slice oi infos.length ci), (7, .int .i64 ((m : Nat) : Int)), (8, .int .i64 ((rankedF osds infos self).getD 0 0)), (16, .bool (gTo osds infos ((rankedF osds infos self).getD 0 0) (lesTo infos m) m (i + 1))), (102, .int .i64 ((m : Nat) : Int)), (103, .int .i64 ((i + 1 : Nat) : Int))]) (mem' := fun _ => [(1, .rd oo 1 (encI osds)), (2, .rd oi 6 (encInf infos)), (3, .osl so1 sc1 3 1 (encI (rankedF osds infos self))), (4, .osl (some (Addr.mk (fr1 1).x 0 none)) m 4 1 (encBo U)), (5, .rd oi 6 (encInf (infos.take m)))]) (RunsTo.mk [(0, { sp := some (.int .i64 ((i + 1 : Nat) : Int)) })] [0, 1, 7, 8, 16, 102, 103] [1, 2, 3, 4, 5] (fun _ => [(.int .i64 (IntKind.i64.wrap (((i : Nat) : Int) + 1)) : Value) = .int .i64 ((i + 1 : Nat) : Int)]) (fun _ => by kernel_rfl) (fun _ => ⟨w64 (by omega) (by omega) (by omega), trivial⟩)) ?_
              intro _
              refine GS.inLoop ?_
              exact ih1 (i + 1) (by omega) (show m - (i + 1) < m - i from by omega)
          · replace h6 := of_decide_eq_false h6
            have him : i = m := by omega
            refine GS.conv (env' := [(0, .slice oo osds.length co), (1, .slice oi infos.length ci), (7, .int .i64 ((m : Nat) : Int)), (8, .int .i64 ((rankedF osds infos self).getD 0 0)), (16, .bool true), (102, .int .i64 ((m : Nat) : Int)), (103, .int .i64 ((i : Nat) : Int)), (104, .bool (decide (((i : Nat) : Int) < ((m : Nat) : Int))))]) (congrArg (fun vhole : Value => [(0, .slice oo osds.length co), (1, .slice oi infos.length ci), (7, .int .i64 ((m : Nat) : Int)), (8, .int .i64 ((rankedF osds infos self).getD 0 0)), (16, vhole), (102, .int .i64 ((m : Nat) : Int)), (103, .int .i64 ((i : Nat) : Int)), (104, .bool (decide (((i : Nat) : Int) < ((m : Nat) : Int))))]) (show ((.bool (gTo osds infos ((rankedF osds infos self).getD 0 0) (lesTo infos m) m i) : Value) = .bool true) from bool_eq (by rw [him]; exact first_good hm h0))) rfl ?_
            refine GS.exit rfl ?_
            refine GS.seq ?_
            -- region 39, law.go:96
            refine GS.region (env' := fun _ => [(6, .bool true)]) (mem' := fun _ => [(1, .rd oo 1 (encI osds)), (2, .rd oi 6 (encInf infos)), (3, .osl so1 sc1 3 1 (encI (rankedF osds infos self))), (4, .osl (some (Addr.mk (fr1 1).x 0 none)) m 4 1 (encBo U)), (5, .rd oi 6 (encInf (infos.take m)))]) (RunsTo.mk [(2, { act := .call [] (.bool true) })] [6] [1, 2, 3, 4, 5] (fun _ => [CallOK Try.prog 8 #[] (.bool true) []]) (fun _ => by kernel_rfl) (fun _ => ⟨awake_ok, trivial⟩)) ?_
            intro _
            refine GS.ret (fn := Try.f5) [0] [.bool true] [] rfl Try.func5 (by kernel_rfl) trivial (fun w' hs => ?_)
            exact ⟨rfl, hs.keep⟩

end Go.Proofs.Ythaokdobgmbeeaa
