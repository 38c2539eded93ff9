/-
  CHAPTER 16: the walks of the document's rank, of its best one, of the law on the best one.
-/
import Derived.Test.YthaokdobgmbeeaaW16d
import Derived.Test.YthaokdobgmbeeaaPref
set_option linter.unusedVariables false
set_option linter.unusedSimpArgs false
set_option maxRecDepth 100000
namespace Go.Proofs.Ythaokdobgmbeeaa
open Go Go.RowKit Sx

theorem ahead_ok (oo oi : Option Addr) (co ci : Nat) (osds : List Int) (infos : List Inf) (self : Int) (x y : Int) (h1 : 0 ≤ x) (h2 : 0 ≤ y) (h3 : x.toNat < infos.length) (h4 : y.toNat < infos.length) (h5 : x.toNat < osds.length) (h6 : y.toNat < osds.length) : CallOK Try.prog 22 #[.slice oo osds.length co, .slice oi infos.length ci, .int .i64 self, .int .i64 x, .int .i64 y] (.bool (ltI osds infos self x y)) [some (.rd oo 1 (encI osds)), some (.rd oi 6 (encInf infos))] := by
  intro w hr
  refine GS.start (S := fun _ => False) (mem := [(1, .rd oo 1 (encI osds)), (2, .rd oi 6 (encInf infos))]) Try.func22 rfl Try.ntmps22 (Nat.le_of_ble_eq_true rfl) (Sat.startRo (es := [.rd oo 1 (encI osds), .rd oi 6 (encInf infos)]) hr rfl) ?_
  refine GS.conv (env' := [(0, .slice oo osds.length co), (1, .slice oi infos.length ci), (2, .int .i64 self), (3, .int .i64 x), (4, .int .i64 y)]) rfl rfl ?_
  refine GS.seq ?_
  -- region 0, ref.go:68
  refine GS.region (env' := fun _ => [(0, .slice oo osds.length co), (1, .slice oi infos.length ci), (2, .int .i64 self), (3, .int .i64 x), (4, .int .i64 y)]) (mem' := fun _ => [(1, .rd oo 1 (encI osds)), (2, .rd oi 6 (encInf infos))]) (RunsTo.mk [] [0, 1, 2, 3, 4] [1, 2] (fun _ => []) (fun _ => by kernel_rfl) (fun _ => trivial)) ?_
  intro _
  refine GS.seq ?_
  -- region 1, ref.go:69
  refine GS.region (env' := fun _ => [(0, .slice oo osds.length co), (2, .int .i64 self), (3, .int .i64 x), (4, .int .i64 y), (11, .int .i64 (infF (infos.getD (Int.toNat x) dI) (infos.getD (Int.toNat y) dI)))]) (mem' := fun _ => [(1, .rd oo 1 (encI osds)), (2, .rd oi 6 (encInf infos))]) (RunsTo.mkd [(2, { act := .idx 2 (Int.toNat x) }), (3, { act := .load 2 (Int.toNat x) 0 [.int .i64 ((infos.getD (Int.toNat x) dI).les), .int .i64 ((infos.getD (Int.toNat x) dI).he), .int .i64 ((infos.getD (Int.toNat x) dI).hn), .int .i64 ((infos.getD (Int.toNat x) dI).te), .int .i64 ((infos.getD (Int.toNat x) dI).tn), .int .i64 ((infos.getD (Int.toNat x) dI).born)] }), (6, { act := .idx 2 (Int.toNat y) }), (7, { act := .load 2 (Int.toNat y) 0 [.int .i64 ((infos.getD (Int.toNat y) dI).les), .int .i64 ((infos.getD (Int.toNat y) dI).he), .int .i64 ((infos.getD (Int.toNat y) dI).hn), .int .i64 ((infos.getD (Int.toNat y) dI).te), .int .i64 ((infos.getD (Int.toNat y) dI).tn), .int .i64 ((infos.getD (Int.toNat y) dI).born)] }), (8, { act := .call [] (.int .i64 (infF (infos.getD (Int.toNat x) dI) (infos.getD (Int.toNat y) dI))) })] [0, 2, 3, 4, 11] [1, 2] (fun _ => [oi = oi, infos.length = (encInf infos).length, (x : Int) = ((Int.toNat x : Nat) : Int), Int.toNat x < infos.length, blk oi = blk oi, offs oi + (Int.toNat x) * 6 = offs oi + ((Int.toNat x) * 6 + 0), (encInf infos)[Int.toNat x]? = some [.int .i64 ((infos.getD (Int.toNat x) dI).les), .int .i64 ((infos.getD (Int.toNat x) dI).he), .int .i64 ((infos.getD (Int.toNat x) dI).hn), .int .i64 ((infos.getD (Int.toNat x) dI).te), .int .i64 ((infos.getD (Int.toNat x) dI).tn), .int .i64 ((infos.getD (Int.toNat x) dI).born)], oi = oi, infos.length = (encInf infos).length, (y : Int) = ((Int.toNat y : Nat) : Int), Int.toNat y < infos.length, blk oi = blk oi, offs oi + (Int.toNat y) * 6 = offs oi + ((Int.toNat y) * 6 + 0), (encInf infos)[Int.toNat y]? = some [.int .i64 ((infos.getD (Int.toNat y) dI).les), .int .i64 ((infos.getD (Int.toNat y) dI).he), .int .i64 ((infos.getD (Int.toNat y) dI).hn), .int .i64 ((infos.getD (Int.toNat y) dI).te), .int .i64 ((infos.getD (Int.toNat y) dI).tn), .int .i64 ((infos.getD (Int.toNat y) dI).born)], CallOK Try.prog 15 #[.agg #[.int .i64 ((infos.getD (Int.toNat x) dI).les), .int .i64 ((infos.getD (Int.toNat x) dI).he), .int .i64 ((infos.getD (Int.toNat x) dI).hn), .int .i64 ((infos.getD (Int.toNat x) dI).te), .int .i64 ((infos.getD (Int.toNat x) dI).tn), .int .i64 ((infos.getD (Int.toNat x) dI).born)], .agg #[.int .i64 ((infos.getD (Int.toNat y) dI).les), .int .i64 ((infos.getD (Int.toNat y) dI).he), .int .i64 ((infos.getD (Int.toNat y) dI).hn), .int .i64 ((infos.getD (Int.toNat y) dI).te), .int .i64 ((infos.getD (Int.toNat y) dI).tn), .int .i64 ((infos.getD (Int.toNat y) dI).born)]] (.int .i64 (infF (infos.getD (Int.toNat x) dI) (infos.getD (Int.toNat y) dI))) []]) (by kernel_rfl) (by kernel_rfl) (fun _ => by kernel_rfl) (fun _ => ⟨rfl, encInf_len _, by omega, by omega, rfl, rfl, encInf_at (by omega), rfl, encInf_len _, by omega, by omega, rfl, rfl, encInf_at (by omega), infcmpref_ok (infos.getD (Int.toNat x) dI) (infos.getD (Int.toNat y) dI), trivial⟩)) ?_
  intro _
  refine GS.seq ?_
  refine GS.seq ?_
  -- region 2, ref.go:70
  refine GS.region (env' := fun _ => [(0, .slice oo osds.length co), (2, .int .i64 self), (3, .int .i64 x), (4, .int .i64 y), (11, .int .i64 (infF (infos.getD (Int.toNat x) dI) (infos.getD (Int.toNat y) dI))), (22, .bool ((infF (infos.getD (Int.toNat x) dI) (infos.getD (Int.toNat y) dI)) != 0))]) (mem' := fun _ => [(1, .rd oo 1 (encI osds)), (2, .rd oi 6 (encInf infos))]) (RunsTo.mk [] [0, 2, 3, 4, 11, 22] [1, 2] (fun _ => []) (fun _ => by kernel_rfl) (fun _ => trivial)) ?_
  intro _
  refine GS.cond (t := (infF (infos.getD (Int.toNat x) dI) (infos.getD (Int.toNat y) dI)) != 0) rfl rfl (fun h => ?_) (fun h => ?_)
  · replace h := ne_of_bne h
    refine GS.seq ?_
    -- region 3, ref.go:71
    refine GS.region (env' := fun _ => [(10, .bool (decide ((infF (infos.getD (Int.toNat x) dI) (infos.getD (Int.toNat y) dI)) > 0)))]) (mem' := fun _ => [(1, .rd oo 1 (encI osds)), (2, .rd oi 6 (encInf infos))]) (RunsTo.mk [] [10] [1, 2] (fun _ => []) (fun _ => by kernel_rfl) (fun _ => trivial)) ?_
    intro _
    refine GS.ret (fn := Try.f22) [0] [.bool (decide ((infF (infos.getD (Int.toNat x) dI) (infos.getD (Int.toNat y) dI)) > 0))] [] rfl Try.func22 (by kernel_rfl) trivial (fun w' hs => ?_)
    exact ⟨by rw [ahead1 h] <;> rfl, hs.keep⟩
  · replace h := eq_of_bne_false h
    refine GS.skip ?_
    refine GS.seq ?_
    refine GS.seq ?_
    -- region 4, ref.go:73
    refine GS.region (env' := fun _ => [(0, .slice oo osds.length co), (2, .int .i64 self), (3, .int .i64 x), (4, .int .i64 y), (37, .bool (!(((osds.getD (Int.toNat x) 0) == self) == ((osds.getD (Int.toNat y) 0) == self))))]) (mem' := fun _ => [(1, .rd oo 1 (encI osds)), (2, .rd oi 6 (encInf infos))]) (RunsTo.mkd [(2, { act := .idx 1 (Int.toNat x) }), (3, { act := .load 1 (Int.toNat x) 0 [.int .i64 (osds.getD (Int.toNat x) 0)] }), (8, { act := .idx 1 (Int.toNat y) }), (9, { act := .load 1 (Int.toNat y) 0 [.int .i64 (osds.getD (Int.toNat y) 0)] })] [0, 2, 3, 4, 37] [1, 2] (fun _ => [oo = oo, osds.length = (encI osds).length, (x : Int) = ((Int.toNat x : Nat) : Int), Int.toNat x < osds.length, blk oo = blk oo, offs oo + (Int.toNat x) * 1 = offs oo + ((Int.toNat x) * 1 + 0), (encI osds)[Int.toNat x]? = some [.int .i64 (osds.getD (Int.toNat x) 0)], oo = oo, osds.length = (encI osds).length, (y : Int) = ((Int.toNat y : Nat) : Int), Int.toNat y < osds.length, blk oo = blk oo, offs oo + (Int.toNat y) * 1 = offs oo + ((Int.toNat y) * 1 + 0), (encI osds)[Int.toNat y]? = some [.int .i64 (osds.getD (Int.toNat y) 0)]]) (by kernel_rfl) (by kernel_rfl) (fun _ => by kernel_rfl) (fun _ => ⟨rfl, encI_len _, by omega, by omega, rfl, rfl, encI_at (by omega), rfl, encI_len _, by omega, by omega, rfl, rfl, encI_at (by omega), trivial⟩)) ?_
    intro _
    refine GS.cond (t := !(((osds.getD (Int.toNat x) 0) == self) == ((osds.getD (Int.toNat y) 0) == self))) rfl rfl (fun h2 => ?_) (fun h2 => ?_)
    · skip
      refine GS.seq ?_
      -- region 5, ref.go:74
      refine GS.region (env' := fun _ => [(10, .bool ((osds.getD (Int.toNat x) 0) == self))]) (mem' := fun _ => [(1, .rd oo 1 (encI osds)), (2, .rd oi 6 (encInf infos))]) (RunsTo.mk [(2, { act := .idx 1 (Int.toNat x) }), (3, { act := .load 1 (Int.toNat x) 0 [.int .i64 (osds.getD (Int.toNat x) 0)] })] [10] [1, 2] (fun _ => [oo = oo, osds.length = (encI osds).length, (x : Int) = ((Int.toNat x : Nat) : Int), Int.toNat x < osds.length, blk oo = blk oo, offs oo + (Int.toNat x) * 1 = offs oo + ((Int.toNat x) * 1 + 0), (encI osds)[Int.toNat x]? = some [.int .i64 (osds.getD (Int.toNat x) 0)]]) (fun _ => by kernel_rfl) (fun _ => ⟨rfl, encI_len _, by omega, by omega, rfl, rfl, encI_at (by omega), trivial⟩)) ?_
      intro _
      refine GS.ret (fn := Try.f22) [0] [.bool ((osds.getD (Int.toNat x) 0) == self)] [] rfl Try.func22 (by kernel_rfl) trivial (fun w' hs => ?_)
      exact ⟨by rw [ahead2 h (fun hc => by rw [hc] at h2; simp at h2)] <;> rfl, hs.keep⟩
    · skip
      refine GS.skip ?_
      refine GS.seq ?_
      -- region 6, ref.go:76
      refine GS.region (env' := fun _ => [(10, .bool (decide ((osds.getD (Int.toNat x) 0) < (osds.getD (Int.toNat y) 0))))]) (mem' := fun _ => [(1, .rd oo 1 (encI osds)), (2, .rd oi 6 (encInf infos))]) (RunsTo.mkd [(2, { act := .idx 1 (Int.toNat x) }), (3, { act := .load 1 (Int.toNat x) 0 [.int .i64 (osds.getD (Int.toNat x) 0)] }), (6, { act := .idx 1 (Int.toNat y) }), (7, { act := .load 1 (Int.toNat y) 0 [.int .i64 (osds.getD (Int.toNat y) 0)] })] [10] [1, 2] (fun _ => [oo = oo, osds.length = (encI osds).length, (x : Int) = ((Int.toNat x : Nat) : Int), Int.toNat x < osds.length, blk oo = blk oo, offs oo + (Int.toNat x) * 1 = offs oo + ((Int.toNat x) * 1 + 0), (encI osds)[Int.toNat x]? = some [.int .i64 (osds.getD (Int.toNat x) 0)], oo = oo, osds.length = (encI osds).length, (y : Int) = ((Int.toNat y : Nat) : Int), Int.toNat y < osds.length, blk oo = blk oo, offs oo + (Int.toNat y) * 1 = offs oo + ((Int.toNat y) * 1 + 0), (encI osds)[Int.toNat y]? = some [.int .i64 (osds.getD (Int.toNat y) 0)]]) (by kernel_rfl) (by kernel_rfl) (fun _ => by kernel_rfl) (fun _ => ⟨rfl, encI_len _, by omega, by omega, rfl, rfl, encI_at (by omega), rfl, encI_len _, by omega, by omega, rfl, rfl, encI_at (by omega), trivial⟩)) ?_
      intro _
      refine GS.ret (fn := Try.f22) [0] [.bool (decide ((osds.getD (Int.toNat x) 0) < (osds.getD (Int.toNat y) 0)))] [] rfl Try.func22 (by kernel_rfl) trivial (fun w' hs => ?_)
      exact ⟨by rw [ahead3 h (eq_of_beq (not_false_t h2))] <;> rfl, hs.keep⟩

theorem refranked_ok (oo oi : Option Addr) (co ci : Nat) (osds : List Int) (infos : List Inf) (self : Int) (hsm : minL osds infos ≤ 1048576) : CallT Try.prog 13 #[.slice oo osds.length co, .slice oi infos.length ci, .int .i64 self] (fun x : Option Addr × Nat => .slice x.1 (rankedF osds infos self).length x.2) [.rd oo 1 (encI osds), .rd oi 6 (encInf infos)] (fun x : Option Addr × Nat => [.rd oo 1 (encI osds), .rd oi 6 (encInf infos), .osl x.1 x.2 3 1 (encI (rankedF osds infos self))]) := by
  intro w hg
  obtain ⟨m, hm⟩ : ∃ m, m = minL osds infos := ⟨_, rfl⟩
  rw [← hm] at hsm
  have hm1 : m ≤ osds.length := by rw [hm, minL]; split <;> omega
  have hm2 : m ≤ infos.length := by rw [hm, minL]; split <;> omega
  refine GS.start (S := mayTurn [.rd oo 1 (encI osds), .rd oi 6 (encInf infos)]) (mem := [(1, .rd oo 1 (encI osds)), (2, .rd oi 6 (encInf infos))]) Try.func13 rfl Try.ntmps13 (Nat.le_of_ble_eq_true rfl) hg.start ?_
  refine GS.conv (env' := [(0, .slice oo osds.length co), (1, .slice oi infos.length ci), (2, .int .i64 self)]) rfl rfl ?_
  refine GS.seq ?_
  -- region 0, ref.go:45
  refine GS.region (env' := fun _ => [(0, .slice oo osds.length co), (1, .slice oi infos.length ci), (2, .int .i64 self)]) (mem' := fun _ => [(1, .rd oo 1 (encI osds)), (2, .rd oi 6 (encInf infos))]) (RunsTo.mk [] [0, 1, 2] [1, 2] (fun _ => []) (fun _ => by kernel_rfl) (fun _ => trivial)) ?_
  intro _
  refine GS.seq ?_
  -- region 1, ref.go:46
  refine GS.region (env' := fun _ => [(0, .slice oo osds.length co), (1, .slice oi infos.length ci), (2, .int .i64 self), (7, .int .i64 ((osds.length : Nat) : Int))]) (mem' := fun _ => [(1, .rd oo 1 (encI osds)), (2, .rd oi 6 (encInf infos))]) (RunsTo.mk [] [0, 1, 2, 7] [1, 2] (fun _ => []) (fun _ => by kernel_rfl) (fun _ => trivial)) ?_
  intro _
  refine GS.seq ?_
  refine GS.seq ?_
  -- region 2, ref.go:47
  refine GS.region (env' := fun _ => [(0, .slice oo osds.length co), (1, .slice oi infos.length ci), (2, .int .i64 self), (7, .int .i64 ((osds.length : Nat) : Int)), (19, .bool (decide (((infos.length : Nat) : Int) < ((osds.length : Nat) : Int))))]) (mem' := fun _ => [(1, .rd oo 1 (encI osds)), (2, .rd oi 6 (encInf infos))]) (RunsTo.mk [] [0, 1, 2, 7, 19] [1, 2] (fun _ => []) (fun _ => by kernel_rfl) (fun _ => trivial)) ?_
  intro _
  refine GS.cut (ι := Unit) (I := fun _ => True) (E := fun _ => [(0, .slice oo osds.length co), (1, .slice oi infos.length ci), (2, .int .i64 self), (7, .int .i64 ((m : Nat) : Int))]) (M := fun _ => [(1, .rd oo 1 (encI osds)), (2, .rd oi 6 (encInf infos))]) ?_ ?_
  rotate_left
  · intro H0
    refine GS.cond (t := decide (((infos.length : Nat) : Int) < ((osds.length : Nat) : Int))) rfl rfl (fun h0 => ?_) (fun h0 => ?_)
    · replace h0 := of_decide_eq_true h0
      -- region 3, ref.go:48
      refine GS.region (env' := fun _ => [(0, .slice oo osds.length co), (1, .slice oi infos.length ci), (2, .int .i64 self), (7, .int .i64 ((m : Nat) : Int))]) (mem' := fun _ => [(1, .rd oo 1 (encI osds)), (2, .rd oi 6 (encInf infos))]) (RunsTo.mk [(2, { sp := some (.int .i64 ((m : Nat) : Int)) })] [0, 1, 2, 7] [1, 2] (fun _ => [(.int .i64 ((infos.length : Nat) : Int) : Value) = .int .i64 ((m : Nat) : Int)]) (fun _ => by kernel_rfl) (fun _ => ⟨int_eq (by rw [hm, minL, if_pos (by omega)]), trivial⟩)) ?_
      intro _
      exact H0 () trivial
    · replace h0 := of_decide_eq_false h0
      refine GS.conv (env' := [(0, .slice oo osds.length co), (1, .slice oi infos.length ci), (2, .int .i64 self), (7, .int .i64 ((m : Nat) : Int)), (19, .bool (decide (((infos.length : Nat) : Int) < ((osds.length : Nat) : Int))))]) (congrArg (fun vhole : Value => [(0, .slice oo osds.length co), (1, .slice oi infos.length ci), (2, .int .i64 self), (7, vhole), (19, .bool (decide (((infos.length : Nat) : Int) < ((osds.length : Nat) : Int))))]) (show ((.int .i64 ((osds.length : Nat) : Int) : Value) = .int .i64 ((m : Nat) : Int)) from int_eq (by rw [hm, minL, if_neg (by omega)]))) rfl ?_
      refine GS.skip ?_
      refine GS.trim (env' := [(0, .slice oo osds.length co), (1, .slice oi infos.length ci), (2, .int .i64 self), (7, .int .i64 ((m : Nat) : Int))]) (mem' := [(1, .rd oo 1 (encI osds)), (2, .rd oi 6 (encInf infos))]) [0, 1, 2, 7] [1, 2] (by kernel_rfl) (by kernel_rfl) ?_
      exact H0 () trivial
  · rintro _ _
    refine GS.seq ?_
    -- region 4, ref.go:50
    refine GS.region (env' := fun _ => [(0, .slice oo osds.length co), (1, .slice oi infos.length ci), (2, .int .i64 self), (7, .int .i64 ((m : Nat) : Int)), (8, .slice none 0 0)]) (mem' := fun _ => [(1, .rd oo 1 (encI osds)), (2, .rd oi 6 (encInf infos))]) (RunsTo.mk [] [0, 1, 2, 7, 8] [1, 2] (fun _ => []) (fun _ => by kernel_rfl) (fun _ => trivial)) ?_
    intro _
    refine GS.seq ?_
    refine GS.seq ?_
    refine GS.setMem (mem' := [(1, .rd oo 1 (encI osds)), (2, .rd oi 6 (encInf infos)), (3, .osl none 0 3 1 (encI (soFar (ltI osds infos self) 0)))]) (fun w hw => Sat.addNil hw rfl) ?_
    refine GS.conv (env' := [(0, .slice oo osds.length co), (1, .slice oi infos.length ci), (2, .int .i64 self), (7, .int .i64 ((m : Nat) : Int)), (8, .slice none ((soFar (ltI osds infos self) 0).length) 0)]) (congrArg (fun vhole : Value => [(0, .slice oo osds.length co), (1, .slice oi infos.length ci), (2, .int .i64 self), (7, .int .i64 ((m : Nat) : Int)), (8, vhole)]) (show ((.slice none 0 0 : Value) = .slice none ((soFar (ltI osds infos self) 0).length) 0) from rfl)) rfl ?_
    -- region 5, ref.go:51
    refine GS.region (env' := fun _ => [(0, .slice oo osds.length co), (1, .slice oi infos.length ci), (2, .int .i64 self), (8, .slice none ((soFar (ltI osds infos self) 0).length) 0), (22, .int .i64 ((m : Nat) : Int)), (23, .int .i64 ((0 : Nat) : Int))]) (mem' := fun _ => [(1, .rd oo 1 (encI osds)), (2, .rd oi 6 (encInf infos)), (3, .osl none 0 3 1 (encI (soFar (ltI osds infos self) 0)))]) (RunsTo.mk [(1, { sp := some (.int .i64 ((0 : Nat) : Int)) })] [0, 1, 2, 8, 22, 23] [1, 2, 3] (fun _ => [(.int .i64 0 : Value) = .int .i64 ((0 : Nat) : Int)]) (fun _ => by kernel_rfl) (fun _ => ⟨rfl, trivial⟩)) ?_
    intro _
    refine GS.block ?_
    refine GS.loop ?_
    refine GS.loopInv (ι := Nat × Option Addr × Nat) (I := fun ⟨i, so, sc⟩ => i ≤ m) (μ := fun ⟨i, so, sc⟩ => m - i) (E := fun ⟨i, so, sc⟩ => [(0, .slice oo osds.length co), (1, .slice oi infos.length ci), (2, .int .i64 self), (8, .slice so ((soFar (ltI osds infos self) i).length) sc), (22, .int .i64 ((m : Nat) : Int)), (23, .int .i64 ((i : Nat) : Int))]) (M := fun ⟨i, so, sc⟩ => [(1, .rd oo 1 (encI osds)), (2, .rd oi 6 (encInf infos)), (3, .osl so sc 3 1 (encI (soFar (ltI osds infos self) i)))]) ?_ ⟨0, none, 0⟩ (Nat.zero_le _)
    rintro ⟨i, so, sc⟩ hi ih
    refine GS.seq ?_
    -- region 6, ref.go:51
    refine GS.region (env' := fun _ => [(0, .slice oo osds.length co), (1, .slice oi infos.length ci), (2, .int .i64 self), (8, .slice so ((soFar (ltI osds infos self) i).length) sc), (22, .int .i64 ((m : Nat) : Int)), (23, .int .i64 ((i : Nat) : Int)), (24, .bool (decide (((i : Nat) : Int) < ((m : Nat) : Int))))]) (mem' := fun _ => [(1, .rd oo 1 (encI osds)), (2, .rd oi 6 (encInf infos)), (3, .osl so sc 3 1 (encI (soFar (ltI osds infos self) i)))]) (RunsTo.mk [] [0, 1, 2, 8, 22, 23, 24] [1, 2, 3] (fun _ => []) (fun _ => by kernel_rfl) (fun _ => trivial)) ?_
    intro _
    refine GS.seq ?_
    refine GS.cond (t := decide (((i : Nat) : Int) < ((m : Nat) : Int))) rfl rfl (fun h1 => ?_) (fun h1 => ?_)
    · replace h1 := of_decide_eq_true h1
      refine GS.skip ?_
      refine GS.seq ?_
      refine GS.block ?_
      refine GS.seq ?_
      -- region 7, ref.go:51
      refine GS.region (env' := fun _ => [(0, .slice oo osds.length co), (1, .slice oi infos.length ci), (2, .int .i64 self), (8, .slice so ((soFar (ltI osds infos self) i).length) sc), (9, .int .i64 ((i : Nat) : Int)), (22, .int .i64 ((m : Nat) : Int)), (23, .int .i64 ((i : Nat) : Int))]) (mem' := fun _ => [(1, .rd oo 1 (encI osds)), (2, .rd oi 6 (encInf infos)), (3, .osl so sc 3 1 (encI (soFar (ltI osds infos self) i)))]) (RunsTo.mk [] [0, 1, 2, 8, 9, 22, 23] [1, 2, 3] (fun _ => []) (fun _ => by kernel_rfl) (fun _ => trivial)) ?_
      intro _
      refine GS.seq ?_
      -- region 8, ref.go:52
      refine GS.region (env' := fun _ => [(0, .slice oo osds.length co), (1, .slice oi infos.length ci), (2, .int .i64 self), (8, .slice so ((soFar (ltI osds infos self) i).length) sc), (9, .int .i64 ((i : Nat) : Int)), (10, .int .i64 ((i : Nat) : Int)), (22, .int .i64 ((m : Nat) : Int)), (23, .int .i64 ((i : Nat) : Int))]) (mem' := fun _ => [(1, .rd oo 1 (encI osds)), (2, .rd oi 6 (encInf infos)), (3, .osl so sc 3 1 (encI (soFar (ltI osds infos self) i)))]) (RunsTo.mk [(1, { sp := some (.int .i64 ((i : Nat) : Int)) })] [0, 1, 2, 8, 9, 10, 22, 23] [1, 2, 3] (fun _ => [(.int .i64 (((soFar (ltI osds infos self) i).length : Nat) : Int) : Value) = .int .i64 ((i : Nat) : Int)]) (fun _ => by kernel_rfl) (fun _ => ⟨int_eq (by rw [soFar_len]), trivial⟩)) ?_
      intro _
      refine GS.seq ?_
      -- region 9, ref.go:53
      refine GS.region (env' := fun fr0 => [(0, .slice oo osds.length co), (1, .slice oi infos.length ci), (2, .int .i64 self), (8, .slice ((fr0 3).ob) (((soFar (ltI osds infos self) i).length) + (encI [((i : Nat) : Int)]).length) ((fr0 3).cap)), (9, .int .i64 ((i : Nat) : Int)), (10, .int .i64 ((i : Nat) : Int)), (22, .int .i64 ((m : Nat) : Int)), (23, .int .i64 ((i : Nat) : Int))]) (mem' := fun fr0 => [(1, .rd oo 1 (encI osds)), (2, .rd oi 6 (encInf infos)), (3, .osl ((fr0 3).ob) ((fr0 3).cap) 3 1 ((encI (soFar (ltI osds infos self) i)) ++ (encI [((i : Nat) : Int)]))), (4, .osl (some (Addr.mk (fr0 2).x 0 none)) 1 3 1 (encI [((i : Nat) : Int)]))]) (RunsTo.mk [(2, { act := .new (.row 1 1), key := some 4 }), (3, { act := .app (some 4), key := some 3 })] [0, 1, 2, 8, 9, 10, 22, 23] [1, 2, 3, 4] (fun fr0 => [(some (Addr.mk (fr0 2).x 0 none)) = (some (Addr.mk (fr0 2).x 0 none)), 1 = (encI [((i : Nat) : Int)]).length, so = so, sc = sc, (soFar (ltI osds infos self) i).length = (encI (soFar (ltI osds infos self) i)).length, ((encI (soFar (ltI osds infos self) i)).length + (encI [((i : Nat) : Int)]).length) * (8 + 1) ≤ 70368744177664, (encI [((i : Nat) : Int)]).flatten.all Value.oneCell' = true]) (fun fr0 => by kernel_rfl) (fun fr0 => ⟨rfl, rfl, rfl, rfl, encI_len _, by rw [← encI_len, ← encI_len, soFar_len]; simp only [List.length_cons, List.length_nil]; omega, encI_one _, trivial⟩)) ?_
      intro fr0
      refine GS.seq ?_
      refine GS.block ?_
      refine GS.loop ?_
      refine GS.conv (mem' := [(1, .rd oo 1 (encI osds)), (2, .rd oi 6 (encInf infos)), (3, .osl ((fr0 3).ob) ((fr0 3).cap) 3 1 (encI ((soFar (ltI osds infos self) i) ++ [((i : Nat) : Int)]))), (4, .osl (some (Addr.mk (fr0 2).x 0 none)) 1 3 1 (encI [((i : Nat) : Int)]))]) rfl (congrArg (fun rr : List (List Value) => ([(1, .rd oo 1 (encI osds)), (2, .rd oi 6 (encInf infos)), (3, .osl ((fr0 3).ob) ((fr0 3).cap) 3 1 rr), (4, .osl (some (Addr.mk (fr0 2).x 0 none)) 1 3 1 (encI [((i : Nat) : Int)]))] : List (Nat × Ent))) (show (encI (soFar (ltI osds infos self) i)) ++ (encI [((i : Nat) : Int)]) = encI ((soFar (ltI osds infos self) i) ++ [((i : Nat) : Int)]) from encI_append _ _)) ?_
      refine GS.conv (env' := [(0, .slice oo osds.length co), (1, .slice oi infos.length ci), (2, .int .i64 self), (8, .slice ((fr0 3).ob) (i + 1) ((fr0 3).cap)), (9, .int .i64 ((i : Nat) : Int)), (10, .int .i64 ((i : Nat) : Int)), (22, .int .i64 ((m : Nat) : Int)), (23, .int .i64 ((i : Nat) : Int))]) (congrArg (fun vhole : Value => [(0, .slice oo osds.length co), (1, .slice oi infos.length ci), (2, .int .i64 self), (8, vhole), (9, .int .i64 ((i : Nat) : Int)), (10, .int .i64 ((i : Nat) : Int)), (22, .int .i64 ((m : Nat) : Int)), (23, .int .i64 ((i : Nat) : Int))]) (show ((.slice ((fr0 3).ob) (((soFar (ltI osds infos self) i).length) + (encI [((i : Nat) : Int)]).length) ((fr0 3).cap) : Value) = .slice ((fr0 3).ob) (i + 1) ((fr0 3).cap)) from by rw [soFar_len] <;> rfl)) rfl ?_
      have hAl : ((soFar (ltI osds infos self) i) ++ [((i : Nat) : Int)]).length = i + 1 := by rw [List.length_append, soFar_len] <;> rfl
      refine GS.trim (env' := [(0, .slice oo osds.length co), (1, .slice oi infos.length ci), (2, .int .i64 self), (8, .slice ((fr0 3).ob) (i + 1) ((fr0 3).cap)), (9, .int .i64 ((i : Nat) : Int)), (10, .int .i64 ((i : Nat) : Int)), (22, .int .i64 ((m : Nat) : Int)), (23, .int .i64 ((i : Nat) : Int))]) (mem' := [(1, .rd oo 1 (encI osds)), (2, .rd oi 6 (encInf infos)), (3, .osl ((fr0 3).ob) ((fr0 3).cap) 3 1 (encI ((soFar (ltI osds infos self) i) ++ [((i : Nat) : Int)])))]) [0, 1, 2, 8, 9, 10, 22, 23] [1, 2, 3] (by kernel_rfl) (by kernel_rfl) ?_
      refine GS.loopInv (ι := Nat × List Int) (I := fun ⟨j, L⟩ => j ≤ i ∧ ShP ((soFar (ltI osds infos self) i) ++ [((i : Nat) : Int)]) i j L ∧ ∀ t, j ≤ t → t < i → (ltI osds infos self) ((i : Nat) : Int) (((soFar (ltI osds infos self) i) ++ [((i : Nat) : Int)]).getD t 0) = true) (μ := fun ⟨j, L⟩ => j) (E := fun ⟨j, L⟩ => [(0, .slice oo osds.length co), (1, .slice oi infos.length ci), (2, .int .i64 self), (8, .slice ((fr0 3).ob) (i + 1) ((fr0 3).cap)), (9, .int .i64 ((i : Nat) : Int)), (10, .int .i64 ((j : Nat) : Int)), (22, .int .i64 ((m : Nat) : Int)), (23, .int .i64 ((i : Nat) : Int))]) (M := fun ⟨j, L⟩ => [(1, .rd oo 1 (encI osds)), (2, .rd oi 6 (encInf infos)), (3, .osl ((fr0 3).ob) ((fr0 3).cap) 3 1 (encI L))]) ?_ ⟨i, ((soFar (ltI osds infos self) i) ++ [((i : Nat) : Int)])⟩ ⟨Nat.le_refl _, ShP.zero _ _, fun t q1 q2 => by omega⟩
      rintro ⟨j, L⟩ ⟨hji, hS, hT⟩ ih1
      have hLl : L.length = i + 1 := by rw [hS.1]; exact hAl
      by_cases hj : 1 ≤ j
      · skip
        obtain ⟨b1, b2, b3, _⟩ := hS.back hj (by omega)
        refine GS.seq ?_
        refine GS.seq ?_
        -- region 10, ref.go:54
        refine GS.region (env' := fun _ => [(0, .slice oo osds.length co), (1, .slice oi infos.length ci), (2, .int .i64 self), (8, .slice ((fr0 3).ob) (i + 1) ((fr0 3).cap)), (9, .int .i64 ((i : Nat) : Int)), (10, .int .i64 ((j : Nat) : Int)), (22, .int .i64 ((m : Nat) : Int)), (23, .int .i64 ((i : Nat) : Int)), (45, .bool (ltI osds infos self ((i : Nat) : Int) (L.getD (j - 1) 0)))]) (mem' := fun _ => [(1, .rd oo 1 (encI osds)), (2, .rd oi 6 (encInf infos)), (3, .osl ((fr0 3).ob) ((fr0 3).cap) 3 1 (encI L))]) (RunsTo.mk [(1, { sp := some (.bool true) }), (9, { sp := some (.int .i64 ((j - 1 : Nat) : Int)) }), (10, { act := .idx 3 (j - 1) }), (11, { act := .load 3 (j - 1) 0 [.int .i64 (L.getD (j - 1) 0)] }), (12, { act := .call [1, 2] (.bool (ltI osds infos self ((i : Nat) : Int) (L.getD (j - 1) 0))) })] [0, 1, 2, 8, 9, 10, 22, 23, 45] [1, 2, 3] (fun _ => [(.bool (decide (((j : Nat) : Int) > 0)) : Value) = .bool true, (.int .i64 (IntKind.i64.wrap (((j : Nat) : Int) - 1)) : Value) = .int .i64 ((j - 1 : Nat) : Int), (fr0 3).ob = (fr0 3).ob, (i + 1) = (encI L).length, (((j - 1 : Nat) : Int) : Int) = (((j - 1) : Nat) : Int), (j - 1) < (i + 1), blk ((fr0 3).ob) = blk ((fr0 3).ob), offs ((fr0 3).ob) + (j - 1) * 1 = offs ((fr0 3).ob) + ((j - 1) * 1 + 0), (encI L)[(j - 1)]? = some [.int .i64 (L.getD (j - 1) 0)], CallOK Try.prog 22 #[.slice oo osds.length co, .slice oi infos.length ci, .int .i64 self, .int .i64 ((i : Nat) : Int), .int .i64 (L.getD (j - 1) 0)] (.bool (ltI osds infos self ((i : Nat) : Int) (L.getD (j - 1) 0))) [some (.rd oo 1 (encI osds)), some (.rd oi 6 (encInf infos))]]) (fun _ => by kernel_rfl) (fun _ => ⟨bool_eq (decide_eq_true (by omega)), w64 (by omega) (by omega) (by omega), rfl, (by rw [← encI_len]; omega), rfl, by omega, rfl, rfl, encI_at (by omega), ahead_ok oo oi co ci osds infos self ((i : Nat) : Int) (L.getD (j - 1) 0) (by omega) (by omega) (by omega) (by omega) (by omega) (by omega), trivial⟩)) ?_
        intro _
        refine GS.cond (t := ltI osds infos self ((i : Nat) : Int) (L.getD (j - 1) 0)) rfl rfl (fun h5 => ?_) (fun h5 => ?_)
        · skip
          refine GS.skip ?_
          refine GS.block ?_
          refine GS.seq ?_
          -- region 11, ref.go:55
          refine GS.region (env' := fun _ => [(0, .slice oo osds.length co), (1, .slice oi infos.length ci), (2, .int .i64 self), (8, .slice ((fr0 3).ob) (i + 1) ((fr0 3).cap)), (9, .int .i64 ((i : Nat) : Int)), (10, .int .i64 ((j : Nat) : Int)), (22, .int .i64 ((m : Nat) : Int)), (23, .int .i64 ((i : Nat) : Int))]) (mem' := fun _ => [(1, .rd oo 1 (encI osds)), (2, .rd oi 6 (encInf infos)), (3, .osl ((fr0 3).ob) ((fr0 3).cap) 3 1 ((encI L).set j [.int .i64 (L.getD (j - 1) 0)]))]) (RunsTo.mk [(4, { sp := some (.int .i64 ((j - 1 : Nat) : Int)) }), (5, { act := .idx 3 (j - 1) }), (6, { act := .load 3 (j - 1) 0 [.int .i64 (L.getD (j - 1) 0)] }), (7, { act := .idx 3 j }), (8, { act := .store j 0 [.int .i64 (L.getD j 0)], key := some 3 })] [0, 1, 2, 8, 9, 10, 22, 23] [1, 2, 3] (fun _ => [(.int .i64 (IntKind.i64.wrap (((j : Nat) : Int) - 1)) : Value) = .int .i64 ((j - 1 : Nat) : Int), (fr0 3).ob = (fr0 3).ob, (i + 1) = (encI L).length, (((j - 1 : Nat) : Int) : Int) = (((j - 1) : Nat) : Int), (j - 1) < (i + 1), blk ((fr0 3).ob) = blk ((fr0 3).ob), offs ((fr0 3).ob) + (j - 1) * 1 = offs ((fr0 3).ob) + ((j - 1) * 1 + 0), (encI L)[(j - 1)]? = some [.int .i64 (L.getD (j - 1) 0)], (fr0 3).ob = (fr0 3).ob, (i + 1) = (encI L).length, (((j : Nat) : Int) : Int) = ((j : Nat) : Int), j < (i + 1), blk ((fr0 3).ob) = blk ((fr0 3).ob), offs ((fr0 3).ob) + j * 1 = offs ((fr0 3).ob) + (j * 1 + 0), (encI L)[j]? = some [.int .i64 (L.getD j 0)], ((.int .i64 (L.getD (j - 1) 0)) : Value).cells.toList.all Value.oneCell' = true]) (fun _ => by kernel_rfl) (fun _ => ⟨w64 (by omega) (by omega) (by omega), rfl, (by rw [← encI_len]; omega), rfl, by omega, rfl, rfl, encI_at (by omega), rfl, (by rw [← encI_len]; omega), rfl, by omega, rfl, rfl, encI_at (by omega), rfl, trivial⟩)) ?_
          intro _
          refine GS.conv (mem' := [(1, .rd oo 1 (encI osds)), (2, .rd oi 6 (encInf infos)), (3, .osl ((fr0 3).ob) ((fr0 3).cap) 3 1 (encI (L.set j (L.getD (j - 1) 0))))]) rfl (congrArg (fun rr : List (List Value) => ([(1, .rd oo 1 (encI osds)), (2, .rd oi 6 (encInf infos)), (3, .osl ((fr0 3).ob) ((fr0 3).cap) 3 1 rr)] : List (Nat × Ent))) (show (encI L).set j [.int .i64 (L.getD (j - 1) 0)] = encI (L.set j (L.getD (j - 1) 0)) from encI_set _ _ _)) ?_
          have hst := hS.step hj (by omega) (by rw [hAl]; omega)
          -- region 12, ref.go:56
          refine GS.region (env' := fun _ => [(0, .slice oo osds.length co), (1, .slice oi infos.length ci), (2, .int .i64 self), (8, .slice ((fr0 3).ob) (i + 1) ((fr0 3).cap)), (9, .int .i64 ((i : Nat) : Int)), (10, .int .i64 ((j - 1 : Nat) : Int)), (22, .int .i64 ((m : Nat) : Int)), (23, .int .i64 ((i : Nat) : Int))]) (mem' := fun _ => [(1, .rd oo 1 (encI osds)), (2, .rd oi 6 (encInf infos)), (3, .osl ((fr0 3).ob) ((fr0 3).cap) 3 1 (encI (L.set j (L.getD (j - 1) 0))))]) (RunsTo.mk [(1, { sp := some (.int .i64 ((j - 1 : Nat) : Int)) })] [0, 1, 2, 8, 9, 10, 22, 23] [1, 2, 3] (fun _ => [(.int .i64 (IntKind.i64.wrap (((j : Nat) : Int) - 1)) : Value) = .int .i64 ((j - 1 : Nat) : Int)]) (fun _ => by kernel_rfl) (fun _ => ⟨w64 (by omega) (by omega) (by omega), trivial⟩)) ?_
          intro _
          refine GS.inBlock ?_
          refine GS.inLoop ?_
          exact ih1 ⟨j - 1, (L.set j (L.getD (j - 1) 0))⟩ ⟨by omega, hst, fun t q1 q2 => if ht : t = j - 1 then by rw [ht, ← b3]; exact h5 else hT t (by omega) q2⟩ (show j - 1 < j from by omega)
        · skip
          refine GS.exit rfl ?_
          -- region 13, ref.go:58
          refine GS.region (env' := fun _ => [(0, .slice oo osds.length co), (1, .slice oi infos.length ci), (2, .int .i64 self), (8, .slice ((fr0 3).ob) (i + 1) ((fr0 3).cap)), (22, .int .i64 ((m : Nat) : Int)), (23, .int .i64 ((i : Nat) : Int))]) (mem' := fun _ => [(1, .rd oo 1 (encI osds)), (2, .rd oi 6 (encInf infos)), (3, .osl ((fr0 3).ob) ((fr0 3).cap) 3 1 ((encI L).set j [.int .i64 ((i : Nat) : Int)]))]) (RunsTo.mk [(3, { act := .idx 3 j }), (4, { act := .store j 0 [.int .i64 (L.getD j 0)], key := some 3 })] [0, 1, 2, 8, 22, 23] [1, 2, 3] (fun _ => [(fr0 3).ob = (fr0 3).ob, (i + 1) = (encI L).length, (((j : Nat) : Int) : Int) = ((j : Nat) : Int), j < (i + 1), blk ((fr0 3).ob) = blk ((fr0 3).ob), offs ((fr0 3).ob) + j * 1 = offs ((fr0 3).ob) + (j * 1 + 0), (encI L)[j]? = some [.int .i64 (L.getD j 0)], ((.int .i64 ((i : Nat) : Int)) : Value).cells.toList.all Value.oneCell' = true]) (fun _ => by kernel_rfl) (fun _ => ⟨rfl, (by rw [← encI_len]; omega), rfl, by omega, rfl, rfl, encI_at (by omega), rfl, trivial⟩)) ?_
          intro _
          refine GS.inBlock ?_
          refine GS.conv (mem' := [(1, .rd oo 1 (encI osds)), (2, .rd oi 6 (encInf infos)), (3, .osl ((fr0 3).ob) ((fr0 3).cap) 3 1 (encI (soFar (ltI osds infos self) (i + 1))))]) rfl (congrArg (fun rr : List (List Value) => ([(1, .rd oo 1 (encI osds)), (2, .rd oi 6 (encInf infos)), (3, .osl ((fr0 3).ob) ((fr0 3).cap) 3 1 rr)] : List (Nat × Ent))) (show (encI L).set j [.int .i64 ((i : Nat) : Int)] = encI (soFar (ltI osds infos self) (i + 1)) from by rw [encI_set, soFar_step (rank_order osds infos self (fun _ => True)) (fun _ _ _ => trivial) (by omega) hS (.inr h5) hT])) ?_
          refine GS.conv (env' := [(0, .slice oo osds.length co), (1, .slice oi infos.length ci), (2, .int .i64 self), (8, .slice ((fr0 3).ob) ((soFar (ltI osds infos self) (i + 1)).length) ((fr0 3).cap)), (22, .int .i64 ((m : Nat) : Int)), (23, .int .i64 ((i : Nat) : Int))]) (congrArg (fun vhole : Value => [(0, .slice oo osds.length co), (1, .slice oi infos.length ci), (2, .int .i64 self), (8, vhole), (22, .int .i64 ((m : Nat) : Int)), (23, .int .i64 ((i : Nat) : Int))]) (show ((.slice ((fr0 3).ob) (i + 1) ((fr0 3).cap) : Value) = .slice ((fr0 3).ob) ((soFar (ltI osds infos self) (i + 1)).length) ((fr0 3).cap)) from by rw [soFar_len])) rfl ?_
          -- region 14, ref.go:51
          refine GS.region (env' := fun _ => [(0, .slice oo osds.length co), (1, .slice oi infos.length ci), (2, .int .i64 self), (8, .slice ((fr0 3).ob) ((soFar (ltI osds infos self) (i + 1)).length) ((fr0 3).cap)), (22, .int .i64 ((m : Nat) : Int)), (23, .int .i64 ((i + 1 : Nat) : Int))]) (mem' := fun _ => [(1, .rd oo 1 (encI osds)), (2, .rd oi 6 (encInf infos)), (3, .osl ((fr0 3).ob) ((fr0 3).cap) 3 1 (encI (soFar (ltI osds infos self) (i + 1))))]) (RunsTo.mk [(0, { sp := some (.int .i64 ((i + 1 : Nat) : Int)) })] [0, 1, 2, 8, 22, 23] [1, 2, 3] (fun _ => [(.int .i64 (IntKind.i64.wrap (((i : Nat) : Int) + 1)) : Value) = .int .i64 ((i + 1 : Nat) : Int)]) (fun _ => by kernel_rfl) (fun _ => ⟨w64 (by omega) (by omega) (by omega), trivial⟩)) ?_
          intro _
          refine GS.inLoop ?_
          exact ih ⟨i + 1, (fr0 3).ob, (fr0 3).cap⟩ (by omega) (show m - (i + 1) < m - i from by omega)
      · skip
        refine GS.seq ?_
        refine GS.seq ?_
        -- region 10, ref.go:54
        refine GS.region (env' := fun _ => [(0, .slice oo osds.length co), (1, .slice oi infos.length ci), (2, .int .i64 self), (8, .slice ((fr0 3).ob) (i + 1) ((fr0 3).cap)), (9, .int .i64 ((i : Nat) : Int)), (10, .int .i64 ((j : Nat) : Int)), (22, .int .i64 ((m : Nat) : Int)), (23, .int .i64 ((i : Nat) : Int)), (45, .bool false)]) (mem' := fun _ => [(1, .rd oo 1 (encI osds)), (2, .rd oi 6 (encInf infos)), (3, .osl ((fr0 3).ob) ((fr0 3).cap) 3 1 (encI L))]) (RunsTo.mk [(1, { sp := some (.bool false) })] [0, 1, 2, 8, 9, 10, 22, 23, 45] [1, 2, 3] (fun _ => [(.bool (decide (((j : Nat) : Int) > 0)) : Value) = .bool false]) (fun _ => by kernel_rfl) (fun _ => ⟨bool_eq (decide_eq_false (by omega)), trivial⟩)) ?_
        intro _
        refine GS.cond (t := false) rfl rfl (fun hf => by cases hf) (fun _ => ?_)
        refine GS.exit rfl ?_
        -- region 13, ref.go:58
        refine GS.region (env' := fun _ => [(0, .slice oo osds.length co), (1, .slice oi infos.length ci), (2, .int .i64 self), (8, .slice ((fr0 3).ob) (i + 1) ((fr0 3).cap)), (22, .int .i64 ((m : Nat) : Int)), (23, .int .i64 ((i : Nat) : Int))]) (mem' := fun _ => [(1, .rd oo 1 (encI osds)), (2, .rd oi 6 (encInf infos)), (3, .osl ((fr0 3).ob) ((fr0 3).cap) 3 1 ((encI L).set j [.int .i64 ((i : Nat) : Int)]))]) (RunsTo.mk [(3, { act := .idx 3 j }), (4, { act := .store j 0 [.int .i64 (L.getD j 0)], key := some 3 })] [0, 1, 2, 8, 22, 23] [1, 2, 3] (fun _ => [(fr0 3).ob = (fr0 3).ob, (i + 1) = (encI L).length, (((j : Nat) : Int) : Int) = ((j : Nat) : Int), j < (i + 1), blk ((fr0 3).ob) = blk ((fr0 3).ob), offs ((fr0 3).ob) + j * 1 = offs ((fr0 3).ob) + (j * 1 + 0), (encI L)[j]? = some [.int .i64 (L.getD j 0)], ((.int .i64 ((i : Nat) : Int)) : Value).cells.toList.all Value.oneCell' = true]) (fun _ => by kernel_rfl) (fun _ => ⟨rfl, (by rw [← encI_len]; omega), rfl, by omega, rfl, rfl, encI_at (by omega), rfl, trivial⟩)) ?_
        intro _
        refine GS.inBlock ?_
        refine GS.conv (mem' := [(1, .rd oo 1 (encI osds)), (2, .rd oi 6 (encInf infos)), (3, .osl ((fr0 3).ob) ((fr0 3).cap) 3 1 (encI (soFar (ltI osds infos self) (i + 1))))]) rfl (congrArg (fun rr : List (List Value) => ([(1, .rd oo 1 (encI osds)), (2, .rd oi 6 (encInf infos)), (3, .osl ((fr0 3).ob) ((fr0 3).cap) 3 1 rr)] : List (Nat × Ent))) (show (encI L).set j [.int .i64 ((i : Nat) : Int)] = encI (soFar (ltI osds infos self) (i + 1)) from by rw [encI_set, soFar_step (rank_order osds infos self (fun _ => True)) (fun _ _ _ => trivial) (by omega) hS (.inl (by omega)) hT])) ?_
        refine GS.conv (env' := [(0, .slice oo osds.length co), (1, .slice oi infos.length ci), (2, .int .i64 self), (8, .slice ((fr0 3).ob) ((soFar (ltI osds infos self) (i + 1)).length) ((fr0 3).cap)), (22, .int .i64 ((m : Nat) : Int)), (23, .int .i64 ((i : Nat) : Int))]) (congrArg (fun vhole : Value => [(0, .slice oo osds.length co), (1, .slice oi infos.length ci), (2, .int .i64 self), (8, vhole), (22, .int .i64 ((m : Nat) : Int)), (23, .int .i64 ((i : Nat) : Int))]) (show ((.slice ((fr0 3).ob) (i + 1) ((fr0 3).cap) : Value) = .slice ((fr0 3).ob) ((soFar (ltI osds infos self) (i + 1)).length) ((fr0 3).cap)) from by rw [soFar_len])) rfl ?_
        -- region 14, ref.go:51
        refine GS.region (env' := fun _ => [(0, .slice oo osds.length co), (1, .slice oi infos.length ci), (2, .int .i64 self), (8, .slice ((fr0 3).ob) ((soFar (ltI osds infos self) (i + 1)).length) ((fr0 3).cap)), (22, .int .i64 ((m : Nat) : Int)), (23, .int .i64 ((i + 1 : Nat) : Int))]) (mem' := fun _ => [(1, .rd oo 1 (encI osds)), (2, .rd oi 6 (encInf infos)), (3, .osl ((fr0 3).ob) ((fr0 3).cap) 3 1 (encI (soFar (ltI osds infos self) (i + 1))))]) (RunsTo.mk [(0, { sp := some (.int .i64 ((i + 1 : Nat) : Int)) })] [0, 1, 2, 8, 22, 23] [1, 2, 3] (fun _ => [(.int .i64 (IntKind.i64.wrap (((i : Nat) : Int) + 1)) : Value) = .int .i64 ((i + 1 : Nat) : Int)]) (fun _ => by kernel_rfl) (fun _ => ⟨w64 (by omega) (by omega) (by omega), trivial⟩)) ?_
        intro _
        refine GS.inLoop ?_
        exact ih ⟨i + 1, (fr0 3).ob, (fr0 3).cap⟩ (by omega) (show m - (i + 1) < m - i from by omega)
    · replace h1 := of_decide_eq_false h1
      have him : i = m := by omega
      refine GS.exit rfl ?_
      refine GS.seq ?_
      -- region 15, ref.go:60
      refine GS.region (env' := fun _ => [(0, .slice oo osds.length co), (8, .slice so ((soFar (ltI osds infos self) i).length) sc), (11, .slice none 0 0)]) (mem' := fun _ => [(1, .rd oo 1 (encI osds)), (2, .rd oi 6 (encInf infos)), (3, .osl so sc 3 1 (encI (soFar (ltI osds infos self) i)))]) (RunsTo.mk [] [0, 8, 11] [1, 2, 3] (fun _ => []) (fun _ => by kernel_rfl) (fun _ => trivial)) ?_
      intro _
      refine GS.seq ?_
      refine GS.seq ?_
      refine GS.setMem (mem' := [(1, .rd oo 1 (encI osds)), (2, .rd oi 6 (encInf infos)), (3, .osl so sc 3 1 (encI (soFar (ltI osds infos self) i))), (4, .osl none 0 3 1 (encI (mapTo (fun k => osds.getD k.toNat 0) (soFar (ltI osds infos self) i) 0)))]) (fun w hw => Sat.addNil hw rfl) ?_
      refine GS.conv (env' := [(0, .slice oo osds.length co), (8, .slice so ((soFar (ltI osds infos self) i).length) sc), (11, .slice none ((mapTo (fun k => osds.getD k.toNat 0) (soFar (ltI osds infos self) i) 0).length) 0)]) (congrArg (fun vhole : Value => [(0, .slice oo osds.length co), (8, .slice so ((soFar (ltI osds infos self) i).length) sc), (11, vhole)]) (show ((.slice none 0 0 : Value) = .slice none ((mapTo (fun k => osds.getD k.toNat 0) (soFar (ltI osds infos self) i) 0).length) 0) from rfl)) rfl ?_
      have hfl : (soFar (ltI osds infos self) i).length = i := soFar_len i
      have hfw := soFar_within (lt := (ltI osds infos self)) i
      -- region 16, ref.go:61
      refine GS.region (env' := fun _ => [(0, .slice oo osds.length co), (11, .slice none ((mapTo (fun k => osds.getD k.toNat 0) (soFar (ltI osds infos self) i) 0).length) 0), (61, .slice so ((soFar (ltI osds infos self) i).length) sc), (62, .int .i64 (((soFar (ltI osds infos self) i).length : Nat) : Int)), (63, .int .i64 ((0 : Nat) : Int))]) (mem' := fun _ => [(1, .rd oo 1 (encI osds)), (2, .rd oi 6 (encInf infos)), (3, .osl so sc 3 1 (encI (soFar (ltI osds infos self) i))), (4, .osl none 0 3 1 (encI (mapTo (fun k => osds.getD k.toNat 0) (soFar (ltI osds infos self) i) 0)))]) (RunsTo.mk [(2, { sp := some (.int .i64 ((0 : Nat) : Int)) })] [0, 11, 61, 62, 63] [1, 2, 3, 4] (fun _ => [(.int .i64 0 : Value) = .int .i64 ((0 : Nat) : Int)]) (fun _ => by kernel_rfl) (fun _ => ⟨rfl, trivial⟩)) ?_
      intro _
      refine GS.block ?_
      refine GS.loop ?_
      refine GS.loopInv (ι := Nat × Option Addr × Nat) (I := fun ⟨q, so2, sc2⟩ => q ≤ i) (μ := fun ⟨q, so2, sc2⟩ => i - q) (E := fun ⟨q, so2, sc2⟩ => [(0, .slice oo osds.length co), (11, .slice so2 ((mapTo (fun k => osds.getD k.toNat 0) (soFar (ltI osds infos self) i) q).length) sc2), (61, .slice so ((soFar (ltI osds infos self) i).length) sc), (62, .int .i64 (((soFar (ltI osds infos self) i).length : Nat) : Int)), (63, .int .i64 ((q : Nat) : Int))]) (M := fun ⟨q, so2, sc2⟩ => [(1, .rd oo 1 (encI osds)), (2, .rd oi 6 (encInf infos)), (3, .osl so sc 3 1 (encI (soFar (ltI osds infos self) i))), (4, .osl so2 sc2 3 1 (encI (mapTo (fun k => osds.getD k.toNat 0) (soFar (ltI osds infos self) i) q)))]) ?_ ⟨0, none, 0⟩ (Nat.zero_le _)
      rintro ⟨q, so2, sc2⟩ hqi ih1
      refine GS.seq ?_
      -- region 17, ref.go:61
      refine GS.region (env' := fun _ => [(0, .slice oo osds.length co), (11, .slice so2 ((mapTo (fun k => osds.getD k.toNat 0) (soFar (ltI osds infos self) i) q).length) sc2), (61, .slice so ((soFar (ltI osds infos self) i).length) sc), (62, .int .i64 (((soFar (ltI osds infos self) i).length : Nat) : Int)), (63, .int .i64 ((q : Nat) : Int)), (64, .bool (decide (((q : Nat) : Int) < (((soFar (ltI osds infos self) i).length : Nat) : Int))))]) (mem' := fun _ => [(1, .rd oo 1 (encI osds)), (2, .rd oi 6 (encInf infos)), (3, .osl so sc 3 1 (encI (soFar (ltI osds infos self) i))), (4, .osl so2 sc2 3 1 (encI (mapTo (fun k => osds.getD k.toNat 0) (soFar (ltI osds infos self) i) q)))]) (RunsTo.mk [] [0, 11, 61, 62, 63, 64] [1, 2, 3, 4] (fun _ => []) (fun _ => by kernel_rfl) (fun _ => trivial)) ?_
      intro _
      refine GS.seq ?_
      refine GS.cond (t := decide (((q : Nat) : Int) < (((soFar (ltI osds infos self) i).length : Nat) : Int))) rfl rfl (fun h2 => ?_) (fun h2 => ?_)
      · replace h2 := of_decide_eq_true h2
        have hq1 := hfw q (by omega)
        refine GS.skip ?_
        refine GS.seq ?_
        refine GS.block ?_
        refine GS.seq ?_
        -- region 18, ref.go:61
        refine GS.region (env' := fun _ => [(0, .slice oo osds.length co), (11, .slice so2 ((mapTo (fun k => osds.getD k.toNat 0) (soFar (ltI osds infos self) i) q).length) sc2), (13, .int .i64 ((soFar (ltI osds infos self) i).getD q 0)), (61, .slice so ((soFar (ltI osds infos self) i).length) sc), (62, .int .i64 (((soFar (ltI osds infos self) i).length : Nat) : Int)), (63, .int .i64 ((q : Nat) : Int))]) (mem' := fun _ => [(1, .rd oo 1 (encI osds)), (2, .rd oi 6 (encInf infos)), (3, .osl so sc 3 1 (encI (soFar (ltI osds infos self) i))), (4, .osl so2 sc2 3 1 (encI (mapTo (fun k => osds.getD k.toNat 0) (soFar (ltI osds infos self) i) q)))]) (RunsTo.mk [(0, { act := .idx 3 q }), (1, { act := .load 3 q 0 [.int .i64 ((soFar (ltI osds infos self) i).getD q 0)] })] [0, 11, 13, 61, 62, 63] [1, 2, 3, 4] (fun _ => [so = so, (soFar (ltI osds infos self) i).length = (encI (soFar (ltI osds infos self) i)).length, (((q : Nat) : Int) : Int) = ((q : Nat) : Int), q < (soFar (ltI osds infos self) i).length, blk so = blk so, offs so + q * 1 = offs so + (q * 1 + 0), (encI (soFar (ltI osds infos self) i))[q]? = some [.int .i64 ((soFar (ltI osds infos self) i).getD q 0)]]) (fun _ => by kernel_rfl) (fun _ => ⟨rfl, encI_len _, rfl, by omega, rfl, rfl, encI_at (by omega), trivial⟩)) ?_
        intro _
        -- region 19, ref.go:62
        refine GS.region (env' := fun fr1 => [(0, .slice oo osds.length co), (11, .slice ((fr1 6).ob) (((mapTo (fun k => osds.getD k.toNat 0) (soFar (ltI osds infos self) i) q).length) + (encI [(osds.getD (Int.toNat ((soFar (ltI osds infos self) i).getD q 0)) 0)]).length) ((fr1 6).cap)), (61, .slice so ((soFar (ltI osds infos self) i).length) sc), (62, .int .i64 (((soFar (ltI osds infos self) i).length : Nat) : Int)), (63, .int .i64 ((q : Nat) : Int))]) (mem' := fun fr1 => [(1, .rd oo 1 (encI osds)), (2, .rd oi 6 (encInf infos)), (3, .osl so sc 3 1 (encI (soFar (ltI osds infos self) i))), (4, .osl ((fr1 6).ob) ((fr1 6).cap) 3 1 ((encI (mapTo (fun k => osds.getD k.toNat 0) (soFar (ltI osds infos self) i) q)) ++ (encI [(osds.getD (Int.toNat ((soFar (ltI osds infos self) i).getD q 0)) 0)]))), (5, .osl (some (Addr.mk (fr1 5).x 0 none)) 1 3 1 (encI [(osds.getD (Int.toNat ((soFar (ltI osds infos self) i).getD q 0)) 0)]))]) (RunsTo.mk [(3, { act := .idx 1 (Int.toNat ((soFar (ltI osds infos self) i).getD q 0)) }), (4, { act := .load 1 (Int.toNat ((soFar (ltI osds infos self) i).getD q 0)) 0 [.int .i64 (osds.getD (Int.toNat ((soFar (ltI osds infos self) i).getD q 0)) 0)] }), (5, { act := .new (.row 1 1), key := some 5 }), (6, { act := .app (some 5), key := some 4 })] [0, 11, 61, 62, 63] [1, 2, 3, 4, 5] (fun fr1 => [oo = oo, osds.length = (encI osds).length, (((soFar (ltI osds infos self) i).getD q 0) : Int) = ((Int.toNat ((soFar (ltI osds infos self) i).getD q 0) : Nat) : Int), Int.toNat ((soFar (ltI osds infos self) i).getD q 0) < osds.length, blk oo = blk oo, offs oo + (Int.toNat ((soFar (ltI osds infos self) i).getD q 0)) * 1 = offs oo + ((Int.toNat ((soFar (ltI osds infos self) i).getD q 0)) * 1 + 0), (encI osds)[Int.toNat ((soFar (ltI osds infos self) i).getD q 0)]? = some [.int .i64 (osds.getD (Int.toNat ((soFar (ltI osds infos self) i).getD q 0)) 0)], (some (Addr.mk (fr1 5).x 0 none)) = (some (Addr.mk (fr1 5).x 0 none)), 1 = (encI [(osds.getD (Int.toNat ((soFar (ltI osds infos self) i).getD q 0)) 0)]).length, so2 = so2, sc2 = sc2, (mapTo (fun k => osds.getD k.toNat 0) (soFar (ltI osds infos self) i) q).length = (encI (mapTo (fun k => osds.getD k.toNat 0) (soFar (ltI osds infos self) i) q)).length, ((encI (mapTo (fun k => osds.getD k.toNat 0) (soFar (ltI osds infos self) i) q)).length + (encI [(osds.getD (Int.toNat ((soFar (ltI osds infos self) i).getD q 0)) 0)]).length) * (8 + 1) ≤ 70368744177664, (encI [(osds.getD (Int.toNat ((soFar (ltI osds infos self) i).getD q 0)) 0)]).flatten.all Value.oneCell' = true]) (fun fr1 => by kernel_rfl) (fun fr1 => ⟨rfl, encI_len _, by omega, by omega, rfl, rfl, encI_at (by omega), rfl, rfl, rfl, rfl, encI_len _, by rw [← encI_len, ← encI_len, mapTo_len]; simp only [List.length_cons, List.length_nil]; omega, encI_one _, trivial⟩)) ?_
        intro fr1
        refine GS.inBlock ?_
        refine GS.conv (mem' := [(1, .rd oo 1 (encI osds)), (2, .rd oi 6 (encInf infos)), (3, .osl so sc 3 1 (encI (soFar (ltI osds infos self) i))), (4, .osl ((fr1 6).ob) ((fr1 6).cap) 3 1 (encI (mapTo (fun k => osds.getD k.toNat 0) (soFar (ltI osds infos self) i) (q + 1)))), (5, .osl (some (Addr.mk (fr1 5).x 0 none)) 1 3 1 (encI [(osds.getD (Int.toNat ((soFar (ltI osds infos self) i).getD q 0)) 0)]))]) rfl (congrArg (fun rr : List (List Value) => ([(1, .rd oo 1 (encI osds)), (2, .rd oi 6 (encInf infos)), (3, .osl so sc 3 1 (encI (soFar (ltI osds infos self) i))), (4, .osl ((fr1 6).ob) ((fr1 6).cap) 3 1 rr), (5, .osl (some (Addr.mk (fr1 5).x 0 none)) 1 3 1 (encI [(osds.getD (Int.toNat ((soFar (ltI osds infos self) i).getD q 0)) 0)]))] : List (Nat × Ent))) (show (encI (mapTo (fun k => osds.getD k.toNat 0) (soFar (ltI osds infos self) i) q)) ++ (encI [(osds.getD (Int.toNat ((soFar (ltI osds infos self) i).getD q 0)) 0)]) = encI (mapTo (fun k => osds.getD k.toNat 0) (soFar (ltI osds infos self) i) (q + 1)) from by rw [mapTo, ← encI_append] <;> rfl)) ?_
        refine GS.conv (env' := [(0, .slice oo osds.length co), (11, .slice ((fr1 6).ob) ((mapTo (fun k => osds.getD k.toNat 0) (soFar (ltI osds infos self) i) (q + 1)).length) ((fr1 6).cap)), (61, .slice so ((soFar (ltI osds infos self) i).length) sc), (62, .int .i64 (((soFar (ltI osds infos self) i).length : Nat) : Int)), (63, .int .i64 ((q : Nat) : Int))]) (congrArg (fun vhole : Value => [(0, .slice oo osds.length co), (11, vhole), (61, .slice so ((soFar (ltI osds infos self) i).length) sc), (62, .int .i64 (((soFar (ltI osds infos self) i).length : Nat) : Int)), (63, .int .i64 ((q : Nat) : Int))]) (show ((.slice ((fr1 6).ob) (((mapTo (fun k => osds.getD k.toNat 0) (soFar (ltI osds infos self) i) q).length) + (encI [(osds.getD (Int.toNat ((soFar (ltI osds infos self) i).getD q 0)) 0)]).length) ((fr1 6).cap) : Value) = .slice ((fr1 6).ob) ((mapTo (fun k => osds.getD k.toNat 0) (soFar (ltI osds infos self) i) (q + 1)).length) ((fr1 6).cap)) from by rw [mapTo_len, mapTo_len] <;> rfl)) rfl ?_
        -- region 20, ref.go:61
        refine GS.region (env' := fun _ => [(0, .slice oo osds.length co), (11, .slice ((fr1 6).ob) ((mapTo (fun k => osds.getD k.toNat 0) (soFar (ltI osds infos self) i) (q + 1)).length) ((fr1 6).cap)), (61, .slice so ((soFar (ltI osds infos self) i).length) sc), (62, .int .i64 (((soFar (ltI osds infos self) i).length : Nat) : Int)), (63, .int .i64 ((q + 1 : Nat) : Int))]) (mem' := fun _ => [(1, .rd oo 1 (encI osds)), (2, .rd oi 6 (encInf infos)), (3, .osl so sc 3 1 (encI (soFar (ltI osds infos self) i))), (4, .osl ((fr1 6).ob) ((fr1 6).cap) 3 1 (encI (mapTo (fun k => osds.getD k.toNat 0) (soFar (ltI osds infos self) i) (q + 1)))), (5, .osl (some (Addr.mk (fr1 5).x 0 none)) 1 3 1 (encI [(osds.getD (Int.toNat ((soFar (ltI osds infos self) i).getD q 0)) 0)]))]) (RunsTo.mk [(0, { sp := some (.int .i64 ((q + 1 : Nat) : Int)) })] [0, 11, 61, 62, 63] [1, 2, 3, 4, 5] (fun _ => [(.int .i64 (IntKind.i64.wrap (((q : Nat) : Int) + 1)) : Value) = .int .i64 ((q + 1 : Nat) : Int)]) (fun _ => by kernel_rfl) (fun _ => ⟨w64 (by omega) (by omega) (by omega), trivial⟩)) ?_
        intro _
        refine GS.inLoop ?_
        refine GS.trim (env' := [(0, .slice oo osds.length co), (11, .slice ((fr1 6).ob) ((mapTo (fun k => osds.getD k.toNat 0) (soFar (ltI osds infos self) i) (q + 1)).length) ((fr1 6).cap)), (61, .slice so ((soFar (ltI osds infos self) i).length) sc), (62, .int .i64 (((soFar (ltI osds infos self) i).length : Nat) : Int)), (63, .int .i64 ((q + 1 : Nat) : Int))]) (mem' := [(1, .rd oo 1 (encI osds)), (2, .rd oi 6 (encInf infos)), (3, .osl so sc 3 1 (encI (soFar (ltI osds infos self) i))), (4, .osl ((fr1 6).ob) ((fr1 6).cap) 3 1 (encI (mapTo (fun k => osds.getD k.toNat 0) (soFar (ltI osds infos self) i) (q + 1))))]) [0, 11, 61, 62, 63] [1, 2, 3, 4] (by kernel_rfl) (by kernel_rfl) ?_
        exact ih1 ⟨q + 1, (fr1 6).ob, (fr1 6).cap⟩ (by omega) (show i - (q + 1) < i - q from by omega)
      · replace h2 := of_decide_eq_false h2
        have hqm : q = m := by omega
        have hF : mapTo (fun k => osds.getD k.toNat 0) (soFar (ltI osds infos self) i) q = rankedF osds infos self := by rw [hqm, him, rankedF, ← hm, orderF_soFar]
        refine GS.exit rfl ?_
        refine GS.seq ?_
        -- region 21, ref.go:64
        refine GS.region (env' := fun _ => [(6, .slice so2 ((mapTo (fun k => osds.getD k.toNat 0) (soFar (ltI osds infos self) i) q).length) sc2)]) (mem' := fun _ => [(1, .rd oo 1 (encI osds)), (2, .rd oi 6 (encInf infos)), (3, .osl so sc 3 1 (encI (soFar (ltI osds infos self) i))), (4, .osl so2 sc2 3 1 (encI (mapTo (fun k => osds.getD k.toNat 0) (soFar (ltI osds infos self) i) q)))]) (RunsTo.mk [] [6] [1, 2, 3, 4] (fun _ => []) (fun _ => by kernel_rfl) (fun _ => trivial)) ?_
        intro _
        refine GS.ret (fn := Try.f13) [0] [.slice so2 ((mapTo (fun k => osds.getD k.toNat 0) (soFar (ltI osds infos self) i) q).length) sc2] [] rfl Try.func13 (by kernel_rfl) trivial (fun w' hs => ?_)
        exact ⟨⟨so2, sc2⟩, by rw [hF] <;> rfl, by rw [← hF]; exact hs.turned (ks := [1, 2, 4]) (nodupB_spec rfl) rfl (by intro e he; simp only [List.mem_cons, List.not_mem_nil, or_false] at he; rcases he with rfl | rfl | rfl <;> first | exact .inl rfl | exact .inr (by simp))⟩

theorem refbest_ok (oo oi : Option Addr) (co ci : Nat) (osds : List Int) (infos : List Inf) (self : Int) (hsm : minL osds infos ≤ 1048576) : CallOK Try.prog 10 #[.slice oo osds.length co, .slice oi infos.length ci, .int .i64 self] (.tuple #[.int .i64 (bestF osds infos self).1, .bool (bestF osds infos self).2]) [some (.rd oo 1 (encI osds)), some (.rd oi 6 (encInf infos))] := by
  intro w hr
  refine GS.start (S := fun _ => False) (mem := [(1, .rd oo 1 (encI osds)), (2, .rd oi 6 (encInf infos))]) Try.func10 rfl Try.ntmps10 (Nat.le_of_ble_eq_true rfl) (Sat.startRo (es := [.rd oo 1 (encI osds), .rd oi 6 (encInf infos)]) hr rfl) ?_
  refine GS.conv (env' := [(0, .slice oo osds.length co), (1, .slice oi infos.length ci), (2, .int .i64 self)]) rfl rfl ?_
  have hrl := rankedF_len osds infos self
  refine GS.seq ?_
  -- region 0, ref.go:80
  refine GS.region (env' := fun _ => [(0, .slice oo osds.length co), (1, .slice oi infos.length ci), (2, .int .i64 self)]) (mem' := fun _ => [(1, .rd oo 1 (encI osds)), (2, .rd oi 6 (encInf infos))]) (RunsTo.mk [] [0, 1, 2] [1, 2] (fun _ => []) (fun _ => by kernel_rfl) (fun _ => trivial)) ?_
  intro _
  refine GS.seq ?_
  -- region 1, ref.go:81
  refine GS.open_ ?_
  refine GR.run (i := 0) 3 (env' := fun _ => [(9, .slice oo osds.length co), (10, .slice oi infos.length ci), (11, .int .i64 self)]) (mem' := fun _ => [(1, .rd oo 1 (encI osds)), (2, .rd oi 6 (encInf infos))]) (Nat.le_of_ble_eq_true (by kernel_rfl)) (RunsTo.mk [] [9, 10, 11] [1, 2] (fun _ => []) (fun _ => by kernel_rfl) (fun _ => trivial)) ?_
  intro _
  refine GR.callT (X := Option Addr × Nat) (i := 3) (g := 13) (args := #[.slice oo osds.length co, .slice oi infos.length ci, .int .i64 self]) (v := fun ⟨so1, sc1⟩ => .slice so1 ((rankedF osds infos self).length) sc1) (es := [.rd oo 1 (encI osds), .rd oi 6 (encInf infos)]) (es' := fun ⟨so1, sc1⟩ => [.rd oo 1 (encI osds), .rd oi 6 (encInf infos), .osl so1 sc1 3 1 (encI (rankedF osds infos self))]) (mem' := fun ⟨so1, sc1⟩ => [(1, .rd oo 1 (encI osds)), (2, .rd oi 6 (encInf infos)), (3, .osl so1 sc1 3 1 (encI (rankedF osds infos self)))]) (env' := fun ⟨so1, sc1⟩ => [(12, .slice so1 ((rankedF osds infos self).length) sc1)]) [1, 2] [3] [12] [1, 2, 3] (by kernel_rfl) (by kernel_rfl) (by kernel_rfl) (by kernel_rfl) (by kernel_rfl) (by kernel_rfl) (fun _ => rfl) (by rintro ⟨so1, sc1⟩; kernel_rfl) (by rintro ⟨so1, sc1⟩; kernel_rfl) (refranked_ok oo oi co ci osds infos self hsm) ?_
  rintro ⟨so1, sc1⟩
  refine GR.run (i := 4) 1 (env' := fun _ => [(8, .slice so1 ((rankedF osds infos self).length) sc1)]) (mem' := fun _ => [(1, .rd oo 1 (encI osds)), (2, .rd oi 6 (encInf infos)), (3, .osl so1 sc1 3 1 (encI (rankedF osds infos self)))]) (Nat.le_of_ble_eq_true (by kernel_rfl)) (RunsTo.mk [] [8] [1, 2, 3] (fun _ => []) (fun _ => by kernel_rfl) (fun _ => trivial)) ?_
  intro _
  refine GR.done (Nat.le_of_ble_eq_true (by kernel_rfl)) ?_
  refine GS.seq ?_
  refine GS.seq ?_
  -- region 2, ref.go:82
  refine GS.region (env' := fun _ => [(8, .slice so1 ((rankedF osds infos self).length) sc1), (15, .bool ((((rankedF osds infos self).length : Nat) : Int) == 0))]) (mem' := fun _ => [(1, .rd oo 1 (encI osds)), (2, .rd oi 6 (encInf infos)), (3, .osl so1 sc1 3 1 (encI (rankedF osds infos self)))]) (RunsTo.mk [] [8, 15] [1, 2, 3] (fun _ => []) (fun _ => by kernel_rfl) (fun _ => trivial)) ?_
  intro _
  refine GS.cond (t := (((rankedF osds infos self).length : Nat) : Int) == 0) rfl rfl (fun h => ?_) (fun h => ?_)
  · replace h := eq_of_beq h
    refine GS.seq ?_
    -- region 3, ref.go:83
    refine GS.region (env' := fun _ => [(6, .int .i64 0), (7, .bool false)]) (mem' := fun _ => [(1, .rd oo 1 (encI osds)), (2, .rd oi 6 (encInf infos)), (3, .osl so1 sc1 3 1 (encI (rankedF osds infos self)))]) (RunsTo.mk [] [6, 7] [1, 2, 3] (fun _ => []) (fun _ => by kernel_rfl) (fun _ => trivial)) ?_
    intro _
    refine GS.ret (fn := Try.f10) [0, 0] [.int .i64 0, .bool false] [] rfl Try.func10 (by kernel_rfl) trivial (fun w' hs => ?_)
    exact ⟨by rw [bestF, if_pos (by omega)] <;> rfl, hs.keep⟩
  · replace h := ne_of_beq_false' h
    refine GS.skip ?_
    refine GS.seq ?_
    -- region 4, ref.go:85
    refine GS.region (env' := fun _ => [(6, .int .i64 ((rankedF osds infos self).getD 0 0)), (7, .bool true)]) (mem' := fun _ => [(1, .rd oo 1 (encI osds)), (2, .rd oi 6 (encInf infos)), (3, .osl so1 sc1 3 1 (encI (rankedF osds infos self)))]) (RunsTo.mk [(1, { act := .idx 3 0 }), (2, { act := .load 3 0 0 [.int .i64 ((rankedF osds infos self).getD 0 0)] })] [6, 7] [1, 2, 3] (fun _ => [so1 = so1, (rankedF osds infos self).length = (encI (rankedF osds infos self)).length, (0 : Int) = ((0 : Nat) : Int), 0 < (rankedF osds infos self).length, blk so1 = blk so1, offs so1 + 0 * 1 = offs so1 + (0 * 1 + 0), (encI (rankedF osds infos self))[0]? = some [.int .i64 ((rankedF osds infos self).getD 0 0)]]) (fun _ => by kernel_rfl) (fun _ => ⟨rfl, encI_len _, rfl, by omega, rfl, rfl, encI_at (by omega), trivial⟩)) ?_
    intro _
    refine GS.ret (fn := Try.f10) [0, 0] [.int .i64 ((rankedF osds infos self).getD 0 0), .bool true] [] rfl Try.func10 (by kernel_rfl) trivial (fun w' hs => ?_)
    exact ⟨by rw [bestF, if_neg (by omega)] <;> rfl, hs.keep⟩

theorem ints_ok (oa ob : Option Addr) (ca cb : Nat) (la lb : List Int) (hl : la.length ≤ 9223372036854775807) : CallOK Try.prog 11 #[.slice oa la.length ca, .slice ob lb.length cb] (.bool (decide (la = lb))) [some (.rd oa 1 (encI la)), some (.rd ob 1 (encI lb))] := by
  intro w hr
  refine GS.start (S := fun _ => False) (mem := [(1, .rd oa 1 (encI la)), (2, .rd ob 1 (encI lb))]) Try.func11 rfl Try.ntmps11 (Nat.le_of_ble_eq_true rfl) (Sat.startRo (es := [.rd oa 1 (encI la), .rd ob 1 (encI lb)]) hr rfl) ?_
  refine GS.conv (env' := [(0, .slice oa la.length ca), (1, .slice ob lb.length cb)]) rfl rfl ?_
  refine GS.seq ?_
  -- region 0, ref.go:210
  refine GS.region (env' := fun _ => [(0, .slice oa la.length ca), (1, .slice ob lb.length cb)]) (mem' := fun _ => [(1, .rd oa 1 (encI la)), (2, .rd ob 1 (encI lb))]) (RunsTo.mk [] [0, 1] [1, 2] (fun _ => []) (fun _ => by kernel_rfl) (fun _ => trivial)) ?_
  intro _
  refine GS.seq ?_
  refine GS.seq ?_
  -- region 1, ref.go:211
  refine GS.region (env' := fun _ => [(0, .slice oa la.length ca), (1, .slice ob lb.length cb), (10, .bool (((la.length : Nat) : Int) != ((lb.length : Nat) : Int)))]) (mem' := fun _ => [(1, .rd oa 1 (encI la)), (2, .rd ob 1 (encI lb))]) (RunsTo.mk [] [0, 1, 10] [1, 2] (fun _ => []) (fun _ => by kernel_rfl) (fun _ => trivial)) ?_
  intro _
  refine GS.cond (t := ((la.length : Nat) : Int) != ((lb.length : Nat) : Int)) rfl rfl (fun h => ?_) (fun h => ?_)
  · replace h := ne_of_bne h
    refine GS.seq ?_
    -- region 2, ref.go:212
    refine GS.region (env' := fun _ => [(4, .bool false)]) (mem' := fun _ => [(1, .rd oa 1 (encI la)), (2, .rd ob 1 (encI lb))]) (RunsTo.mk [] [4] [1, 2] (fun _ => []) (fun _ => by kernel_rfl) (fun _ => trivial)) ?_
    intro _
    refine GS.ret (fn := Try.f11) [0] [.bool false] [] rfl Try.func11 (by kernel_rfl) trivial (fun w' hs => ?_)
    exact ⟨by rw [decide_eq_false (fun e => by rw [e] at h; omega)] <;> rfl, hs.keep⟩
  · replace h := eq_of_bne_false h
    refine GS.skip ?_
    refine GS.seq ?_
    refine GS.seq ?_
    -- region 3, ref.go:214
    refine GS.region (env' := fun _ => [(0, .slice oa la.length ca), (1, .slice ob lb.length cb), (12, .int .i64 ((la.length : Nat) : Int)), (13, .int .i64 ((0 : Nat) : Int))]) (mem' := fun _ => [(1, .rd oa 1 (encI la)), (2, .rd ob 1 (encI lb))]) (RunsTo.mk [(2, { sp := some (.int .i64 ((0 : Nat) : Int)) })] [0, 1, 12, 13] [1, 2] (fun _ => [(.int .i64 0 : Value) = .int .i64 ((0 : Nat) : Int)]) (fun _ => by kernel_rfl) (fun _ => ⟨rfl, trivial⟩)) ?_
    intro _
    refine GS.block ?_
    refine GS.loop ?_
    refine GS.loopInv (ι := Nat) (I := fun (i : Nat) => i ≤ la.length ∧ ∀ j, j < i → la.getD j 0 = lb.getD j 0) (μ := fun (i : Nat) => la.length - (i)) (E := fun (i : Nat) => [(0, .slice oa la.length ca), (1, .slice ob lb.length cb), (12, .int .i64 ((la.length : Nat) : Int)), (13, .int .i64 ((i : Nat) : Int))]) (M := fun (i : Nat) => [(1, .rd oa 1 (encI la)), (2, .rd ob 1 (encI lb))]) ?_ 0 ⟨Nat.zero_le _, fun j hj => by omega⟩
    rintro i ⟨hi, hall⟩ ih
    refine GS.seq ?_
    -- region 4, ref.go:214
    refine GS.region (env' := fun _ => [(0, .slice oa la.length ca), (1, .slice ob lb.length cb), (12, .int .i64 ((la.length : Nat) : Int)), (13, .int .i64 ((i : Nat) : Int)), (14, .bool (decide (((i : Nat) : Int) < ((la.length : Nat) : Int))))]) (mem' := fun _ => [(1, .rd oa 1 (encI la)), (2, .rd ob 1 (encI lb))]) (RunsTo.mk [] [0, 1, 12, 13, 14] [1, 2] (fun _ => []) (fun _ => by kernel_rfl) (fun _ => trivial)) ?_
    intro _
    refine GS.seq ?_
    refine GS.cond (t := decide (((i : Nat) : Int) < ((la.length : Nat) : Int))) rfl rfl (fun h1 => ?_) (fun h1 => ?_)
    · replace h1 := of_decide_eq_true h1
      refine GS.skip ?_
      refine GS.seq ?_
      refine GS.block ?_
      refine GS.seq ?_
      -- region 5, ref.go:214
      refine GS.region (env' := fun _ => [(0, .slice oa la.length ca), (1, .slice ob lb.length cb), (5, .int .i64 ((i : Nat) : Int)), (12, .int .i64 ((la.length : Nat) : Int)), (13, .int .i64 ((i : Nat) : Int))]) (mem' := fun _ => [(1, .rd oa 1 (encI la)), (2, .rd ob 1 (encI lb))]) (RunsTo.mk [] [0, 1, 5, 12, 13] [1, 2] (fun _ => []) (fun _ => by kernel_rfl) (fun _ => trivial)) ?_
      intro _
      refine GS.seq ?_
      -- region 6, ref.go:215
      refine GS.region (env' := fun _ => [(0, .slice oa la.length ca), (1, .slice ob lb.length cb), (12, .int .i64 ((la.length : Nat) : Int)), (13, .int .i64 ((i : Nat) : Int)), (24, .bool ((la.getD i 0) != (lb.getD i 0)))]) (mem' := fun _ => [(1, .rd oa 1 (encI la)), (2, .rd ob 1 (encI lb))]) (RunsTo.mkd [(2, { act := .idx 1 i }), (3, { act := .load 1 i 0 [.int .i64 (la.getD i 0)] }), (6, { act := .idx 2 i }), (7, { act := .load 2 i 0 [.int .i64 (lb.getD i 0)] })] [0, 1, 12, 13, 24] [1, 2] (fun _ => [oa = oa, la.length = (encI la).length, (((i : Nat) : Int) : Int) = ((i : Nat) : Int), i < la.length, blk oa = blk oa, offs oa + i * 1 = offs oa + (i * 1 + 0), (encI la)[i]? = some [.int .i64 (la.getD i 0)], ob = ob, lb.length = (encI lb).length, (((i : Nat) : Int) : Int) = ((i : Nat) : Int), i < lb.length, blk ob = blk ob, offs ob + i * 1 = offs ob + (i * 1 + 0), (encI lb)[i]? = some [.int .i64 (lb.getD i 0)]]) (by kernel_rfl) (by kernel_rfl) (fun _ => by kernel_rfl) (fun _ => ⟨rfl, encI_len _, rfl, by omega, rfl, rfl, encI_at (by omega), rfl, encI_len _, rfl, by omega, rfl, rfl, encI_at (by omega), trivial⟩)) ?_
      intro _
      refine GS.cond (t := (la.getD i 0) != (lb.getD i 0)) rfl rfl (fun h2 => ?_) (fun h2 => ?_)
      · replace h2 := ne_of_bne h2
        refine GS.seq ?_
        -- region 7, ref.go:216
        refine GS.region (env' := fun _ => [(4, .bool false)]) (mem' := fun _ => [(1, .rd oa 1 (encI la)), (2, .rd ob 1 (encI lb))]) (RunsTo.mk [] [4] [1, 2] (fun _ => []) (fun _ => by kernel_rfl) (fun _ => trivial)) ?_
        intro _
        refine GS.ret (fn := Try.f11) [0] [.bool false] [] rfl Try.func11 (by kernel_rfl) trivial (fun w' hs => ?_)
        exact ⟨by rw [decide_eq_false (fun e => h2 (by rw [e]))] <;> rfl, hs.keep⟩
      · replace h2 := eq_of_bne_false h2
        refine GS.skip ?_
        refine GS.inBlock ?_
        -- region 8, ref.go:214
        refine GS.region (env' := fun _ => [(0, .slice oa la.length ca), (1, .slice ob lb.length cb), (12, .int .i64 ((la.length : Nat) : Int)), (13, .int .i64 ((i + 1 : Nat) : Int))]) (mem' := fun _ => [(1, .rd oa 1 (encI la)), (2, .rd ob 1 (encI lb))]) (RunsTo.mk [(0, { sp := some (.int .i64 ((i + 1 : Nat) : Int)) })] [0, 1, 12, 13] [1, 2] (fun _ => [(.int .i64 (IntKind.i64.wrap (((i : Nat) : Int) + 1)) : Value) = .int .i64 ((i + 1 : Nat) : Int)]) (fun _ => by kernel_rfl) (fun _ => ⟨w64 (by omega) (by omega) (by omega), trivial⟩)) ?_
        intro _
        refine GS.inLoop ?_
        exact ih (i + 1) ⟨by omega, all_succ hall h2⟩ (show la.length - (i + 1) < la.length - (i) from by omega)
    · replace h1 := of_decide_eq_false h1
      refine GS.exit rfl ?_
      refine GS.seq ?_
      -- region 9, ref.go:219
      refine GS.region (env' := fun _ => [(4, .bool true)]) (mem' := fun _ => [(1, .rd oa 1 (encI la)), (2, .rd ob 1 (encI lb))]) (RunsTo.mk [] [4] [1, 2] (fun _ => []) (fun _ => by kernel_rfl) (fun _ => trivial)) ?_
      intro _
      refine GS.ret (fn := Try.f11) [0] [.bool true] [] rfl Try.func11 (by kernel_rfl) trivial (fun w' hs => ?_)
      exact ⟨by rw [decide_eq_true (ext_getD (by omega) (fun j hj => hall j (by omega)))] <;> rfl, hs.keep⟩

theorem law_bests (oo oi : Option Addr) (co ci : Nat) (osds : List Int) (infos : List Inf) (self : Int) (h1 : osds.length ≤ 1048576) (h2 : infos.length ≤ 1048576) : CallOK Try.prog 3 #[.slice oo osds.length co, .slice oi infos.length ci, .int .i64 self] (.bool true) [some (.rd oo 1 (encI osds)), some (.rd oi 6 (encInf infos))] := by
  intro w hr
  refine GS.start (S := fun _ => False) (mem := [(1, .rd oo 1 (encI osds)), (2, .rd oi 6 (encInf infos))]) Try.func3 rfl Try.ntmps3 (Nat.le_of_ble_eq_true rfl) (Sat.startRo (es := [.rd oo 1 (encI osds), .rd oi 6 (encInf infos)]) hr rfl) ?_
  refine GS.conv (env' := [(0, .slice oo osds.length co), (1, .slice oi infos.length ci), (2, .int .i64 self)]) rfl rfl ?_
  refine GS.seq ?_
  -- region 0, law.go:23
  refine GS.region (env' := fun _ => [(0, .slice oo osds.length co), (1, .slice oi infos.length ci), (2, .int .i64 self)]) (mem' := fun _ => [(1, .rd oo 1 (encI osds)), (2, .rd oi 6 (encInf infos))]) (RunsTo.mk [] [0, 1, 2] [1, 2] (fun _ => []) (fun _ => by kernel_rfl) (fun _ => trivial)) ?_
  intro _
  refine GS.seq ?_
  refine GS.seq ?_
  -- region 1, law.go:24
  refine GS.region (env' := fun _ => [(0, .slice oo osds.length co), (1, .slice oi infos.length ci), (2, .int .i64 self), (13, .bool (decide (((osds.length : Nat) : Int) > 200) || decide (((infos.length : Nat) : Int) > 200)))]) (mem' := fun _ => [(1, .rd oo 1 (encI osds)), (2, .rd oi 6 (encInf infos))]) (RunsTo.mk [(2, { act := .call [] (.bool (decide (((osds.length : Nat) : Int) > 200) || decide (((infos.length : Nat) : Int) > 200))) })] [0, 1, 2, 13] [1, 2] (fun _ => [CallOK Try.prog 7 #[.slice oo osds.length co, .slice oi infos.length ci] (.bool (decide (((osds.length : Nat) : Int) > 200) || decide (((infos.length : Nat) : Int) > 200))) []]) (fun _ => by kernel_rfl) (fun _ => ⟨far_ok oo oi osds.length infos.length co ci, trivial⟩)) ?_
  intro _
  refine GS.cond (t := decide (((osds.length : Nat) : Int) > 200) || decide (((infos.length : Nat) : Int) > 200)) rfl rfl (fun h => ?_) (fun h => ?_)
  · skip
    refine GS.seq ?_
    -- region 2, law.go:25
    refine GS.region (env' := fun _ => [(6, .bool true)]) (mem' := fun _ => [(1, .rd oo 1 (encI osds)), (2, .rd oi 6 (encInf infos))]) (RunsTo.mk [(0, { act := .call [] (.bool true) })] [6] [1, 2] (fun _ => [CallOK Try.prog 8 #[] (.bool true) []]) (fun _ => by kernel_rfl) (fun _ => ⟨awake_ok, trivial⟩)) ?_
    intro _
    refine GS.ret (fn := Try.f3) [0] [.bool true] [] rfl Try.func3 (by kernel_rfl) trivial (fun w' hs => ?_)
    exact ⟨rfl, hs.keep⟩
  · skip
    refine GS.skip ?_
    refine GS.seq ?_
    -- region 3, law.go:27
    refine GS.region (env' := fun _ => [(0, .slice oo osds.length co), (1, .slice oi infos.length ci), (2, .int .i64 self), (7, .int .i64 ((bestF osds infos self).1)), (8, .bool ((bestF osds infos self).2))]) (mem' := fun _ => [(1, .rd oo 1 (encI osds)), (2, .rd oi 6 (encInf infos))]) (RunsTo.mk [(3, { act := .call [1, 2] (.tuple #[.int .i64 ((bestF osds infos self).1), .bool ((bestF osds infos self).2)]) })] [0, 1, 2, 7, 8] [1, 2] (fun _ => [CallOK Try.prog 9 #[.slice oo osds.length co, .slice oi infos.length ci, .int .i64 self] (.tuple #[.int .i64 ((bestF osds infos self).1), .bool ((bestF osds infos self).2)]) [some (.rd oo 1 (encI osds)), some (.rd oi 6 (encInf infos))]]) (fun _ => by kernel_rfl) (fun _ => ⟨best_ok oo oi co ci osds infos self (by rw [minL]; split <;> omega), trivial⟩)) ?_
    intro _
    refine GS.seq ?_
    -- region 4, law.go:28
    refine GS.region (env' := fun _ => [(0, .slice oo osds.length co), (1, .slice oi infos.length ci), (2, .int .i64 self), (7, .int .i64 ((bestF osds infos self).1)), (8, .bool ((bestF osds infos self).2)), (9, .int .i64 ((bestF osds infos self).1)), (10, .bool ((bestF osds infos self).2))]) (mem' := fun _ => [(1, .rd oo 1 (encI osds)), (2, .rd oi 6 (encInf infos))]) (RunsTo.mk [(3, { act := .call [1, 2] (.tuple #[.int .i64 ((bestF osds infos self).1), .bool ((bestF osds infos self).2)]) })] [0, 1, 2, 7, 8, 9, 10] [1, 2] (fun _ => [CallOK Try.prog 10 #[.slice oo osds.length co, .slice oi infos.length ci, .int .i64 self] (.tuple #[.int .i64 ((bestF osds infos self).1), .bool ((bestF osds infos self).2)]) [some (.rd oo 1 (encI osds)), some (.rd oi 6 (encInf infos))]]) (fun _ => by kernel_rfl) (fun _ => ⟨refbest_ok oo oi co ci osds infos self (by rw [minL]; split <;> omega), trivial⟩)) ?_
    intro _
    refine GS.seq ?_
    -- region 5, law.go:29
    refine GS.open_ ?_
    refine GR.run (i := 0) 12 (env' := fun _ => [(0, .slice oo osds.length co), (1, .slice oi infos.length ci), (2, .int .i64 self), (37, .bool true), (38, .slice oo osds.length co), (39, .slice oi infos.length ci), (40, .int .i64 self)]) (mem' := fun _ => [(1, .rd oo 1 (encI osds)), (2, .rd oi 6 (encInf infos))]) (Nat.le_of_ble_eq_true (by kernel_rfl)) (RunsTo.mk [(2, { sp := some (.bool true) }), (6, { sp := some (.bool true) })] [0, 1, 2, 37, 38, 39, 40] [1, 2] (fun _ => [(.bool (((bestF osds infos self).1) == ((bestF osds infos self).1)) : Value) = .bool true, (.bool (((bestF osds infos self).2) == ((bestF osds infos self).2)) : Value) = .bool true]) (fun _ => by kernel_rfl) (fun _ => ⟨bool_eq (by simp), bool_eq (by simp), trivial⟩)) ?_
    intro _
    refine GR.callT (X := Option Addr × Nat) (i := 12) (g := 12) (args := #[.slice oo osds.length co, .slice oi infos.length ci, .int .i64 self]) (v := fun ⟨so1, sc1⟩ => .slice so1 ((rankedF osds infos self).length) sc1) (es := [.rd oo 1 (encI osds), .rd oi 6 (encInf infos)]) (es' := fun ⟨so1, sc1⟩ => [.rd oo 1 (encI osds), .rd oi 6 (encInf infos), .osl so1 sc1 3 1 (encI (rankedF osds infos self))]) (mem' := fun ⟨so1, sc1⟩ => [(1, .rd oo 1 (encI osds)), (2, .rd oi 6 (encInf infos)), (3, .osl so1 sc1 3 1 (encI (rankedF osds infos self)))]) (env' := fun ⟨so1, sc1⟩ => [(0, .slice oo osds.length co), (1, .slice oi infos.length ci), (2, .int .i64 self), (37, .bool true), (41, .slice so1 ((rankedF osds infos self).length) sc1)]) [1, 2] [3] [0, 1, 2, 37, 41] [1, 2, 3] (by kernel_rfl) (by kernel_rfl) (by kernel_rfl) (by kernel_rfl) (by kernel_rfl) (by kernel_rfl) (fun _ => rfl) (by rintro ⟨so1, sc1⟩; kernel_rfl) (by rintro ⟨so1, sc1⟩; kernel_rfl) (ranked_ok oo oi co ci osds infos self (by rw [minL]; split <;> omega)) ?_
    rintro ⟨so1, sc1⟩
    refine GR.run (i := 13) 3 (env' := fun _ => [(37, .bool true), (41, .slice so1 ((rankedF osds infos self).length) sc1), (42, .slice oo osds.length co), (43, .slice oi infos.length ci), (44, .int .i64 self)]) (mem' := fun _ => [(1, .rd oo 1 (encI osds)), (2, .rd oi 6 (encInf infos)), (3, .osl so1 sc1 3 1 (encI (rankedF osds infos self)))]) (Nat.le_of_ble_eq_true (by kernel_rfl)) (RunsTo.mk [] [37, 41, 42, 43, 44] [1, 2, 3] (fun _ => []) (fun _ => by kernel_rfl) (fun _ => trivial)) ?_
    intro _
    refine GR.callT (X := Option Addr × Nat) (i := 16) (g := 13) (args := #[.slice oo osds.length co, .slice oi infos.length ci, .int .i64 self]) (v := fun ⟨so2, sc2⟩ => .slice so2 ((rankedF osds infos self).length) sc2) (es := [.rd oo 1 (encI osds), .rd oi 6 (encInf infos)]) (es' := fun ⟨so2, sc2⟩ => [.rd oo 1 (encI osds), .rd oi 6 (encInf infos), .osl so2 sc2 3 1 (encI (rankedF osds infos self))]) (mem' := fun ⟨so2, sc2⟩ => [(1, .rd oo 1 (encI osds)), (2, .rd oi 6 (encInf infos)), (3, .osl so1 sc1 3 1 (encI (rankedF osds infos self))), (4, .osl so2 sc2 3 1 (encI (rankedF osds infos self)))]) (env' := fun ⟨so2, sc2⟩ => [(37, .bool true), (41, .slice so1 ((rankedF osds infos self).length) sc1), (45, .slice so2 ((rankedF osds infos self).length) sc2)]) [1, 2] [4] [37, 41, 45] [1, 2, 3, 4] (by kernel_rfl) (by kernel_rfl) (by kernel_rfl) (by kernel_rfl) (by kernel_rfl) (by kernel_rfl) (fun _ => rfl) (by rintro ⟨so2, sc2⟩; kernel_rfl) (by rintro ⟨so2, sc2⟩; kernel_rfl) (refranked_ok oo oi co ci osds infos self (by rw [minL]; split <;> omega)) ?_
    rintro ⟨so2, sc2⟩
    refine GR.run (i := 17) 6 (env' := fun _ => [(6, .bool true)]) (mem' := fun _ => [(1, .rd oo 1 (encI osds)), (2, .rd oi 6 (encInf infos)), (3, .osl so1 sc1 3 1 (encI (rankedF osds infos self))), (4, .osl so2 sc2 3 1 (encI (rankedF osds infos self)))]) (Nat.le_of_ble_eq_true (by kernel_rfl)) (RunsTo.mk [(17, { act := .call [3, 4] (.bool (decide ((rankedF osds infos self) = (rankedF osds infos self)))), sp := some (.bool true) }), (20, { act := .call [] (.bool true) })] [6] [1, 2, 3, 4] (fun _ => [CallOK Try.prog 11 #[.slice so1 ((rankedF osds infos self).length) sc1, .slice so2 ((rankedF osds infos self).length) sc2] (.bool (decide ((rankedF osds infos self) = (rankedF osds infos self)))) [some (.osl so1 sc1 3 1 (encI (rankedF osds infos self))), some (.osl so2 sc2 3 1 (encI (rankedF osds infos self)))], (.bool (decide ((rankedF osds infos self) = (rankedF osds infos self))) : Value) = .bool true, CallOK Try.prog 8 #[] (.bool true) []]) (fun _ => by kernel_rfl) (fun _ => ⟨(ints_ok so1 so2 sc1 sc2 (rankedF osds infos self) (rankedF osds infos self) (by rw [rankedF_len, minL]; split <;> omega)).weak (by intro w h E hE; simp only [List.mem_cons, Option.some.injEq, List.not_mem_nil, or_false] at hE; exact hE.elim (fun e => by rw [e]; exact Ent.osl_rd (h (.osl so1 sc1 3 1 (encI (rankedF osds infos self))) (by simp))) (fun e => by rw [e]; exact Ent.osl_rd (h (.osl so2 sc2 3 1 (encI (rankedF osds infos self))) (by simp)))), bool_eq (by simp), awake_ok, trivial⟩)) ?_
    intro _
    refine GR.done (Nat.le_of_ble_eq_true (by kernel_rfl)) ?_
    refine GS.ret (fn := Try.f3) [0] [.bool true] [] rfl Try.func3 (by kernel_rfl) trivial (fun w' hs => ?_)
    exact ⟨rfl, hs.keep⟩

end Go.Proofs.Ythaokdobgmbeeaa
