/-
  CHAPTER 16: the walks of the sort at more places: ranges that are swapped, rotations, merges in place.
-/
import Derived.Test.YthaokdobgmbeeaaW16b
import Derived.Test.YthaokdobgmbeeaaPrank
import Derived.Test.YthaokdobgmbeeaaPsym
set_option linter.unusedVariables false
set_option linter.unusedSimpArgs false
set_option maxRecDepth 100000
namespace Go.Proofs.Ythaokdobgmbeeaa
open Go Go.RowKit Sx

theorem swr_ok (od : Option Addr) (cd len : Nat) (bi bo bs : Nat) (l : List Int) (a b n : Nat) (hlen : l.length = len) (hl : len ≤ 1048576) (h1 : a + n ≤ b) (h2 : b + n ≤ len) : CallT Try.prog 31 #[.slice od len cd, .int .i64 ((a : Nat) : Int), .int .i64 ((b : Nat) : Int), .int .i64 ((n : Nat) : Int), .func (.func 21) #[] #[.pointer (some ⟨bi, 0, none⟩), .pointer (some ⟨bo, 0, none⟩), .pointer (some ⟨bs, 0, none⟩)]] (fun x : {L' : List Int // SwP 0 l a b n L'} => .tuple #[]) [.osl od cd 3 1 (encI l)] (fun x : {L' : List Int // SwP 0 l a b n L'} => [.osl od cd 3 1 (encI x.1)]) := by
  intro w hg
  refine GS.start (S := mayTurn [.osl od cd 3 1 (encI l)]) (mem := [(1, .osl od cd 3 1 (encI l))]) Try.func31 rfl Try.ntmps31 (Nat.le_of_ble_eq_true rfl) hg.start ?_
  refine GS.conv (env' := [(0, .slice od len cd), (1, .int .i64 ((a : Nat) : Int)), (2, .int .i64 ((b : Nat) : Int)), (3, .int .i64 ((n : Nat) : Int)), (4, .func (.func 21) #[] #[.pointer (some ⟨bi, 0, none⟩), .pointer (some ⟨bo, 0, none⟩), .pointer (some ⟨bs, 0, none⟩)])]) rfl rfl ?_
  refine GS.seq ?_
  -- region 0, zsortanyfunc.go:330
  refine GS.region (env' := fun _ => [(0, .slice od len cd), (1, .int .i64 ((a : Nat) : Int)), (2, .int .i64 ((b : Nat) : Int)), (3, .int .i64 ((n : Nat) : Int)), (10, .int .i64 ((0 : Nat) : Int))]) (mem' := fun _ => [(1, .osl od cd 3 1 (encI l))]) (RunsTo.mk [(0, { sp := some (.int .i64 ((0 : Nat) : Int)) })] [0, 1, 2, 3, 10] [1] (fun _ => [(.int .i64 0 : Value) = .int .i64 ((0 : Nat) : Int)]) (fun _ => by kernel_rfl) (fun _ => ⟨rfl, trivial⟩)) ?_
  intro _
  refine GS.block ?_
  refine GS.loop ?_
  refine GS.loopInv (ι := Nat × List Int) (I := fun ⟨i, L⟩ => i ≤ n ∧ SwP 0 l a b i L) (μ := fun ⟨i, L⟩ => n - (i)) (E := fun ⟨i, L⟩ => [(0, .slice od len cd), (1, .int .i64 ((a : Nat) : Int)), (2, .int .i64 ((b : Nat) : Int)), (3, .int .i64 ((n : Nat) : Int)), (10, .int .i64 ((i : Nat) : Int))]) (M := fun ⟨i, L⟩ => [(1, .osl od cd 3 1 (encI L))]) ?_ ⟨0, l⟩ ⟨Nat.zero_le _, SwP.zero 0 _ _ _⟩
  rintro ⟨i, L⟩ ⟨hi, hL⟩ ih
  have hLl := hL.1
  refine GS.seq ?_
  refine GS.seq ?_
  -- region 1, zsortanyfunc.go:330
  refine GS.region (env' := fun _ => [(0, .slice od len cd), (1, .int .i64 ((a : Nat) : Int)), (2, .int .i64 ((b : Nat) : Int)), (3, .int .i64 ((n : Nat) : Int)), (10, .int .i64 ((i : Nat) : Int)), (13, .bool (decide (((i : Nat) : Int) < ((n : Nat) : Int))))]) (mem' := fun _ => [(1, .osl od cd 3 1 (encI L))]) (RunsTo.mk [] [0, 1, 2, 3, 10, 13] [1] (fun _ => []) (fun _ => by kernel_rfl) (fun _ => trivial)) ?_
  intro _
  refine GS.cond (t := decide (((i : Nat) : Int) < ((n : Nat) : Int))) rfl rfl (fun h1 => ?_) (fun h1 => ?_)
  · replace h1 := of_decide_eq_true h1
    refine GS.skip ?_
    refine GS.seq ?_
    refine GS.block ?_
    -- region 3, zsortanyfunc.go:331
    refine GS.region (env' := fun _ => [(0, .slice od len cd), (1, .int .i64 ((a : Nat) : Int)), (2, .int .i64 ((b : Nat) : Int)), (3, .int .i64 ((n : Nat) : Int)), (10, .int .i64 ((i : Nat) : Int))]) (mem' := fun _ => [(1, .osl od cd 3 1 (((encI L).set (a + i) [.int .i64 (L.getD (b + i) 0)]).set (b + i) [.int .i64 (L.getD (a + i) 0)]))]) (RunsTo.mkd [(3, { sp := some (.int .i64 ((a + i : Nat) : Int)) }), (7, { sp := some (.int .i64 ((b + i : Nat) : Int)) }), (11, { sp := some (.int .i64 ((b + i : Nat) : Int)) }), (12, { act := .idx 1 (b + i) }), (13, { act := .load 1 (b + i) 0 [.int .i64 (L.getD (b + i) 0)] }), (17, { sp := some (.int .i64 ((a + i : Nat) : Int)) }), (18, { act := .idx 1 (a + i) }), (19, { act := .load 1 (a + i) 0 [.int .i64 (L.getD (a + i) 0)] }), (20, { act := .idx 1 (a + i) }), (21, { act := .store (a + i) 0 [.int .i64 (L.getD (a + i) 0)], key := some 1 }), (22, { act := .idx 1 (b + i) }), (23, { act := .store (b + i) 0 [.int .i64 ((L.set (a + i) (L.getD (b + i) 0)).getD (b + i) 0)], key := some 1 })] [0, 1, 2, 3, 10] [1] (fun _ => [(.int .i64 (IntKind.i64.wrap (((a : Nat) : Int) + ((i : Nat) : Int))) : Value) = .int .i64 ((a + i : Nat) : Int), (.int .i64 (IntKind.i64.wrap (((b : Nat) : Int) + ((i : Nat) : Int))) : Value) = .int .i64 ((b + i : Nat) : Int), (.int .i64 (IntKind.i64.wrap (((b : Nat) : Int) + ((i : Nat) : Int))) : Value) = .int .i64 ((b + i : Nat) : Int), od = od, len = (encI L).length, (((b + i : Nat) : Int) : Int) = (((b + i) : Nat) : Int), (b + i) < len, blk od = blk od, offs od + (b + i) * 1 = offs od + ((b + i) * 1 + 0), (encI L)[(b + i)]? = some [.int .i64 (L.getD (b + i) 0)], (.int .i64 (IntKind.i64.wrap (((a : Nat) : Int) + ((i : Nat) : Int))) : Value) = .int .i64 ((a + i : Nat) : Int), od = od, len = (encI L).length, (((a + i : Nat) : Int) : Int) = (((a + i) : Nat) : Int), (a + i) < len, blk od = blk od, offs od + (a + i) * 1 = offs od + ((a + i) * 1 + 0), (encI L)[(a + i)]? = some [.int .i64 (L.getD (a + i) 0)], od = od, len = (encI L).length, (((a + i : Nat) : Int) : Int) = (((a + i) : Nat) : Int), (a + i) < len, blk od = blk od, offs od + (a + i) * 1 = offs od + ((a + i) * 1 + 0), (encI L)[(a + i)]? = some [.int .i64 (L.getD (a + i) 0)], ((.int .i64 (L.getD (b + i) 0)) : Value).cells.toList.all Value.oneCell' = true, od = od, len = ((encI L).set (a + i) [.int .i64 (L.getD (b + i) 0)]).length, (((b + i : Nat) : Int) : Int) = (((b + i) : Nat) : Int), (b + i) < len, blk od = blk od, offs od + (b + i) * 1 = offs od + ((b + i) * 1 + 0), ((encI L).set (a + i) [.int .i64 (L.getD (b + i) 0)])[(b + i)]? = some [.int .i64 ((L.set (a + i) (L.getD (b + i) 0)).getD (b + i) 0)], ((.int .i64 (L.getD (a + i) 0)) : Value).cells.toList.all Value.oneCell' = true]) (by kernel_rfl) (by kernel_rfl) (fun _ => by kernel_rfl) (fun _ => ⟨w64 (by omega) (by omega) (by omega), w64 (by omega) (by omega) (by omega), w64 (by omega) (by omega) (by omega), rfl, (by rw [← encI_len]; omega), rfl, by omega, rfl, rfl, encI_at (by omega), w64 (by omega) (by omega) (by omega), rfl, (by rw [← encI_len]; omega), rfl, by omega, rfl, rfl, encI_at (by omega), rfl, (by rw [← encI_len]; omega), rfl, by omega, rfl, rfl, encI_at (by omega), rfl, rfl, (by simp only [List.length_set]; exact (by rw [← encI_len]; omega)), rfl, by omega, rfl, rfl, by rw [encI_set]; exact encI_at (by simp only [List.length_set]; omega), rfl, trivial⟩)) ?_
    intro _
    refine GS.inBlock ?_
    have hst := SwP.step 0 hL (by omega) (by omega)
    refine GS.conv (mem' := [(1, .osl od cd 3 1 (encI ((L.set (a + i) (L.getD (b + i) 0)).set (b + i) (L.getD (a + i) 0))))]) rfl (congrArg (fun rr : List (List Value) => ([(1, .osl od cd 3 1 rr)] : List (Nat × Ent))) (show ((encI L).set (a + i) [.int .i64 (L.getD (b + i) 0)]).set (b + i) [.int .i64 (L.getD (a + i) 0)] = encI ((L.set (a + i) (L.getD (b + i) 0)).set (b + i) (L.getD (a + i) 0)) from by rw [encI_set, encI_set])) ?_
    -- region 2, zsortanyfunc.go:330
    refine GS.region (env' := fun _ => [(0, .slice od len cd), (1, .int .i64 ((a : Nat) : Int)), (2, .int .i64 ((b : Nat) : Int)), (3, .int .i64 ((n : Nat) : Int)), (10, .int .i64 ((i + 1 : Nat) : Int))]) (mem' := fun _ => [(1, .osl od cd 3 1 (encI ((L.set (a + i) (L.getD (b + i) 0)).set (b + i) (L.getD (a + i) 0))))]) (RunsTo.mk [(1, { sp := some (.int .i64 ((i + 1 : Nat) : Int)) })] [0, 1, 2, 3, 10] [1] (fun _ => [(.int .i64 (IntKind.i64.wrap (((i : Nat) : Int) + 1)) : Value) = .int .i64 ((i + 1 : Nat) : Int)]) (fun _ => by kernel_rfl) (fun _ => ⟨w64 (by omega) (by omega) (by omega), trivial⟩)) ?_
    intro _
    refine GS.inLoop ?_
    exact ih ⟨i + 1, (L.set (a + i) (L.getD (b + i) 0)).set (b + i) (L.getD (a + i) 0)⟩ ⟨by omega, hst⟩ (show n - (i + 1) < n - (i) from by omega)
  · replace h1 := of_decide_eq_false h1
    have hin : i = n := by omega
    refine GS.exit rfl ?_
    refine GS.end_ (fn := Try.f31) [] [] [] rfl Try.func31 (by kernel_rfl) trivial (fun w' hs => ?_)
    exact ⟨⟨L, hin ▸ hL⟩, rfl, hs.turned (ks := [1]) (nodupB_spec rfl) rfl (ownAll rfl)⟩

theorem rot_ok (od : Option Addr) (cd len : Nat) (bi bo bs : Nat) (l : List Int) (a m b : Nat) (hlen : l.length = len) (hl : len ≤ 1048576) (h1 : a < m ∧ m < b) (h2 : b ≤ len) : CallT Try.prog 30 #[.slice od len cd, .int .i64 ((a : Nat) : Int), .int .i64 ((m : Nat) : Int), .int .i64 ((b : Nat) : Int), .func (.func 21) #[] #[.pointer (some ⟨bi, 0, none⟩), .pointer (some ⟨bo, 0, none⟩), .pointer (some ⟨bs, 0, none⟩)]] (fun x : {L' : List Int // RotP 0 l a m b L'} => .tuple #[]) [.osl od cd 3 1 (encI l)] (fun x : {L' : List Int // RotP 0 l a m b L'} => [.osl od cd 3 1 (encI x.1)]) := by
  intro w hg
  refine GS.start (S := mayTurn [.osl od cd 3 1 (encI l)]) (mem := [(1, .osl od cd 3 1 (encI l))]) Try.func30 rfl Try.ntmps30 (Nat.le_of_ble_eq_true rfl) hg.start ?_
  refine GS.conv (env' := [(0, .slice od len cd), (1, .int .i64 ((a : Nat) : Int)), (2, .int .i64 ((m : Nat) : Int)), (3, .int .i64 ((b : Nat) : Int)), (4, .func (.func 21) #[] #[.pointer (some ⟨bi, 0, none⟩), .pointer (some ⟨bo, 0, none⟩), .pointer (some ⟨bs, 0, none⟩)])]) rfl rfl ?_
  refine GS.seq ?_
  -- region 0, zsortanyfunc.go:465
  refine GS.region (env' := fun _ => [(0, .slice od len cd), (2, .int .i64 ((m : Nat) : Int)), (3, .int .i64 ((b : Nat) : Int)), (4, .func (.func 21) #[] #[.pointer (some ⟨bi, 0, none⟩), .pointer (some ⟨bo, 0, none⟩), .pointer (some ⟨bs, 0, none⟩)]), (10, .int .i64 ((m - a : Nat) : Int))]) (mem' := fun _ => [(1, .osl od cd 3 1 (encI l))]) (RunsTo.mk [(2, { sp := some (.int .i64 ((m - a : Nat) : Int)) })] [0, 2, 3, 4, 10] [1] (fun _ => [(.int .i64 (IntKind.i64.wrap (((m : Nat) : Int) - ((a : Nat) : Int))) : Value) = .int .i64 ((m - a : Nat) : Int)]) (fun _ => by kernel_rfl) (fun _ => ⟨w64 (by omega) (by omega) (by omega), trivial⟩)) ?_
  intro _
  refine GS.seq ?_
  -- region 1, zsortanyfunc.go:466
  refine GS.region (env' := fun _ => [(0, .slice od len cd), (2, .int .i64 ((m : Nat) : Int)), (4, .func (.func 21) #[] #[.pointer (some ⟨bi, 0, none⟩), .pointer (some ⟨bo, 0, none⟩), .pointer (some ⟨bs, 0, none⟩)]), (10, .int .i64 ((m - a : Nat) : Int)), (11, .int .i64 ((b - m : Nat) : Int))]) (mem' := fun _ => [(1, .osl od cd 3 1 (encI l))]) (RunsTo.mk [(2, { sp := some (.int .i64 ((b - m : Nat) : Int)) })] [0, 2, 4, 10, 11] [1] (fun _ => [(.int .i64 (IntKind.i64.wrap (((b : Nat) : Int) - ((m : Nat) : Int))) : Value) = .int .i64 ((b - m : Nat) : Int)]) (fun _ => by kernel_rfl) (fun _ => ⟨w64 (by omega) (by omega) (by omega), trivial⟩)) ?_
  intro _
  refine GS.seq ?_
  refine GS.block ?_
  refine GS.loop ?_
  refine GS.loopInv (ι := Nat × Nat × List Int) (I := fun ⟨i, j, L⟩ => 0 < i ∧ 0 < j ∧ i ≤ m ∧ m + j ≤ len ∧ L.length = len ∧ ∀ T, RotP 0 L (m - i) m (m + j) T → RotP 0 l a m b T) (μ := fun ⟨i, j, L⟩ => i + j) (E := fun ⟨i, j, L⟩ => [(0, .slice od len cd), (2, .int .i64 ((m : Nat) : Int)), (4, .func (.func 21) #[] #[.pointer (some ⟨bi, 0, none⟩), .pointer (some ⟨bo, 0, none⟩), .pointer (some ⟨bs, 0, none⟩)]), (10, .int .i64 ((i : Nat) : Int)), (11, .int .i64 ((j : Nat) : Int))]) (M := fun ⟨i, j, L⟩ => [(1, .osl od cd 3 1 (encI L))]) ?_ ⟨m - a, b - m, l⟩ ⟨by omega, by omega, by omega, by omega, hlen, fun T hT => by rw [show m - (m - a) = a by omega, show m + (b - m) = b by omega] at hT; exact hT⟩
  rintro ⟨i, j, L⟩ ⟨hi, hj, him, hjl, hLl, hR⟩ ih
  refine GS.seq ?_
  refine GS.seq ?_
  -- region 2, zsortanyfunc.go:468
  refine GS.region (env' := fun _ => [(0, .slice od len cd), (2, .int .i64 ((m : Nat) : Int)), (4, .func (.func 21) #[] #[.pointer (some ⟨bi, 0, none⟩), .pointer (some ⟨bo, 0, none⟩), .pointer (some ⟨bs, 0, none⟩)]), (10, .int .i64 ((i : Nat) : Int)), (11, .int .i64 ((j : Nat) : Int)), (20, .bool (((i : Nat) : Int) != ((j : Nat) : Int)))]) (mem' := fun _ => [(1, .osl od cd 3 1 (encI L))]) (RunsTo.mk [] [0, 2, 4, 10, 11, 20] [1] (fun _ => []) (fun _ => by kernel_rfl) (fun _ => trivial)) ?_
  intro _
  refine GS.cond (t := ((i : Nat) : Int) != ((j : Nat) : Int)) rfl rfl (fun h1 => ?_) (fun h1 => ?_)
  · replace h1 := ne_of_bne h1
    refine GS.skip ?_
    refine GS.block ?_
    refine GS.seq ?_
    -- region 3, zsortanyfunc.go:469
    refine GS.region (env' := fun _ => [(0, .slice od len cd), (2, .int .i64 ((m : Nat) : Int)), (4, .func (.func 21) #[] #[.pointer (some ⟨bi, 0, none⟩), .pointer (some ⟨bo, 0, none⟩), .pointer (some ⟨bs, 0, none⟩)]), (10, .int .i64 ((i : Nat) : Int)), (11, .int .i64 ((j : Nat) : Int)), (23, .bool (decide (((i : Nat) : Int) > ((j : Nat) : Int))))]) (mem' := fun _ => [(1, .osl od cd 3 1 (encI L))]) (RunsTo.mk [] [0, 2, 4, 10, 11, 23] [1] (fun _ => []) (fun _ => by kernel_rfl) (fun _ => trivial)) ?_
    intro _
    refine GS.cond (t := decide (((i : Nat) : Int) > ((j : Nat) : Int))) rfl rfl (fun h2 => ?_) (fun h2 => ?_)
    · replace h2 := of_decide_eq_true h2
      refine GS.seq ?_
      -- region 4, zsortanyfunc.go:470
      refine GS.open_ ?_
      refine GR.run (i := 0) 7 (env' := fun _ => [(0, .slice od len cd), (2, .int .i64 ((m : Nat) : Int)), (4, .func (.func 21) #[] #[.pointer (some ⟨bi, 0, none⟩), .pointer (some ⟨bo, 0, none⟩), .pointer (some ⟨bs, 0, none⟩)]), (10, .int .i64 ((i : Nat) : Int)), (11, .int .i64 ((j : Nat) : Int)), (24, .slice od len cd), (27, .int .i64 ((m - i : Nat) : Int)), (28, .int .i64 ((m : Nat) : Int)), (29, .int .i64 ((j : Nat) : Int)), (30, .func (.func 21) #[] #[.pointer (some ⟨bi, 0, none⟩), .pointer (some ⟨bo, 0, none⟩), .pointer (some ⟨bs, 0, none⟩)])]) (mem' := fun _ => [(1, .osl od cd 3 1 (encI L))]) (Nat.le_of_ble_eq_true (by kernel_rfl)) (RunsTo.mk [(3, { sp := some (.int .i64 ((m - i : Nat) : Int)) })] [0, 2, 4, 10, 11, 24, 27, 28, 29, 30] [1] (fun _ => [(.int .i64 (IntKind.i64.wrap (((m : Nat) : Int) - ((i : Nat) : Int))) : Value) = .int .i64 ((m - i : Nat) : Int)]) (fun _ => by kernel_rfl) (fun _ => ⟨w64 (by omega) (by omega) (by omega), trivial⟩)) ?_
      intro _
      refine GR.callT (X := {L' : List Int // SwP 0 L (m - i) m j L'}) (i := 7) (g := 31) (args := #[.slice od len cd, .int .i64 ((m - i : Nat) : Int), .int .i64 ((m : Nat) : Int), .int .i64 ((j : Nat) : Int), .func (.func 21) #[] #[.pointer (some ⟨bi, 0, none⟩), .pointer (some ⟨bo, 0, none⟩), .pointer (some ⟨bs, 0, none⟩)]]) (v := fun (⟨M1, hM1⟩ : {L' : List Int // SwP 0 L (m - i) m j L'}) => .tuple #[]) (es := [.osl od cd 3 1 (encI L)]) (es' := fun (⟨M1, hM1⟩ : {L' : List Int // SwP 0 L (m - i) m j L'}) => [.osl od cd 3 1 (encI M1)]) (mem' := fun (⟨M1, hM1⟩ : {L' : List Int // SwP 0 L (m - i) m j L'}) => [(1, .osl od cd 3 1 (encI M1))]) (env' := fun (⟨M1, hM1⟩ : {L' : List Int // SwP 0 L (m - i) m j L'}) => [(0, .slice od len cd), (2, .int .i64 ((m : Nat) : Int)), (4, .func (.func 21) #[] #[.pointer (some ⟨bi, 0, none⟩), .pointer (some ⟨bo, 0, none⟩), .pointer (some ⟨bs, 0, none⟩)]), (10, .int .i64 ((i : Nat) : Int)), (11, .int .i64 ((j : Nat) : Int))]) [1] [] [0, 2, 4, 10, 11] [1] (by kernel_rfl) (by kernel_rfl) (by kernel_rfl) (by kernel_rfl) (by kernel_rfl) (by kernel_rfl) (fun _ => rfl) (by rintro ⟨M1, hM1⟩; kernel_rfl) (by rintro ⟨M1, hM1⟩; kernel_rfl) (swr_ok od cd len bi bo bs L (m - i) m j (by omega) (by omega) (by omega) (by omega)) ?_
      rintro ⟨M1, hM1⟩
      refine GR.done (Nat.le_of_ble_eq_true (by kernel_rfl)) ?_
      have hMl := hM1.1
      -- region 5, zsortanyfunc.go:471
      refine GS.region (env' := fun _ => [(0, .slice od len cd), (2, .int .i64 ((m : Nat) : Int)), (4, .func (.func 21) #[] #[.pointer (some ⟨bi, 0, none⟩), .pointer (some ⟨bo, 0, none⟩), .pointer (some ⟨bs, 0, none⟩)]), (10, .int .i64 ((i - j : Nat) : Int)), (11, .int .i64 ((j : Nat) : Int))]) (mem' := fun _ => [(1, .osl od cd 3 1 (encI M1))]) (RunsTo.mk [(2, { sp := some (.int .i64 ((i - j : Nat) : Int)) })] [0, 2, 4, 10, 11] [1] (fun _ => [(.int .i64 (IntKind.i64.wrap (((i : Nat) : Int) - ((j : Nat) : Int))) : Value) = .int .i64 ((i - j : Nat) : Int)]) (fun _ => by kernel_rfl) (fun _ => ⟨w64 (by omega) (by omega) (by omega), trivial⟩)) ?_
      intro _
      refine GS.inBlock ?_
      refine GS.inLoop ?_
      exact ih ⟨i - j, j, M1⟩ ⟨by omega, by omega, by omega, by omega, by omega, fun T hT => hR T (RotP.left 0 (by omega) (by omega) hM1 hT)⟩ (show (i - j) + j < i + j from by omega)
    · replace h2 := of_decide_eq_false h2
      refine GS.seq ?_
      -- region 6, zsortanyfunc.go:473
      refine GS.open_ ?_
      refine GR.run (i := 0) 11 (env' := fun _ => [(0, .slice od len cd), (2, .int .i64 ((m : Nat) : Int)), (4, .func (.func 21) #[] #[.pointer (some ⟨bi, 0, none⟩), .pointer (some ⟨bo, 0, none⟩), .pointer (some ⟨bs, 0, none⟩)]), (10, .int .i64 ((i : Nat) : Int)), (11, .int .i64 ((j : Nat) : Int)), (35, .slice od len cd), (38, .int .i64 ((m - i : Nat) : Int)), (43, .int .i64 ((m + j - i : Nat) : Int)), (44, .int .i64 ((i : Nat) : Int)), (45, .func (.func 21) #[] #[.pointer (some ⟨bi, 0, none⟩), .pointer (some ⟨bo, 0, none⟩), .pointer (some ⟨bs, 0, none⟩)])]) (mem' := fun _ => [(1, .osl od cd 3 1 (encI L))]) (Nat.le_of_ble_eq_true (by kernel_rfl)) (RunsTo.mk [(3, { sp := some (.int .i64 ((m - i : Nat) : Int)) }), (6, { sp := some (.int .i64 ((m + j : Nat) : Int)) }), (8, { sp := some (.int .i64 ((m + j - i : Nat) : Int)) })] [0, 2, 4, 10, 11, 35, 38, 43, 44, 45] [1] (fun _ => [(.int .i64 (IntKind.i64.wrap (((m : Nat) : Int) - ((i : Nat) : Int))) : Value) = .int .i64 ((m - i : Nat) : Int), (.int .i64 (IntKind.i64.wrap (((m : Nat) : Int) + ((j : Nat) : Int))) : Value) = .int .i64 ((m + j : Nat) : Int), (.int .i64 (IntKind.i64.wrap (((m + j : Nat) : Int) - ((i : Nat) : Int))) : Value) = .int .i64 ((m + j - i : Nat) : Int)]) (fun _ => by kernel_rfl) (fun _ => ⟨w64 (by omega) (by omega) (by omega), w64 (by omega) (by omega) (by omega), w64 (by omega) (by omega) (by omega), trivial⟩)) ?_
      intro _
      refine GR.callT (X := {L' : List Int // SwP 0 L (m - i) (m + j - i) i L'}) (i := 11) (g := 31) (args := #[.slice od len cd, .int .i64 ((m - i : Nat) : Int), .int .i64 ((m + j - i : Nat) : Int), .int .i64 ((i : Nat) : Int), .func (.func 21) #[] #[.pointer (some ⟨bi, 0, none⟩), .pointer (some ⟨bo, 0, none⟩), .pointer (some ⟨bs, 0, none⟩)]]) (v := fun (⟨M2, hM2⟩ : {L' : List Int // SwP 0 L (m - i) (m + j - i) i L'}) => .tuple #[]) (es := [.osl od cd 3 1 (encI L)]) (es' := fun (⟨M2, hM2⟩ : {L' : List Int // SwP 0 L (m - i) (m + j - i) i L'}) => [.osl od cd 3 1 (encI M2)]) (mem' := fun (⟨M2, hM2⟩ : {L' : List Int // SwP 0 L (m - i) (m + j - i) i L'}) => [(1, .osl od cd 3 1 (encI M2))]) (env' := fun (⟨M2, hM2⟩ : {L' : List Int // SwP 0 L (m - i) (m + j - i) i L'}) => [(0, .slice od len cd), (2, .int .i64 ((m : Nat) : Int)), (4, .func (.func 21) #[] #[.pointer (some ⟨bi, 0, none⟩), .pointer (some ⟨bo, 0, none⟩), .pointer (some ⟨bs, 0, none⟩)]), (10, .int .i64 ((i : Nat) : Int)), (11, .int .i64 ((j : Nat) : Int))]) [1] [] [0, 2, 4, 10, 11] [1] (by kernel_rfl) (by kernel_rfl) (by kernel_rfl) (by kernel_rfl) (by kernel_rfl) (by kernel_rfl) (fun _ => rfl) (by rintro ⟨M2, hM2⟩; kernel_rfl) (by rintro ⟨M2, hM2⟩; kernel_rfl) (swr_ok od cd len bi bo bs L (m - i) (m + j - i) i (by omega) (by omega) (by omega) (by omega)) ?_
      rintro ⟨M2, hM2⟩
      refine GR.done (Nat.le_of_ble_eq_true (by kernel_rfl)) ?_
      have hMl := hM2.1
      -- region 7, zsortanyfunc.go:474
      refine GS.region (env' := fun _ => [(0, .slice od len cd), (2, .int .i64 ((m : Nat) : Int)), (4, .func (.func 21) #[] #[.pointer (some ⟨bi, 0, none⟩), .pointer (some ⟨bo, 0, none⟩), .pointer (some ⟨bs, 0, none⟩)]), (10, .int .i64 ((i : Nat) : Int)), (11, .int .i64 ((j - i : Nat) : Int))]) (mem' := fun _ => [(1, .osl od cd 3 1 (encI M2))]) (RunsTo.mk [(2, { sp := some (.int .i64 ((j - i : Nat) : Int)) })] [0, 2, 4, 10, 11] [1] (fun _ => [(.int .i64 (IntKind.i64.wrap (((j : Nat) : Int) - ((i : Nat) : Int))) : Value) = .int .i64 ((j - i : Nat) : Int)]) (fun _ => by kernel_rfl) (fun _ => ⟨w64 (by omega) (by omega) (by omega), trivial⟩)) ?_
      intro _
      refine GS.inBlock ?_
      refine GS.inLoop ?_
      exact ih ⟨i, j - i, M2⟩ ⟨by omega, by omega, by omega, by omega, by omega, fun T hT => hR T (RotP.right 0 (by omega) (by omega) hM2 hT)⟩ (show i + (j - i) < i + j from by omega)
  · replace h1 := eq_of_bne_false h1
    have hij : j = i := by omega
    refine GS.exit rfl ?_
    -- region 8, zsortanyfunc.go:478
    refine GS.open_ ?_
    refine GR.run (i := 0) 7 (env' := fun _ => [(50, .slice od len cd), (53, .int .i64 ((m - i : Nat) : Int)), (54, .int .i64 ((m : Nat) : Int)), (55, .int .i64 ((i : Nat) : Int)), (56, .func (.func 21) #[] #[.pointer (some ⟨bi, 0, none⟩), .pointer (some ⟨bo, 0, none⟩), .pointer (some ⟨bs, 0, none⟩)])]) (mem' := fun _ => [(1, .osl od cd 3 1 (encI L))]) (Nat.le_of_ble_eq_true (by kernel_rfl)) (RunsTo.mk [(3, { sp := some (.int .i64 ((m - i : Nat) : Int)) })] [50, 53, 54, 55, 56] [1] (fun _ => [(.int .i64 (IntKind.i64.wrap (((m : Nat) : Int) - ((i : Nat) : Int))) : Value) = .int .i64 ((m - i : Nat) : Int)]) (fun _ => by kernel_rfl) (fun _ => ⟨w64 (by omega) (by omega) (by omega), trivial⟩)) ?_
    intro _
    refine GR.callT (X := {L' : List Int // SwP 0 L (m - i) m i L'}) (i := 7) (g := 31) (args := #[.slice od len cd, .int .i64 ((m - i : Nat) : Int), .int .i64 ((m : Nat) : Int), .int .i64 ((i : Nat) : Int), .func (.func 21) #[] #[.pointer (some ⟨bi, 0, none⟩), .pointer (some ⟨bo, 0, none⟩), .pointer (some ⟨bs, 0, none⟩)]]) (v := fun (⟨M3, hM3⟩ : {L' : List Int // SwP 0 L (m - i) m i L'}) => .tuple #[]) (es := [.osl od cd 3 1 (encI L)]) (es' := fun (⟨M3, hM3⟩ : {L' : List Int // SwP 0 L (m - i) m i L'}) => [.osl od cd 3 1 (encI M3)]) (mem' := fun (⟨M3, hM3⟩ : {L' : List Int // SwP 0 L (m - i) m i L'}) => [(1, .osl od cd 3 1 (encI M3))]) (env' := fun (⟨M3, hM3⟩ : {L' : List Int // SwP 0 L (m - i) m i L'}) => []) [1] [] [] [1] (by kernel_rfl) (by kernel_rfl) (by kernel_rfl) (by kernel_rfl) (by kernel_rfl) (by kernel_rfl) (fun _ => rfl) (by rintro ⟨M3, hM3⟩; kernel_rfl) (by rintro ⟨M3, hM3⟩; kernel_rfl) (swr_ok od cd len bi bo bs L (m - i) m i (by omega) (by omega) (by omega) (by omega)) ?_
    rintro ⟨M3, hM3⟩
    refine GR.done (Nat.le_of_ble_eq_true (by kernel_rfl)) ?_
    refine GS.end_ (fn := Try.f30) [] [] [] rfl Try.func30 (by kernel_rfl) trivial (fun w' hs => ?_)
    exact ⟨⟨M3, hR _ (by rw [hij]; exact RotP.last 0 (by omega) hM3)⟩, rfl, hs.turned (ks := [1]) (nodupB_spec rfl) rfl (ownAll rfl)⟩

set_option maxHeartbeats 1600000 in
theorem sym_ok (od : Option Addr) (cd len mx : Nat) (bi bo bs : Nat) (oi oo : Option Addr) (ci co : Nat) (infos : List Inf) (osds : List Int) (self : Int) (hm1 : mx ≤ infos.length) (hm2 : mx ≤ osds.length) (hl : len ≤ 1048576) (hord : Order (ltI osds infos self) (fun z : Int => 0 ≤ z ∧ z < (mx : Int))) : ∀ (fuel : Nat) (l : List Int) (a m b : Nat) (hf : b - a ≤ fuel) (h1 : a < m) (h2 : m < b) (h3 : b ≤ len) (hlen : l.length = len) (hv : AllS 0 (fun z : Int => 0 ≤ z ∧ z < (mx : Int)) l) (hr1 : RisesS 0 (ltI osds infos self) l a m) (hr2 : RisesS 0 (ltI osds infos self) l m b), CallT Try.prog 28 #[.slice od len cd, .int .i64 ((a : Nat) : Int), .int .i64 ((m : Nat) : Int), .int .i64 ((b : Nat) : Int), .func (.func 21) #[] #[.pointer (some ⟨bi, 0, none⟩), .pointer (some ⟨bo, 0, none⟩), .pointer (some ⟨bs, 0, none⟩)]] (fun x : {L' : List Int // SymP 0 (ltI osds infos self) l a m b L'} => .tuple #[]) [.osl od cd 3 1 (encI l), .cells bi 23 [.slice oi infos.length ci], .cells bo 22 [.slice oo osds.length co], .cells bs 3 [.int .i64 self], .rd oi 6 (encInf infos), .rd oo 1 (encI osds)] (fun x : {L' : List Int // SymP 0 (ltI osds infos self) l a m b L'} => [.osl od cd 3 1 (encI x.1), .cells bi 23 [.slice oi infos.length ci], .cells bo 22 [.slice oo osds.length co], .cells bs 3 [.int .i64 self], .rd oi 6 (encInf infos), .rd oo 1 (encI osds)]) := by
  intro fuel
  induction fuel with
  | zero => intro l a m b hf h1 h2; exfalso; omega
  | succ fuel IH =>
    intro l a m b hf g1 g2 h3 hlen hv hr1 hr2 w hg
    refine GS.start (S := mayTurn [.osl od cd 3 1 (encI l), .cells bi 23 [.slice oi infos.length ci], .cells bo 22 [.slice oo osds.length co], .cells bs 3 [.int .i64 self], .rd oi 6 (encInf infos), .rd oo 1 (encI osds)]) (mem := [(1, .osl od cd 3 1 (encI l)), (2, .cells bi 23 [.slice oi infos.length ci]), (3, .cells bo 22 [.slice oo osds.length co]), (4, .cells bs 3 [.int .i64 self]), (5, .rd oi 6 (encInf infos)), (6, .rd oo 1 (encI osds))]) Try.func28 rfl Try.ntmps28 (Nat.le_of_ble_eq_true rfl) hg.start ?_
    refine GS.conv (env' := [(0, .slice od len cd), (1, .int .i64 ((a : Nat) : Int)), (2, .int .i64 ((m : Nat) : Int)), (3, .int .i64 ((b : Nat) : Int)), (4, .func (.func 21) #[] #[.pointer (some ⟨bi, 0, none⟩), .pointer (some ⟨bo, 0, none⟩), .pointer (some ⟨bs, 0, none⟩)])]) rfl rfl ?_
    refine GS.seq ?_
    refine GS.seq ?_
    -- region 0, zsortanyfunc.go:382
    refine GS.region (env' := fun _ => [(0, .slice od len cd), (1, .int .i64 ((a : Nat) : Int)), (2, .int .i64 ((m : Nat) : Int)), (3, .int .i64 ((b : Nat) : Int)), (4, .func (.func 21) #[] #[.pointer (some ⟨bi, 0, none⟩), .pointer (some ⟨bo, 0, none⟩), .pointer (some ⟨bs, 0, none⟩)]), (28, .bool ((((m : Nat) : Int) - ((a : Nat) : Int)) == 1))]) (mem' := fun _ => [(1, .osl od cd 3 1 (encI l)), (2, .cells bi 23 [.slice oi infos.length ci]), (3, .cells bo 22 [.slice oo osds.length co]), (4, .cells bs 3 [.int .i64 self]), (5, .rd oi 6 (encInf infos)), (6, .rd oo 1 (encI osds))]) (RunsTo.mk [(2, { sp := some (.int .i64 (((m : Nat) : Int) - ((a : Nat) : Int))) })] [0, 1, 2, 3, 4, 28] [1, 2, 3, 4, 5, 6] (fun _ => [((.int .i64 (IntKind.i64.wrap (((m : Nat) : Int) - ((a : Nat) : Int)))) : Value) = .int .i64 (((m : Nat) : Int) - ((a : Nat) : Int))]) (fun _ => by kernel_rfl) (fun _ => ⟨w64 rfl (by omega) (by omega), trivial⟩)) ?_
    intro _
    refine GS.cond (t := (((m : Nat) : Int) - ((a : Nat) : Int)) == 1) rfl rfl (fun h1 => ?_) (fun h1 => ?_)
    · replace h1 := eq_of_beq h1
      obtain rfl : m = a + 1 := by omega
      refine GS.seq ?_
      -- region 1, zsortanyfunc.go:386
      refine GS.region (env' := fun _ => [(0, .slice od len cd), (1, .int .i64 ((a : Nat) : Int)), (3, .int .i64 ((b : Nat) : Int)), (4, .func (.func 21) #[] #[.pointer (some ⟨bi, 0, none⟩), .pointer (some ⟨bo, 0, none⟩), .pointer (some ⟨bs, 0, none⟩)]), (10, .int .i64 ((a + 1 : Nat) : Int))]) (mem' := fun _ => [(1, .osl od cd 3 1 (encI l)), (2, .cells bi 23 [.slice oi infos.length ci]), (3, .cells bo 22 [.slice oo osds.length co]), (4, .cells bs 3 [.int .i64 self]), (5, .rd oi 6 (encInf infos)), (6, .rd oo 1 (encI osds))]) (RunsTo.mk [] [0, 1, 3, 4, 10] [1, 2, 3, 4, 5, 6] (fun _ => []) (fun _ => by kernel_rfl) (fun _ => trivial)) ?_
      intro _
      refine GS.seq ?_
      -- region 2, zsortanyfunc.go:387
      refine GS.region (env' := fun _ => [(0, .slice od len cd), (1, .int .i64 ((a : Nat) : Int)), (4, .func (.func 21) #[] #[.pointer (some ⟨bi, 0, none⟩), .pointer (some ⟨bo, 0, none⟩), .pointer (some ⟨bs, 0, none⟩)]), (10, .int .i64 ((a + 1 : Nat) : Int)), (11, .int .i64 ((b : Nat) : Int))]) (mem' := fun _ => [(1, .osl od cd 3 1 (encI l)), (2, .cells bi 23 [.slice oi infos.length ci]), (3, .cells bo 22 [.slice oo osds.length co]), (4, .cells bs 3 [.int .i64 self]), (5, .rd oi 6 (encInf infos)), (6, .rd oo 1 (encI osds))]) (RunsTo.mk [] [0, 1, 4, 10, 11] [1, 2, 3, 4, 5, 6] (fun _ => []) (fun _ => by kernel_rfl) (fun _ => trivial)) ?_
      intro _
      refine GS.seq ?_
      refine GS.block ?_
      refine GS.loop ?_
      refine GS.loopInv (ι := Nat × Nat) (I := fun ⟨i, j⟩ => a + 1 ≤ i ∧ i ≤ j ∧ j ≤ b ∧ (i = a + 1 ∨ (ltI osds infos self) (l.getD (i - 1) 0) (l.getD a 0) = true) ∧ (j = b ∨ (ltI osds infos self) (l.getD j 0) (l.getD a 0) = false)) (μ := fun ⟨i, j⟩ => j - i) (E := fun ⟨i, j⟩ => [(0, .slice od len cd), (1, .int .i64 ((a : Nat) : Int)), (4, .func (.func 21) #[] #[.pointer (some ⟨bi, 0, none⟩), .pointer (some ⟨bo, 0, none⟩), .pointer (some ⟨bs, 0, none⟩)]), (10, .int .i64 ((i : Nat) : Int)), (11, .int .i64 ((j : Nat) : Int))]) (M := fun ⟨i, j⟩ => [(1, .osl od cd 3 1 (encI l)), (2, .cells bi 23 [.slice oi infos.length ci]), (3, .cells bo 22 [.slice oo osds.length co]), (4, .cells bs 3 [.int .i64 self]), (5, .rd oi 6 (encInf infos)), (6, .rd oo 1 (encI osds))]) ?_ ⟨(a + 1), b⟩ ⟨by omega, by omega, by omega, .inl rfl, .inl rfl⟩
      rintro ⟨i, j⟩ ⟨i1, i2, i3, i4, i5⟩ ih
      refine GS.seq ?_
      refine GS.seq ?_
      -- region 3, zsortanyfunc.go:388
      refine GS.region (env' := fun _ => [(0, .slice od len cd), (1, .int .i64 ((a : Nat) : Int)), (4, .func (.func 21) #[] #[.pointer (some ⟨bi, 0, none⟩), .pointer (some ⟨bo, 0, none⟩), .pointer (some ⟨bs, 0, none⟩)]), (10, .int .i64 ((i : Nat) : Int)), (11, .int .i64 ((j : Nat) : Int)), (33, .bool (decide (((i : Nat) : Int) < ((j : Nat) : Int))))]) (mem' := fun _ => [(1, .osl od cd 3 1 (encI l)), (2, .cells bi 23 [.slice oi infos.length ci]), (3, .cells bo 22 [.slice oo osds.length co]), (4, .cells bs 3 [.int .i64 self]), (5, .rd oi 6 (encInf infos)), (6, .rd oo 1 (encI osds))]) (RunsTo.mk [] [0, 1, 4, 10, 11, 33] [1, 2, 3, 4, 5, 6] (fun _ => []) (fun _ => by kernel_rfl) (fun _ => trivial)) ?_
      intro _
      refine GS.cond (t := decide (((i : Nat) : Int) < ((j : Nat) : Int))) rfl rfl (fun h4 => ?_) (fun h4 => ?_)
      · replace h4 := of_decide_eq_true h4
        obtain ⟨q, hq⟩ : ∃ q, q = (i + j) / 2 := ⟨_, rfl⟩
        have hv1 := hv q (by omega)
        have hv2 := hv a (by omega)
        refine GS.skip ?_
        refine GS.block ?_
        refine GS.seq ?_
        -- region 4, zsortanyfunc.go:389
        refine GS.region (env' := fun _ => [(0, .slice od len cd), (1, .int .i64 ((a : Nat) : Int)), (4, .func (.func 21) #[] #[.pointer (some ⟨bi, 0, none⟩), .pointer (some ⟨bo, 0, none⟩), .pointer (some ⟨bs, 0, none⟩)]), (10, .int .i64 ((i : Nat) : Int)), (11, .int .i64 ((j : Nat) : Int)), (12, .int .i64 ((q : Nat) : Int))]) (mem' := fun _ => [(1, .osl od cd 3 1 (encI l)), (2, .cells bi 23 [.slice oi infos.length ci]), (3, .cells bo 22 [.slice oo osds.length co]), (4, .cells bs 3 [.int .i64 self]), (5, .rd oi 6 (encInf infos)), (6, .rd oo 1 (encI osds))]) (RunsTo.mk [(2, { sp := some (.int .i64 ((i + j : Nat) : Int)) }), (3, { sp := some (.int .u64 ((i + j : Nat) : Int)) }), (4, { sp := some (.int .u64 ((q : Nat) : Int)) }), (5, { sp := some (.int .i64 ((q : Nat) : Int)) })] [0, 1, 4, 10, 11, 12] [1, 2, 3, 4, 5, 6] (fun _ => [(.int .i64 (IntKind.i64.wrap (((i : Nat) : Int) + ((j : Nat) : Int))) : Value) = .int .i64 ((i + j : Nat) : Int), (.int .u64 (IntKind.u64.wrap ((i + j : Nat) : Int)) : Value) = .int .u64 ((i + j : Nat) : Int), (.int .u64 (Int.fdiv ((i + j : Nat) : Int) (2 ^ 1)) : Value) = .int .u64 ((q : Nat) : Int), (.int .i64 (IntKind.i64.wrap ((q : Nat) : Int)) : Value) = .int .i64 ((q : Nat) : Int)]) (fun _ => by kernel_rfl) (fun _ => ⟨w64 (by omega) (by omega) (by omega), int_eq (u64_nat (by omega)), int_eq (by rw [hq]; exact shr_nat (i + j) 1), w64 (by omega) (by omega) (by omega), trivial⟩)) ?_
        intro _
        refine GS.seq ?_
        -- region 5, zsortanyfunc.go:390
        refine GS.region (env' := fun _ => [(0, .slice od len cd), (1, .int .i64 ((a : Nat) : Int)), (4, .func (.func 21) #[] #[.pointer (some ⟨bi, 0, none⟩), .pointer (some ⟨bo, 0, none⟩), .pointer (some ⟨bs, 0, none⟩)]), (10, .int .i64 ((i : Nat) : Int)), (11, .int .i64 ((j : Nat) : Int)), (12, .int .i64 ((q : Nat) : Int)), (50, .bool (decide ((rankF osds infos self (Int.toNat (l.getD q 0)) (Int.toNat (l.getD a 0))) < 0)))]) (mem' := fun _ => [(1, .osl od cd 3 1 (encI l)), (2, .cells bi 23 [.slice oi infos.length ci]), (3, .cells bo 22 [.slice oo osds.length co]), (4, .cells bs 3 [.int .i64 self]), (5, .rd oi 6 (encInf infos)), (6, .rd oo 1 (encI osds))]) (RunsTo.mkd [(3, { act := .idx 1 q }), (4, { act := .load 1 q 0 [.int .i64 (l.getD q 0)] }), (7, { act := .idx 1 a }), (8, { act := .load 1 a 0 [.int .i64 (l.getD a 0)] }), (9, { act := .call [5, 6, 2, 3, 4] (.int .i64 (rankF osds infos self (Int.toNat (l.getD q 0)) (Int.toNat (l.getD a 0)))) })] [0, 1, 4, 10, 11, 12, 50] [1, 2, 3, 4, 5, 6] (fun _ => [od = od, len = (encI l).length, (((q : Nat) : Int) : Int) = ((q : Nat) : Int), q < len, blk od = blk od, offs od + q * 1 = offs od + (q * 1 + 0), (encI l)[q]? = some [.int .i64 (l.getD q 0)], od = od, len = (encI l).length, (((a : Nat) : Int) : Int) = ((a : Nat) : Int), a < len, blk od = blk od, offs od + a * 1 = offs od + (a * 1 + 0), (encI l)[a]? = some [.int .i64 (l.getD a 0)], CallOK Try.prog 21 #[.int .i64 (l.getD q 0), .int .i64 (l.getD a 0), .pointer (some ⟨bi, 0, none⟩), .pointer (some ⟨bo, 0, none⟩), .pointer (some ⟨bs, 0, none⟩)] (.int .i64 (rankF osds infos self (Int.toNat (l.getD q 0)) (Int.toNat (l.getD a 0)))) [some (.rd oi 6 (encInf infos)), some (.rd oo 1 (encI osds)), some (.cells bi 23 [.slice oi infos.length ci]), some (.cells bo 22 [.slice oo osds.length co]), some (.cells bs 3 [.int .i64 self])]]) (by kernel_rfl) (by kernel_rfl) (fun _ => by kernel_rfl) (fun _ => ⟨rfl, (by rw [← encI_len]; omega), rfl, by omega, rfl, rfl, encI_at (by omega), rfl, (by rw [← encI_len]; omega), rfl, by omega, rfl, rfl, encI_at (by omega), (clos_ok bi bo bs oi oo ci co infos osds self (l.getD q 0) (l.getD a 0) (by omega) (by omega) (by omega) (by omega) (by omega) (by omega)).weak (by intro w h E hE; simp only [List.mem_cons, Option.some.injEq, List.not_mem_nil, or_false] at hE; exact hE.elim (fun e => by rw [e]; exact h _ (by simp)) (fun q => q.elim (fun e => by rw [e]; exact h _ (by simp)) (fun q => q.elim (fun e => by rw [e]; exact Ent.cells_rd (h (.cells bi 23 [.slice oi infos.length ci]) (by simp))) (fun q => q.elim (fun e => by rw [e]; exact Ent.cells_rd (h (.cells bo 22 [.slice oo osds.length co]) (by simp))) (fun e => by rw [e]; exact Ent.cells_rd (h (.cells bs 3 [.int .i64 self]) (by simp))))))), trivial⟩)) ?_
        intro _
        refine GS.cond (t := decide ((rankF osds infos self (Int.toNat (l.getD q 0)) (Int.toNat (l.getD a 0))) < 0)) rfl rfl (fun h5 => ?_) (fun h5 => ?_)
        · replace h5 := of_decide_eq_true h5
          -- region 6, zsortanyfunc.go:391
          refine GS.region (env' := fun _ => [(0, .slice od len cd), (1, .int .i64 ((a : Nat) : Int)), (4, .func (.func 21) #[] #[.pointer (some ⟨bi, 0, none⟩), .pointer (some ⟨bo, 0, none⟩), .pointer (some ⟨bs, 0, none⟩)]), (10, .int .i64 ((q + 1 : Nat) : Int)), (11, .int .i64 ((j : Nat) : Int))]) (mem' := fun _ => [(1, .osl od cd 3 1 (encI l)), (2, .cells bi 23 [.slice oi infos.length ci]), (3, .cells bo 22 [.slice oo osds.length co]), (4, .cells bs 3 [.int .i64 self]), (5, .rd oi 6 (encInf infos)), (6, .rd oo 1 (encI osds))]) (RunsTo.mk [(1, { sp := some (.int .i64 ((q + 1 : Nat) : Int)) })] [0, 1, 4, 10, 11] [1, 2, 3, 4, 5, 6] (fun _ => [(.int .i64 (IntKind.i64.wrap (((q : Nat) : Int) + 1)) : Value) = .int .i64 ((q + 1 : Nat) : Int)]) (fun _ => by kernel_rfl) (fun _ => ⟨w64 (by omega) (by omega) (by omega), trivial⟩)) ?_
          intro _
          refine GS.inBlock ?_
          refine GS.inLoop ?_
          exact ih ⟨q + 1, j⟩ ⟨by omega, by omega, by omega, .inr (by rw [show q + 1 - 1 = q by omega]; exact decide_eq_true h5), i5⟩ (show j - (q + 1) < j - i from by omega)
        · replace h5 := of_decide_eq_false h5
          -- region 7, zsortanyfunc.go:393
          refine GS.region (env' := fun _ => [(0, .slice od len cd), (1, .int .i64 ((a : Nat) : Int)), (4, .func (.func 21) #[] #[.pointer (some ⟨bi, 0, none⟩), .pointer (some ⟨bo, 0, none⟩), .pointer (some ⟨bs, 0, none⟩)]), (10, .int .i64 ((i : Nat) : Int)), (11, .int .i64 ((q : Nat) : Int))]) (mem' := fun _ => [(1, .osl od cd 3 1 (encI l)), (2, .cells bi 23 [.slice oi infos.length ci]), (3, .cells bo 22 [.slice oo osds.length co]), (4, .cells bs 3 [.int .i64 self]), (5, .rd oi 6 (encInf infos)), (6, .rd oo 1 (encI osds))]) (RunsTo.mk [] [0, 1, 4, 10, 11] [1, 2, 3, 4, 5, 6] (fun _ => []) (fun _ => by kernel_rfl) (fun _ => trivial)) ?_
          intro _
          refine GS.inBlock ?_
          refine GS.inLoop ?_
          exact ih ⟨i, q⟩ ⟨by omega, by omega, by omega, i4, .inr (decide_eq_false h5)⟩ (show q - i < j - i from by omega)
      · replace h4 := of_decide_eq_false h4
        obtain rfl : j = i := by omega
        have hd1 : ∀ t, a + 1 ≤ t → t < j → ltI osds infos self (l.getD t 0) (l.getD a 0) = true := fun t g1 g2 => by
          rcases i4 with h | h
          · omega
          · by_cases ht : t = j - 1
            · rw [ht]; exact h
            · exact Order.lt_le _ hord (hv t (by omega)) (hv (j - 1) (by omega)) (hv a (by omega)) (hr2 t (j - 1) g1 (by omega) (by omega)) h
        have hd2 : ∀ t, j ≤ t → t < b → ltI osds infos self (l.getD t 0) (l.getD a 0) = false := fun t g1 g2 => by
          rcases i5 with h | h
          · omega
          · by_cases ht : t = j
            · rw [ht]; exact h
            · exact hord.tr _ _ _ (hv a (by omega)) (hv j (by omega)) (hv t (by omega)) h (hr2 j t i1 (by omega) g2)
        refine GS.exit rfl ?_
        refine GS.seq ?_
        refine GS.seq ?_
        -- region 8, zsortanyfunc.go:397
        refine GS.region (env' := fun _ => [(0, .slice od len cd), (10, .int .i64 ((j : Nat) : Int)), (13, .int .i64 ((a : Nat) : Int))]) (mem' := fun _ => [(1, .osl od cd 3 1 (encI l)), (2, .cells bi 23 [.slice oi infos.length ci]), (3, .cells bo 22 [.slice oo osds.length co]), (4, .cells bs 3 [.int .i64 self]), (5, .rd oi 6 (encInf infos)), (6, .rd oo 1 (encI osds))]) (RunsTo.mk [] [0, 10, 13] [1, 2, 3, 4, 5, 6] (fun _ => []) (fun _ => by kernel_rfl) (fun _ => trivial)) ?_
        intro _
        refine GS.block ?_
        refine GS.loop ?_
        refine GS.loopInv (ι := Nat × List Int) (I := fun ⟨k, L⟩ => a ≤ k ∧ k ≤ j - 1 ∧ UpP 0 l a k L) (μ := fun ⟨k, L⟩ => j - (k)) (E := fun ⟨k, L⟩ => [(0, .slice od len cd), (10, .int .i64 ((j : Nat) : Int)), (13, .int .i64 ((k : Nat) : Int))]) (M := fun ⟨k, L⟩ => [(1, .osl od cd 3 1 (encI L)), (2, .cells bi 23 [.slice oi infos.length ci]), (3, .cells bo 22 [.slice oo osds.length co]), (4, .cells bs 3 [.int .i64 self]), (5, .rd oi 6 (encInf infos)), (6, .rd oo 1 (encI osds))]) ?_ ⟨a, l⟩ ⟨by omega, by omega, UpP.zero 0 _ _⟩
        rintro ⟨k, L⟩ ⟨k1, k2, hU⟩ ih1
        have hLl := hU.1
        refine GS.seq ?_
        refine GS.seq ?_
        -- region 9, zsortanyfunc.go:397
        refine GS.region (env' := fun _ => [(0, .slice od len cd), (10, .int .i64 ((j : Nat) : Int)), (13, .int .i64 ((k : Nat) : Int)), (58, .bool (decide (((k : Nat) : Int) < (((j : Nat) : Int) - 1))))]) (mem' := fun _ => [(1, .osl od cd 3 1 (encI L)), (2, .cells bi 23 [.slice oi infos.length ci]), (3, .cells bo 22 [.slice oo osds.length co]), (4, .cells bs 3 [.int .i64 self]), (5, .rd oi 6 (encInf infos)), (6, .rd oo 1 (encI osds))]) (RunsTo.mk [(2, { sp := some (.int .i64 (((j : Nat) : Int) - 1)) })] [0, 10, 13, 58] [1, 2, 3, 4, 5, 6] (fun _ => [((.int .i64 (IntKind.i64.wrap (((j : Nat) : Int) - 1))) : Value) = .int .i64 (((j : Nat) : Int) - 1)]) (fun _ => by kernel_rfl) (fun _ => ⟨w64 rfl (by omega) (by omega), trivial⟩)) ?_
        intro _
        refine GS.cond (t := decide (((k : Nat) : Int) < (((j : Nat) : Int) - 1))) rfl rfl (fun h6 => ?_) (fun h6 => ?_)
        · replace h6 := of_decide_eq_true h6
          refine GS.skip ?_
          refine GS.seq ?_
          refine GS.block ?_
          -- region 11, zsortanyfunc.go:398
          refine GS.region (env' := fun _ => [(0, .slice od len cd), (10, .int .i64 ((j : Nat) : Int)), (13, .int .i64 ((k : Nat) : Int))]) (mem' := fun _ => [(1, .osl od cd 3 1 (((encI L).set k [.int .i64 (L.getD (k + 1) 0)]).set (k + 1) [.int .i64 (L.getD k 0)])), (2, .cells bi 23 [.slice oi infos.length ci]), (3, .cells bo 22 [.slice oo osds.length co]), (4, .cells bs 3 [.int .i64 self]), (5, .rd oi 6 (encInf infos)), (6, .rd oo 1 (encI osds))]) (RunsTo.mkd [(4, { sp := some (.int .i64 ((k + 1 : Nat) : Int)) }), (7, { sp := some (.int .i64 ((k + 1 : Nat) : Int)) }), (8, { act := .idx 1 (k + 1) }), (9, { act := .load 1 (k + 1) 0 [.int .i64 (L.getD (k + 1) 0)] }), (12, { act := .idx 1 k }), (13, { act := .load 1 k 0 [.int .i64 (L.getD k 0)] }), (14, { act := .idx 1 k }), (15, { act := .store k 0 [.int .i64 (L.getD k 0)], key := some 1 }), (16, { act := .idx 1 (k + 1) }), (17, { act := .store (k + 1) 0 [.int .i64 ((L.set k (L.getD (k + 1) 0)).getD (k + 1) 0)], key := some 1 })] [0, 10, 13] [1, 2, 3, 4, 5, 6] (fun _ => [(.int .i64 (IntKind.i64.wrap (((k : Nat) : Int) + 1)) : Value) = .int .i64 ((k + 1 : Nat) : Int), (.int .i64 (IntKind.i64.wrap (((k : Nat) : Int) + 1)) : Value) = .int .i64 ((k + 1 : Nat) : Int), od = od, len = (encI L).length, (((k + 1 : Nat) : Int) : Int) = (((k + 1) : Nat) : Int), (k + 1) < len, blk od = blk od, offs od + (k + 1) * 1 = offs od + ((k + 1) * 1 + 0), (encI L)[(k + 1)]? = some [.int .i64 (L.getD (k + 1) 0)], od = od, len = (encI L).length, (((k : Nat) : Int) : Int) = ((k : Nat) : Int), k < len, blk od = blk od, offs od + k * 1 = offs od + (k * 1 + 0), (encI L)[k]? = some [.int .i64 (L.getD k 0)], od = od, len = (encI L).length, (((k : Nat) : Int) : Int) = ((k : Nat) : Int), k < len, blk od = blk od, offs od + k * 1 = offs od + (k * 1 + 0), (encI L)[k]? = some [.int .i64 (L.getD k 0)], ((.int .i64 (L.getD (k + 1) 0)) : Value).cells.toList.all Value.oneCell' = true, od = od, len = ((encI L).set k [.int .i64 (L.getD (k + 1) 0)]).length, (((k + 1 : Nat) : Int) : Int) = (((k + 1) : Nat) : Int), (k + 1) < len, blk od = blk od, offs od + (k + 1) * 1 = offs od + ((k + 1) * 1 + 0), ((encI L).set k [.int .i64 (L.getD (k + 1) 0)])[(k + 1)]? = some [.int .i64 ((L.set k (L.getD (k + 1) 0)).getD (k + 1) 0)], ((.int .i64 (L.getD k 0)) : Value).cells.toList.all Value.oneCell' = true]) (by kernel_rfl) (by kernel_rfl) (fun _ => by kernel_rfl) (fun _ => ⟨w64 (by omega) (by omega) (by omega), w64 (by omega) (by omega) (by omega), rfl, (by rw [← encI_len]; omega), rfl, by omega, rfl, rfl, encI_at (by omega), rfl, (by rw [← encI_len]; omega), rfl, by omega, rfl, rfl, encI_at (by omega), rfl, (by rw [← encI_len]; omega), rfl, by omega, rfl, rfl, encI_at (by omega), rfl, rfl, (by simp only [List.length_set]; exact (by rw [← encI_len]; omega)), rfl, by omega, rfl, rfl, by rw [encI_set]; exact encI_at (by simp only [List.length_set]; omega), rfl, trivial⟩)) ?_
          intro _
          refine GS.inBlock ?_
          have hst := UpP.step 0 hU (by omega) (by omega)
          refine GS.conv (mem' := [(1, .osl od cd 3 1 (encI ((L.set k (L.getD (k + 1) 0)).set (k + 1) (L.getD k 0)))), (2, .cells bi 23 [.slice oi infos.length ci]), (3, .cells bo 22 [.slice oo osds.length co]), (4, .cells bs 3 [.int .i64 self]), (5, .rd oi 6 (encInf infos)), (6, .rd oo 1 (encI osds))]) rfl (congrArg (fun rr : List (List Value) => ([(1, .osl od cd 3 1 rr), (2, .cells bi 23 [.slice oi infos.length ci]), (3, .cells bo 22 [.slice oo osds.length co]), (4, .cells bs 3 [.int .i64 self]), (5, .rd oi 6 (encInf infos)), (6, .rd oo 1 (encI osds))] : List (Nat × Ent))) (show ((encI L).set k [.int .i64 (L.getD (k + 1) 0)]).set (k + 1) [.int .i64 (L.getD k 0)] = encI ((L.set k (L.getD (k + 1) 0)).set (k + 1) (L.getD k 0)) from by rw [encI_set, encI_set])) ?_
          -- region 10, zsortanyfunc.go:397
          refine GS.region (env' := fun _ => [(0, .slice od len cd), (10, .int .i64 ((j : Nat) : Int)), (13, .int .i64 ((k + 1 : Nat) : Int))]) (mem' := fun _ => [(1, .osl od cd 3 1 (encI ((L.set k (L.getD (k + 1) 0)).set (k + 1) (L.getD k 0)))), (2, .cells bi 23 [.slice oi infos.length ci]), (3, .cells bo 22 [.slice oo osds.length co]), (4, .cells bs 3 [.int .i64 self]), (5, .rd oi 6 (encInf infos)), (6, .rd oo 1 (encI osds))]) (RunsTo.mk [(1, { sp := some (.int .i64 ((k + 1 : Nat) : Int)) })] [0, 10, 13] [1, 2, 3, 4, 5, 6] (fun _ => [(.int .i64 (IntKind.i64.wrap (((k : Nat) : Int) + 1)) : Value) = .int .i64 ((k + 1 : Nat) : Int)]) (fun _ => by kernel_rfl) (fun _ => ⟨w64 (by omega) (by omega) (by omega), trivial⟩)) ?_
          intro _
          refine GS.inLoop ?_
          exact ih1 ⟨k + 1, (L.set k (L.getD (k + 1) 0)).set (k + 1) (L.getD k 0)⟩ ⟨by omega, by omega, hst⟩ (show j - (k + 1) < j - (k) from by omega)
        · replace h6 := of_decide_eq_false h6
          have hk : k = j - 1 := by omega
          refine GS.exit rfl ?_
          refine GS.ret (fn := Try.f28) [] [] [] rfl Try.func28 (by kernel_rfl) trivial (fun w' hs => ?_)
          exact ⟨⟨L, UpP.sym (S := fun z : Int => 0 ≤ z ∧ z < (mx : Int)) 0 _ (hk ▸ hU) (by omega) (by omega) hd1 hd2⟩, rfl, hs.turned (ks := [1, 2, 3, 4, 5, 6]) (nodupB_spec rfl) rfl (by intro e he; simp only [List.mem_cons, List.not_mem_nil, or_false] at he; rcases he with rfl | rfl | rfl | rfl | rfl | rfl <;> first | exact .inl rfl | exact .inr (by simp))⟩
    · replace h1 := ne_of_beq_false' h1
      refine GS.skip ?_
      refine GS.seq ?_
      refine GS.seq ?_
      -- region 12, zsortanyfunc.go:406
      refine GS.region (env' := fun _ => [(0, .slice od len cd), (1, .int .i64 ((a : Nat) : Int)), (2, .int .i64 ((m : Nat) : Int)), (3, .int .i64 ((b : Nat) : Int)), (4, .func (.func 21) #[] #[.pointer (some ⟨bi, 0, none⟩), .pointer (some ⟨bo, 0, none⟩), .pointer (some ⟨bs, 0, none⟩)]), (80, .bool ((((b : Nat) : Int) - ((m : Nat) : Int)) == 1))]) (mem' := fun _ => [(1, .osl od cd 3 1 (encI l)), (2, .cells bi 23 [.slice oi infos.length ci]), (3, .cells bo 22 [.slice oo osds.length co]), (4, .cells bs 3 [.int .i64 self]), (5, .rd oi 6 (encInf infos)), (6, .rd oo 1 (encI osds))]) (RunsTo.mk [(2, { sp := some (.int .i64 (((b : Nat) : Int) - ((m : Nat) : Int))) })] [0, 1, 2, 3, 4, 80] [1, 2, 3, 4, 5, 6] (fun _ => [((.int .i64 (IntKind.i64.wrap (((b : Nat) : Int) - ((m : Nat) : Int)))) : Value) = .int .i64 (((b : Nat) : Int) - ((m : Nat) : Int))]) (fun _ => by kernel_rfl) (fun _ => ⟨w64 rfl (by omega) (by omega), trivial⟩)) ?_
      intro _
      refine GS.cond (t := (((b : Nat) : Int) - ((m : Nat) : Int)) == 1) rfl rfl (fun h2 => ?_) (fun h2 => ?_)
      · replace h2 := eq_of_beq h2
        obtain rfl : b = m + 1 := by omega
        refine GS.seq ?_
        -- region 13, zsortanyfunc.go:410
        refine GS.region (env' := fun _ => [(0, .slice od len cd), (2, .int .i64 ((m : Nat) : Int)), (4, .func (.func 21) #[] #[.pointer (some ⟨bi, 0, none⟩), .pointer (some ⟨bo, 0, none⟩), .pointer (some ⟨bs, 0, none⟩)]), (14, .int .i64 ((a : Nat) : Int))]) (mem' := fun _ => [(1, .osl od cd 3 1 (encI l)), (2, .cells bi 23 [.slice oi infos.length ci]), (3, .cells bo 22 [.slice oo osds.length co]), (4, .cells bs 3 [.int .i64 self]), (5, .rd oi 6 (encInf infos)), (6, .rd oo 1 (encI osds))]) (RunsTo.mk [] [0, 2, 4, 14] [1, 2, 3, 4, 5, 6] (fun _ => []) (fun _ => by kernel_rfl) (fun _ => trivial)) ?_
        intro _
        refine GS.seq ?_
        -- region 14, zsortanyfunc.go:411
        refine GS.region (env' := fun _ => [(0, .slice od len cd), (2, .int .i64 ((m : Nat) : Int)), (4, .func (.func 21) #[] #[.pointer (some ⟨bi, 0, none⟩), .pointer (some ⟨bo, 0, none⟩), .pointer (some ⟨bs, 0, none⟩)]), (14, .int .i64 ((a : Nat) : Int)), (15, .int .i64 ((m : Nat) : Int))]) (mem' := fun _ => [(1, .osl od cd 3 1 (encI l)), (2, .cells bi 23 [.slice oi infos.length ci]), (3, .cells bo 22 [.slice oo osds.length co]), (4, .cells bs 3 [.int .i64 self]), (5, .rd oi 6 (encInf infos)), (6, .rd oo 1 (encI osds))]) (RunsTo.mk [] [0, 2, 4, 14, 15] [1, 2, 3, 4, 5, 6] (fun _ => []) (fun _ => by kernel_rfl) (fun _ => trivial)) ?_
        intro _
        refine GS.seq ?_
        refine GS.block ?_
        refine GS.loop ?_
        refine GS.loopInv (ι := Nat × Nat) (I := fun ⟨i, j⟩ => a ≤ i ∧ i ≤ j ∧ j ≤ m ∧ (i = a ∨ (ltI osds infos self) (l.getD m 0) (l.getD (i - 1) 0) = false) ∧ (j = m ∨ (ltI osds infos self) (l.getD m 0) (l.getD j 0) = true)) (μ := fun ⟨i, j⟩ => j - i) (E := fun ⟨i, j⟩ => [(0, .slice od len cd), (2, .int .i64 ((m : Nat) : Int)), (4, .func (.func 21) #[] #[.pointer (some ⟨bi, 0, none⟩), .pointer (some ⟨bo, 0, none⟩), .pointer (some ⟨bs, 0, none⟩)]), (14, .int .i64 ((i : Nat) : Int)), (15, .int .i64 ((j : Nat) : Int))]) (M := fun ⟨i, j⟩ => [(1, .osl od cd 3 1 (encI l)), (2, .cells bi 23 [.slice oi infos.length ci]), (3, .cells bo 22 [.slice oo osds.length co]), (4, .cells bs 3 [.int .i64 self]), (5, .rd oi 6 (encInf infos)), (6, .rd oo 1 (encI osds))]) ?_ ⟨a, m⟩ ⟨by omega, by omega, by omega, .inl rfl, .inl rfl⟩
        rintro ⟨i, j⟩ ⟨i1, i2, i3, i4, i5⟩ ih
        refine GS.seq ?_
        refine GS.seq ?_
        -- region 15, zsortanyfunc.go:412
        refine GS.region (env' := fun _ => [(0, .slice od len cd), (2, .int .i64 ((m : Nat) : Int)), (4, .func (.func 21) #[] #[.pointer (some ⟨bi, 0, none⟩), .pointer (some ⟨bo, 0, none⟩), .pointer (some ⟨bs, 0, none⟩)]), (14, .int .i64 ((i : Nat) : Int)), (15, .int .i64 ((j : Nat) : Int)), (85, .bool (decide (((i : Nat) : Int) < ((j : Nat) : Int))))]) (mem' := fun _ => [(1, .osl od cd 3 1 (encI l)), (2, .cells bi 23 [.slice oi infos.length ci]), (3, .cells bo 22 [.slice oo osds.length co]), (4, .cells bs 3 [.int .i64 self]), (5, .rd oi 6 (encInf infos)), (6, .rd oo 1 (encI osds))]) (RunsTo.mk [] [0, 2, 4, 14, 15, 85] [1, 2, 3, 4, 5, 6] (fun _ => []) (fun _ => by kernel_rfl) (fun _ => trivial)) ?_
        intro _
        refine GS.cond (t := decide (((i : Nat) : Int) < ((j : Nat) : Int))) rfl rfl (fun h4 => ?_) (fun h4 => ?_)
        · replace h4 := of_decide_eq_true h4
          obtain ⟨q, hq⟩ : ∃ q, q = (i + j) / 2 := ⟨_, rfl⟩
          have hv1 := hv q (by omega)
          have hv2 := hv m (by omega)
          refine GS.skip ?_
          refine GS.block ?_
          refine GS.seq ?_
          -- region 16, zsortanyfunc.go:413
          refine GS.region (env' := fun _ => [(0, .slice od len cd), (2, .int .i64 ((m : Nat) : Int)), (4, .func (.func 21) #[] #[.pointer (some ⟨bi, 0, none⟩), .pointer (some ⟨bo, 0, none⟩), .pointer (some ⟨bs, 0, none⟩)]), (14, .int .i64 ((i : Nat) : Int)), (15, .int .i64 ((j : Nat) : Int)), (16, .int .i64 ((q : Nat) : Int))]) (mem' := fun _ => [(1, .osl od cd 3 1 (encI l)), (2, .cells bi 23 [.slice oi infos.length ci]), (3, .cells bo 22 [.slice oo osds.length co]), (4, .cells bs 3 [.int .i64 self]), (5, .rd oi 6 (encInf infos)), (6, .rd oo 1 (encI osds))]) (RunsTo.mk [(2, { sp := some (.int .i64 ((i + j : Nat) : Int)) }), (3, { sp := some (.int .u64 ((i + j : Nat) : Int)) }), (4, { sp := some (.int .u64 ((q : Nat) : Int)) }), (5, { sp := some (.int .i64 ((q : Nat) : Int)) })] [0, 2, 4, 14, 15, 16] [1, 2, 3, 4, 5, 6] (fun _ => [(.int .i64 (IntKind.i64.wrap (((i : Nat) : Int) + ((j : Nat) : Int))) : Value) = .int .i64 ((i + j : Nat) : Int), (.int .u64 (IntKind.u64.wrap ((i + j : Nat) : Int)) : Value) = .int .u64 ((i + j : Nat) : Int), (.int .u64 (Int.fdiv ((i + j : Nat) : Int) (2 ^ 1)) : Value) = .int .u64 ((q : Nat) : Int), (.int .i64 (IntKind.i64.wrap ((q : Nat) : Int)) : Value) = .int .i64 ((q : Nat) : Int)]) (fun _ => by kernel_rfl) (fun _ => ⟨w64 (by omega) (by omega) (by omega), int_eq (u64_nat (by omega)), int_eq (by rw [hq]; exact shr_nat (i + j) 1), w64 (by omega) (by omega) (by omega), trivial⟩)) ?_
          intro _
          refine GS.seq ?_
          -- region 17, zsortanyfunc.go:414
          refine GS.region (env' := fun _ => [(0, .slice od len cd), (2, .int .i64 ((m : Nat) : Int)), (4, .func (.func 21) #[] #[.pointer (some ⟨bi, 0, none⟩), .pointer (some ⟨bo, 0, none⟩), .pointer (some ⟨bs, 0, none⟩)]), (14, .int .i64 ((i : Nat) : Int)), (15, .int .i64 ((j : Nat) : Int)), (16, .int .i64 ((q : Nat) : Int)), (103, .bool (!(decide ((rankF osds infos self (Int.toNat (l.getD m 0)) (Int.toNat (l.getD q 0))) < 0))))]) (mem' := fun _ => [(1, .osl od cd 3 1 (encI l)), (2, .cells bi 23 [.slice oi infos.length ci]), (3, .cells bo 22 [.slice oo osds.length co]), (4, .cells bs 3 [.int .i64 self]), (5, .rd oi 6 (encInf infos)), (6, .rd oo 1 (encI osds))]) (RunsTo.mkd [(3, { act := .idx 1 m }), (4, { act := .load 1 m 0 [.int .i64 (l.getD m 0)] }), (7, { act := .idx 1 q }), (8, { act := .load 1 q 0 [.int .i64 (l.getD q 0)] }), (9, { act := .call [5, 6, 2, 3, 4] (.int .i64 (rankF osds infos self (Int.toNat (l.getD m 0)) (Int.toNat (l.getD q 0)))) })] [0, 2, 4, 14, 15, 16, 103] [1, 2, 3, 4, 5, 6] (fun _ => [od = od, len = (encI l).length, (((m : Nat) : Int) : Int) = ((m : Nat) : Int), m < len, blk od = blk od, offs od + m * 1 = offs od + (m * 1 + 0), (encI l)[m]? = some [.int .i64 (l.getD m 0)], od = od, len = (encI l).length, (((q : Nat) : Int) : Int) = ((q : Nat) : Int), q < len, blk od = blk od, offs od + q * 1 = offs od + (q * 1 + 0), (encI l)[q]? = some [.int .i64 (l.getD q 0)], CallOK Try.prog 21 #[.int .i64 (l.getD m 0), .int .i64 (l.getD q 0), .pointer (some ⟨bi, 0, none⟩), .pointer (some ⟨bo, 0, none⟩), .pointer (some ⟨bs, 0, none⟩)] (.int .i64 (rankF osds infos self (Int.toNat (l.getD m 0)) (Int.toNat (l.getD q 0)))) [some (.rd oi 6 (encInf infos)), some (.rd oo 1 (encI osds)), some (.cells bi 23 [.slice oi infos.length ci]), some (.cells bo 22 [.slice oo osds.length co]), some (.cells bs 3 [.int .i64 self])]]) (by kernel_rfl) (by kernel_rfl) (fun _ => by kernel_rfl) (fun _ => ⟨rfl, (by rw [← encI_len]; omega), rfl, by omega, rfl, rfl, encI_at (by omega), rfl, (by rw [← encI_len]; omega), rfl, by omega, rfl, rfl, encI_at (by omega), (clos_ok bi bo bs oi oo ci co infos osds self (l.getD m 0) (l.getD q 0) (by omega) (by omega) (by omega) (by omega) (by omega) (by omega)).weak (by intro w h E hE; simp only [List.mem_cons, Option.some.injEq, List.not_mem_nil, or_false] at hE; exact hE.elim (fun e => by rw [e]; exact h _ (by simp)) (fun q => q.elim (fun e => by rw [e]; exact h _ (by simp)) (fun q => q.elim (fun e => by rw [e]; exact Ent.cells_rd (h (.cells bi 23 [.slice oi infos.length ci]) (by simp))) (fun q => q.elim (fun e => by rw [e]; exact Ent.cells_rd (h (.cells bo 22 [.slice oo osds.length co]) (by simp))) (fun e => by rw [e]; exact Ent.cells_rd (h (.cells bs 3 [.int .i64 self]) (by simp))))))), trivial⟩)) ?_
          intro _
          refine GS.cond (t := !(decide ((rankF osds infos self (Int.toNat (l.getD m 0)) (Int.toNat (l.getD q 0))) < 0))) rfl rfl (fun h5 => ?_) (fun h5 => ?_)
          · skip
            -- region 18, zsortanyfunc.go:415
            refine GS.region (env' := fun _ => [(0, .slice od len cd), (2, .int .i64 ((m : Nat) : Int)), (4, .func (.func 21) #[] #[.pointer (some ⟨bi, 0, none⟩), .pointer (some ⟨bo, 0, none⟩), .pointer (some ⟨bs, 0, none⟩)]), (14, .int .i64 ((q + 1 : Nat) : Int)), (15, .int .i64 ((j : Nat) : Int))]) (mem' := fun _ => [(1, .osl od cd 3 1 (encI l)), (2, .cells bi 23 [.slice oi infos.length ci]), (3, .cells bo 22 [.slice oo osds.length co]), (4, .cells bs 3 [.int .i64 self]), (5, .rd oi 6 (encInf infos)), (6, .rd oo 1 (encI osds))]) (RunsTo.mk [(1, { sp := some (.int .i64 ((q + 1 : Nat) : Int)) })] [0, 2, 4, 14, 15] [1, 2, 3, 4, 5, 6] (fun _ => [(.int .i64 (IntKind.i64.wrap (((q : Nat) : Int) + 1)) : Value) = .int .i64 ((q + 1 : Nat) : Int)]) (fun _ => by kernel_rfl) (fun _ => ⟨w64 (by omega) (by omega) (by omega), trivial⟩)) ?_
            intro _
            refine GS.inBlock ?_
            refine GS.inLoop ?_
            exact ih ⟨q + 1, j⟩ ⟨by omega, by omega, by omega, .inr (by rw [show q + 1 - 1 = q by omega]; exact not_true_f h5), i5⟩ (show j - (q + 1) < j - i from by omega)
          · skip
            -- region 19, zsortanyfunc.go:417
            refine GS.region (env' := fun _ => [(0, .slice od len cd), (2, .int .i64 ((m : Nat) : Int)), (4, .func (.func 21) #[] #[.pointer (some ⟨bi, 0, none⟩), .pointer (some ⟨bo, 0, none⟩), .pointer (some ⟨bs, 0, none⟩)]), (14, .int .i64 ((i : Nat) : Int)), (15, .int .i64 ((q : Nat) : Int))]) (mem' := fun _ => [(1, .osl od cd 3 1 (encI l)), (2, .cells bi 23 [.slice oi infos.length ci]), (3, .cells bo 22 [.slice oo osds.length co]), (4, .cells bs 3 [.int .i64 self]), (5, .rd oi 6 (encInf infos)), (6, .rd oo 1 (encI osds))]) (RunsTo.mk [] [0, 2, 4, 14, 15] [1, 2, 3, 4, 5, 6] (fun _ => []) (fun _ => by kernel_rfl) (fun _ => trivial)) ?_
            intro _
            refine GS.inBlock ?_
            refine GS.inLoop ?_
            exact ih ⟨i, q⟩ ⟨by omega, by omega, by omega, i4, .inr (not_false_t h5)⟩ (show q - i < j - i from by omega)
        · replace h4 := of_decide_eq_false h4
          obtain rfl : j = i := by omega
          have hd1 : ∀ t, a ≤ t → t < j → ltI osds infos self (l.getD m 0) (l.getD t 0) = false := fun t g1 g2 => by
            rcases i4 with h | h
            · omega
            · by_cases ht : t = j - 1
              · rw [ht]; exact h
              · exact hord.tr _ _ _ (hv t (by omega)) (hv (j - 1) (by omega)) (hv m (by omega)) (hr1 t (j - 1) g1 (by omega) (by omega)) h
          have hd2 : ∀ t, j ≤ t → t < m → ltI osds infos self (l.getD m 0) (l.getD t 0) = true := fun t g1 g2 => by
            rcases i5 with h | h
            · omega
            · by_cases ht : t = j
              · rw [ht]; exact h
              · exact Order.le_lt _ hord (hv m (by omega)) (hv j (by omega)) (hv t (by omega)) h (hr1 j t i1 (by omega) g2)
          refine GS.exit rfl ?_
          refine GS.seq ?_
          refine GS.seq ?_
          -- region 20, zsortanyfunc.go:421
          refine GS.region (env' := fun _ => [(0, .slice od len cd), (14, .int .i64 ((j : Nat) : Int)), (17, .int .i64 ((m : Nat) : Int))]) (mem' := fun _ => [(1, .osl od cd 3 1 (encI l)), (2, .cells bi 23 [.slice oi infos.length ci]), (3, .cells bo 22 [.slice oo osds.length co]), (4, .cells bs 3 [.int .i64 self]), (5, .rd oi 6 (encInf infos)), (6, .rd oo 1 (encI osds))]) (RunsTo.mk [] [0, 14, 17] [1, 2, 3, 4, 5, 6] (fun _ => []) (fun _ => by kernel_rfl) (fun _ => trivial)) ?_
          intro _
          refine GS.block ?_
          refine GS.loop ?_
          refine GS.loopInv (ι := Nat × List Int) (I := fun ⟨k, L⟩ => j ≤ k ∧ k ≤ m ∧ DownP 0 l m k L) (μ := fun ⟨k, L⟩ => k) (E := fun ⟨k, L⟩ => [(0, .slice od len cd), (14, .int .i64 ((j : Nat) : Int)), (17, .int .i64 ((k : Nat) : Int))]) (M := fun ⟨k, L⟩ => [(1, .osl od cd 3 1 (encI L)), (2, .cells bi 23 [.slice oi infos.length ci]), (3, .cells bo 22 [.slice oo osds.length co]), (4, .cells bs 3 [.int .i64 self]), (5, .rd oi 6 (encInf infos)), (6, .rd oo 1 (encI osds))]) ?_ ⟨m, l⟩ ⟨by omega, by omega, DownP.zero 0 _ _⟩
          rintro ⟨k, L⟩ ⟨k1, k2, hU⟩ ih1
          have hLl := hU.1
          refine GS.seq ?_
          refine GS.seq ?_
          -- region 21, zsortanyfunc.go:421
          refine GS.region (env' := fun _ => [(0, .slice od len cd), (14, .int .i64 ((j : Nat) : Int)), (17, .int .i64 ((k : Nat) : Int)), (110, .bool (decide (((k : Nat) : Int) > ((j : Nat) : Int))))]) (mem' := fun _ => [(1, .osl od cd 3 1 (encI L)), (2, .cells bi 23 [.slice oi infos.length ci]), (3, .cells bo 22 [.slice oo osds.length co]), (4, .cells bs 3 [.int .i64 self]), (5, .rd oi 6 (encInf infos)), (6, .rd oo 1 (encI osds))]) (RunsTo.mk [] [0, 14, 17, 110] [1, 2, 3, 4, 5, 6] (fun _ => []) (fun _ => by kernel_rfl) (fun _ => trivial)) ?_
          intro _
          refine GS.cond (t := decide (((k : Nat) : Int) > ((j : Nat) : Int))) rfl rfl (fun h6 => ?_) (fun h6 => ?_)
          · replace h6 := of_decide_eq_true h6
            refine GS.skip ?_
            refine GS.seq ?_
            refine GS.block ?_
            -- region 23, zsortanyfunc.go:422
            refine GS.region (env' := fun _ => [(0, .slice od len cd), (14, .int .i64 ((j : Nat) : Int)), (17, .int .i64 ((k : Nat) : Int))]) (mem' := fun _ => [(1, .osl od cd 3 1 (((encI L).set k [.int .i64 (L.getD (k - 1) 0)]).set (k - 1) [.int .i64 (L.getD k 0)])), (2, .cells bi 23 [.slice oi infos.length ci]), (3, .cells bo 22 [.slice oo osds.length co]), (4, .cells bs 3 [.int .i64 self]), (5, .rd oi 6 (encInf infos)), (6, .rd oo 1 (encI osds))]) (RunsTo.mkd [(4, { sp := some (.int .i64 ((k - 1 : Nat) : Int)) }), (7, { sp := some (.int .i64 ((k - 1 : Nat) : Int)) }), (8, { act := .idx 1 (k - 1) }), (9, { act := .load 1 (k - 1) 0 [.int .i64 (L.getD (k - 1) 0)] }), (12, { act := .idx 1 k }), (13, { act := .load 1 k 0 [.int .i64 (L.getD k 0)] }), (14, { act := .idx 1 k }), (15, { act := .store k 0 [.int .i64 (L.getD k 0)], key := some 1 }), (16, { act := .idx 1 (k - 1) }), (17, { act := .store (k - 1) 0 [.int .i64 ((L.set k (L.getD (k - 1) 0)).getD (k - 1) 0)], key := some 1 })] [0, 14, 17] [1, 2, 3, 4, 5, 6] (fun _ => [(.int .i64 (IntKind.i64.wrap (((k : Nat) : Int) - 1)) : Value) = .int .i64 ((k - 1 : Nat) : Int), (.int .i64 (IntKind.i64.wrap (((k : Nat) : Int) - 1)) : Value) = .int .i64 ((k - 1 : Nat) : Int), od = od, len = (encI L).length, (((k - 1 : Nat) : Int) : Int) = (((k - 1) : Nat) : Int), (k - 1) < len, blk od = blk od, offs od + (k - 1) * 1 = offs od + ((k - 1) * 1 + 0), (encI L)[(k - 1)]? = some [.int .i64 (L.getD (k - 1) 0)], od = od, len = (encI L).length, (((k : Nat) : Int) : Int) = ((k : Nat) : Int), k < len, blk od = blk od, offs od + k * 1 = offs od + (k * 1 + 0), (encI L)[k]? = some [.int .i64 (L.getD k 0)], od = od, len = (encI L).length, (((k : Nat) : Int) : Int) = ((k : Nat) : Int), k < len, blk od = blk od, offs od + k * 1 = offs od + (k * 1 + 0), (encI L)[k]? = some [.int .i64 (L.getD k 0)], ((.int .i64 (L.getD (k - 1) 0)) : Value).cells.toList.all Value.oneCell' = true, od = od, len = ((encI L).set k [.int .i64 (L.getD (k - 1) 0)]).length, (((k - 1 : Nat) : Int) : Int) = (((k - 1) : Nat) : Int), (k - 1) < len, blk od = blk od, offs od + (k - 1) * 1 = offs od + ((k - 1) * 1 + 0), ((encI L).set k [.int .i64 (L.getD (k - 1) 0)])[(k - 1)]? = some [.int .i64 ((L.set k (L.getD (k - 1) 0)).getD (k - 1) 0)], ((.int .i64 (L.getD k 0)) : Value).cells.toList.all Value.oneCell' = true]) (by kernel_rfl) (by kernel_rfl) (fun _ => by kernel_rfl) (fun _ => ⟨w64 (by omega) (by omega) (by omega), w64 (by omega) (by omega) (by omega), rfl, (by rw [← encI_len]; omega), rfl, by omega, rfl, rfl, encI_at (by omega), rfl, (by rw [← encI_len]; omega), rfl, by omega, rfl, rfl, encI_at (by omega), rfl, (by rw [← encI_len]; omega), rfl, by omega, rfl, rfl, encI_at (by omega), rfl, rfl, (by simp only [List.length_set]; exact (by rw [← encI_len]; omega)), rfl, by omega, rfl, rfl, by rw [encI_set]; exact encI_at (by simp only [List.length_set]; omega), rfl, trivial⟩)) ?_
            intro _
            refine GS.inBlock ?_
            have hst := DownP.step' 0 hU (by omega) (by omega) (by omega)
            refine GS.conv (mem' := [(1, .osl od cd 3 1 (encI ((L.set k (L.getD (k - 1) 0)).set (k - 1) (L.getD k 0)))), (2, .cells bi 23 [.slice oi infos.length ci]), (3, .cells bo 22 [.slice oo osds.length co]), (4, .cells bs 3 [.int .i64 self]), (5, .rd oi 6 (encInf infos)), (6, .rd oo 1 (encI osds))]) rfl (congrArg (fun rr : List (List Value) => ([(1, .osl od cd 3 1 rr), (2, .cells bi 23 [.slice oi infos.length ci]), (3, .cells bo 22 [.slice oo osds.length co]), (4, .cells bs 3 [.int .i64 self]), (5, .rd oi 6 (encInf infos)), (6, .rd oo 1 (encI osds))] : List (Nat × Ent))) (show ((encI L).set k [.int .i64 (L.getD (k - 1) 0)]).set (k - 1) [.int .i64 (L.getD k 0)] = encI ((L.set k (L.getD (k - 1) 0)).set (k - 1) (L.getD k 0)) from by rw [encI_set, encI_set])) ?_
            -- region 22, zsortanyfunc.go:421
            refine GS.region (env' := fun _ => [(0, .slice od len cd), (14, .int .i64 ((j : Nat) : Int)), (17, .int .i64 ((k - 1 : Nat) : Int))]) (mem' := fun _ => [(1, .osl od cd 3 1 (encI ((L.set k (L.getD (k - 1) 0)).set (k - 1) (L.getD k 0)))), (2, .cells bi 23 [.slice oi infos.length ci]), (3, .cells bo 22 [.slice oo osds.length co]), (4, .cells bs 3 [.int .i64 self]), (5, .rd oi 6 (encInf infos)), (6, .rd oo 1 (encI osds))]) (RunsTo.mk [(1, { sp := some (.int .i64 ((k - 1 : Nat) : Int)) })] [0, 14, 17] [1, 2, 3, 4, 5, 6] (fun _ => [(.int .i64 (IntKind.i64.wrap (((k : Nat) : Int) - 1)) : Value) = .int .i64 ((k - 1 : Nat) : Int)]) (fun _ => by kernel_rfl) (fun _ => ⟨w64 (by omega) (by omega) (by omega), trivial⟩)) ?_
            intro _
            refine GS.inLoop ?_
            exact ih1 ⟨k - 1, (L.set k (L.getD (k - 1) 0)).set (k - 1) (L.getD k 0)⟩ ⟨by omega, by omega, hst⟩ (show k - 1 < k from by omega)
          · replace h6 := of_decide_eq_false h6
            have hk : k = j := by omega
            refine GS.exit rfl ?_
            refine GS.ret (fn := Try.f28) [] [] [] rfl Try.func28 (by kernel_rfl) trivial (fun w' hs => ?_)
            exact ⟨⟨L, DownP.sym 0 _ (hk ▸ hU) (by omega) (by omega) hd1 hd2⟩, rfl, hs.turned (ks := [1, 2, 3, 4, 5, 6]) (nodupB_spec rfl) rfl (by intro e he; simp only [List.mem_cons, List.not_mem_nil, or_false] at he; rcases he with rfl | rfl | rfl | rfl | rfl | rfl <;> first | exact .inl rfl | exact .inr (by simp))⟩
      · replace h2 := ne_of_beq_false' h2
        obtain ⟨mid, hmid⟩ : ∃ mid, mid = (a + b) / 2 := ⟨_, rfl⟩
        refine GS.skip ?_
        refine GS.seq ?_
        -- region 24, zsortanyfunc.go:427
        refine GS.region (env' := fun _ => [(0, .slice od len cd), (1, .int .i64 ((a : Nat) : Int)), (2, .int .i64 ((m : Nat) : Int)), (3, .int .i64 ((b : Nat) : Int)), (4, .func (.func 21) #[] #[.pointer (some ⟨bi, 0, none⟩), .pointer (some ⟨bo, 0, none⟩), .pointer (some ⟨bs, 0, none⟩)]), (18, .int .i64 ((mid : Nat) : Int))]) (mem' := fun _ => [(1, .osl od cd 3 1 (encI l)), (2, .cells bi 23 [.slice oi infos.length ci]), (3, .cells bo 22 [.slice oo osds.length co]), (4, .cells bs 3 [.int .i64 self]), (5, .rd oi 6 (encInf infos)), (6, .rd oo 1 (encI osds))]) (RunsTo.mk [(2, { sp := some (.int .i64 ((a + b : Nat) : Int)) }), (3, { sp := some (.int .u64 ((a + b : Nat) : Int)) }), (4, { sp := some (.int .u64 ((mid : Nat) : Int)) }), (5, { sp := some (.int .i64 ((mid : Nat) : Int)) })] [0, 1, 2, 3, 4, 18] [1, 2, 3, 4, 5, 6] (fun _ => [(.int .i64 (IntKind.i64.wrap (((a : Nat) : Int) + ((b : Nat) : Int))) : Value) = .int .i64 ((a + b : Nat) : Int), (.int .u64 (IntKind.u64.wrap ((a + b : Nat) : Int)) : Value) = .int .u64 ((a + b : Nat) : Int), (.int .u64 (Int.fdiv ((a + b : Nat) : Int) (2 ^ 1)) : Value) = .int .u64 ((mid : Nat) : Int), (.int .i64 (IntKind.i64.wrap ((mid : Nat) : Int)) : Value) = .int .i64 ((mid : Nat) : Int)]) (fun _ => by kernel_rfl) (fun _ => ⟨w64 (by omega) (by omega) (by omega), int_eq (u64_nat (by omega)), int_eq (by rw [hmid]; exact shr_nat (a + b) 1), w64 (by omega) (by omega) (by omega), trivial⟩)) ?_
        intro _
        refine GS.seq ?_
        -- region 25, zsortanyfunc.go:428
        refine GS.region (env' := fun _ => [(0, .slice od len cd), (1, .int .i64 ((a : Nat) : Int)), (2, .int .i64 ((m : Nat) : Int)), (3, .int .i64 ((b : Nat) : Int)), (4, .func (.func 21) #[] #[.pointer (some ⟨bi, 0, none⟩), .pointer (some ⟨bo, 0, none⟩), .pointer (some ⟨bs, 0, none⟩)]), (18, .int .i64 ((mid : Nat) : Int)), (19, .int .i64 ((mid + m : Nat) : Int))]) (mem' := fun _ => [(1, .osl od cd 3 1 (encI l)), (2, .cells bi 23 [.slice oi infos.length ci]), (3, .cells bo 22 [.slice oo osds.length co]), (4, .cells bs 3 [.int .i64 self]), (5, .rd oi 6 (encInf infos)), (6, .rd oo 1 (encI osds))]) (RunsTo.mk [(2, { sp := some (.int .i64 ((mid + m : Nat) : Int)) })] [0, 1, 2, 3, 4, 18, 19] [1, 2, 3, 4, 5, 6] (fun _ => [(.int .i64 (IntKind.i64.wrap (((mid : Nat) : Int) + ((m : Nat) : Int))) : Value) = .int .i64 ((mid + m : Nat) : Int)]) (fun _ => by kernel_rfl) (fun _ => ⟨w64 (by omega) (by omega) (by omega), trivial⟩)) ?_
        intro _
        refine GS.seq ?_
        -- region 26, zsortanyfunc.go:429
        refine GS.region (env' := fun _ => [(0, .slice od len cd), (1, .int .i64 ((a : Nat) : Int)), (2, .int .i64 ((m : Nat) : Int)), (3, .int .i64 ((b : Nat) : Int)), (4, .func (.func 21) #[] #[.pointer (some ⟨bi, 0, none⟩), .pointer (some ⟨bo, 0, none⟩), .pointer (some ⟨bs, 0, none⟩)]), (18, .int .i64 ((mid : Nat) : Int)), (19, .int .i64 ((mid + m : Nat) : Int))]) (mem' := fun _ => [(1, .osl od cd 3 1 (encI l)), (2, .cells bi 23 [.slice oi infos.length ci]), (3, .cells bo 22 [.slice oo osds.length co]), (4, .cells bs 3 [.int .i64 self]), (5, .rd oi 6 (encInf infos)), (6, .rd oo 1 (encI osds))]) (RunsTo.mk [(0, { sp := some (.int .i64 0) }), (1, { sp := some (.int .i64 0) })] [0, 1, 2, 3, 4, 18, 19] [1, 2, 3, 4, 5, 6] (fun _ => [(.int .i64 0 : Value) = .int .i64 0, (.int .i64 0 : Value) = .int .i64 0]) (fun _ => by kernel_rfl) (fun _ => ⟨rfl, rfl, trivial⟩)) ?_
        intro _
        refine GS.seq ?_
        refine GS.seq ?_
        -- region 27, zsortanyfunc.go:430
        refine GS.region (env' := fun _ => [(0, .slice od len cd), (1, .int .i64 ((a : Nat) : Int)), (2, .int .i64 ((m : Nat) : Int)), (3, .int .i64 ((b : Nat) : Int)), (4, .func (.func 21) #[] #[.pointer (some ⟨bi, 0, none⟩), .pointer (some ⟨bo, 0, none⟩), .pointer (some ⟨bs, 0, none⟩)]), (18, .int .i64 ((mid : Nat) : Int)), (19, .int .i64 ((mid + m : Nat) : Int)), (140, .bool (decide (((m : Nat) : Int) > ((mid : Nat) : Int))))]) (mem' := fun _ => [(1, .osl od cd 3 1 (encI l)), (2, .cells bi 23 [.slice oi infos.length ci]), (3, .cells bo 22 [.slice oo osds.length co]), (4, .cells bs 3 [.int .i64 self]), (5, .rd oi 6 (encInf infos)), (6, .rd oo 1 (encI osds))]) (RunsTo.mk [] [0, 1, 2, 3, 4, 18, 19, 140] [1, 2, 3, 4, 5, 6] (fun _ => []) (fun _ => by kernel_rfl) (fun _ => trivial)) ?_
        intro _
        refine GS.cut (ι := Nat × Nat) (I := fun ⟨s0, r0⟩ => (mid < m ∧ s0 = mid + m - b ∧ r0 = mid) ∨ (m ≤ mid ∧ s0 = a ∧ r0 = m)) (E := fun ⟨s0, r0⟩ => [(0, .slice od len cd), (1, .int .i64 ((a : Nat) : Int)), (2, .int .i64 ((m : Nat) : Int)), (3, .int .i64 ((b : Nat) : Int)), (4, .func (.func 21) #[] #[.pointer (some ⟨bi, 0, none⟩), .pointer (some ⟨bo, 0, none⟩), .pointer (some ⟨bs, 0, none⟩)]), (18, .int .i64 ((mid : Nat) : Int)), (19, .int .i64 ((mid + m : Nat) : Int)), (20, .int .i64 ((s0 : Nat) : Int)), (21, .int .i64 ((r0 : Nat) : Int))]) (M := fun ⟨s0, r0⟩ => [(1, .osl od cd 3 1 (encI l)), (2, .cells bi 23 [.slice oi infos.length ci]), (3, .cells bo 22 [.slice oo osds.length co]), (4, .cells bs 3 [.int .i64 self]), (5, .rd oi 6 (encInf infos)), (6, .rd oo 1 (encI osds))]) ?_ ?_
        rotate_left
        · intro H0
          refine GS.cond (t := decide (((m : Nat) : Int) > ((mid : Nat) : Int))) rfl rfl (fun h3 => ?_) (fun h3 => ?_)
          · replace h3 := of_decide_eq_true h3
            refine GS.seq ?_
            -- region 28, zsortanyfunc.go:431
            refine GS.region (env' := fun _ => [(0, .slice od len cd), (1, .int .i64 ((a : Nat) : Int)), (2, .int .i64 ((m : Nat) : Int)), (3, .int .i64 ((b : Nat) : Int)), (4, .func (.func 21) #[] #[.pointer (some ⟨bi, 0, none⟩), .pointer (some ⟨bo, 0, none⟩), .pointer (some ⟨bs, 0, none⟩)]), (18, .int .i64 ((mid : Nat) : Int)), (19, .int .i64 ((mid + m : Nat) : Int)), (20, .int .i64 ((mid + m - b : Nat) : Int))]) (mem' := fun _ => [(1, .osl od cd 3 1 (encI l)), (2, .cells bi 23 [.slice oi infos.length ci]), (3, .cells bo 22 [.slice oo osds.length co]), (4, .cells bs 3 [.int .i64 self]), (5, .rd oi 6 (encInf infos)), (6, .rd oo 1 (encI osds))]) (RunsTo.mk [(2, { sp := some (.int .i64 ((mid + m - b : Nat) : Int)) })] [0, 1, 2, 3, 4, 18, 19, 20] [1, 2, 3, 4, 5, 6] (fun _ => [(.int .i64 (IntKind.i64.wrap (((mid + m : Nat) : Int) - ((b : Nat) : Int))) : Value) = .int .i64 ((mid + m - b : Nat) : Int)]) (fun _ => by kernel_rfl) (fun _ => ⟨w64 (by omega) (by omega) (by omega), trivial⟩)) ?_
            intro _
            -- region 29, zsortanyfunc.go:432
            refine GS.region (env' := fun _ => [(0, .slice od len cd), (1, .int .i64 ((a : Nat) : Int)), (2, .int .i64 ((m : Nat) : Int)), (3, .int .i64 ((b : Nat) : Int)), (4, .func (.func 21) #[] #[.pointer (some ⟨bi, 0, none⟩), .pointer (some ⟨bo, 0, none⟩), .pointer (some ⟨bs, 0, none⟩)]), (18, .int .i64 ((mid : Nat) : Int)), (19, .int .i64 ((mid + m : Nat) : Int)), (20, .int .i64 ((mid + m - b : Nat) : Int)), (21, .int .i64 ((mid : Nat) : Int))]) (mem' := fun _ => [(1, .osl od cd 3 1 (encI l)), (2, .cells bi 23 [.slice oi infos.length ci]), (3, .cells bo 22 [.slice oo osds.length co]), (4, .cells bs 3 [.int .i64 self]), (5, .rd oi 6 (encInf infos)), (6, .rd oo 1 (encI osds))]) (RunsTo.mk [] [0, 1, 2, 3, 4, 18, 19, 20, 21] [1, 2, 3, 4, 5, 6] (fun _ => []) (fun _ => by kernel_rfl) (fun _ => trivial)) ?_
            intro _
            exact H0 ⟨(mid + m - b), mid⟩ (Or.inl ⟨by omega, rfl, rfl⟩)
          · replace h3 := of_decide_eq_false h3
            refine GS.seq ?_
            -- region 30, zsortanyfunc.go:434
            refine GS.region (env' := fun _ => [(0, .slice od len cd), (1, .int .i64 ((a : Nat) : Int)), (2, .int .i64 ((m : Nat) : Int)), (3, .int .i64 ((b : Nat) : Int)), (4, .func (.func 21) #[] #[.pointer (some ⟨bi, 0, none⟩), .pointer (some ⟨bo, 0, none⟩), .pointer (some ⟨bs, 0, none⟩)]), (18, .int .i64 ((mid : Nat) : Int)), (19, .int .i64 ((mid + m : Nat) : Int)), (20, .int .i64 ((a : Nat) : Int))]) (mem' := fun _ => [(1, .osl od cd 3 1 (encI l)), (2, .cells bi 23 [.slice oi infos.length ci]), (3, .cells bo 22 [.slice oo osds.length co]), (4, .cells bs 3 [.int .i64 self]), (5, .rd oi 6 (encInf infos)), (6, .rd oo 1 (encI osds))]) (RunsTo.mk [] [0, 1, 2, 3, 4, 18, 19, 20] [1, 2, 3, 4, 5, 6] (fun _ => []) (fun _ => by kernel_rfl) (fun _ => trivial)) ?_
            intro _
            -- region 31, zsortanyfunc.go:435
            refine GS.region (env' := fun _ => [(0, .slice od len cd), (1, .int .i64 ((a : Nat) : Int)), (2, .int .i64 ((m : Nat) : Int)), (3, .int .i64 ((b : Nat) : Int)), (4, .func (.func 21) #[] #[.pointer (some ⟨bi, 0, none⟩), .pointer (some ⟨bo, 0, none⟩), .pointer (some ⟨bs, 0, none⟩)]), (18, .int .i64 ((mid : Nat) : Int)), (19, .int .i64 ((mid + m : Nat) : Int)), (20, .int .i64 ((a : Nat) : Int)), (21, .int .i64 ((m : Nat) : Int))]) (mem' := fun _ => [(1, .osl od cd 3 1 (encI l)), (2, .cells bi 23 [.slice oi infos.length ci]), (3, .cells bo 22 [.slice oo osds.length co]), (4, .cells bs 3 [.int .i64 self]), (5, .rd oi 6 (encInf infos)), (6, .rd oo 1 (encI osds))]) (RunsTo.mk [] [0, 1, 2, 3, 4, 18, 19, 20, 21] [1, 2, 3, 4, 5, 6] (fun _ => []) (fun _ => by kernel_rfl) (fun _ => trivial)) ?_
            intro _
            exact H0 ⟨a, m⟩ (Or.inr ⟨by omega, rfl, rfl⟩)
        · rintro ⟨s0, r0⟩ hsr
          refine GS.seq ?_
          -- region 32, zsortanyfunc.go:437
          refine GS.region (env' := fun _ => [(0, .slice od len cd), (1, .int .i64 ((a : Nat) : Int)), (2, .int .i64 ((m : Nat) : Int)), (3, .int .i64 ((b : Nat) : Int)), (4, .func (.func 21) #[] #[.pointer (some ⟨bi, 0, none⟩), .pointer (some ⟨bo, 0, none⟩), .pointer (some ⟨bs, 0, none⟩)]), (18, .int .i64 ((mid : Nat) : Int)), (19, .int .i64 ((mid + m : Nat) : Int)), (20, .int .i64 ((s0 : Nat) : Int)), (21, .int .i64 ((r0 : Nat) : Int)), (22, .int .i64 ((mid + m - 1 : Nat) : Int))]) (mem' := fun _ => [(1, .osl od cd 3 1 (encI l)), (2, .cells bi 23 [.slice oi infos.length ci]), (3, .cells bo 22 [.slice oo osds.length co]), (4, .cells bs 3 [.int .i64 self]), (5, .rd oi 6 (encInf infos)), (6, .rd oo 1 (encI osds))]) (RunsTo.mk [(1, { sp := some (.int .i64 ((mid + m - 1 : Nat) : Int)) })] [0, 1, 2, 3, 4, 18, 19, 20, 21, 22] [1, 2, 3, 4, 5, 6] (fun _ => [(.int .i64 (IntKind.i64.wrap (((mid + m : Nat) : Int) - 1)) : Value) = .int .i64 ((mid + m - 1 : Nat) : Int)]) (fun _ => by kernel_rfl) (fun _ => ⟨w64 (by omega) (by omega) (by omega), trivial⟩)) ?_
          intro _
          refine GS.seq ?_
          refine GS.block ?_
          refine GS.loop ?_
          refine GS.loopInv (ι := Nat × Nat) (I := fun ⟨s, r⟩ => s0 ≤ s ∧ s ≤ r ∧ r ≤ r0 ∧ (s = s0 ∨ (ltI osds infos self) (l.getD (mid + m - s) 0) (l.getD (s - 1) 0) = false) ∧ (r = r0 ∨ (ltI osds infos self) (l.getD (mid + m - 1 - r) 0) (l.getD r 0) = true)) (μ := fun ⟨s, r⟩ => r - s) (E := fun ⟨s, r⟩ => [(0, .slice od len cd), (1, .int .i64 ((a : Nat) : Int)), (2, .int .i64 ((m : Nat) : Int)), (3, .int .i64 ((b : Nat) : Int)), (4, .func (.func 21) #[] #[.pointer (some ⟨bi, 0, none⟩), .pointer (some ⟨bo, 0, none⟩), .pointer (some ⟨bs, 0, none⟩)]), (18, .int .i64 ((mid : Nat) : Int)), (19, .int .i64 ((mid + m : Nat) : Int)), (20, .int .i64 ((s : Nat) : Int)), (21, .int .i64 ((r : Nat) : Int)), (22, .int .i64 ((mid + m - 1 : Nat) : Int))]) (M := fun ⟨s, r⟩ => [(1, .osl od cd 3 1 (encI l)), (2, .cells bi 23 [.slice oi infos.length ci]), (3, .cells bo 22 [.slice oo osds.length co]), (4, .cells bs 3 [.int .i64 self]), (5, .rd oi 6 (encInf infos)), (6, .rd oo 1 (encI osds))]) ?_ ⟨s0, r0⟩ ⟨by omega, by omega, by omega, .inl rfl, .inl rfl⟩
          rintro ⟨s, r⟩ ⟨i1, i2, i3, i4, i5⟩ ih
          refine GS.seq ?_
          refine GS.seq ?_
          -- region 33, zsortanyfunc.go:439
          refine GS.region (env' := fun _ => [(0, .slice od len cd), (1, .int .i64 ((a : Nat) : Int)), (2, .int .i64 ((m : Nat) : Int)), (3, .int .i64 ((b : Nat) : Int)), (4, .func (.func 21) #[] #[.pointer (some ⟨bi, 0, none⟩), .pointer (some ⟨bo, 0, none⟩), .pointer (some ⟨bs, 0, none⟩)]), (18, .int .i64 ((mid : Nat) : Int)), (19, .int .i64 ((mid + m : Nat) : Int)), (20, .int .i64 ((s : Nat) : Int)), (21, .int .i64 ((r : Nat) : Int)), (22, .int .i64 ((mid + m - 1 : Nat) : Int)), (151, .bool (decide (((s : Nat) : Int) < ((r : Nat) : Int))))]) (mem' := fun _ => [(1, .osl od cd 3 1 (encI l)), (2, .cells bi 23 [.slice oi infos.length ci]), (3, .cells bo 22 [.slice oo osds.length co]), (4, .cells bs 3 [.int .i64 self]), (5, .rd oi 6 (encInf infos)), (6, .rd oo 1 (encI osds))]) (RunsTo.mk [] [0, 1, 2, 3, 4, 18, 19, 20, 21, 22, 151] [1, 2, 3, 4, 5, 6] (fun _ => []) (fun _ => by kernel_rfl) (fun _ => trivial)) ?_
          intro _
          refine GS.cond (t := decide (((s : Nat) : Int) < ((r : Nat) : Int))) rfl rfl (fun h4 => ?_) (fun h4 => ?_)
          · replace h4 := of_decide_eq_true h4
            obtain ⟨q, hq⟩ : ∃ q, q = (s + r) / 2 := ⟨_, rfl⟩
            have hv1 := hv q (by omega)
            have hv2 := hv (mid + m - 1 - q) (by omega)
            refine GS.skip ?_
            refine GS.block ?_
            refine GS.seq ?_
            -- region 34, zsortanyfunc.go:440
            refine GS.region (env' := fun _ => [(0, .slice od len cd), (1, .int .i64 ((a : Nat) : Int)), (2, .int .i64 ((m : Nat) : Int)), (3, .int .i64 ((b : Nat) : Int)), (4, .func (.func 21) #[] #[.pointer (some ⟨bi, 0, none⟩), .pointer (some ⟨bo, 0, none⟩), .pointer (some ⟨bs, 0, none⟩)]), (18, .int .i64 ((mid : Nat) : Int)), (19, .int .i64 ((mid + m : Nat) : Int)), (20, .int .i64 ((s : Nat) : Int)), (21, .int .i64 ((r : Nat) : Int)), (22, .int .i64 ((mid + m - 1 : Nat) : Int)), (23, .int .i64 ((q : Nat) : Int))]) (mem' := fun _ => [(1, .osl od cd 3 1 (encI l)), (2, .cells bi 23 [.slice oi infos.length ci]), (3, .cells bo 22 [.slice oo osds.length co]), (4, .cells bs 3 [.int .i64 self]), (5, .rd oi 6 (encInf infos)), (6, .rd oo 1 (encI osds))]) (RunsTo.mk [(2, { sp := some (.int .i64 ((s + r : Nat) : Int)) }), (3, { sp := some (.int .u64 ((s + r : Nat) : Int)) }), (4, { sp := some (.int .u64 ((q : Nat) : Int)) }), (5, { sp := some (.int .i64 ((q : Nat) : Int)) })] [0, 1, 2, 3, 4, 18, 19, 20, 21, 22, 23] [1, 2, 3, 4, 5, 6] (fun _ => [(.int .i64 (IntKind.i64.wrap (((s : Nat) : Int) + ((r : Nat) : Int))) : Value) = .int .i64 ((s + r : Nat) : Int), (.int .u64 (IntKind.u64.wrap ((s + r : Nat) : Int)) : Value) = .int .u64 ((s + r : Nat) : Int), (.int .u64 (Int.fdiv ((s + r : Nat) : Int) (2 ^ 1)) : Value) = .int .u64 ((q : Nat) : Int), (.int .i64 (IntKind.i64.wrap ((q : Nat) : Int)) : Value) = .int .i64 ((q : Nat) : Int)]) (fun _ => by kernel_rfl) (fun _ => ⟨w64 (by omega) (by omega) (by omega), int_eq (u64_nat (by omega)), int_eq (by rw [hq]; exact shr_nat (s + r) 1), w64 (by omega) (by omega) (by omega), trivial⟩)) ?_
            intro _
            refine GS.seq ?_
            -- region 35, zsortanyfunc.go:441
            refine GS.region (env' := fun _ => [(0, .slice od len cd), (1, .int .i64 ((a : Nat) : Int)), (2, .int .i64 ((m : Nat) : Int)), (3, .int .i64 ((b : Nat) : Int)), (4, .func (.func 21) #[] #[.pointer (some ⟨bi, 0, none⟩), .pointer (some ⟨bo, 0, none⟩), .pointer (some ⟨bs, 0, none⟩)]), (18, .int .i64 ((mid : Nat) : Int)), (19, .int .i64 ((mid + m : Nat) : Int)), (20, .int .i64 ((s : Nat) : Int)), (21, .int .i64 ((r : Nat) : Int)), (22, .int .i64 ((mid + m - 1 : Nat) : Int)), (23, .int .i64 ((q : Nat) : Int)), (171, .bool (!(decide ((rankF osds infos self (Int.toNat (l.getD (mid + m - 1 - q) 0)) (Int.toNat (l.getD q 0))) < 0))))]) (mem' := fun _ => [(1, .osl od cd 3 1 (encI l)), (2, .cells bi 23 [.slice oi infos.length ci]), (3, .cells bo 22 [.slice oo osds.length co]), (4, .cells bs 3 [.int .i64 self]), (5, .rd oi 6 (encInf infos)), (6, .rd oo 1 (encI osds))]) (RunsTo.mkd [(4, { sp := some (.int .i64 ((mid + m - 1 - q : Nat) : Int)) }), (5, { act := .idx 1 (mid + m - 1 - q) }), (6, { act := .load 1 (mid + m - 1 - q) 0 [.int .i64 (l.getD (mid + m - 1 - q) 0)] }), (9, { act := .idx 1 q }), (10, { act := .load 1 q 0 [.int .i64 (l.getD q 0)] }), (11, { act := .call [5, 6, 2, 3, 4] (.int .i64 (rankF osds infos self (Int.toNat (l.getD (mid + m - 1 - q) 0)) (Int.toNat (l.getD q 0)))) })] [0, 1, 2, 3, 4, 18, 19, 20, 21, 22, 23, 171] [1, 2, 3, 4, 5, 6] (fun _ => [(.int .i64 (IntKind.i64.wrap (((mid + m - 1 : Nat) : Int) - ((q : Nat) : Int))) : Value) = .int .i64 ((mid + m - 1 - q : Nat) : Int), od = od, len = (encI l).length, (((mid + m - 1 - q : Nat) : Int) : Int) = (((mid + m - 1 - q) : Nat) : Int), (mid + m - 1 - q) < len, blk od = blk od, offs od + (mid + m - 1 - q) * 1 = offs od + ((mid + m - 1 - q) * 1 + 0), (encI l)[(mid + m - 1 - q)]? = some [.int .i64 (l.getD (mid + m - 1 - q) 0)], od = od, len = (encI l).length, (((q : Nat) : Int) : Int) = ((q : Nat) : Int), q < len, blk od = blk od, offs od + q * 1 = offs od + (q * 1 + 0), (encI l)[q]? = some [.int .i64 (l.getD q 0)], CallOK Try.prog 21 #[.int .i64 (l.getD (mid + m - 1 - q) 0), .int .i64 (l.getD q 0), .pointer (some ⟨bi, 0, none⟩), .pointer (some ⟨bo, 0, none⟩), .pointer (some ⟨bs, 0, none⟩)] (.int .i64 (rankF osds infos self (Int.toNat (l.getD (mid + m - 1 - q) 0)) (Int.toNat (l.getD q 0)))) [some (.rd oi 6 (encInf infos)), some (.rd oo 1 (encI osds)), some (.cells bi 23 [.slice oi infos.length ci]), some (.cells bo 22 [.slice oo osds.length co]), some (.cells bs 3 [.int .i64 self])]]) (by kernel_rfl) (by kernel_rfl) (fun _ => by kernel_rfl) (fun _ => ⟨w64 (by omega) (by omega) (by omega), rfl, (by rw [← encI_len]; omega), rfl, by omega, rfl, rfl, encI_at (by omega), rfl, (by rw [← encI_len]; omega), rfl, by omega, rfl, rfl, encI_at (by omega), (clos_ok bi bo bs oi oo ci co infos osds self (l.getD (mid + m - 1 - q) 0) (l.getD q 0) (by omega) (by omega) (by omega) (by omega) (by omega) (by omega)).weak (by intro w h E hE; simp only [List.mem_cons, Option.some.injEq, List.not_mem_nil, or_false] at hE; exact hE.elim (fun e => by rw [e]; exact h _ (by simp)) (fun q => q.elim (fun e => by rw [e]; exact h _ (by simp)) (fun q => q.elim (fun e => by rw [e]; exact Ent.cells_rd (h (.cells bi 23 [.slice oi infos.length ci]) (by simp))) (fun q => q.elim (fun e => by rw [e]; exact Ent.cells_rd (h (.cells bo 22 [.slice oo osds.length co]) (by simp))) (fun e => by rw [e]; exact Ent.cells_rd (h (.cells bs 3 [.int .i64 self]) (by simp))))))), trivial⟩)) ?_
            intro _
            refine GS.cond (t := !(decide ((rankF osds infos self (Int.toNat (l.getD (mid + m - 1 - q) 0)) (Int.toNat (l.getD q 0))) < 0))) rfl rfl (fun h5 => ?_) (fun h5 => ?_)
            · skip
              -- region 36, zsortanyfunc.go:442
              refine GS.region (env' := fun _ => [(0, .slice od len cd), (1, .int .i64 ((a : Nat) : Int)), (2, .int .i64 ((m : Nat) : Int)), (3, .int .i64 ((b : Nat) : Int)), (4, .func (.func 21) #[] #[.pointer (some ⟨bi, 0, none⟩), .pointer (some ⟨bo, 0, none⟩), .pointer (some ⟨bs, 0, none⟩)]), (18, .int .i64 ((mid : Nat) : Int)), (19, .int .i64 ((mid + m : Nat) : Int)), (20, .int .i64 ((q + 1 : Nat) : Int)), (21, .int .i64 ((r : Nat) : Int)), (22, .int .i64 ((mid + m - 1 : Nat) : Int))]) (mem' := fun _ => [(1, .osl od cd 3 1 (encI l)), (2, .cells bi 23 [.slice oi infos.length ci]), (3, .cells bo 22 [.slice oo osds.length co]), (4, .cells bs 3 [.int .i64 self]), (5, .rd oi 6 (encInf infos)), (6, .rd oo 1 (encI osds))]) (RunsTo.mk [(1, { sp := some (.int .i64 ((q + 1 : Nat) : Int)) })] [0, 1, 2, 3, 4, 18, 19, 20, 21, 22] [1, 2, 3, 4, 5, 6] (fun _ => [(.int .i64 (IntKind.i64.wrap (((q : Nat) : Int) + 1)) : Value) = .int .i64 ((q + 1 : Nat) : Int)]) (fun _ => by kernel_rfl) (fun _ => ⟨w64 (by omega) (by omega) (by omega), trivial⟩)) ?_
              intro _
              refine GS.inBlock ?_
              refine GS.inLoop ?_
              exact ih ⟨q + 1, r⟩ ⟨by omega, by omega, by omega, .inr (by rw [show q + 1 - 1 = q by omega, show mid + m - (q + 1) = mid + m - 1 - q by omega]; exact not_true_f h5), i5⟩ (show r - (q + 1) < r - s from by omega)
            · skip
              -- region 37, zsortanyfunc.go:444
              refine GS.region (env' := fun _ => [(0, .slice od len cd), (1, .int .i64 ((a : Nat) : Int)), (2, .int .i64 ((m : Nat) : Int)), (3, .int .i64 ((b : Nat) : Int)), (4, .func (.func 21) #[] #[.pointer (some ⟨bi, 0, none⟩), .pointer (some ⟨bo, 0, none⟩), .pointer (some ⟨bs, 0, none⟩)]), (18, .int .i64 ((mid : Nat) : Int)), (19, .int .i64 ((mid + m : Nat) : Int)), (20, .int .i64 ((s : Nat) : Int)), (21, .int .i64 ((q : Nat) : Int)), (22, .int .i64 ((mid + m - 1 : Nat) : Int))]) (mem' := fun _ => [(1, .osl od cd 3 1 (encI l)), (2, .cells bi 23 [.slice oi infos.length ci]), (3, .cells bo 22 [.slice oo osds.length co]), (4, .cells bs 3 [.int .i64 self]), (5, .rd oi 6 (encInf infos)), (6, .rd oo 1 (encI osds))]) (RunsTo.mk [] [0, 1, 2, 3, 4, 18, 19, 20, 21, 22] [1, 2, 3, 4, 5, 6] (fun _ => []) (fun _ => by kernel_rfl) (fun _ => trivial)) ?_
              intro _
              refine GS.inBlock ?_
              refine GS.inLoop ?_
              exact ih ⟨s, q⟩ ⟨by omega, by omega, by omega, i4, .inr (not_false_t h5)⟩ (show q - s < r - s from by omega)
          · replace h4 := of_decide_eq_false h4
            have hsr : r = s := by omega
            rw [hsr] at i5
            obtain ⟨e, he⟩ : ∃ e, e = mid + m - s := ⟨_, rfl⟩
            have g1 : a ≤ s := by omega
            have g2 : s ≤ m := by omega
            have g3 : m ≤ e := by omega
            have g4 : e ≤ b := by omega
            have g5 : s + (e - m) = mid := by omega
            have k1 : s = m ∨ e = m ∨ ltI osds infos self (l.getD (e - 1) 0) (l.getD s 0) = true := by
              rcases i5 with h | h
              · omega
              · exact .inr (.inr (by rw [show e - 1 = mid + m - 1 - s by omega]; exact h))
            have k2 : s = a ∨ e = b ∨ ltI osds infos self (l.getD e 0) (l.getD (s - 1) 0) = false := by
              rcases i4 with h | h
              · omega
              · exact .inr (.inr (by rw [he]; exact h))
            obtain ⟨hY, hX⟩ := cut_facts 0 _ hord hv (by omega) g1 g2 g3 g4 hr1 hr2 k1 k2
            refine GS.exit rfl ?_
            refine GS.seq ?_
            -- region 38, zsortanyfunc.go:448
            refine GS.region (env' := fun _ => [(0, .slice od len cd), (1, .int .i64 ((a : Nat) : Int)), (2, .int .i64 ((m : Nat) : Int)), (3, .int .i64 ((b : Nat) : Int)), (4, .func (.func 21) #[] #[.pointer (some ⟨bi, 0, none⟩), .pointer (some ⟨bo, 0, none⟩), .pointer (some ⟨bs, 0, none⟩)]), (18, .int .i64 ((mid : Nat) : Int)), (20, .int .i64 ((s : Nat) : Int)), (24, .int .i64 ((e : Nat) : Int))]) (mem' := fun _ => [(1, .osl od cd 3 1 (encI l)), (2, .cells bi 23 [.slice oi infos.length ci]), (3, .cells bo 22 [.slice oo osds.length co]), (4, .cells bs 3 [.int .i64 self]), (5, .rd oi 6 (encInf infos)), (6, .rd oo 1 (encI osds))]) (RunsTo.mk [(2, { sp := some (.int .i64 ((e : Nat) : Int)) })] [0, 1, 2, 3, 4, 18, 20, 24] [1, 2, 3, 4, 5, 6] (fun _ => [(.int .i64 (IntKind.i64.wrap (((mid + m : Nat) : Int) - ((s : Nat) : Int))) : Value) = .int .i64 ((e : Nat) : Int)]) (fun _ => by kernel_rfl) (fun _ => ⟨w64 (by omega) (by omega) (by omega), trivial⟩)) ?_
            intro _
            refine GS.seq ?_
            refine GS.seq ?_
            -- region 39, zsortanyfunc.go:449
            refine GS.region (env' := fun _ => [(0, .slice od len cd), (1, .int .i64 ((a : Nat) : Int)), (2, .int .i64 ((m : Nat) : Int)), (3, .int .i64 ((b : Nat) : Int)), (4, .func (.func 21) #[] #[.pointer (some ⟨bi, 0, none⟩), .pointer (some ⟨bo, 0, none⟩), .pointer (some ⟨bs, 0, none⟩)]), (18, .int .i64 ((mid : Nat) : Int)), (20, .int .i64 ((s : Nat) : Int)), (24, .int .i64 ((e : Nat) : Int)), (185, .bool ((decide (((s : Nat) : Int) < ((m : Nat) : Int))) && (decide (((m : Nat) : Int) < ((e : Nat) : Int)))))]) (mem' := fun _ => [(1, .osl od cd 3 1 (encI l)), (2, .cells bi 23 [.slice oi infos.length ci]), (3, .cells bo 22 [.slice oo osds.length co]), (4, .cells bs 3 [.int .i64 self]), (5, .rd oi 6 (encInf infos)), (6, .rd oo 1 (encI osds))]) ?_ ?_
            · rcases Bool.eq_false_or_eq_true (decide (((s : Nat) : Int) < ((m : Nat) : Int))) with hg0 | hg0
              · have hg0' := of_decide_eq_true hg0
                exact RunsTo.mk [(3, { sp := some (.bool true) }), (7, { sp := some (.bool ((decide (((s : Nat) : Int) < ((m : Nat) : Int))) && (decide (((m : Nat) : Int) < ((e : Nat) : Int))))) })] [0, 1, 2, 3, 4, 18, 20, 24, 185] [1, 2, 3, 4, 5, 6] (fun _ => [((.bool (decide (((s : Nat) : Int) < ((m : Nat) : Int)))) : Value) = .bool true, ((.bool (decide (((m : Nat) : Int) < ((e : Nat) : Int)))) : Value) = .bool ((decide (((s : Nat) : Int) < ((m : Nat) : Int))) && (decide (((m : Nat) : Int) < ((e : Nat) : Int))))]) (fun _ => by kernel_rfl) (fun _ => ⟨bool_eq (by assumption), bool_eq (by first | (simp only [hg0, Bool.true_and, Bool.false_and, Bool.and_true, Bool.and_false, Bool.true_or, Bool.false_or, Bool.or_true, Bool.or_false, Bool.not_true, Bool.not_false]) | simp [hg0]), trivial⟩)
              · have hg0' := of_decide_eq_false hg0
                exact RunsTo.mk [(3, { sp := some (.bool false) }), (7, { sp := some (.bool ((decide (((s : Nat) : Int) < ((m : Nat) : Int))) && (decide (((m : Nat) : Int) < ((e : Nat) : Int))))) })] [0, 1, 2, 3, 4, 18, 20, 24, 185] [1, 2, 3, 4, 5, 6] (fun _ => [((.bool (decide (((s : Nat) : Int) < ((m : Nat) : Int)))) : Value) = .bool false, ((.bool false) : Value) = .bool ((decide (((s : Nat) : Int) < ((m : Nat) : Int))) && (decide (((m : Nat) : Int) < ((e : Nat) : Int))))]) (fun _ => by kernel_rfl) (fun _ => ⟨bool_eq (by assumption), bool_eq (by first | (simp only [hg0, Bool.true_and, Bool.false_and, Bool.and_true, Bool.and_false, Bool.true_or, Bool.false_or, Bool.or_true, Bool.or_false, Bool.not_true, Bool.not_false]) | simp [hg0]), trivial⟩)
            intro _
            refine GS.cut (ι := List Int) (I := fun (L1 : List Int) => RotP 0 l s m e L1) (E := fun (L1 : List Int) => [(0, .slice od len cd), (1, .int .i64 ((a : Nat) : Int)), (3, .int .i64 ((b : Nat) : Int)), (4, .func (.func 21) #[] #[.pointer (some ⟨bi, 0, none⟩), .pointer (some ⟨bo, 0, none⟩), .pointer (some ⟨bs, 0, none⟩)]), (18, .int .i64 ((mid : Nat) : Int)), (20, .int .i64 ((s : Nat) : Int)), (24, .int .i64 ((e : Nat) : Int))]) (M := fun (L1 : List Int) => [(1, .osl od cd 3 1 (encI L1)), (2, .cells bi 23 [.slice oi infos.length ci]), (3, .cells bo 22 [.slice oo osds.length co]), (4, .cells bs 3 [.int .i64 self]), (5, .rd oi 6 (encInf infos)), (6, .rd oo 1 (encI osds))]) ?_ ?_
            rotate_left
            · intro H0
              refine GS.cond (t := (decide (((s : Nat) : Int) < ((m : Nat) : Int))) && (decide (((m : Nat) : Int) < ((e : Nat) : Int)))) rfl rfl (fun h6 => ?_) (fun h6 => ?_)
              · skip
                simp only [Bool.and_eq_true, decide_eq_true_eq] at h6
                -- region 40, zsortanyfunc.go:450
                refine GS.open_ ?_
                refine GR.run (i := 0) 5 (env' := fun _ => [(0, .slice od len cd), (1, .int .i64 ((a : Nat) : Int)), (3, .int .i64 ((b : Nat) : Int)), (4, .func (.func 21) #[] #[.pointer (some ⟨bi, 0, none⟩), .pointer (some ⟨bo, 0, none⟩), .pointer (some ⟨bs, 0, none⟩)]), (18, .int .i64 ((mid : Nat) : Int)), (20, .int .i64 ((s : Nat) : Int)), (24, .int .i64 ((e : Nat) : Int)), (186, .slice od len cd), (187, .int .i64 ((s : Nat) : Int)), (188, .int .i64 ((m : Nat) : Int)), (189, .int .i64 ((e : Nat) : Int)), (190, .func (.func 21) #[] #[.pointer (some ⟨bi, 0, none⟩), .pointer (some ⟨bo, 0, none⟩), .pointer (some ⟨bs, 0, none⟩)])]) (mem' := fun _ => [(1, .osl od cd 3 1 (encI l)), (2, .cells bi 23 [.slice oi infos.length ci]), (3, .cells bo 22 [.slice oo osds.length co]), (4, .cells bs 3 [.int .i64 self]), (5, .rd oi 6 (encInf infos)), (6, .rd oo 1 (encI osds))]) (Nat.le_of_ble_eq_true (by kernel_rfl)) (RunsTo.mk [] [0, 1, 3, 4, 18, 20, 24, 186, 187, 188, 189, 190] [1, 2, 3, 4, 5, 6] (fun _ => []) (fun _ => by kernel_rfl) (fun _ => trivial)) ?_
                intro _
                refine GR.callT (X := {L' : List Int // RotP 0 l s m e L'}) (i := 5) (g := 30) (args := #[.slice od len cd, .int .i64 ((s : Nat) : Int), .int .i64 ((m : Nat) : Int), .int .i64 ((e : Nat) : Int), .func (.func 21) #[] #[.pointer (some ⟨bi, 0, none⟩), .pointer (some ⟨bo, 0, none⟩), .pointer (some ⟨bs, 0, none⟩)]]) (v := fun (⟨M1, hM1⟩ : {L' : List Int // RotP 0 l s m e L'}) => .tuple #[]) (es := [.osl od cd 3 1 (encI l)]) (es' := fun (⟨M1, hM1⟩ : {L' : List Int // RotP 0 l s m e L'}) => [.osl od cd 3 1 (encI M1)]) (mem' := fun (⟨M1, hM1⟩ : {L' : List Int // RotP 0 l s m e L'}) => [(1, .osl od cd 3 1 (encI M1)), (2, .cells bi 23 [.slice oi infos.length ci]), (3, .cells bo 22 [.slice oo osds.length co]), (4, .cells bs 3 [.int .i64 self]), (5, .rd oi 6 (encInf infos)), (6, .rd oo 1 (encI osds))]) (env' := fun (⟨M1, hM1⟩ : {L' : List Int // RotP 0 l s m e L'}) => [(0, .slice od len cd), (1, .int .i64 ((a : Nat) : Int)), (3, .int .i64 ((b : Nat) : Int)), (4, .func (.func 21) #[] #[.pointer (some ⟨bi, 0, none⟩), .pointer (some ⟨bo, 0, none⟩), .pointer (some ⟨bs, 0, none⟩)]), (18, .int .i64 ((mid : Nat) : Int)), (20, .int .i64 ((s : Nat) : Int)), (24, .int .i64 ((e : Nat) : Int))]) [1] [] [0, 1, 3, 4, 18, 20, 24] [1, 2, 3, 4, 5, 6] (by kernel_rfl) (by kernel_rfl) (by kernel_rfl) (by kernel_rfl) (by kernel_rfl) (by kernel_rfl) (fun _ => rfl) (by rintro ⟨M1, hM1⟩; kernel_rfl) (by rintro ⟨M1, hM1⟩; kernel_rfl) (rot_ok od cd len bi bo bs l s m e (by omega) (by omega) (by omega) (by omega)) ?_
                rintro ⟨M1, hM1⟩
                refine GR.done (Nat.le_of_ble_eq_true (by kernel_rfl)) ?_
                exact H0 M1 hM1
              · skip
                simp only [Bool.and_eq_false_iff, decide_eq_false_iff_not] at h6
                refine GS.skip ?_
                refine GS.trim (env' := [(0, .slice od len cd), (1, .int .i64 ((a : Nat) : Int)), (3, .int .i64 ((b : Nat) : Int)), (4, .func (.func 21) #[] #[.pointer (some ⟨bi, 0, none⟩), .pointer (some ⟨bo, 0, none⟩), .pointer (some ⟨bs, 0, none⟩)]), (18, .int .i64 ((mid : Nat) : Int)), (20, .int .i64 ((s : Nat) : Int)), (24, .int .i64 ((e : Nat) : Int))]) (mem' := [(1, .osl od cd 3 1 (encI l)), (2, .cells bi 23 [.slice oi infos.length ci]), (3, .cells bo 22 [.slice oo osds.length co]), (4, .cells bs 3 [.int .i64 self]), (5, .rd oi 6 (encInf infos)), (6, .rd oo 1 (encI osds))]) [0, 1, 3, 4, 18, 20, 24] [1, 2, 3, 4, 5, 6] (by kernel_rfl) (by kernel_rfl) ?_
                exact H0 l (RotP.triv 0 (by omega) g2 g3)
            · rintro L1 hR
              have hA := RotP.all 0 (S := fun z : Int => 0 ≤ z ∧ z < (mx : Int)) hv hR g2 g3 (by omega)
              have q1 := RotP.rises1 0 _ hR hr1 g2
              have q2 := RotP.rises2 0 _ hR hr2 g4
              have q3 := RotP.rises3 0 _ hR hr1 g1 g3 g2
              have q4 := RotP.rises4 0 _ hR hr2 g3 g2
              have hL1 := hR.1
              rw [g5] at q2 q3
              refine GS.seq ?_
              refine GS.seq ?_
              -- region 41, zsortanyfunc.go:452
              refine GS.region (env' := fun _ => [(0, .slice od len cd), (1, .int .i64 ((a : Nat) : Int)), (3, .int .i64 ((b : Nat) : Int)), (4, .func (.func 21) #[] #[.pointer (some ⟨bi, 0, none⟩), .pointer (some ⟨bo, 0, none⟩), .pointer (some ⟨bs, 0, none⟩)]), (18, .int .i64 ((mid : Nat) : Int)), (20, .int .i64 ((s : Nat) : Int)), (24, .int .i64 ((e : Nat) : Int)), (199, .bool ((decide (((a : Nat) : Int) < ((s : Nat) : Int))) && (decide (((s : Nat) : Int) < ((mid : Nat) : Int)))))]) (mem' := fun _ => [(1, .osl od cd 3 1 (encI L1)), (2, .cells bi 23 [.slice oi infos.length ci]), (3, .cells bo 22 [.slice oo osds.length co]), (4, .cells bs 3 [.int .i64 self]), (5, .rd oi 6 (encInf infos)), (6, .rd oo 1 (encI osds))]) ?_ ?_
              · rcases Bool.eq_false_or_eq_true (decide (((a : Nat) : Int) < ((s : Nat) : Int))) with hg0 | hg0
                · have hg0' := of_decide_eq_true hg0
                  exact RunsTo.mk [(3, { sp := some (.bool true) }), (7, { sp := some (.bool ((decide (((a : Nat) : Int) < ((s : Nat) : Int))) && (decide (((s : Nat) : Int) < ((mid : Nat) : Int))))) })] [0, 1, 3, 4, 18, 20, 24, 199] [1, 2, 3, 4, 5, 6] (fun _ => [((.bool (decide (((a : Nat) : Int) < ((s : Nat) : Int)))) : Value) = .bool true, ((.bool (decide (((s : Nat) : Int) < ((mid : Nat) : Int)))) : Value) = .bool ((decide (((a : Nat) : Int) < ((s : Nat) : Int))) && (decide (((s : Nat) : Int) < ((mid : Nat) : Int))))]) (fun _ => by kernel_rfl) (fun _ => ⟨bool_eq (by assumption), bool_eq (by first | (simp only [hg0, Bool.true_and, Bool.false_and, Bool.and_true, Bool.and_false, Bool.true_or, Bool.false_or, Bool.or_true, Bool.or_false, Bool.not_true, Bool.not_false]) | simp [hg0]), trivial⟩)
                · have hg0' := of_decide_eq_false hg0
                  exact RunsTo.mk [(3, { sp := some (.bool false) }), (7, { sp := some (.bool ((decide (((a : Nat) : Int) < ((s : Nat) : Int))) && (decide (((s : Nat) : Int) < ((mid : Nat) : Int))))) })] [0, 1, 3, 4, 18, 20, 24, 199] [1, 2, 3, 4, 5, 6] (fun _ => [((.bool (decide (((a : Nat) : Int) < ((s : Nat) : Int)))) : Value) = .bool false, ((.bool false) : Value) = .bool ((decide (((a : Nat) : Int) < ((s : Nat) : Int))) && (decide (((s : Nat) : Int) < ((mid : Nat) : Int))))]) (fun _ => by kernel_rfl) (fun _ => ⟨bool_eq (by assumption), bool_eq (by first | (simp only [hg0, Bool.true_and, Bool.false_and, Bool.and_true, Bool.and_false, Bool.true_or, Bool.false_or, Bool.or_true, Bool.or_false, Bool.not_true, Bool.not_false]) | simp [hg0]), trivial⟩)
              intro _
              refine GS.cut (ι := List Int) (I := fun (L2 : List Int) => SymP 0 (ltI osds infos self) L1 a s mid L2) (E := fun (L2 : List Int) => [(0, .slice od len cd), (3, .int .i64 ((b : Nat) : Int)), (4, .func (.func 21) #[] #[.pointer (some ⟨bi, 0, none⟩), .pointer (some ⟨bo, 0, none⟩), .pointer (some ⟨bs, 0, none⟩)]), (18, .int .i64 ((mid : Nat) : Int)), (24, .int .i64 ((e : Nat) : Int))]) (M := fun (L2 : List Int) => [(1, .osl od cd 3 1 (encI L2)), (2, .cells bi 23 [.slice oi infos.length ci]), (3, .cells bo 22 [.slice oo osds.length co]), (4, .cells bs 3 [.int .i64 self]), (5, .rd oi 6 (encInf infos)), (6, .rd oo 1 (encI osds))]) ?_ ?_
              rotate_left
              · intro H0
                refine GS.cond (t := (decide (((a : Nat) : Int) < ((s : Nat) : Int))) && (decide (((s : Nat) : Int) < ((mid : Nat) : Int)))) rfl rfl (fun h7 => ?_) (fun h7 => ?_)
                · skip
                  simp only [Bool.and_eq_true, decide_eq_true_eq] at h7
                  -- region 42, zsortanyfunc.go:453
                  refine GS.open_ ?_
                  refine GR.run (i := 0) 5 (env' := fun _ => [(0, .slice od len cd), (3, .int .i64 ((b : Nat) : Int)), (4, .func (.func 21) #[] #[.pointer (some ⟨bi, 0, none⟩), .pointer (some ⟨bo, 0, none⟩), .pointer (some ⟨bs, 0, none⟩)]), (18, .int .i64 ((mid : Nat) : Int)), (24, .int .i64 ((e : Nat) : Int)), (200, .slice od len cd), (201, .int .i64 ((a : Nat) : Int)), (202, .int .i64 ((s : Nat) : Int)), (203, .int .i64 ((mid : Nat) : Int)), (204, .func (.func 21) #[] #[.pointer (some ⟨bi, 0, none⟩), .pointer (some ⟨bo, 0, none⟩), .pointer (some ⟨bs, 0, none⟩)])]) (mem' := fun _ => [(1, .osl od cd 3 1 (encI L1)), (2, .cells bi 23 [.slice oi infos.length ci]), (3, .cells bo 22 [.slice oo osds.length co]), (4, .cells bs 3 [.int .i64 self]), (5, .rd oi 6 (encInf infos)), (6, .rd oo 1 (encI osds))]) (Nat.le_of_ble_eq_true (by kernel_rfl)) (RunsTo.mk [] [0, 3, 4, 18, 24, 200, 201, 202, 203, 204] [1, 2, 3, 4, 5, 6] (fun _ => []) (fun _ => by kernel_rfl) (fun _ => trivial)) ?_
                  intro _
                  refine GR.callT (X := {L' : List Int // SymP 0 (ltI osds infos self) L1 a s mid L'}) (i := 5) (g := 28) (args := #[.slice od len cd, .int .i64 ((a : Nat) : Int), .int .i64 ((s : Nat) : Int), .int .i64 ((mid : Nat) : Int), .func (.func 21) #[] #[.pointer (some ⟨bi, 0, none⟩), .pointer (some ⟨bo, 0, none⟩), .pointer (some ⟨bs, 0, none⟩)]]) (v := fun (⟨M2, hM2⟩ : {L' : List Int // SymP 0 (ltI osds infos self) L1 a s mid L'}) => .tuple #[]) (es := [.osl od cd 3 1 (encI L1), .cells bi 23 [.slice oi infos.length ci], .cells bo 22 [.slice oo osds.length co], .cells bs 3 [.int .i64 self], .rd oi 6 (encInf infos), .rd oo 1 (encI osds)]) (es' := fun (⟨M2, hM2⟩ : {L' : List Int // SymP 0 (ltI osds infos self) L1 a s mid L'}) => [.osl od cd 3 1 (encI M2), .cells bi 23 [.slice oi infos.length ci], .cells bo 22 [.slice oo osds.length co], .cells bs 3 [.int .i64 self], .rd oi 6 (encInf infos), .rd oo 1 (encI osds)]) (mem' := fun (⟨M2, hM2⟩ : {L' : List Int // SymP 0 (ltI osds infos self) L1 a s mid L'}) => [(1, .osl od cd 3 1 (encI M2)), (2, .cells bi 23 [.slice oi infos.length ci]), (3, .cells bo 22 [.slice oo osds.length co]), (4, .cells bs 3 [.int .i64 self]), (5, .rd oi 6 (encInf infos)), (6, .rd oo 1 (encI osds))]) (env' := fun (⟨M2, hM2⟩ : {L' : List Int // SymP 0 (ltI osds infos self) L1 a s mid L'}) => [(0, .slice od len cd), (3, .int .i64 ((b : Nat) : Int)), (4, .func (.func 21) #[] #[.pointer (some ⟨bi, 0, none⟩), .pointer (some ⟨bo, 0, none⟩), .pointer (some ⟨bs, 0, none⟩)]), (18, .int .i64 ((mid : Nat) : Int)), (24, .int .i64 ((e : Nat) : Int))]) [1, 2, 3, 4, 5, 6] [] [0, 3, 4, 18, 24] [1, 2, 3, 4, 5, 6] (by kernel_rfl) (by kernel_rfl) (by kernel_rfl) (by kernel_rfl) (by kernel_rfl) (by kernel_rfl) (fun _ => rfl) (by rintro ⟨M2, hM2⟩; kernel_rfl) (by rintro ⟨M2, hM2⟩; kernel_rfl) (IH L1 a s mid (by omega) (by omega) (by omega) (by omega) (by omega) hA q1 q2) ?_
                  rintro ⟨M2, hM2⟩
                  refine GR.done (Nat.le_of_ble_eq_true (by kernel_rfl)) ?_
                  exact H0 M2 hM2
                · skip
                  simp only [Bool.and_eq_false_iff, decide_eq_false_iff_not] at h7
                  refine GS.skip ?_
                  refine GS.trim (env' := [(0, .slice od len cd), (3, .int .i64 ((b : Nat) : Int)), (4, .func (.func 21) #[] #[.pointer (some ⟨bi, 0, none⟩), .pointer (some ⟨bo, 0, none⟩), .pointer (some ⟨bs, 0, none⟩)]), (18, .int .i64 ((mid : Nat) : Int)), (24, .int .i64 ((e : Nat) : Int))]) (mem' := [(1, .osl od cd 3 1 (encI L1)), (2, .cells bi 23 [.slice oi infos.length ci]), (3, .cells bo 22 [.slice oo osds.length co]), (4, .cells bs 3 [.int .i64 self]), (5, .rd oi 6 (encInf infos)), (6, .rd oo 1 (encI osds))]) [0, 3, 4, 18, 24] [1, 2, 3, 4, 5, 6] (by kernel_rfl) (by kernel_rfl) ?_
                  exact H0 L1 (SymP.triv 0 _ (by omega) (by omega) (by omega))
              · rintro L2 hP
                have hA2 := SymP.all 0 _ (S := fun z : Int => 0 ≤ z ∧ z < (mx : Int)) hA hP (by omega) (by omega) (by omega)
                have q5 := SymP.rises 0 _ hP q3 (by omega)
                have q6 := SymP.rises 0 _ hP q4 (by omega)
                have hL2 := hP.1
                refine GS.seq ?_
                -- region 43, zsortanyfunc.go:455
                refine GS.region (env' := fun _ => [(0, .slice od len cd), (3, .int .i64 ((b : Nat) : Int)), (4, .func (.func 21) #[] #[.pointer (some ⟨bi, 0, none⟩), .pointer (some ⟨bo, 0, none⟩), .pointer (some ⟨bs, 0, none⟩)]), (18, .int .i64 ((mid : Nat) : Int)), (24, .int .i64 ((e : Nat) : Int)), (213, .bool ((decide (((mid : Nat) : Int) < ((e : Nat) : Int))) && (decide (((e : Nat) : Int) < ((b : Nat) : Int)))))]) (mem' := fun _ => [(1, .osl od cd 3 1 (encI L2)), (2, .cells bi 23 [.slice oi infos.length ci]), (3, .cells bo 22 [.slice oo osds.length co]), (4, .cells bs 3 [.int .i64 self]), (5, .rd oi 6 (encInf infos)), (6, .rd oo 1 (encI osds))]) ?_ ?_
                · rcases Bool.eq_false_or_eq_true (decide (((mid : Nat) : Int) < ((e : Nat) : Int))) with hg0 | hg0
                  · have hg0' := of_decide_eq_true hg0
                    exact RunsTo.mk [(3, { sp := some (.bool true) }), (7, { sp := some (.bool ((decide (((mid : Nat) : Int) < ((e : Nat) : Int))) && (decide (((e : Nat) : Int) < ((b : Nat) : Int))))) })] [0, 3, 4, 18, 24, 213] [1, 2, 3, 4, 5, 6] (fun _ => [((.bool (decide (((mid : Nat) : Int) < ((e : Nat) : Int)))) : Value) = .bool true, ((.bool (decide (((e : Nat) : Int) < ((b : Nat) : Int)))) : Value) = .bool ((decide (((mid : Nat) : Int) < ((e : Nat) : Int))) && (decide (((e : Nat) : Int) < ((b : Nat) : Int))))]) (fun _ => by kernel_rfl) (fun _ => ⟨bool_eq (by assumption), bool_eq (by first | (simp only [hg0, Bool.true_and, Bool.false_and, Bool.and_true, Bool.and_false, Bool.true_or, Bool.false_or, Bool.or_true, Bool.or_false, Bool.not_true, Bool.not_false]) | simp [hg0]), trivial⟩)
                  · have hg0' := of_decide_eq_false hg0
                    exact RunsTo.mk [(3, { sp := some (.bool false) }), (7, { sp := some (.bool ((decide (((mid : Nat) : Int) < ((e : Nat) : Int))) && (decide (((e : Nat) : Int) < ((b : Nat) : Int))))) })] [0, 3, 4, 18, 24, 213] [1, 2, 3, 4, 5, 6] (fun _ => [((.bool (decide (((mid : Nat) : Int) < ((e : Nat) : Int)))) : Value) = .bool false, ((.bool false) : Value) = .bool ((decide (((mid : Nat) : Int) < ((e : Nat) : Int))) && (decide (((e : Nat) : Int) < ((b : Nat) : Int))))]) (fun _ => by kernel_rfl) (fun _ => ⟨bool_eq (by assumption), bool_eq (by first | (simp only [hg0, Bool.true_and, Bool.false_and, Bool.and_true, Bool.and_false, Bool.true_or, Bool.false_or, Bool.or_true, Bool.or_false, Bool.not_true, Bool.not_false]) | simp [hg0]), trivial⟩)
                intro _
                refine GS.cut (ι := List Int) (I := fun (L3 : List Int) => SymP 0 (ltI osds infos self) L2 mid e b L3) (E := fun (L3 : List Int) => []) (M := fun (L3 : List Int) => [(1, .osl od cd 3 1 (encI L3)), (2, .cells bi 23 [.slice oi infos.length ci]), (3, .cells bo 22 [.slice oo osds.length co]), (4, .cells bs 3 [.int .i64 self]), (5, .rd oi 6 (encInf infos)), (6, .rd oo 1 (encI osds))]) ?_ ?_
                rotate_left
                · intro H0
                  refine GS.cond (t := (decide (((mid : Nat) : Int) < ((e : Nat) : Int))) && (decide (((e : Nat) : Int) < ((b : Nat) : Int)))) rfl rfl (fun h8 => ?_) (fun h8 => ?_)
                  · skip
                    simp only [Bool.and_eq_true, decide_eq_true_eq] at h8
                    -- region 44, zsortanyfunc.go:456
                    refine GS.open_ ?_
                    refine GR.run (i := 0) 5 (env' := fun _ => [(214, .slice od len cd), (215, .int .i64 ((mid : Nat) : Int)), (216, .int .i64 ((e : Nat) : Int)), (217, .int .i64 ((b : Nat) : Int)), (218, .func (.func 21) #[] #[.pointer (some ⟨bi, 0, none⟩), .pointer (some ⟨bo, 0, none⟩), .pointer (some ⟨bs, 0, none⟩)])]) (mem' := fun _ => [(1, .osl od cd 3 1 (encI L2)), (2, .cells bi 23 [.slice oi infos.length ci]), (3, .cells bo 22 [.slice oo osds.length co]), (4, .cells bs 3 [.int .i64 self]), (5, .rd oi 6 (encInf infos)), (6, .rd oo 1 (encI osds))]) (Nat.le_of_ble_eq_true (by kernel_rfl)) (RunsTo.mk [] [214, 215, 216, 217, 218] [1, 2, 3, 4, 5, 6] (fun _ => []) (fun _ => by kernel_rfl) (fun _ => trivial)) ?_
                    intro _
                    refine GR.callT (X := {L' : List Int // SymP 0 (ltI osds infos self) L2 mid e b L'}) (i := 5) (g := 28) (args := #[.slice od len cd, .int .i64 ((mid : Nat) : Int), .int .i64 ((e : Nat) : Int), .int .i64 ((b : Nat) : Int), .func (.func 21) #[] #[.pointer (some ⟨bi, 0, none⟩), .pointer (some ⟨bo, 0, none⟩), .pointer (some ⟨bs, 0, none⟩)]]) (v := fun (⟨M3, hM3⟩ : {L' : List Int // SymP 0 (ltI osds infos self) L2 mid e b L'}) => .tuple #[]) (es := [.osl od cd 3 1 (encI L2), .cells bi 23 [.slice oi infos.length ci], .cells bo 22 [.slice oo osds.length co], .cells bs 3 [.int .i64 self], .rd oi 6 (encInf infos), .rd oo 1 (encI osds)]) (es' := fun (⟨M3, hM3⟩ : {L' : List Int // SymP 0 (ltI osds infos self) L2 mid e b L'}) => [.osl od cd 3 1 (encI M3), .cells bi 23 [.slice oi infos.length ci], .cells bo 22 [.slice oo osds.length co], .cells bs 3 [.int .i64 self], .rd oi 6 (encInf infos), .rd oo 1 (encI osds)]) (mem' := fun (⟨M3, hM3⟩ : {L' : List Int // SymP 0 (ltI osds infos self) L2 mid e b L'}) => [(1, .osl od cd 3 1 (encI M3)), (2, .cells bi 23 [.slice oi infos.length ci]), (3, .cells bo 22 [.slice oo osds.length co]), (4, .cells bs 3 [.int .i64 self]), (5, .rd oi 6 (encInf infos)), (6, .rd oo 1 (encI osds))]) (env' := fun (⟨M3, hM3⟩ : {L' : List Int // SymP 0 (ltI osds infos self) L2 mid e b L'}) => []) [1, 2, 3, 4, 5, 6] [] [] [1, 2, 3, 4, 5, 6] (by kernel_rfl) (by kernel_rfl) (by kernel_rfl) (by kernel_rfl) (by kernel_rfl) (by kernel_rfl) (fun _ => rfl) (by rintro ⟨M3, hM3⟩; kernel_rfl) (by rintro ⟨M3, hM3⟩; kernel_rfl) (IH L2 mid e b (by omega) (by omega) (by omega) (by omega) (by omega) hA2 q5 q6) ?_
                    rintro ⟨M3, hM3⟩
                    refine GR.done (Nat.le_of_ble_eq_true (by kernel_rfl)) ?_
                    exact H0 M3 hM3
                  · skip
                    simp only [Bool.and_eq_false_iff, decide_eq_false_iff_not] at h8
                    refine GS.skip ?_
                    refine GS.trim (env' := []) (mem' := [(1, .osl od cd 3 1 (encI L2)), (2, .cells bi 23 [.slice oi infos.length ci]), (3, .cells bo 22 [.slice oo osds.length co]), (4, .cells bs 3 [.int .i64 self]), (5, .rd oi 6 (encInf infos)), (6, .rd oo 1 (encI osds))]) [] [1, 2, 3, 4, 5, 6] (by kernel_rfl) (by kernel_rfl) ?_
                    exact H0 L2 (SymP.triv 0 _ (by omega) (by omega) (by omega))
                · rintro L3 hQ
                  refine GS.end_ (fn := Try.f28) [] [] [] rfl Try.func28 (by kernel_rfl) trivial (fun w' hs => ?_)
                  exact ⟨⟨L3, sym_glue 0 _ g1 g2 g3 g4 hY hX hR (by rw [g5]; exact hP) (by rw [g5]; exact hQ)⟩, rfl, hs.turned (ks := [1, 2, 3, 4, 5, 6]) (nodupB_spec rfl) rfl (by intro e he; simp only [List.mem_cons, List.not_mem_nil, or_false] at he; rcases he with rfl | rfl | rfl | rfl | rfl | rfl <;> first | exact .inl rfl | exact .inr (by simp))⟩

end Go.Proofs.Ythaokdobgmbeeaa
