/-
  CHAPTER 7: the walks of bits.Len64 and Ln.
-/
import Derived.Test.YtmdmfjgpjpfoaaaP07a
set_option linter.unusedVariables false
set_option maxRecDepth 100000
namespace Go.Proofs.Ytmdmfjgpjpfoaaa
open Go Go.RowKit Sx

theorem len64_ok (x : Nat) (h1 : 1 ≤ x) (h2 : x ≤ 65536) : CallOK Try.prog 19 #[.int .u64 (x : Int)] (.int .i64 ((Nat.log2 x + 1 : Nat) : Int)) [] := by
  intro w _
  refine GS.start (S := fun _ => False) (mem := []) Try.func19 rfl Try.ntmps19 (Nat.le_of_ble_eq_true rfl) Sat.start ?_
  refine GS.conv (env' := [(0, .int .u64 (x : Int))]) rfl rfl ?_
  refine GS.seq ?_
  -- region 0, bits.go:337
  refine GS.region (env' := fun _ => [(0, .int .u64 (x : Int)), (2, .int .i64 0)]) (mem' := fun _ => []) (RunsTo.mk [] [0, 2] [] (fun _ => []) (fun _ => by kernel_rfl) (fun _ => trivial)) ?_
  intro _
  refine GS.seq ?_
  refine GS.seq ?_
  -- region 1, bits.go:338
  refine GS.region (env' := fun _ => [(0, .int .u64 (x : Int)), (2, .int .i64 0), (4, .bool (decide ((x : Int) ≥ 4294967296)))]) (mem' := fun _ => []) (RunsTo.mk [] [0, 2, 4] [] (fun _ => []) (fun _ => by kernel_rfl) (fun _ => trivial)) ?_
  intro _
  refine GS.cond (t := decide ((x : Int) ≥ 4294967296)) rfl rfl (fun h => ?_) (fun h => ?_)
  · replace h := of_decide_eq_true h
    exfalso; omega
  · replace h := of_decide_eq_false h
    refine GS.skip ?_
    refine GS.seq ?_
    refine GS.seq ?_
    -- region 4, bits.go:342
    refine GS.region (env' := fun _ => [(0, .int .u64 (x : Int)), (2, .int .i64 0), (8, .bool (decide ((x : Int) ≥ 65536)))]) (mem' := fun _ => []) (RunsTo.mk [] [0, 2, 8] [] (fun _ => []) (fun _ => by kernel_rfl) (fun _ => trivial)) ?_
    intro _
    refine GS.cond (t := decide ((x : Int) ≥ 65536)) rfl rfl (fun h => ?_) (fun h => ?_)
    · replace h := of_decide_eq_true h
      refine GS.seq ?_
      -- region 5, bits.go:343
      refine GS.region (env' := fun _ => [(0, .int .u64 ((x / 65536 : Nat) : Int)), (2, .int .i64 0)]) (mem' := fun _ => []) (RunsTo.mk [(1, { sp := some (.int .u64 ((x / 65536 : Nat) : Int)) })] [0, 2] [] (fun _ => [(.int .u64 (Int.fdiv (x : Int) (2 ^ 16)) : Value) = .int .u64 ((x / 65536 : Nat) : Int)]) (fun _ => by kernel_rfl) (fun _ => ⟨int_eq (shr_nat x 16), trivial⟩)) ?_
      intro _
      -- region 6, bits.go:344
      refine GS.region (env' := fun _ => [(0, .int .u64 ((x / 65536 : Nat) : Int)), (2, .int .i64 16)]) (mem' := fun _ => []) (RunsTo.mk [] [0, 2] [] (fun _ => []) (fun _ => by kernel_rfl) (fun _ => trivial)) ?_
      intro _
      refine GS.seq ?_
      refine GS.seq ?_
      -- region 7, bits.go:346
      refine GS.region (env' := fun _ => [(0, .int .u64 ((x / 65536 : Nat) : Int)), (2, .int .i64 16), (14, .bool (decide (((x / 65536 : Nat) : Int) ≥ 256)))]) (mem' := fun _ => []) (RunsTo.mk [] [0, 2, 14] [] (fun _ => []) (fun _ => by kernel_rfl) (fun _ => trivial)) ?_
      intro _
      refine GS.cond (t := decide (((x / 65536 : Nat) : Int) ≥ 256)) rfl rfl (fun h => ?_) (fun h => ?_)
      · replace h := of_decide_eq_true h
        exfalso; omega
      · replace h := of_decide_eq_false h
        refine GS.skip ?_
        refine GS.seq ?_
        -- region 10, bits.go:350
        refine GS.region (env' := fun _ => [(2, .int .i64 ((len8 (x / 65536) + 16 : Nat) : Int))]) (mem' := fun _ => []) (RunsTo.mk [(2, { sp := some (.int .u8 ((x / 65536 : Nat) : Int)) }), (3, { act := .elt (x / 65536), sp := some (.int .u8 ((len8 (x / 65536) : Nat) : Int)) }), (4, { sp := some (.int .i64 ((len8 (x / 65536) : Nat) : Int)) }), (5, { sp := some (.int .i64 ((len8 (x / 65536) + 16 : Nat) : Int)) })] [2] [] (fun _ => [(.int .u8 (IntKind.u8.wrap ((x / 65536 : Nat) : Int)) : Value) = .int .u8 ((x / 65536 : Nat) : Int), (((x / 65536 : Nat) : Int) : Int) = ((x / 65536 : Nat) : Int), x / 65536 < len8tab.size, (.int .u8 (((len8tab.data.getD (x / 65536) 0).toNat : Nat) : Int) : Value) = .int .u8 ((len8 (x / 65536) : Nat) : Int), (.int .i64 (IntKind.i64.wrap ((len8 (x / 65536) : Nat) : Int)) : Value) = .int .i64 ((len8 (x / 65536) : Nat) : Int), (.int .i64 (IntKind.i64.wrap (16 + ((len8 (x / 65536) : Nat) : Int))) : Value) = .int .i64 ((len8 (x / 65536) + 16 : Nat) : Int)]) (fun _ => by kernel_rfl) (fun _ => ⟨int_eq (wrap_u8 (by omega) (by omega)), rfl, Nat.lt_of_lt_of_eq (by omega) len8_size.symm, int_eq (len8_get (x / 65536) (by omega)), w64 rfl (by have := len8_le (x / 65536); omega) (by have := len8_le (x / 65536); omega), w64 (by omega) (by omega) (by have := len8_le (x / 65536); omega), trivial⟩)) ?_
        intro _
        refine GS.ret (fn := Try.f19) [0] [.int .i64 ((len8 (x / 65536) + 16 : Nat) : Int)] [] rfl Try.func19 (by kernel_rfl) trivial (fun w' hs => ?_)
        exact ⟨by rw [show (len8 (x / 65536) + 16 : Nat) = Nat.log2 x + 1 from len8_log2 x _ _ (by omega) (by omega) (by omega)]; rfl, hs.keep⟩
    · replace h := of_decide_eq_false h
      refine GS.skip ?_
      refine GS.seq ?_
      refine GS.seq ?_
      -- region 7, bits.go:346
      refine GS.region (env' := fun _ => [(0, .int .u64 (x : Int)), (2, .int .i64 0), (14, .bool (decide ((x : Int) ≥ 256)))]) (mem' := fun _ => []) (RunsTo.mk [] [0, 2, 14] [] (fun _ => []) (fun _ => by kernel_rfl) (fun _ => trivial)) ?_
      intro _
      refine GS.cond (t := decide ((x : Int) ≥ 256)) rfl rfl (fun h => ?_) (fun h => ?_)
      · replace h := of_decide_eq_true h
        refine GS.seq ?_
        -- region 8, bits.go:347
        refine GS.region (env' := fun _ => [(0, .int .u64 ((x / 256 : Nat) : Int)), (2, .int .i64 0)]) (mem' := fun _ => []) (RunsTo.mk [(1, { sp := some (.int .u64 ((x / 256 : Nat) : Int)) })] [0, 2] [] (fun _ => [(.int .u64 (Int.fdiv (x : Int) (2 ^ 8)) : Value) = .int .u64 ((x / 256 : Nat) : Int)]) (fun _ => by kernel_rfl) (fun _ => ⟨int_eq (shr_nat x 8), trivial⟩)) ?_
        intro _
        -- region 9, bits.go:348
        refine GS.region (env' := fun _ => [(0, .int .u64 ((x / 256 : Nat) : Int)), (2, .int .i64 8)]) (mem' := fun _ => []) (RunsTo.mk [] [0, 2] [] (fun _ => []) (fun _ => by kernel_rfl) (fun _ => trivial)) ?_
        intro _
        refine GS.seq ?_
        -- region 10, bits.go:350
        refine GS.region (env' := fun _ => [(2, .int .i64 ((len8 (x / 256) + 8 : Nat) : Int))]) (mem' := fun _ => []) (RunsTo.mk [(2, { sp := some (.int .u8 ((x / 256 : Nat) : Int)) }), (3, { act := .elt (x / 256), sp := some (.int .u8 ((len8 (x / 256) : Nat) : Int)) }), (4, { sp := some (.int .i64 ((len8 (x / 256) : Nat) : Int)) }), (5, { sp := some (.int .i64 ((len8 (x / 256) + 8 : Nat) : Int)) })] [2] [] (fun _ => [(.int .u8 (IntKind.u8.wrap ((x / 256 : Nat) : Int)) : Value) = .int .u8 ((x / 256 : Nat) : Int), (((x / 256 : Nat) : Int) : Int) = ((x / 256 : Nat) : Int), x / 256 < len8tab.size, (.int .u8 (((len8tab.data.getD (x / 256) 0).toNat : Nat) : Int) : Value) = .int .u8 ((len8 (x / 256) : Nat) : Int), (.int .i64 (IntKind.i64.wrap ((len8 (x / 256) : Nat) : Int)) : Value) = .int .i64 ((len8 (x / 256) : Nat) : Int), (.int .i64 (IntKind.i64.wrap (8 + ((len8 (x / 256) : Nat) : Int))) : Value) = .int .i64 ((len8 (x / 256) + 8 : Nat) : Int)]) (fun _ => by kernel_rfl) (fun _ => ⟨int_eq (wrap_u8 (by omega) (by omega)), rfl, Nat.lt_of_lt_of_eq (by omega) len8_size.symm, int_eq (len8_get (x / 256) (by omega)), w64 rfl (by have := len8_le (x / 256); omega) (by have := len8_le (x / 256); omega), w64 (by omega) (by omega) (by have := len8_le (x / 256); omega), trivial⟩)) ?_
        intro _
        refine GS.ret (fn := Try.f19) [0] [.int .i64 ((len8 (x / 256) + 8 : Nat) : Int)] [] rfl Try.func19 (by kernel_rfl) trivial (fun w' hs => ?_)
        exact ⟨by rw [show (len8 (x / 256) + 8 : Nat) = Nat.log2 x + 1 from len8_log2 x _ _ (by omega) (by omega) (by omega)]; rfl, hs.keep⟩
      · replace h := of_decide_eq_false h
        refine GS.skip ?_
        refine GS.seq ?_
        -- region 10, bits.go:350
        refine GS.region (env' := fun _ => [(2, .int .i64 ((len8 (x) + 0 : Nat) : Int))]) (mem' := fun _ => []) (RunsTo.mk [(2, { sp := some (.int .u8 ((x : Nat) : Int)) }), (3, { act := .elt x, sp := some (.int .u8 ((len8 (x) : Nat) : Int)) }), (4, { sp := some (.int .i64 ((len8 (x) : Nat) : Int)) }), (5, { sp := some (.int .i64 ((len8 (x) + 0 : Nat) : Int)) })] [2] [] (fun _ => [(.int .u8 (IntKind.u8.wrap (x : Int)) : Value) = .int .u8 ((x : Nat) : Int), (((x : Nat) : Int) : Int) = ((x : Nat) : Int), x < len8tab.size, (.int .u8 (((len8tab.data.getD x 0).toNat : Nat) : Int) : Value) = .int .u8 ((len8 (x) : Nat) : Int), (.int .i64 (IntKind.i64.wrap ((len8 (x) : Nat) : Int)) : Value) = .int .i64 ((len8 (x) : Nat) : Int), (.int .i64 (IntKind.i64.wrap (0 + ((len8 (x) : Nat) : Int))) : Value) = .int .i64 ((len8 (x) + 0 : Nat) : Int)]) (fun _ => by kernel_rfl) (fun _ => ⟨int_eq (wrap_u8 (by omega) (by omega)), rfl, Nat.lt_of_lt_of_eq (by omega) len8_size.symm, int_eq (len8_get (x) (by omega)), w64 rfl (by have := len8_le (x); omega) (by have := len8_le (x); omega), w64 (by omega) (by omega) (by have := len8_le (x); omega), trivial⟩)) ?_
        intro _
        refine GS.ret (fn := Try.f19) [0] [.int .i64 ((len8 (x) + 0 : Nat) : Int)] [] rfl Try.func19 (by kernel_rfl) trivial (fun w' hs => ?_)
        exact ⟨by rw [show (len8 (x) + 0 : Nat) = Nat.log2 x + 1 from len8_log2 x _ _ (by omega) (by omega) (by omega)]; rfl, hs.keep⟩

theorem ln_ok (u : Int) : CallOK Try.prog 9 #[.int .i64 u] (.int .i64 (lnF u)) [] := by
  intro w _
  obtain ⟨c, hc⟩ : ∃ c, c = clampU u := ⟨_, rfl⟩
  have hc1 : c ≤ 65535 := by rw [hc]; exact clampU_le u
  obtain ⟨e, he⟩ : ∃ e, e = Nat.log2 (c + 1) := ⟨_, rfl⟩
  have he1 : e ≤ 16 := by rw [he]; exact log2_le16 _ (by omega)
  obtain ⟨y0, hy0⟩ : ∃ y, y = (c + 1) * 2 ^ (31 - e) := ⟨_, rfl⟩
  have hy1 : y0 < 4294967296 := by rw [hy0, he]; exact y0_lt _ (by omega) (by omega)
  have hT : (lnF u : Int) = ((lnLoop 44 (e * 17592186044416) y0 : Nat) : Int) := by rw [hy0, he, hc]; rfl
  refine GS.start (S := fun _ => False) (mem := []) Try.func9 rfl Try.ntmps9 (Nat.le_of_ble_eq_true rfl) Sat.start ?_
  refine GS.conv (env' := [(0, .int .i64 u)]) rfl rfl ?_
  refine GS.seq ?_
  -- region 0, straw.go:12
  refine GS.region (env' := fun _ => [(0, .int .i64 u)]) (mem' := fun _ => []) (RunsTo.mk [] [0] [] (fun _ => []) (fun _ => by kernel_rfl) (fun _ => trivial)) ?_
  intro _
  refine GS.scope ?_
  refine GS.seq ?_
  -- region 1, straw.go:13
  refine GS.region (env' := fun _ => [(3, .int .u64 ((c + 1 : Nat) : Int))]) (mem' := fun _ => []) (RunsTo.mk [(3, { sp := some (.int .u64 ((c : Nat) : Int)) }), (4, { sp := some (.int .u64 ((c + 1 : Nat) : Int)) })] [3] [] (fun _ => [(.int .u64 (IntKind.u64.wrap (if 65535 < (if 0 > u then 0 else u) then 65535 else (if 0 > u then 0 else u))) : Value) = .int .u64 ((c : Nat) : Int), (.int .u64 (IntKind.u64.wrap (((c : Nat) : Int) + 1)) : Value) = .int .u64 ((c + 1 : Nat) : Int)]) (fun _ => by kernel_rfl) (fun _ => ⟨int_eq (clamp_eq u c hc), wu64 (by omega) (by omega) (by omega), trivial⟩)) ?_
  intro _
  refine GS.seq ?_
  -- region 2, straw.go:14
  refine GS.region (env' := fun _ => [(3, .int .u64 ((c + 1 : Nat) : Int)), (4, .int .i64 ((e : Nat) : Int))]) (mem' := fun _ => []) (RunsTo.mk [(1, { act := .call [] (.int .i64 ((Nat.log2 (c + 1) + 1 : Nat) : Int)), sp := some (.int .i64 ((e + 1 : Nat) : Int)) }), (2, { sp := some (.int .i64 ((e : Nat) : Int)) })] [3, 4] [] (fun _ => [CallOK Try.prog 19 #[.int .u64 ((c + 1 : Nat) : Int)] (.int .i64 ((Nat.log2 (c + 1) + 1 : Nat) : Int)) [], (.int .i64 ((Nat.log2 (c + 1) + 1 : Nat) : Int) : Value) = .int .i64 ((e + 1 : Nat) : Int), (.int .i64 (IntKind.i64.wrap (((e + 1 : Nat) : Int) - 1)) : Value) = .int .i64 ((e : Nat) : Int)]) (fun _ => by kernel_rfl) (fun _ => ⟨len64_ok (c + 1) (by omega) (by omega), int_eq (by rw [he]), w64 (by omega) (by omega) (by omega), trivial⟩)) ?_
  intro _
  refine GS.seq ?_
  -- region 3, straw.go:15
  refine GS.region (env' := fun _ => [(4, .int .i64 ((e : Nat) : Int)), (5, .int .u64 ((y0 : Nat) : Int))]) (mem' := fun _ => []) (RunsTo.mk [(2, { sp := some (.int .i64 ((31 - e : Nat) : Int)) }), (3, { act := .shift, sp := some (.int .u64 ((y0 : Nat) : Int)) })] [4, 5] [] (fun _ => [(.int .i64 (IntKind.i64.wrap (31 - ((e : Nat) : Int))) : Value) = .int .i64 ((31 - e : Nat) : Int), 0 ≤ ((31 - e : Nat) : Int), (.int .u64 (IntKind.u64.wrap (((c + 1 : Nat) : Int) * 2 ^ (min (Int.toNat ((31 - e : Nat) : Int)) 64))) : Value) = .int .u64 ((y0 : Nat) : Int)]) (fun _ => by kernel_rfl) (fun _ => ⟨w64 (by omega) (by omega) (by omega), by omega, wu64 (by rw [shl_nat _ _ (by omega), hy0]) (by omega) (by omega), trivial⟩)) ?_
  intro _
  refine GS.seq ?_
  -- region 4, straw.go:16
  refine GS.region (env' := fun _ => [(5, .int .u64 ((y0 : Nat) : Int)), (6, .int .i64 ((e * 17592186044416 : Nat) : Int))]) (mem' := fun _ => []) (RunsTo.mk [(1, { sp := some (.int .i64 ((e * 17592186044416 : Nat) : Int)) })] [5, 6] [] (fun _ => [(.int .i64 (IntKind.i64.wrap (((e : Nat) : Int) * 2 ^ 44)) : Value) = .int .i64 ((e * 17592186044416 : Nat) : Int)]) (fun _ => by kernel_rfl) (fun _ => ⟨w64 (by omega) (by omega) (by omega), trivial⟩)) ?_
  intro _
  refine GS.seq ?_
  -- region 5, straw.go:17
  refine GS.region (env' := fun _ => [(5, .int .u64 ((y0 : Nat) : Int)), (6, .int .i64 ((e * 17592186044416 : Nat) : Int)), (7, .int .i64 ((43 : Nat) : Int))]) (mem' := fun _ => []) (RunsTo.mk [(0, { sp := some (.int .i64 ((43 : Nat) : Int)) })] [5, 6, 7] [] (fun _ => [(.int .i64 43 : Value) = .int .i64 ((43 : Nat) : Int)]) (fun _ => by kernel_rfl) (fun _ => ⟨rfl, trivial⟩)) ?_
  intro _
  refine GS.seq ?_
  refine GS.label ?_
  refine GS.loopInv (ι := Nat × Nat × Nat) (I := fun ⟨k, out, y⟩ => k ≤ 43 ∧ y < 4294967296 ∧ out + 2 ^ (k + 1) ≤ 562949953421312 ∧ lnLoop (k + 1) (out) (y) = lnLoop 44 (e * 17592186044416) y0) (μ := fun ⟨k, out, y⟩ => k) (E := fun ⟨k, out, y⟩ => [(5, .int .u64 ((y : Nat) : Int)), (6, .int .i64 ((out : Nat) : Int)), (7, .int .i64 ((k : Nat) : Int))]) (M := fun ⟨k, out, y⟩ => []) ?_ ⟨43, e * 17592186044416, y0⟩ ⟨by omega, hy1, by omega, rfl⟩
  rintro ⟨k, out, y⟩ ⟨h1, h2, h3, h4⟩ ih
  obtain ⟨p, hp⟩ : ∃ p, p = 2 ^ k := ⟨_, rfl⟩
  have hp1 : p ≤ 8796093022208 := by rw [hp]; exact Nat.pow_le_pow_right (n := 2) (by decide) h1
  have hpp : 2 ^ (k + 1) = 2 * p := by rw [hp, Nat.pow_succ]; omega
  have hyy : y * y ≤ 18446744065119617025 := Nat.mul_le_mul (Nat.le_of_lt_succ h2) (Nat.le_of_lt_succ h2)
  obtain ⟨z, hz⟩ : ∃ z, z = y * y / 2147483648 := ⟨_, rfl⟩
  refine GS.seq ?_
  -- region 6, straw.go:19
  refine GS.region (env' := fun _ => [(5, .int .u64 ((z : Nat) : Int)), (6, .int .i64 ((out : Nat) : Int)), (7, .int .i64 ((k : Nat) : Int))]) (mem' := fun _ => []) (RunsTo.mk [(2, { sp := some (.int .u64 ((y * y : Nat) : Int)) }), (3, { sp := some (.int .u64 ((z : Nat) : Int)) })] [5, 6, 7] [] (fun _ => [(.int .u64 (IntKind.u64.wrap (((y : Nat) : Int) * ((y : Nat) : Int))) : Value) = .int .u64 ((y * y : Nat) : Int), (.int .u64 (Int.fdiv ((y * y : Nat) : Int) (2 ^ 31)) : Value) = .int .u64 ((z : Nat) : Int)]) (fun _ => by kernel_rfl) (fun _ => ⟨wu64 (by rw [Int.natCast_mul]) (by omega) (by omega), int_eq (by rw [hz]; exact shr_nat _ 31), trivial⟩)) ?_
  intro _
  refine GS.seq ?_
  refine GS.seq ?_
  -- region 7, straw.go:20
  refine GS.region (env' := fun _ => [(5, .int .u64 ((z : Nat) : Int)), (6, .int .i64 ((out : Nat) : Int)), (7, .int .i64 ((k : Nat) : Int)), (27, .bool (decide (((z : Nat) : Int) ≥ 4294967296)))]) (mem' := fun _ => []) (RunsTo.mk [] [5, 6, 7, 27] [] (fun _ => []) (fun _ => by kernel_rfl) (fun _ => trivial)) ?_
  intro _
  refine GS.cond (t := decide (((z : Nat) : Int) ≥ 4294967296)) rfl rfl (fun hz2 => ?_) (fun hz2 => ?_)
  · replace hz2 := of_decide_eq_true hz2
    refine GS.seq ?_
    -- region 8, straw.go:21
    refine GS.region (env' := fun _ => [(5, .int .u64 ((z : Nat) : Int)), (6, .int .i64 ((out + p : Nat) : Int)), (7, .int .i64 ((k : Nat) : Int))]) (mem' := fun _ => []) (RunsTo.mk [(2, { act := .shift, sp := some (.int .i64 ((p : Nat) : Int)) }), (3, { sp := some (.int .i64 ((out + p : Nat) : Int)) })] [5, 6, 7] [] (fun _ => [0 ≤ ((k : Nat) : Int), (.int .i64 (IntKind.i64.wrap (1 * 2 ^ (min (Int.toNat ((k : Nat) : Int)) 64))) : Value) = .int .i64 ((p : Nat) : Int), (.int .i64 (IntKind.i64.wrap (((out : Nat) : Int) + ((p : Nat) : Int))) : Value) = .int .i64 ((out + p : Nat) : Int)]) (fun _ => by kernel_rfl) (fun _ => ⟨by omega, w64 (by rw [hp]; have := shl_nat 1 k (by omega); simpa using this) (by omega) (by omega), w64 (by omega) (by omega) (by omega), trivial⟩)) ?_
    intro _
    -- region 9, straw.go:22
    refine GS.region (env' := fun _ => [(5, .int .u64 ((z / 2 : Nat) : Int)), (6, .int .i64 ((out + p : Nat) : Int)), (7, .int .i64 ((k : Nat) : Int))]) (mem' := fun _ => []) (RunsTo.mk [(1, { sp := some (.int .u64 ((z / 2 : Nat) : Int)) })] [5, 6, 7] [] (fun _ => [(.int .u64 (Int.fdiv ((z : Nat) : Int) (2 ^ 1)) : Value) = .int .u64 ((z / 2 : Nat) : Int)]) (fun _ => by kernel_rfl) (fun _ => ⟨int_eq (shr_nat z 1), trivial⟩)) ?_
    intro _
    refine GS.seq ?_
    refine GS.seq ?_
    -- region 10, straw.go:24
    refine GS.region (env' := fun _ => [(5, .int .u64 ((z / 2 : Nat) : Int)), (6, .int .i64 ((out + p : Nat) : Int)), (7, .int .i64 (((k : Nat) : Int) - 1))]) (mem' := fun _ => []) (RunsTo.mk [(1, { sp := some (.int .i64 (((k : Nat) : Int) - 1)) })] [5, 6, 7] [] (fun _ => [(.int .i64 (IntKind.i64.wrap (((k : Nat) : Int) - 1)) : Value) = .int .i64 (((k : Nat) : Int) - 1)]) (fun _ => by kernel_rfl) (fun _ => ⟨w64 rfl (by omega) (by omega), trivial⟩)) ?_
    intro _
    refine GS.seq ?_
    -- region 11, straw.go:24
    refine GS.region (env' := fun _ => [(5, .int .u64 ((z / 2 : Nat) : Int)), (6, .int .i64 ((out + p : Nat) : Int)), (7, .int .i64 (((k : Nat) : Int) - 1)), (37, .bool (decide ((((k : Nat) : Int) - 1) ≥ 0)))]) (mem' := fun _ => []) (RunsTo.mk [] [5, 6, 7, 37] [] (fun _ => []) (fun _ => by kernel_rfl) (fun _ => trivial)) ?_
    intro _
    refine GS.cond (t := decide ((((k : Nat) : Int) - 1) ≥ 0)) rfl rfl (fun hk => ?_) (fun hk => ?_)
    · replace hk := of_decide_eq_true hk
      refine GS.conv (env' := [(5, .int .u64 ((z / 2 : Nat) : Int)), (6, .int .i64 ((out + p : Nat) : Int)), (7, .int .i64 ((k - 1 : Nat) : Int)), (37, .bool (decide ((((k : Nat) : Int) - 1) ≥ 0)))]) (congrArg (fun v : Value => [(5, .int .u64 ((z / 2 : Nat) : Int)), (6, .int .i64 ((out + p : Nat) : Int)), (7, v), (37, .bool (decide ((((k : Nat) : Int) - 1) ≥ 0)))]) (show ((.int .i64 (((k : Nat) : Int) - 1) : Value) = .int .i64 ((k - 1 : Nat) : Int)) from int_eq (by omega))) rfl ?_
      refine GS.goto rfl ?_
      refine GS.seq ?_
      refine GS.skip ?_
      refine GS.trim (env' := [(5, .int .u64 ((z / 2 : Nat) : Int)), (6, .int .i64 ((out + p : Nat) : Int)), (7, .int .i64 ((k - 1 : Nat) : Int))]) (mem' := []) [5, 6, 7] [] (by kernel_rfl) (by kernel_rfl) ?_
      exact ih ⟨k - 1, out + p, z / 2⟩ ⟨by omega, by omega, by rw [show k - 1 + 1 = k by omega]; rw [← hp]; omega, by rw [show k - 1 + 1 = k by omega, ← h4]; exact (lnLoop_hi k out y p z hp hz (by omega)).symm⟩ (show k - 1 < k from by omega)
    · replace hk := of_decide_eq_false hk
      refine GS.skip ?_
      refine GS.seq ?_
      -- region 12, straw.go:27
      refine GS.region (env' := fun _ => [(2, .int .i64 ((out + p : Nat) : Int))]) (mem' := fun _ => []) (RunsTo.mk [] [2] [] (fun _ => []) (fun _ => by kernel_rfl) (fun _ => trivial)) ?_
      intro _
      refine GS.ret (fn := Try.f9) [0] [.int .i64 ((out + p : Nat) : Int)] [] rfl Try.func9 (by kernel_rfl) trivial (fun w' hs => ?_)
      obtain rfl : k = 0 := by omega
      exact ⟨by rw [hT, ← h4]; exact congrArg (fun n : Nat => Ending.returned (.int .i64 (n : Int))) ((lnLoop_hi 0 out y p z hp hz (by omega)).symm), hs.keep⟩
  · replace hz2 := of_decide_eq_false hz2
    refine GS.skip ?_
    refine GS.seq ?_
    refine GS.seq ?_
    -- region 10, straw.go:24
    refine GS.region (env' := fun _ => [(5, .int .u64 ((z : Nat) : Int)), (6, .int .i64 ((out : Nat) : Int)), (7, .int .i64 (((k : Nat) : Int) - 1))]) (mem' := fun _ => []) (RunsTo.mk [(1, { sp := some (.int .i64 (((k : Nat) : Int) - 1)) })] [5, 6, 7] [] (fun _ => [(.int .i64 (IntKind.i64.wrap (((k : Nat) : Int) - 1)) : Value) = .int .i64 (((k : Nat) : Int) - 1)]) (fun _ => by kernel_rfl) (fun _ => ⟨w64 rfl (by omega) (by omega), trivial⟩)) ?_
    intro _
    refine GS.seq ?_
    -- region 11, straw.go:24
    refine GS.region (env' := fun _ => [(5, .int .u64 ((z : Nat) : Int)), (6, .int .i64 ((out : Nat) : Int)), (7, .int .i64 (((k : Nat) : Int) - 1)), (37, .bool (decide ((((k : Nat) : Int) - 1) ≥ 0)))]) (mem' := fun _ => []) (RunsTo.mk [] [5, 6, 7, 37] [] (fun _ => []) (fun _ => by kernel_rfl) (fun _ => trivial)) ?_
    intro _
    refine GS.cond (t := decide ((((k : Nat) : Int) - 1) ≥ 0)) rfl rfl (fun hk => ?_) (fun hk => ?_)
    · replace hk := of_decide_eq_true hk
      refine GS.conv (env' := [(5, .int .u64 ((z : Nat) : Int)), (6, .int .i64 ((out : Nat) : Int)), (7, .int .i64 ((k - 1 : Nat) : Int)), (37, .bool (decide ((((k : Nat) : Int) - 1) ≥ 0)))]) (congrArg (fun v : Value => [(5, .int .u64 ((z : Nat) : Int)), (6, .int .i64 ((out : Nat) : Int)), (7, v), (37, .bool (decide ((((k : Nat) : Int) - 1) ≥ 0)))]) (show ((.int .i64 (((k : Nat) : Int) - 1) : Value) = .int .i64 ((k - 1 : Nat) : Int)) from int_eq (by omega))) rfl ?_
      refine GS.goto rfl ?_
      refine GS.seq ?_
      refine GS.skip ?_
      refine GS.trim (env' := [(5, .int .u64 ((z : Nat) : Int)), (6, .int .i64 ((out : Nat) : Int)), (7, .int .i64 ((k - 1 : Nat) : Int))]) (mem' := []) [5, 6, 7] [] (by kernel_rfl) (by kernel_rfl) ?_
      exact ih ⟨k - 1, out, z⟩ ⟨by omega, by omega, by rw [show k - 1 + 1 = k by omega]; rw [← hp]; omega, by rw [show k - 1 + 1 = k by omega, ← h4]; exact (lnLoop_lo k out y z hz (by omega)).symm⟩ (show k - 1 < k from by omega)
    · replace hk := of_decide_eq_false hk
      refine GS.skip ?_
      refine GS.seq ?_
      -- region 12, straw.go:27
      refine GS.region (env' := fun _ => [(2, .int .i64 ((out : Nat) : Int))]) (mem' := fun _ => []) (RunsTo.mk [] [2] [] (fun _ => []) (fun _ => by kernel_rfl) (fun _ => trivial)) ?_
      intro _
      refine GS.ret (fn := Try.f9) [0] [.int .i64 ((out : Nat) : Int)] [] rfl Try.func9 (by kernel_rfl) trivial (fun w' hs => ?_)
      obtain rfl : k = 0 := by omega
      exact ⟨by rw [hT, ← h4]; exact congrArg (fun n : Nat => Ending.returned (.int .i64 (n : Int))) ((lnLoop_lo 0 out y z hz (by omega)).symm), hs.keep⟩

theorem lnref_ok (u : Int) : CallOK Try.prog 10 #[.int .i64 u] (.int .i64 (lnF u)) [] := by
  intro w _
  obtain ⟨c, hc⟩ : ∃ c, c = clampU u := ⟨_, rfl⟩
  have hc1 : c ≤ 65535 := by rw [hc]; exact clampU_le u
  obtain ⟨e, he⟩ : ∃ e, e = Nat.log2 (c + 1) := ⟨_, rfl⟩
  have he1 : e ≤ 16 := by rw [he]; exact log2_le16 _ (by omega)
  obtain ⟨y0, hy0⟩ : ∃ y, y = (c + 1) * 2 ^ (31 - e) := ⟨_, rfl⟩
  have hy1 : y0 < 4294967296 := by rw [hy0, he]; exact y0_lt _ (by omega) (by omega)
  have hT : (lnF u : Int) = ((lnLoop 44 (e * 17592186044416) y0 : Nat) : Int) := by rw [hy0, he, hc]; rfl
  refine GS.start (S := fun _ => False) (mem := []) Try.func10 rfl Try.ntmps10 (Nat.le_of_ble_eq_true rfl) Sat.start ?_
  refine GS.conv (env' := [(0, .int .i64 u)]) rfl rfl ?_
  refine GS.seq ?_
  -- region 0, ref.go:7
  refine GS.region (env' := fun _ => [(0, .int .i64 u)]) (mem' := fun _ => []) (RunsTo.mk [] [0] [] (fun _ => []) (fun _ => by kernel_rfl) (fun _ => trivial)) ?_
  intro _
  refine GS.seq ?_
  refine GS.seq ?_
  -- region 1, ref.go:8
  refine GS.region (env' := fun _ => [(0, .int .i64 u), (9, .bool (decide (u < 0)))]) (mem' := fun _ => []) (RunsTo.mk [] [0, 9] [] (fun _ => []) (fun _ => by kernel_rfl) (fun _ => trivial)) ?_
  intro _
  refine GS.cut (ι := Int) (I := fun (a : Int) => a = if u < 0 then 0 else u) (E := fun (a : Int) => [(0, .int .i64 a)]) (M := fun (a : Int) => []) ?_ ?_
  rotate_left
  · intro H0
    refine GS.cond (t := decide (u < 0)) rfl rfl (fun h => ?_) (fun h => ?_)
    · replace h := of_decide_eq_true h
      -- region 2, ref.go:9
      refine GS.region (env' := fun _ => [(0, .int .i64 0)]) (mem' := fun _ => []) (RunsTo.mk [] [0] [] (fun _ => []) (fun _ => by kernel_rfl) (fun _ => trivial)) ?_
      intro _
      exact H0 0 (by rw [if_pos h])
    · replace h := of_decide_eq_false h
      refine GS.skip ?_
      refine GS.trim (env' := [(0, .int .i64 u)]) (mem' := []) [0] [] (by kernel_rfl) (by kernel_rfl) ?_
      exact H0 u (by rw [if_neg h])
  · rintro a ha
    refine GS.seq ?_
    refine GS.seq ?_
    -- region 3, ref.go:11
    refine GS.region (env' := fun _ => [(0, .int .i64 a), (11, .bool (decide (a > 65535)))]) (mem' := fun _ => []) (RunsTo.mk [] [0, 11] [] (fun _ => []) (fun _ => by kernel_rfl) (fun _ => trivial)) ?_
    intro _
    refine GS.cut (ι := Int) (I := fun (a : Int) => a = (c : Int)) (E := fun (a : Int) => [(0, .int .i64 a)]) (M := fun (a : Int) => []) ?_ ?_
    rotate_left
    · intro H0
      refine GS.cond (t := decide (a > 65535)) rfl rfl (fun h => ?_) (fun h => ?_)
      · replace h := of_decide_eq_true h
        -- region 4, ref.go:12
        refine GS.region (env' := fun _ => [(0, .int .i64 65535)]) (mem' := fun _ => []) (RunsTo.mk [] [0] [] (fun _ => []) (fun _ => by kernel_rfl) (fun _ => trivial)) ?_
        intro _
        exact H0 65535 (by rw [hc]; exact clamp_hi ha h)
      · replace h := of_decide_eq_false h
        refine GS.skip ?_
        refine GS.trim (env' := [(0, .int .i64 a)]) (mem' := []) [0] [] (by kernel_rfl) (by kernel_rfl) ?_
        exact H0 a (by rw [hc]; exact clamp_lo ha h)
    · rintro a hb
      subst hb
      refine GS.seq ?_
      -- region 5, ref.go:14
      refine GS.region (env' := fun _ => [(3, .int .u64 ((c + 1 : Nat) : Int)), (4, .int .i64 ((0 : Nat) : Int))]) (mem' := fun _ => []) (RunsTo.mk [(1, { sp := some (.int .u64 ((c : Nat) : Int)) }), (2, { sp := some (.int .u64 ((c + 1 : Nat) : Int)) }), (4, { sp := some (.int .i64 ((0 : Nat) : Int)) })] [3, 4] [] (fun _ => [(.int .u64 (IntKind.u64.wrap (c : Int)) : Value) = .int .u64 ((c : Nat) : Int), (.int .u64 (IntKind.u64.wrap (((c : Nat) : Int) + 1)) : Value) = .int .u64 ((c + 1 : Nat) : Int), (.int .i64 0 : Value) = .int .i64 ((0 : Nat) : Int)]) (fun _ => by kernel_rfl) (fun _ => ⟨int_eq (u64_nat (by omega)), wu64 (by omega) (by omega) (by omega), rfl, trivial⟩)) ?_
      intro _
      refine GS.seq ?_
      refine GS.block ?_
      refine GS.loop ?_
      refine GS.loopInv (ι := Nat) (I := fun (d : Nat) => d ≤ Nat.log2 (c + 1)) (μ := fun (d : Nat) => Nat.log2 (c + 1) - (d)) (E := fun (d : Nat) => [(3, .int .u64 ((c + 1 : Nat) : Int)), (4, .int .i64 ((d : Nat) : Int))]) (M := fun (d : Nat) => []) ?_ 0 (Nat.zero_le _)
      rintro d hd1 ih
      obtain ⟨z, hz⟩ : ∃ z, z = (c + 1) / 2 ^ (d + 1) := ⟨_, rfl⟩
      refine GS.seq ?_
      refine GS.seq ?_
      -- region 6, ref.go:15
      refine GS.region (env' := fun _ => [(3, .int .u64 ((c + 1 : Nat) : Int)), (4, .int .i64 ((d : Nat) : Int)), (20, .bool (decide (((z : Nat) : Int) > 0)))]) (mem' := fun _ => []) (RunsTo.mk [(2, { sp := some (.int .i64 ((d + 1 : Nat) : Int)) }), (3, { sp := some (.int .u64 ((d + 1 : Nat) : Int)) }), (4, { act := .shift, sp := some (.int .u64 ((z : Nat) : Int)) })] [3, 4, 20] [] (fun _ => [(.int .i64 (IntKind.i64.wrap (((d : Nat) : Int) + 1)) : Value) = .int .i64 ((d + 1 : Nat) : Int), (.int .u64 (IntKind.u64.wrap ((d + 1 : Nat) : Int)) : Value) = .int .u64 ((d + 1 : Nat) : Int), 0 ≤ ((d + 1 : Nat) : Int), (.int .u64 (Int.fdiv ((c + 1 : Nat) : Int) (2 ^ (min (Int.toNat ((d + 1 : Nat) : Int)) 64))) : Value) = .int .u64 ((z : Nat) : Int)]) (fun _ => by kernel_rfl) (fun _ => ⟨w64 (by omega) (by omega) (by omega), int_eq (u64_nat (by omega)), by omega, int_eq (by rw [shr_nat' _ _ (by omega), hz]), trivial⟩)) ?_
      intro _
      refine GS.cond (t := decide (((z : Nat) : Int) > 0)) rfl rfl (fun h => ?_) (fun h => ?_)
      · replace h := of_decide_eq_true h
        refine GS.skip ?_
        refine GS.block ?_
        -- region 7, ref.go:16
        refine GS.region (env' := fun _ => [(3, .int .u64 ((c + 1 : Nat) : Int)), (4, .int .i64 ((d + 1 : Nat) : Int))]) (mem' := fun _ => []) (RunsTo.mk [(1, { sp := some (.int .i64 ((d + 1 : Nat) : Int)) })] [3, 4] [] (fun _ => [(.int .i64 (IntKind.i64.wrap (((d : Nat) : Int) + 1)) : Value) = .int .i64 ((d + 1 : Nat) : Int)]) (fun _ => by kernel_rfl) (fun _ => ⟨w64 (by omega) (by omega) (by omega), trivial⟩)) ?_
        intro _
        refine GS.inBlock ?_
        refine GS.inLoop ?_
        exact ih (d + 1) (le_of_shr (by omega) (by omega)) (show Nat.log2 (c + 1) - (d + 1) < Nat.log2 (c + 1) - (d) from by have := le_of_shr (x := c + 1) (d := d) (by omega) (by omega); omega)
      · replace h := of_decide_eq_false h
        have hd : d = e := by rw [he]; exact log2_of_shr (by omega) hd1 (by omega)
        subst hd
        refine GS.exit rfl ?_
        refine GS.seq ?_
        -- region 8, ref.go:18
        refine GS.region (env' := fun _ => [(4, .int .i64 ((d : Nat) : Int)), (5, .int .u64 ((y0 : Nat) : Int))]) (mem' := fun _ => []) (RunsTo.mk [(2, { sp := some (.int .i64 ((31 - d : Nat) : Int)) }), (3, { sp := some (.int .u64 ((31 - d : Nat) : Int)) }), (4, { act := .shift, sp := some (.int .u64 ((y0 : Nat) : Int)) })] [4, 5] [] (fun _ => [(.int .i64 (IntKind.i64.wrap (31 - ((d : Nat) : Int))) : Value) = .int .i64 ((31 - d : Nat) : Int), (.int .u64 (IntKind.u64.wrap ((31 - d : Nat) : Int)) : Value) = .int .u64 ((31 - d : Nat) : Int), 0 ≤ ((31 - d : Nat) : Int), (.int .u64 (IntKind.u64.wrap (((c + 1 : Nat) : Int) * 2 ^ (min (Int.toNat ((31 - d : Nat) : Int)) 64))) : Value) = .int .u64 ((y0 : Nat) : Int)]) (fun _ => by kernel_rfl) (fun _ => ⟨w64 (by omega) (by omega) (by omega), int_eq (u64_nat (by omega)), by omega, wu64 (by rw [shl_nat _ _ (by omega), hy0]) (by omega) (by omega), trivial⟩)) ?_
        intro _
        refine GS.seq ?_
        -- region 9, ref.go:19
        refine GS.region (env' := fun _ => [(5, .int .u64 ((y0 : Nat) : Int)), (6, .int .i64 ((d * 17592186044416 : Nat) : Int))]) (mem' := fun _ => []) (RunsTo.mk [(1, { sp := some (.int .i64 ((d * 17592186044416 : Nat) : Int)) })] [5, 6] [] (fun _ => [(.int .i64 (IntKind.i64.wrap (((d : Nat) : Int) * 2 ^ 44)) : Value) = .int .i64 ((d * 17592186044416 : Nat) : Int)]) (fun _ => by kernel_rfl) (fun _ => ⟨w64 (by omega) (by omega) (by omega), trivial⟩)) ?_
        intro _
        refine GS.seq ?_
        refine GS.seq ?_
        -- region 10, ref.go:20
        refine GS.region (env' := fun _ => [(5, .int .u64 ((y0 : Nat) : Int)), (6, .int .i64 ((d * 17592186044416 : Nat) : Int)), (7, .int .i64 (((44 : Nat) : Int) - 1))]) (mem' := fun _ => []) (RunsTo.mk [(0, { sp := some (.int .i64 (((44 : Nat) : Int) - 1)) })] [5, 6, 7] [] (fun _ => [(.int .i64 43 : Value) = .int .i64 (((44 : Nat) : Int) - 1)]) (fun _ => by kernel_rfl) (fun _ => ⟨rfl, trivial⟩)) ?_
        intro _
        refine GS.block ?_
        refine GS.loop ?_
        refine GS.loopInv (ι := Nat × Nat × Nat) (I := fun ⟨k, out, y⟩ => k ≤ 44 ∧ y < 4294967296 ∧ out + 2 ^ k ≤ 562949953421312 ∧ lnLoop (k) (out) (y) = lnLoop 44 (d * 17592186044416) y0) (μ := fun ⟨k, out, y⟩ => k) (E := fun ⟨k, out, y⟩ => [(5, .int .u64 ((y : Nat) : Int)), (6, .int .i64 ((out : Nat) : Int)), (7, .int .i64 (((k : Nat) : Int) - 1))]) (M := fun ⟨k, out, y⟩ => []) ?_ ⟨44, d * 17592186044416, y0⟩ ⟨by omega, hy1, by omega, rfl⟩
        rintro ⟨k, out, y⟩ ⟨h1, h2, h3, h4⟩ ih
        refine GS.seq ?_
        refine GS.seq ?_
        -- region 11, ref.go:20
        refine GS.region (env' := fun _ => [(5, .int .u64 ((y : Nat) : Int)), (6, .int .i64 ((out : Nat) : Int)), (7, .int .i64 (((k : Nat) : Int) - 1)), (31, .bool (decide ((((k : Nat) : Int) - 1) ≥ 0)))]) (mem' := fun _ => []) (RunsTo.mk [] [5, 6, 7, 31] [] (fun _ => []) (fun _ => by kernel_rfl) (fun _ => trivial)) ?_
        intro _
        refine GS.cond (t := decide ((((k : Nat) : Int) - 1) ≥ 0)) rfl rfl (fun hk => ?_) (fun hk => ?_)
        · replace hk := of_decide_eq_true hk
          refine GS.trim (env' := [(5, .int .u64 ((y : Nat) : Int)), (6, .int .i64 ((out : Nat) : Int)), (7, .int .i64 (((k : Nat) : Int) - 1))]) (mem' := []) [5, 6, 7] [] (by kernel_rfl) (by kernel_rfl) ?_
          obtain ⟨k, rfl⟩ : ∃ j, k = j + 1 := ⟨k - 1, by omega⟩
          refine GS.conv (env' := [(5, .int .u64 ((y : Nat) : Int)), (6, .int .i64 ((out : Nat) : Int)), (7, .int .i64 ((k : Nat) : Int))]) (congrArg (fun v : Value => [(5, .int .u64 ((y : Nat) : Int)), (6, .int .i64 ((out : Nat) : Int)), (7, v)]) (show ((.int .i64 ((((k + 1 : Nat)) : Int) - 1) : Value) = .int .i64 ((k : Nat) : Int)) from int_eq (by omega))) rfl ?_
          obtain ⟨p, hp⟩ : ∃ p, p = 2 ^ k := ⟨_, rfl⟩
          have hp1 : p ≤ 8796093022208 := by rw [hp]; exact Nat.pow_le_pow_right (n := 2) (by decide) (show k ≤ 43 by omega)
          have hpp : 2 ^ (k + 1) = 2 * p := by rw [hp, Nat.pow_succ]; omega
          have hyy : y * y ≤ 18446744065119617025 := Nat.mul_le_mul (Nat.le_of_lt_succ h2) (Nat.le_of_lt_succ h2)
          obtain ⟨z, hz⟩ : ∃ z, z = y * y / 2147483648 := ⟨_, rfl⟩
          refine GS.skip ?_
          refine GS.seq ?_
          refine GS.block ?_
          refine GS.seq ?_
          -- region 13, ref.go:21
          refine GS.region (env' := fun _ => [(5, .int .u64 ((z : Nat) : Int)), (6, .int .i64 ((out : Nat) : Int)), (7, .int .i64 ((k : Nat) : Int))]) (mem' := fun _ => []) (RunsTo.mk [(2, { sp := some (.int .u64 ((y * y : Nat) : Int)) }), (3, { sp := some (.int .u64 ((z : Nat) : Int)) })] [5, 6, 7] [] (fun _ => [(.int .u64 (IntKind.u64.wrap (((y : Nat) : Int) * ((y : Nat) : Int))) : Value) = .int .u64 ((y * y : Nat) : Int), (.int .u64 (Int.fdiv ((y * y : Nat) : Int) (2 ^ 31)) : Value) = .int .u64 ((z : Nat) : Int)]) (fun _ => by kernel_rfl) (fun _ => ⟨wu64 (by rw [Int.natCast_mul]) (by omega) (by omega), int_eq (by rw [hz]; exact shr_nat _ 31), trivial⟩)) ?_
          intro _
          refine GS.seq ?_
          -- region 14, ref.go:22
          refine GS.region (env' := fun _ => [(5, .int .u64 ((z : Nat) : Int)), (6, .int .i64 ((out : Nat) : Int)), (7, .int .i64 ((k : Nat) : Int)), (39, .bool (decide (((z : Nat) : Int) ≥ 4294967296)))]) (mem' := fun _ => []) (RunsTo.mk [] [5, 6, 7, 39] [] (fun _ => []) (fun _ => by kernel_rfl) (fun _ => trivial)) ?_
          intro _
          refine GS.cond (t := decide (((z : Nat) : Int) ≥ 4294967296)) rfl rfl (fun hz2 => ?_) (fun hz2 => ?_)
          · replace hz2 := of_decide_eq_true hz2
            refine GS.seq ?_
            -- region 15, ref.go:23
            refine GS.region (env' := fun _ => [(5, .int .u64 ((z : Nat) : Int)), (6, .int .i64 ((out + p : Nat) : Int)), (7, .int .i64 ((k : Nat) : Int))]) (mem' := fun _ => []) (RunsTo.mk [(2, { sp := some (.int .u64 ((k : Nat) : Int)) }), (3, { act := .shift, sp := some (.int .i64 ((p : Nat) : Int)) }), (4, { sp := some (.int .i64 ((out + p : Nat) : Int)) })] [5, 6, 7] [] (fun _ => [(.int .u64 (IntKind.u64.wrap ((k : Nat) : Int)) : Value) = .int .u64 ((k : Nat) : Int), 0 ≤ ((k : Nat) : Int), (.int .i64 (IntKind.i64.wrap (1 * 2 ^ (min (Int.toNat ((k : Nat) : Int)) 64))) : Value) = .int .i64 ((p : Nat) : Int), (.int .i64 (IntKind.i64.wrap (((out : Nat) : Int) + ((p : Nat) : Int))) : Value) = .int .i64 ((out + p : Nat) : Int)]) (fun _ => by kernel_rfl) (fun _ => ⟨int_eq (u64_nat (by omega)), by omega, w64 (by rw [hp]; have := shl_nat 1 k (by omega); simpa using this) (by omega) (by omega), w64 (by omega) (by omega) (by omega), trivial⟩)) ?_
            intro _
            -- region 16, ref.go:24
            refine GS.region (env' := fun _ => [(5, .int .u64 ((z / 2 : Nat) : Int)), (6, .int .i64 ((out + p : Nat) : Int)), (7, .int .i64 ((k : Nat) : Int))]) (mem' := fun _ => []) (RunsTo.mk [(1, { sp := some (.int .u64 ((z / 2 : Nat) : Int)) })] [5, 6, 7] [] (fun _ => [(.int .u64 (Int.fdiv ((z : Nat) : Int) (2 ^ 1)) : Value) = .int .u64 ((z / 2 : Nat) : Int)]) (fun _ => by kernel_rfl) (fun _ => ⟨int_eq (shr_nat z 1), trivial⟩)) ?_
            intro _
            refine GS.inBlock ?_
            -- region 12, ref.go:20
            refine GS.region (env' := fun _ => [(5, .int .u64 ((z / 2 : Nat) : Int)), (6, .int .i64 ((out + p : Nat) : Int)), (7, .int .i64 (((k : Nat) : Int) - 1))]) (mem' := fun _ => []) (RunsTo.mk [(1, { sp := some (.int .i64 (((k : Nat) : Int) - 1)) })] [5, 6, 7] [] (fun _ => [(.int .i64 (IntKind.i64.wrap (((k : Nat) : Int) - 1)) : Value) = .int .i64 (((k : Nat) : Int) - 1)]) (fun _ => by kernel_rfl) (fun _ => ⟨w64 rfl (by omega) (by omega), trivial⟩)) ?_
            intro _
            refine GS.inLoop ?_
            exact ih ⟨k, out + p, z / 2⟩ ⟨by omega, by omega, by rw [← hp]; omega, by rw [← h4]; exact (lnLoop_hi k out y p z hp hz (by omega)).symm⟩ (show k < (k + 1) from by omega)
          · replace hz2 := of_decide_eq_false hz2
            refine GS.skip ?_
            refine GS.inBlock ?_
            -- region 12, ref.go:20
            refine GS.region (env' := fun _ => [(5, .int .u64 ((z : Nat) : Int)), (6, .int .i64 ((out : Nat) : Int)), (7, .int .i64 (((k : Nat) : Int) - 1))]) (mem' := fun _ => []) (RunsTo.mk [(1, { sp := some (.int .i64 (((k : Nat) : Int) - 1)) })] [5, 6, 7] [] (fun _ => [(.int .i64 (IntKind.i64.wrap (((k : Nat) : Int) - 1)) : Value) = .int .i64 (((k : Nat) : Int) - 1)]) (fun _ => by kernel_rfl) (fun _ => ⟨w64 rfl (by omega) (by omega), trivial⟩)) ?_
            intro _
            refine GS.inLoop ?_
            exact ih ⟨k, out, z⟩ ⟨by omega, by omega, by rw [← hp]; omega, by rw [← h4]; exact (lnLoop_lo k out y z hz (by omega)).symm⟩ (show k < (k + 1) from by omega)
        · replace hk := of_decide_eq_false hk
          obtain rfl : k = 0 := by omega
          refine GS.exit rfl ?_
          refine GS.seq ?_
          -- region 17, ref.go:27
          refine GS.region (env' := fun _ => [(2, .int .i64 ((out : Nat) : Int))]) (mem' := fun _ => []) (RunsTo.mk [] [2] [] (fun _ => []) (fun _ => by kernel_rfl) (fun _ => trivial)) ?_
          intro _
          refine GS.ret (fn := Try.f10) [0] [.int .i64 ((out : Nat) : Int)] [] rfl Try.func10 (by kernel_rfl) trivial (fun w' hs => ?_)
          exact ⟨by rw [hT, ← h4]; rfl, hs.keep⟩

end Go.Proofs.Ytmdmfjgpjpfoaaa
