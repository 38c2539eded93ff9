/-
  CHAPTER 19, RecoveryPushes: a message has bytes; the law on its model.
-/
import Derived.Test.YtmhejmkelhflmaaGreatM19p
set_option linter.unusedVariables false
set_option linter.unusedSimpArgs false
set_option maxRecDepth 100000
set_option maxHeartbeats 4000000
namespace Go.Proofs.YtmhejmkelhflmaaGreat
open Go Go.RowKit Sx

theorem lives19 : m_tholelaw19_lives 64 = some () := by kernel_rfl

theorem loopC_inv {σ ρ : Type} (Q : Nat → σ → Prop) (n : Nat) (r : Option ρ) (st : (σ → Option ρ) → Nat → σ → Option ρ) (fin : Nat → σ → Option ρ) (R : Option ρ → Prop)
    (hs : ∀ nx c s, c < n → Q c s → ∃ s', Q (c + 1) s' ∧ st nx c s = nx s') (hf : ∀ s, Q n s → R (fin n s)) : ∀ (k c : Nat) (s : σ), c + k = n → Q c s → R (loopC st fin k c s)
  | 0, c, s, h, hq => by
    obtain rfl : c = n := by omega
    rw [loopC]; exact hf s hq
  | k + 1, c, s, h, hq => by
    obtain ⟨s', h1, e⟩ := hs (fun s' => loopC st fin k (c + 1) s') c s (by omega) hq
    rw [loopC, e]; exact loopC_inv Q n r st fin R hs hf k (c + 1) s' (by omega) h1

/-- Bytes behind others: at most k more. -/
def Put (f : List UInt8 → Option (List UInt8)) (k : Nat) : Prop := ∀ out, out.length + k ≤ 10000000 → ∃ r, f out = some r ∧ r.length ≤ out.length + k

theorem Put.bind {f g : List UInt8 → Option (List UInt8)} {k m : Nat} (hf : Put f k) (hg : Put g m) : Put (fun o => (f o).bind g) (k + m) := by
  intro out h
  obtain ⟨r, h1, h2⟩ := hf out (by omega)
  obtain ⟨q, h3, h4⟩ := hg r (by omega)
  exact ⟨q, by show (f out).bind g = _; rw [h1, Option.bind_some, h3], by omega⟩
theorem Put.done : Put (fun o => some o) 0 := fun out h => ⟨out, rfl, Nat.le_refl _⟩

theorem put_bytes (n : Nat) (hn : n ≤ 64) (a1 : Int) (q : Nat) (out : List UInt8) (h : out.length + n ≤ 10000000) :
    ∃ r, loopC (fun (nx32 : List UInt8 → Option (List UInt8)) (v6_1 : Nat) (l1_1 : List UInt8) => grd (I64 (8 * ((v6_1 : Nat) : Int))) (grd (0 ≤ (8 * ((v6_1 : Nat) : Int))) (grd (0 ≤ (IntKind.u8.wrap (Int.fdiv a1 (2 ^ (min (Int.toNat (8 * ((v6_1 : Nat) : Int))) q)))) ∧ (IntKind.u8.wrap (Int.fdiv a1 (2 ^ (min (Int.toNat (8 * ((v6_1 : Nat) : Int))) q)))) < 256) (grd (App (l1_1.length + [(UInt8.ofNat (Int.toNat (IntKind.u8.wrap (Int.fdiv a1 (2 ^ (min (Int.toNat (8 * ((v6_1 : Nat) : Int))) q))))))].length) 1) (nx32 (l1_1 ++ [(UInt8.ofNat (Int.toNat (IntKind.u8.wrap (Int.fdiv a1 (2 ^ (min (Int.toNat (8 * ((v6_1 : Nat) : Int))) q))))))])))))) (fun (v6_1 : Nat) (l1_1 : List UInt8) => some l1_1) n 0 out = some r ∧ r.length ≤ out.length + n := by
  refine loopC_inv (fun c s => s.length = out.length + c) n none _ _ (fun (o : Option (List UInt8)) => ∃ r : List UInt8, o = some r ∧ r.length ≤ out.length + n) (fun nx c s hc hq => ?_) (fun s hq => ?_) n 0 out (by omega) (by omega)
  rotate_left
  · exact ⟨s, rfl, by omega⟩
  refine ⟨s ++ [UInt8.ofNat (Int.toNat (IntKind.u8.wrap (Int.fdiv a1 (2 ^ (min (Int.toNat (8 * ((c : Nat) : Int))) q)))))], ?_, ?_⟩
  · simp only [List.length_append, List.length_cons, List.length_nil]; omega
  · rw [grd_pos _ (by unfold I64; omega), grd_pos _ (by omega), grd_pos _ (wrap_u8_range _), grd_pos _ (by unfold App; simp only [List.length_cons, List.length_nil]; omega)]

theorem put_int (F : Nat) (a1 : Int) : Put (fun o => m_tholeref02_Int_2 F o a1) 8 := by
  intro out h
  show ∃ r, m_tholeref02_Int_2 F out a1 = some r ∧ _
  rw [m_tholeref02_Int_2, grd_pos _ (by omega)]
  exact put_bytes 8 (by omega) a1 64 out h
theorem put_int0 (F : Nat) (a1 : Int) : ∃ r, m_tholeref02_Int F a1 = some r ∧ r.length ≤ 8 := by
  obtain ⟨r, h1, h2⟩ := put_int F a1 [] (by simp)
  exact ⟨r, h1, by simpa using h2⟩
theorem put_word (F : Nat) (a1 : Int) : Put (fun o => m_tholeref02_Word F o a1) 4 := by
  intro out h
  show ∃ r, m_tholeref02_Word F out a1 = some r ∧ _
  rw [m_tholeref02_Word, grd_pos _ (by omega)]
  exact put_bytes 4 (by omega) a1 32 out h
theorem put_count (F : Nat) (a1 : Int) : Put (fun o => m_tholeref02_Count F o a1) 4 := (put_word F _).bind Put.done
theorem put_node (F : Nat) (a1 : S_api_Node) : Put (fun o => m_tholeref02_PutNode F o a1) 16 := (put_int F _).bind ((put_int F _).bind Put.done)
theorem put_pg (F : Nat) (a1 : S_api_Pg) : Put (fun o => m_tholeref02_PutPg F o a1) 16 := (put_int F _).bind ((put_int F _).bind Put.done)
theorem put_version (F : Nat) (a1 : S_api_Version) : Put (fun o => m_tholeref02_PutVersion F o a1) 16 := (put_int F _).bind ((put_int F _).bind Put.done)
theorem put_info (F : Nat) (a1 : S_api_Info) : Put (fun o => m_tholeref02_PutInfo F o a1) 48 := (put_int F _).bind ((put_version F _).bind ((put_version F _).bind ((put_int F _).bind Put.done)))
theorem put_state (F : Nat) (a1 : Int) (a2 : S_api_Version) : Put (fun o => m_tholeref02_PutState F o a1 a2) 36 := (put_int F _).bind ((put_version F _).bind ((put_count F _).bind ((put_count F _).bind ((put_count F _).bind Put.done))))
theorem put_bool (F : Nat) (b : Bool) : Put (fun o => m_tholeref02_Bool F o b) 1 := by
  intro out h
  show ∃ r, m_tholeref02_Bool F out b = some r ∧ _
  rw [m_tholeref02_Bool]
  cases b with
  | true => rw [cond_true, grd_pos _ (by unfold App; simp only [List.length_cons, List.length_nil]; omega)]; exact ⟨_, rfl, by simp⟩
  | false => rw [cond_false, grd_pos _ (by unfold App; simp only [List.length_cons, List.length_nil]; omega)]; exact ⟨_, rfl, by simp⟩
theorem put_app (l : List UInt8) : Put (fun o => grd (App (o.length + l.length) 1) (some (o ++ l))) l.length := by
  intro out h
  show ∃ r, grd _ _ = some r ∧ _
  rw [grd_pos _ (by unfold App; omega)]
  exact ⟨_, rfl, by simp⟩
theorem put_bytes1 (F : Nat) (l : List UInt8) : Put (fun o => m_tholeref02_Bytes F o l) (4 + l.length) := (put_count F _).bind (put_app l)
theorem put_bytes2 (F : Nat) : Put (fun o => m_tholeref02_Bytes_2 F o) 4 := (put_count F _).bind (put_app [])
theorem put_entry (F : Nat) (a1 : S_api_Entry) : Put (fun o => m_tholeref02_PutEntry F o a1) (16 + (1 + (8 + ((4 + a1.Name.data.toList.length) + (8 + (8 + 0)))))) :=
  (put_version F _).bind ((put_bool F _).bind ((put_int F _).bind ((put_bytes1 F _).bind ((put_int F _).bind ((put_int F _).bind Put.done)))))
theorem put_object (F : Nat) (a1 : ByteArray) (a2 : S_api_Version) (a3 : List UInt8) : Put (fun o => m_tholeref02_PutObject F o a1 a2 a3) ((4 + a1.data.toList.length) + (16 + ((4 + a3.length) + 0))) :=
  (put_bytes1 F _).bind ((put_version F _).bind ((put_bytes1 F _).bind Put.done))
theorem put_op (F : Nat) (a1 : Int) (a2 : ByteArray) (a3 : S_api_Version) : Put (fun o => m_tholeref02_PutOp F o a1 a2 a3) (8 + ((4 + a2.data.toList.length) + (4 + (16 + 0)))) :=
  (put_int F _).bind ((put_bytes1 F _).bind ((put_bytes2 F).bind ((put_version F _).bind Put.done)))

theorem Put.run {f : List UInt8 → Option (List UInt8)} {k : Nat} (h : Put f k) (out : List UInt8) (hl : out.length + k ≤ 10000000) : ∃ r, f out = some r := by
  obtain ⟨r, h1, _⟩ := h out hl
  exact ⟨r, h1⟩

theorem put_msg (F : Nat) (a1 : Int) (a2 a3 : S_api_Node) (a4 a5 : Int) (a6 : S_api_Pg) (a7 a8 a9 : Int) (a10 : S_api_Info) (a11 : Int) (a12 : S_api_Version) (a13 : S_api_Entry) (a14 : ByteArray) (a15 : S_api_Version) (a16 : List UInt8) (a17 : Int) (a18 : ByteArray) (a19 : S_api_Version) (a20 : Int)
    (h13 : a13.Name.size = 0) (h14 : a14.size ≤ 1048576) (h16 : a16.length ≤ 1048576) (h18 : a18.size = 0) :
    ∃ r, m_tholeref02_Msg F a1 a2 a3 a4 a5 a6 a7 a8 a9 a10 a11 a12 a13 a14 a15 a16 a17 a18 a19 a20 = some r := by
  have e1 : a13.Name.data.toList.length = 0 := by rw [Array.length_toList]; exact h13
  have e2 : a14.data.toList.length ≤ 1048576 := by rw [Array.length_toList]; exact h14
  have e3 : a18.data.toList.length = 0 := by rw [Array.length_toList]; exact h18
  obtain ⟨r0, h1, h2⟩ := put_int0 F a1
  rw [m_tholeref02_Msg, m_tholeref02_PutMsg, h1, Option.bind_some]
  refine Put.run (f := fun o => Option.bind (Option.bind (m_tholeref02_PutNode F o (S_api_Node.mk a2.Kind a2.Id)) _) _) (k := 700 + a14.data.toList.length + a16.length) ?_ r0 (by omega)
  refine (fun {f} {k} (h : Put f k) (hk : k ≤ 700 + a14.data.toList.length + a16.length) => (fun out ho => by obtain ⟨r, q1, q2⟩ := h out (by omega); exact ⟨r, q1, by omega⟩ : Put f (700 + a14.data.toList.length + a16.length))) (Put.bind ((put_node F _).bind ((put_node F _).bind ((put_int F _).bind ((put_int F _).bind ((put_pg F _).bind ((put_int F _).bind ((put_int F _).bind ((put_int F _).bind
    ((put_count F _).bind ((put_count F _).bind ((put_count F _).bind ((put_info F _).bind ((put_state F _ _).bind ((put_entry F _).bind ((put_object F _ _ _).bind ((put_op F _ _ _).bind ((put_count F _).bind ((put_count F _).bind ((put_int F _).bind Put.done))))))))))))))))))) Put.done) ?_
  show _ ≤ _
  have e1' : (S_api_Entry.mk (S_api_Version.mk a13.Version.Epoch a13.Version.N) a13.Remove a13.Errno a13.Name a13.Client a13.Number).Name.data.toList.length = 0 := e1
  omega

theorem law_pushes {x1 : Int} {x2 x3 : S_api_Node} {x4 x5 : Int} {x6 : S_api_Pg} {x7 x8 x9 : Int} {x10 x11 x12 : Nat} {x13 : S_api_Info} {x14 : Int} {x15 : S_api_Version} {x16 : List S_api_Entry} {x17 : List S_api_Last} {x18 : List S_api_Item} {x19 : S_api_Entry} {x20 : ByteArray} {x21 : S_api_Version} {x22 : List UInt8} {x23 : Int} {x24 : ByteArray} {x25 : List UInt8} {x26 : S_api_Version} {x27 : List S_api_Item} {x28 : List ByteArray} {x29 : Int}
    {n : ByteArray} {v : S_api_Version} {d : List UInt8} {h0 h1 h2 : Int} (hn : n.size ≤ 1048576) (hd : d.length ≤ 1048576) :
    m_tholelaw19_RecoveryPushes 64 x1 x2 x3 x4 x5 x6 x7 x8 x9 x10 x11 x12 x13 x14 x15 x16 x17 x18 x19 x20 x21 x22 x23 x24 x25 x26 x27 x28 x29 n v d h0 h1 h2 = some true := by
  have hA : App (([] : List UInt8).length + d.length) 1 := by unfold App; simp only [List.length_nil]; omega
  rw [m_tholelaw19_RecoveryPushes, m_recovery_Push, m_tholeref19_Push, m_slices_Clone___byte_byte_, grd_pos _ hA, grd_pos _ hA]
  have key : ∀ (N : ByteArray) (V : S_api_Version) (D : List UInt8), N.size ≤ 1048576 → D.length ≤ 1048576 →
      ∃ r, m_tholeref02_Msg 64 25 (S_api_Node.mk 2 h0) x2 h1 x5 x6 0 0 0 (S_api_Info.mk 0 (S_api_Version.mk 0 0) (S_api_Version.mk 0 0) 0) 0 (S_api_Version.mk 0 0) (S_api_Entry.mk (S_api_Version.mk 0 0) false 0 (ByteArray.mk #[]) 0 0) N V D 0 (ByteArray.mk #[]) (S_api_Version.mk 0 0) h2 = some r :=
    fun N V D hN hD => put_msg 64 _ _ _ _ _ _ _ _ _ _ _ _ _ _ _ _ _ _ _ _ rfl hN hD rfl
  cases hq : (h2 == 0) with
  | true =>
    obtain ⟨r, hr⟩ := key n v ([] ++ d) hn (by simpa using hd)
    simp only [cond_true, Option.bind_some]
    rw [hr]
    simp only [Option.bind_some, beq_self_eq_true, cond_true, lives19]
  | false =>
    obtain ⟨r, hr⟩ := key (ByteArray.mk #[]) (S_api_Version.mk 0 0) [] (Nat.zero_le _) (Nat.zero_le _)
    simp only [cond_false, Option.bind_some]
    rw [hr]
    simp only [Option.bind_some, beq_self_eq_true, cond_true, lives19]
end Go.Proofs.YtmhejmkelhflmaaGreat
