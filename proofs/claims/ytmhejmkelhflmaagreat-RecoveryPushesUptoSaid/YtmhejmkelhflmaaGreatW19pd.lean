/-
  CHAPTER 19p: the functions do what their models say (4).
-/
import Derived.Test.YtmhejmkelhflmaaGreatE19p
import Derived.Test.YtmhejmkelhflmaaGreatW19pc
set_option linter.unusedVariables false
set_option linter.unusedSimpArgs false
set_option maxRecDepth 100000
set_option maxHeartbeats 8000000
namespace Go.Proofs.YtmhejmkelhflmaaGreat
open Go Go.RowKit Sx

theorem w_tholeref02_Msg (F : Nat) (a0_Kind : Int) (a0_From : S_api_Node) (a0_To : S_api_Node) (a0_Boot : Int) (a0_Epoch : Int) (a0_Pg : S_api_Pg) (a0_Client : Int) (a0_Number : Int) (a0_Ballot : Int) (a0_Info : S_api_Info) (a0_State_Les : Int) (a0_State_Tail : S_api_Version) (a0_Entry : S_api_Entry) (a0_Object_Name : ByteArray) (a0_Object_Version : S_api_Version) (a0_Object_Data_o : Option Addr) (a0_Object_Data_c : Nat) (a0_Object_Data : List UInt8) (a0_Op_Kind : Int) (a0_Op_Name : ByteArray) (a0_Op_Expect : S_api_Version) (a0_Errno : Int) {y : List UInt8} (hm : m_tholeref02_Msg F a0_Kind a0_From a0_To a0_Boot a0_Epoch a0_Pg a0_Client a0_Number a0_Ballot a0_Info a0_State_Les a0_State_Tail a0_Entry a0_Object_Name a0_Object_Version a0_Object_Data a0_Op_Kind a0_Op_Name a0_Op_Expect a0_Errno = some y) : CallG Tryz.prog 6 #[.agg #[.int .i64 a0_Kind, .int .i64 a0_From.Kind, .int .i64 a0_From.Id, .int .i64 a0_To.Kind, .int .i64 a0_To.Id, .int .i64 a0_Boot, .int .i64 a0_Epoch, .int .i64 a0_Pg.Pool, .int .i64 a0_Pg.Seed, .int .i64 a0_Client, .int .i64 a0_Number, .int .i64 a0_Ballot, .slice none 0 0, .slice none 0 0, .slice none 0 0, .int .i64 a0_Info.Les, .int .i64 a0_Info.Head.Epoch, .int .i64 a0_Info.Head.N, .int .i64 a0_Info.Tail.Epoch, .int .i64 a0_Info.Tail.N, .int .i64 a0_Info.Born, .int .i64 a0_State_Les, .int .i64 a0_State_Tail.Epoch, .int .i64 a0_State_Tail.N, .slice none 0 0, .slice none 0 0, .slice none 0 0, .int .i64 a0_Entry.Version.Epoch, .int .i64 a0_Entry.Version.N, .bool a0_Entry.Remove, .int .i64 a0_Entry.Errno, .string a0_Entry.Name, .int .i64 a0_Entry.Client, .int .i64 a0_Entry.Number, .string a0_Object_Name, .int .i64 a0_Object_Version.Epoch, .int .i64 a0_Object_Version.N, .slice a0_Object_Data_o a0_Object_Data.length a0_Object_Data_c, .int .i64 a0_Op_Kind, .string a0_Op_Name, .slice none 0 0, .int .i64 a0_Op_Expect.Epoch, .int .i64 a0_Op_Expect.N, .slice none 0 0, .slice none 0 0, .int .i64 a0_Errno]] (X := Option Addr × Nat) (fun ⟨x0, x1⟩ => .slice x0 y.length x1) [] [r5 a0_Object_Data_o a0_Object_Data] (fun ⟨x0, x1⟩ => [o5 x0 x1 y]) := by
  intro w hg
  rw [m_tholeref02_Msg] at hm
  refine GS.start (S := mayT [] [r5 a0_Object_Data_o a0_Object_Data]) (mem := [(1, r5 a0_Object_Data_o a0_Object_Data)]) Tryz.func6 rfl Tryz.ntmps6 (Nat.le_of_ble_eq_true rfl) (hg.start rfl) ?_
  refine GS.conv (env' := [(0, .agg #[.int .i64 a0_Kind, .int .i64 a0_From.Kind, .int .i64 a0_From.Id, .int .i64 a0_To.Kind, .int .i64 a0_To.Id, .int .i64 a0_Boot, .int .i64 a0_Epoch, .int .i64 a0_Pg.Pool, .int .i64 a0_Pg.Seed, .int .i64 a0_Client, .int .i64 a0_Number, .int .i64 a0_Ballot, .slice none 0 0, .slice none 0 0, .slice none 0 0, .int .i64 a0_Info.Les, .int .i64 a0_Info.Head.Epoch, .int .i64 a0_Info.Head.N, .int .i64 a0_Info.Tail.Epoch, .int .i64 a0_Info.Tail.N, .int .i64 a0_Info.Born, .int .i64 a0_State_Les, .int .i64 a0_State_Tail.Epoch, .int .i64 a0_State_Tail.N, .slice none 0 0, .slice none 0 0, .slice none 0 0, .int .i64 a0_Entry.Version.Epoch, .int .i64 a0_Entry.Version.N, .bool a0_Entry.Remove, .int .i64 a0_Entry.Errno, .string a0_Entry.Name, .int .i64 a0_Entry.Client, .int .i64 a0_Entry.Number, .string a0_Object_Name, .int .i64 a0_Object_Version.Epoch, .int .i64 a0_Object_Version.N, .slice a0_Object_Data_o a0_Object_Data.length a0_Object_Data_c, .int .i64 a0_Op_Kind, .string a0_Op_Name, .slice none 0 0, .int .i64 a0_Op_Expect.Epoch, .int .i64 a0_Op_Expect.N, .slice none 0 0, .slice none 0 0, .int .i64 a0_Errno])]) rfl rfl ?_
  refine GS.seq ?_
  refine GS.region (env' := fun fr1 => [(1, .pointer (some ⟨(fr1 0).x, 0, none⟩))]) (mem' := fun fr1 => [(1, r5 a0_Object_Data_o a0_Object_Data), (2, .cells ((fr1 0).x) 48 [.int .i64 a0_Kind, .int .i64 a0_From.Kind, .int .i64 a0_From.Id, .int .i64 a0_To.Kind, .int .i64 a0_To.Id, .int .i64 a0_Boot, .int .i64 a0_Epoch, .int .i64 a0_Pg.Pool, .int .i64 a0_Pg.Seed, .int .i64 a0_Client, .int .i64 a0_Number, .int .i64 a0_Ballot, .slice none 0 0, .slice none 0 0, .slice none 0 0, .int .i64 a0_Info.Les, .int .i64 a0_Info.Head.Epoch, .int .i64 a0_Info.Head.N, .int .i64 a0_Info.Tail.Epoch, .int .i64 a0_Info.Tail.N, .int .i64 a0_Info.Born, .int .i64 a0_State_Les, .int .i64 a0_State_Tail.Epoch, .int .i64 a0_State_Tail.N, .slice none 0 0, .slice none 0 0, .slice none 0 0, .int .i64 a0_Entry.Version.Epoch, .int .i64 a0_Entry.Version.N, .bool a0_Entry.Remove, .int .i64 a0_Entry.Errno, .string a0_Entry.Name, .int .i64 a0_Entry.Client, .int .i64 a0_Entry.Number, .string a0_Object_Name, .int .i64 a0_Object_Version.Epoch, .int .i64 a0_Object_Version.N, .slice a0_Object_Data_o a0_Object_Data.length a0_Object_Data_c, .int .i64 a0_Op_Kind, .string a0_Op_Name, .slice none 0 0, .int .i64 a0_Op_Expect.Epoch, .int .i64 a0_Op_Expect.N, .slice none 0 0, .slice none 0 0, .int .i64 a0_Errno])]) (RunsTo.mk [(0, { act := .new .var, key := some 2 })] [1] [1, 2] (fun fr1 => []) (fun fr1 => by kernel_rfl) (fun fr1 => trivial)) ?_
  intro fr1
  refine GS.seq ?_
  refine bnd_elim hm (fun y3 e4 hm => ?_)
  refine GS.open_ ?_
  refine GR.run (i := 0) 1 (env' := fun _ => [(3, .agg #[.int .i64 a0_Kind, .int .i64 a0_From.Kind, .int .i64 a0_From.Id, .int .i64 a0_To.Kind, .int .i64 a0_To.Id, .int .i64 a0_Boot, .int .i64 a0_Epoch, .int .i64 a0_Pg.Pool, .int .i64 a0_Pg.Seed, .int .i64 a0_Client, .int .i64 a0_Number, .int .i64 a0_Ballot, .slice none 0 0, .slice none 0 0, .slice none 0 0, .int .i64 a0_Info.Les, .int .i64 a0_Info.Head.Epoch, .int .i64 a0_Info.Head.N, .int .i64 a0_Info.Tail.Epoch, .int .i64 a0_Info.Tail.N, .int .i64 a0_Info.Born, .int .i64 a0_State_Les, .int .i64 a0_State_Tail.Epoch, .int .i64 a0_State_Tail.N, .slice none 0 0, .slice none 0 0, .slice none 0 0, .int .i64 a0_Entry.Version.Epoch, .int .i64 a0_Entry.Version.N, .bool a0_Entry.Remove, .int .i64 a0_Entry.Errno, .string a0_Entry.Name, .int .i64 a0_Entry.Client, .int .i64 a0_Entry.Number, .string a0_Object_Name, .int .i64 a0_Object_Version.Epoch, .int .i64 a0_Object_Version.N, .slice a0_Object_Data_o a0_Object_Data.length a0_Object_Data_c, .int .i64 a0_Op_Kind, .string a0_Op_Name, .slice none 0 0, .int .i64 a0_Op_Expect.Epoch, .int .i64 a0_Op_Expect.N, .slice none 0 0, .slice none 0 0, .int .i64 a0_Errno])]) (mem' := fun _ => [(1, r5 a0_Object_Data_o a0_Object_Data)]) (Nat.le_of_ble_eq_true (by kernel_rfl)) (RunsTo.mk [(0, { act := .load 2 0 0 [] })] [3] [1] (fun _ => [(fr1 0).x = (fr1 0).x]) (fun _ => by kernel_rfl) (fun _ => ⟨rfl, trivial⟩)) ?_
  intro _
  refine GR.callG (X := Option Addr × Nat) (i := 1) (g := 9) (args := #[.slice none 0 0, .agg #[.int .i64 a0_Kind, .int .i64 a0_From.Kind, .int .i64 a0_From.Id, .int .i64 a0_To.Kind, .int .i64 a0_To.Id, .int .i64 a0_Boot, .int .i64 a0_Epoch, .int .i64 a0_Pg.Pool, .int .i64 a0_Pg.Seed, .int .i64 a0_Client, .int .i64 a0_Number, .int .i64 a0_Ballot, .slice none 0 0, .slice none 0 0, .slice none 0 0, .int .i64 a0_Info.Les, .int .i64 a0_Info.Head.Epoch, .int .i64 a0_Info.Head.N, .int .i64 a0_Info.Tail.Epoch, .int .i64 a0_Info.Tail.N, .int .i64 a0_Info.Born, .int .i64 a0_State_Les, .int .i64 a0_State_Tail.Epoch, .int .i64 a0_State_Tail.N, .slice none 0 0, .slice none 0 0, .slice none 0 0, .int .i64 a0_Entry.Version.Epoch, .int .i64 a0_Entry.Version.N, .bool a0_Entry.Remove, .int .i64 a0_Entry.Errno, .string a0_Entry.Name, .int .i64 a0_Entry.Client, .int .i64 a0_Entry.Number, .string a0_Object_Name, .int .i64 a0_Object_Version.Epoch, .int .i64 a0_Object_Version.N, .slice a0_Object_Data_o a0_Object_Data.length a0_Object_Data_c, .int .i64 a0_Op_Kind, .string a0_Op_Name, .slice none 0 0, .int .i64 a0_Op_Expect.Epoch, .int .i64 a0_Op_Expect.N, .slice none 0 0, .slice none 0 0, .int .i64 a0_Errno]]) (v := fun ⟨x5, x6⟩ => .slice x5 y3.length x6) (own := []) (ro := [r5 a0_Object_Data_o a0_Object_Data]) (es' := fun ⟨x5, x6⟩ => [o5 x5 x6 y3]) (mem' := fun ⟨x5, x6⟩ => [(1, r5 a0_Object_Data_o a0_Object_Data), (3, o5 x5 x6 y3)]) (env' := fun ⟨x5, x6⟩ => [(4, .slice x5 y3.length x6)]) [] [3] [4] [1, 3] false (by kernel_rfl) (by kernel_rfl) (by kernel_rfl) (by kernel_rfl) (by kernel_rfl) (fun _ => rfl) (fun _ _ => rfl) ⟨(.inl ⟨1, _, rfl, rfl, Cov.refl _, fun h => by cases h⟩), trivial⟩ (by rintro ⟨x5, x6⟩; kernel_rfl) (by rintro ⟨x5, x6⟩; kernel_rfl) ((by have h1 := w_tholeref02_PutMsg F a0_Kind a0_From a0_To a0_Boot a0_Epoch a0_Pg a0_Client a0_Number a0_Ballot a0_Info a0_State_Les a0_State_Tail a0_Entry a0_Object_Name a0_Object_Version a0_Object_Data_o a0_Object_Data_c a0_Object_Data a0_Op_Kind a0_Op_Name a0_Op_Expect a0_Errno e4; exact h1)) ?_
  rintro ⟨x5, x6⟩
  refine GR.run (i := 2) 1 (env' := fun _ => [(2, .slice x5 y3.length x6)]) (mem' := fun _ => [(3, o5 x5 x6 y3)]) (Nat.le_of_ble_eq_true (by kernel_rfl)) (RunsTo.mk [] [2] [3] (fun _ => []) (fun _ => by kernel_rfl) (fun _ => trivial)) ?_
  intro _
  refine GR.done (Nat.le_of_ble_eq_true (by kernel_rfl)) ?_
  have hy := Option.some.inj hm
  subst hy
  refine GS.ret (fn := Tryz.f6) [0] [.slice x5 y3.length x6] [] rfl Tryz.func6 (by kernel_rfl) trivial (fun w' hs => ?_)
  exact ⟨⟨x5, x6⟩, rfl, hs.turnedG (ks := [3]) rfl rfl⟩

theorem w_tholeref01_Crc (F : Nat) (a0_o : Option Addr) (a0_c : Nat) {y : Unit} (hm : m_tholeref01_Crc F = some y) : CallG Tryz.prog 10 #[.slice a0_o 1 a0_c] (X := Unit) (fun (_ : Unit) => .int .u32 2839306131) [] [.rd a0_o 1 [[.int .u8 120]]] (fun (_ : Unit) => []) := by
  intro w hg
  rw [m_tholeref01_Crc] at hm
  refine GS.start (S := mayT [] [.rd a0_o 1 [[.int .u8 120]]]) (mem := [(1, .rd a0_o 1 [[.int .u8 120]])]) Tryz.func10 rfl Tryz.ntmps10 (Nat.le_of_ble_eq_true rfl) (hg.start rfl) ?_
  refine GS.conv (env' := [(0, .slice a0_o 1 a0_c)]) rfl rfl ?_
  refine GS.seq ?_
  refine GS.region (env' := fun _ => [(0, .slice a0_o 1 a0_c)]) (mem' := fun _ => [(1, .rd a0_o 1 [[.int .u8 120]])]) (RunsTo.mk [] [0] [1] (fun _ => []) (fun _ => by kernel_rfl) (fun _ => trivial)) ?_
  intro _
  refine GS.seq ?_
  refine GS.region (env' := fun _ => [(0, .slice a0_o 1 a0_c), (3, .int .u32 4294967295)]) (mem' := fun _ => [(1, .rd a0_o 1 [[.int .u8 120]])]) (RunsTo.mk [] [0, 3] [1] (fun _ => []) (fun _ => by kernel_rfl) (fun _ => trivial)) ?_
  intro _
  refine GS.seq ?_
  refine GS.seq ?_
  refine GS.region (env' := fun _ => [(3, .int .u32 4294967295), (8, .slice a0_o 1 a0_c), (9, .int .i64 1), (10, .int .i64 0)]) (mem' := fun _ => [(1, .rd a0_o 1 [[.int .u8 120]])]) (RunsTo.mk [] [3, 8, 9, 10] [1] (fun _ => []) (fun _ => by kernel_rfl) (fun _ => trivial)) ?_
  intro _
  refine GS.block ?_
  refine GS.loop ?_
  refine GS.seq ?_
  refine GS.region (env' := fun _ => [(3, .int .u32 4294967295), (8, .slice a0_o 1 a0_c), (9, .int .i64 1), (10, .int .i64 0), (11, .bool true)]) (mem' := fun _ => [(1, .rd a0_o 1 [[.int .u8 120]])]) (RunsTo.mk [] [3, 8, 9, 10, 11] [1] (fun _ => []) (fun _ => by kernel_rfl) (fun _ => trivial)) ?_
  intro _
  refine GS.seq ?_
  refine GS.cond (t := true) rfl rfl (fun _ => ?_) (fun hf => by cases hf)
  refine GS.skip ?_
  refine GS.seq ?_
  refine GS.block ?_
  refine GS.seq ?_
  refine GS.region (env' := fun _ => [(3, .int .u32 4294967295), (5, .int .u8 120), (8, .slice a0_o 1 a0_c), (9, .int .i64 1), (10, .int .i64 0)]) (mem' := fun _ => [(1, .rd a0_o 1 [[.int .u8 120]])]) (RunsTo.mk [(0, { act := .idx 1 0 }), (1, { act := .load 1 0 0 [.int .u8 120] })] [3, 5, 8, 9, 10] [1] (fun _ => [a0_o = a0_o, 1 = ([[.int .u8 120]] : List (List Value)).length, (0 : Int) = ((0 : Nat) : Int), 0 < 1, blk a0_o = blk a0_o, offs a0_o + 0 * 1 = offs a0_o + (0 * 1 + 0), ([[.int .u8 120]] : List (List Value))[0]? = some [.int .u8 120]]) (fun _ => by kernel_rfl) (fun _ => ⟨rfl, rfl, rfl, (Nat.le_of_ble_eq_true rfl), rfl, rfl, rfl, trivial⟩)) ?_
  intro _
  refine GS.seq ?_
  refine GS.region (env' := fun _ => [(3, .int .u32 4294967295), (5, .int .u8 120), (6, .int .i64 0), (8, .slice a0_o 1 a0_c), (9, .int .i64 1), (10, .int .i64 0)]) (mem' := fun _ => [(1, .rd a0_o 1 [[.int .u8 120]])]) (RunsTo.mk [] [3, 5, 6, 8, 9, 10] [1] (fun _ => []) (fun _ => by kernel_rfl) (fun _ => trivial)) ?_
  intro _
  refine GS.block ?_
  refine GS.loop ?_
  refine GS.seq ?_
  refine GS.seq ?_
  refine GS.region (env' := fun _ => [(3, .int .u32 4294967295), (5, .int .u8 120), (6, .int .i64 0), (8, .slice a0_o 1 a0_c), (9, .int .i64 1), (10, .int .i64 0), (15, .bool true)]) (mem' := fun _ => [(1, .rd a0_o 1 [[.int .u8 120]])]) (RunsTo.mk [] [3, 5, 6, 8, 9, 10, 15] [1] (fun _ => []) (fun _ => by kernel_rfl) (fun _ => trivial)) ?_
  intro _
  refine GS.cond (t := true) rfl rfl (fun _ => ?_) (fun hf => by cases hf)
  refine GS.skip ?_
  refine GS.seq ?_
  refine GS.block ?_
  refine GS.seq ?_
  refine GS.region (env' := fun _ => [(3, .int .u32 4294967295), (5, .int .u8 120), (6, .int .i64 0), (7, .int .u32 1), (8, .slice a0_o 1 a0_c), (9, .int .i64 1), (10, .int .i64 0)]) (mem' := fun _ => [(1, .rd a0_o 1 [[.int .u8 120]])]) (RunsTo.mk [] [3, 5, 6, 7, 8, 9, 10] [1] (fun _ => []) (fun _ => by kernel_rfl) (fun _ => trivial)) ?_
  intro _
  refine GS.seq ?_
  refine GS.region (env' := fun _ => [(3, .int .u32 2147483647), (5, .int .u8 120), (6, .int .i64 0), (7, .int .u32 1), (8, .slice a0_o 1 a0_c), (9, .int .i64 1), (10, .int .i64 0)]) (mem' := fun _ => [(1, .rd a0_o 1 [[.int .u8 120]])]) (RunsTo.mk [] [3, 5, 6, 7, 8, 9, 10] [1] (fun _ => []) (fun _ => by kernel_rfl) (fun _ => trivial)) ?_
  intro _
  refine GS.seq ?_
  refine GS.region (env' := fun _ => [(3, .int .u32 2147483647), (5, .int .u8 120), (6, .int .i64 0), (8, .slice a0_o 1 a0_c), (9, .int .i64 1), (10, .int .i64 0), (29, .bool true)]) (mem' := fun _ => [(1, .rd a0_o 1 [[.int .u8 120]])]) (RunsTo.mk [] [3, 5, 6, 8, 9, 10, 29] [1] (fun _ => []) (fun _ => by kernel_rfl) (fun _ => trivial)) ?_
  intro _
  refine GS.cond (t := true) rfl rfl (fun _ => ?_) (fun hf => by cases hf)
  refine GS.region (env' := fun _ => [(3, .int .u32 4245275783), (5, .int .u8 120), (6, .int .i64 0), (8, .slice a0_o 1 a0_c), (9, .int .i64 1), (10, .int .i64 0)]) (mem' := fun _ => [(1, .rd a0_o 1 [[.int .u8 120]])]) (RunsTo.mk [] [3, 5, 6, 8, 9, 10] [1] (fun _ => []) (fun _ => by kernel_rfl) (fun _ => trivial)) ?_
  intro _
  refine GS.inBlock ?_
  refine GS.region (env' := fun _ => [(3, .int .u32 4245275783), (5, .int .u8 120), (6, .int .i64 1), (8, .slice a0_o 1 a0_c), (9, .int .i64 1), (10, .int .i64 0)]) (mem' := fun _ => [(1, .rd a0_o 1 [[.int .u8 120]])]) (RunsTo.mk [] [3, 5, 6, 8, 9, 10] [1] (fun _ => []) (fun _ => by kernel_rfl) (fun _ => trivial)) ?_
  intro _
  refine GS.inLoop ?_
  refine GS.seq ?_
  refine GS.seq ?_
  refine GS.region (env' := fun _ => [(3, .int .u32 4245275783), (5, .int .u8 120), (6, .int .i64 1), (8, .slice a0_o 1 a0_c), (9, .int .i64 1), (10, .int .i64 0), (15, .bool true)]) (mem' := fun _ => [(1, .rd a0_o 1 [[.int .u8 120]])]) (RunsTo.mk [] [3, 5, 6, 8, 9, 10, 15] [1] (fun _ => []) (fun _ => by kernel_rfl) (fun _ => trivial)) ?_
  intro _
  refine GS.cond (t := true) rfl rfl (fun _ => ?_) (fun hf => by cases hf)
  refine GS.skip ?_
  refine GS.seq ?_
  refine GS.block ?_
  refine GS.seq ?_
  refine GS.region (env' := fun _ => [(3, .int .u32 4245275783), (5, .int .u8 120), (6, .int .i64 1), (7, .int .u32 1), (8, .slice a0_o 1 a0_c), (9, .int .i64 1), (10, .int .i64 0)]) (mem' := fun _ => [(1, .rd a0_o 1 [[.int .u8 120]])]) (RunsTo.mk [] [3, 5, 6, 7, 8, 9, 10] [1] (fun _ => []) (fun _ => by kernel_rfl) (fun _ => trivial)) ?_
  intro _
  refine GS.seq ?_
  refine GS.region (env' := fun _ => [(3, .int .u32 2122637891), (5, .int .u8 120), (6, .int .i64 1), (7, .int .u32 1), (8, .slice a0_o 1 a0_c), (9, .int .i64 1), (10, .int .i64 0)]) (mem' := fun _ => [(1, .rd a0_o 1 [[.int .u8 120]])]) (RunsTo.mk [] [3, 5, 6, 7, 8, 9, 10] [1] (fun _ => []) (fun _ => by kernel_rfl) (fun _ => trivial)) ?_
  intro _
  refine GS.seq ?_
  refine GS.region (env' := fun _ => [(3, .int .u32 2122637891), (5, .int .u8 120), (6, .int .i64 1), (8, .slice a0_o 1 a0_c), (9, .int .i64 1), (10, .int .i64 0), (29, .bool true)]) (mem' := fun _ => [(1, .rd a0_o 1 [[.int .u8 120]])]) (RunsTo.mk [] [3, 5, 6, 8, 9, 10, 29] [1] (fun _ => []) (fun _ => by kernel_rfl) (fun _ => trivial)) ?_
  intro _
  refine GS.cond (t := true) rfl rfl (fun _ => ?_) (fun hf => by cases hf)
  refine GS.region (env' := fun _ => [(3, .int .u32 4235385147), (5, .int .u8 120), (6, .int .i64 1), (8, .slice a0_o 1 a0_c), (9, .int .i64 1), (10, .int .i64 0)]) (mem' := fun _ => [(1, .rd a0_o 1 [[.int .u8 120]])]) (RunsTo.mk [] [3, 5, 6, 8, 9, 10] [1] (fun _ => []) (fun _ => by kernel_rfl) (fun _ => trivial)) ?_
  intro _
  refine GS.inBlock ?_
  refine GS.region (env' := fun _ => [(3, .int .u32 4235385147), (5, .int .u8 120), (6, .int .i64 2), (8, .slice a0_o 1 a0_c), (9, .int .i64 1), (10, .int .i64 0)]) (mem' := fun _ => [(1, .rd a0_o 1 [[.int .u8 120]])]) (RunsTo.mk [] [3, 5, 6, 8, 9, 10] [1] (fun _ => []) (fun _ => by kernel_rfl) (fun _ => trivial)) ?_
  intro _
  refine GS.inLoop ?_
  refine GS.seq ?_
  refine GS.seq ?_
  refine GS.region (env' := fun _ => [(3, .int .u32 4235385147), (5, .int .u8 120), (6, .int .i64 2), (8, .slice a0_o 1 a0_c), (9, .int .i64 1), (10, .int .i64 0), (15, .bool true)]) (mem' := fun _ => [(1, .rd a0_o 1 [[.int .u8 120]])]) (RunsTo.mk [] [3, 5, 6, 8, 9, 10, 15] [1] (fun _ => []) (fun _ => by kernel_rfl) (fun _ => trivial)) ?_
  intro _
  refine GS.cond (t := true) rfl rfl (fun _ => ?_) (fun hf => by cases hf)
  refine GS.skip ?_
  refine GS.seq ?_
  refine GS.block ?_
  refine GS.seq ?_
  refine GS.region (env' := fun _ => [(3, .int .u32 4235385147), (5, .int .u8 120), (6, .int .i64 2), (7, .int .u32 1), (8, .slice a0_o 1 a0_c), (9, .int .i64 1), (10, .int .i64 0)]) (mem' := fun _ => [(1, .rd a0_o 1 [[.int .u8 120]])]) (RunsTo.mk [] [3, 5, 6, 7, 8, 9, 10] [1] (fun _ => []) (fun _ => by kernel_rfl) (fun _ => trivial)) ?_
  intro _
  refine GS.seq ?_
  refine GS.region (env' := fun _ => [(3, .int .u32 2117692573), (5, .int .u8 120), (6, .int .i64 2), (7, .int .u32 1), (8, .slice a0_o 1 a0_c), (9, .int .i64 1), (10, .int .i64 0)]) (mem' := fun _ => [(1, .rd a0_o 1 [[.int .u8 120]])]) (RunsTo.mk [] [3, 5, 6, 7, 8, 9, 10] [1] (fun _ => []) (fun _ => by kernel_rfl) (fun _ => trivial)) ?_
  intro _
  refine GS.seq ?_
  refine GS.region (env' := fun _ => [(3, .int .u32 2117692573), (5, .int .u8 120), (6, .int .i64 2), (8, .slice a0_o 1 a0_c), (9, .int .i64 1), (10, .int .i64 0), (29, .bool true)]) (mem' := fun _ => [(1, .rd a0_o 1 [[.int .u8 120]])]) (RunsTo.mk [] [3, 5, 6, 8, 9, 10, 29] [1] (fun _ => []) (fun _ => by kernel_rfl) (fun _ => trivial)) ?_
  intro _
  refine GS.cond (t := true) rfl rfl (fun _ => ?_) (fun hf => by cases hf)
  refine GS.region (env' := fun _ => [(3, .int .u32 4241446885), (5, .int .u8 120), (6, .int .i64 2), (8, .slice a0_o 1 a0_c), (9, .int .i64 1), (10, .int .i64 0)]) (mem' := fun _ => [(1, .rd a0_o 1 [[.int .u8 120]])]) (RunsTo.mk [] [3, 5, 6, 8, 9, 10] [1] (fun _ => []) (fun _ => by kernel_rfl) (fun _ => trivial)) ?_
  intro _
  refine GS.inBlock ?_
  refine GS.region (env' := fun _ => [(3, .int .u32 4241446885), (5, .int .u8 120), (6, .int .i64 3), (8, .slice a0_o 1 a0_c), (9, .int .i64 1), (10, .int .i64 0)]) (mem' := fun _ => [(1, .rd a0_o 1 [[.int .u8 120]])]) (RunsTo.mk [] [3, 5, 6, 8, 9, 10] [1] (fun _ => []) (fun _ => by kernel_rfl) (fun _ => trivial)) ?_
  intro _
  refine GS.inLoop ?_
  refine GS.seq ?_
  refine GS.seq ?_
  refine GS.region (env' := fun _ => [(3, .int .u32 4241446885), (5, .int .u8 120), (6, .int .i64 3), (8, .slice a0_o 1 a0_c), (9, .int .i64 1), (10, .int .i64 0), (15, .bool true)]) (mem' := fun _ => [(1, .rd a0_o 1 [[.int .u8 120]])]) (RunsTo.mk [] [3, 5, 6, 8, 9, 10, 15] [1] (fun _ => []) (fun _ => by kernel_rfl) (fun _ => trivial)) ?_
  intro _
  refine GS.cond (t := true) rfl rfl (fun _ => ?_) (fun hf => by cases hf)
  refine GS.skip ?_
  refine GS.seq ?_
  refine GS.block ?_
  refine GS.seq ?_
  refine GS.region (env' := fun _ => [(3, .int .u32 4241446885), (5, .int .u8 120), (6, .int .i64 3), (7, .int .u32 0), (8, .slice a0_o 1 a0_c), (9, .int .i64 1), (10, .int .i64 0)]) (mem' := fun _ => [(1, .rd a0_o 1 [[.int .u8 120]])]) (RunsTo.mk [] [3, 5, 6, 7, 8, 9, 10] [1] (fun _ => []) (fun _ => by kernel_rfl) (fun _ => trivial)) ?_
  intro _
  refine GS.seq ?_
  refine GS.region (env' := fun _ => [(3, .int .u32 2120723442), (5, .int .u8 120), (6, .int .i64 3), (7, .int .u32 0), (8, .slice a0_o 1 a0_c), (9, .int .i64 1), (10, .int .i64 0)]) (mem' := fun _ => [(1, .rd a0_o 1 [[.int .u8 120]])]) (RunsTo.mk [] [3, 5, 6, 7, 8, 9, 10] [1] (fun _ => []) (fun _ => by kernel_rfl) (fun _ => trivial)) ?_
  intro _
  refine GS.seq ?_
  refine GS.region (env' := fun _ => [(3, .int .u32 2120723442), (5, .int .u8 120), (6, .int .i64 3), (8, .slice a0_o 1 a0_c), (9, .int .i64 1), (10, .int .i64 0), (29, .bool false)]) (mem' := fun _ => [(1, .rd a0_o 1 [[.int .u8 120]])]) (RunsTo.mk [] [3, 5, 6, 8, 9, 10, 29] [1] (fun _ => []) (fun _ => by kernel_rfl) (fun _ => trivial)) ?_
  intro _
  refine GS.cond (t := false) rfl rfl (fun hf => by cases hf) (fun _ => ?_)
  refine GS.skip ?_
  refine GS.inBlock ?_
  refine GS.region (env' := fun _ => [(3, .int .u32 2120723442), (5, .int .u8 120), (6, .int .i64 4), (8, .slice a0_o 1 a0_c), (9, .int .i64 1), (10, .int .i64 0)]) (mem' := fun _ => [(1, .rd a0_o 1 [[.int .u8 120]])]) (RunsTo.mk [] [3, 5, 6, 8, 9, 10] [1] (fun _ => []) (fun _ => by kernel_rfl) (fun _ => trivial)) ?_
  intro _
  refine GS.inLoop ?_
  refine GS.seq ?_
  refine GS.seq ?_
  refine GS.region (env' := fun _ => [(3, .int .u32 2120723442), (5, .int .u8 120), (6, .int .i64 4), (8, .slice a0_o 1 a0_c), (9, .int .i64 1), (10, .int .i64 0), (15, .bool true)]) (mem' := fun _ => [(1, .rd a0_o 1 [[.int .u8 120]])]) (RunsTo.mk [] [3, 5, 6, 8, 9, 10, 15] [1] (fun _ => []) (fun _ => by kernel_rfl) (fun _ => trivial)) ?_
  intro _
  refine GS.cond (t := true) rfl rfl (fun _ => ?_) (fun hf => by cases hf)
  refine GS.skip ?_
  refine GS.seq ?_
  refine GS.block ?_
  refine GS.seq ?_
  refine GS.region (env' := fun _ => [(3, .int .u32 2120723442), (5, .int .u8 120), (6, .int .i64 4), (7, .int .u32 1), (8, .slice a0_o 1 a0_c), (9, .int .i64 1), (10, .int .i64 0)]) (mem' := fun _ => [(1, .rd a0_o 1 [[.int .u8 120]])]) (RunsTo.mk [] [3, 5, 6, 7, 8, 9, 10] [1] (fun _ => []) (fun _ => by kernel_rfl) (fun _ => trivial)) ?_
  intro _
  refine GS.seq ?_
  refine GS.region (env' := fun _ => [(3, .int .u32 1060361721), (5, .int .u8 120), (6, .int .i64 4), (7, .int .u32 1), (8, .slice a0_o 1 a0_c), (9, .int .i64 1), (10, .int .i64 0)]) (mem' := fun _ => [(1, .rd a0_o 1 [[.int .u8 120]])]) (RunsTo.mk [] [3, 5, 6, 7, 8, 9, 10] [1] (fun _ => []) (fun _ => by kernel_rfl) (fun _ => trivial)) ?_
  intro _
  refine GS.seq ?_
  refine GS.region (env' := fun _ => [(3, .int .u32 1060361721), (5, .int .u8 120), (6, .int .i64 4), (8, .slice a0_o 1 a0_c), (9, .int .i64 1), (10, .int .i64 0), (29, .bool true)]) (mem' := fun _ => [(1, .rd a0_o 1 [[.int .u8 120]])]) (RunsTo.mk [] [3, 5, 6, 8, 9, 10, 29] [1] (fun _ => []) (fun _ => by kernel_rfl) (fun _ => trivial)) ?_
  intro _
  refine GS.cond (t := true) rfl rfl (fun _ => ?_) (fun hf => by cases hf)
  refine GS.region (env' := fun _ => [(3, .int .u32 3183865473), (5, .int .u8 120), (6, .int .i64 4), (8, .slice a0_o 1 a0_c), (9, .int .i64 1), (10, .int .i64 0)]) (mem' := fun _ => [(1, .rd a0_o 1 [[.int .u8 120]])]) (RunsTo.mk [] [3, 5, 6, 8, 9, 10] [1] (fun _ => []) (fun _ => by kernel_rfl) (fun _ => trivial)) ?_
  intro _
  refine GS.inBlock ?_
  refine GS.region (env' := fun _ => [(3, .int .u32 3183865473), (5, .int .u8 120), (6, .int .i64 5), (8, .slice a0_o 1 a0_c), (9, .int .i64 1), (10, .int .i64 0)]) (mem' := fun _ => [(1, .rd a0_o 1 [[.int .u8 120]])]) (RunsTo.mk [] [3, 5, 6, 8, 9, 10] [1] (fun _ => []) (fun _ => by kernel_rfl) (fun _ => trivial)) ?_
  intro _
  refine GS.inLoop ?_
  refine GS.seq ?_
  refine GS.seq ?_
  refine GS.region (env' := fun _ => [(3, .int .u32 3183865473), (5, .int .u8 120), (6, .int .i64 5), (8, .slice a0_o 1 a0_c), (9, .int .i64 1), (10, .int .i64 0), (15, .bool true)]) (mem' := fun _ => [(1, .rd a0_o 1 [[.int .u8 120]])]) (RunsTo.mk [] [3, 5, 6, 8, 9, 10, 15] [1] (fun _ => []) (fun _ => by kernel_rfl) (fun _ => trivial)) ?_
  intro _
  refine GS.cond (t := true) rfl rfl (fun _ => ?_) (fun hf => by cases hf)
  refine GS.skip ?_
  refine GS.seq ?_
  refine GS.block ?_
  refine GS.seq ?_
  refine GS.region (env' := fun _ => [(3, .int .u32 3183865473), (5, .int .u8 120), (6, .int .i64 5), (7, .int .u32 0), (8, .slice a0_o 1 a0_c), (9, .int .i64 1), (10, .int .i64 0)]) (mem' := fun _ => [(1, .rd a0_o 1 [[.int .u8 120]])]) (RunsTo.mk [] [3, 5, 6, 7, 8, 9, 10] [1] (fun _ => []) (fun _ => by kernel_rfl) (fun _ => trivial)) ?_
  intro _
  refine GS.seq ?_
  refine GS.region (env' := fun _ => [(3, .int .u32 1591932736), (5, .int .u8 120), (6, .int .i64 5), (7, .int .u32 0), (8, .slice a0_o 1 a0_c), (9, .int .i64 1), (10, .int .i64 0)]) (mem' := fun _ => [(1, .rd a0_o 1 [[.int .u8 120]])]) (RunsTo.mk [] [3, 5, 6, 7, 8, 9, 10] [1] (fun _ => []) (fun _ => by kernel_rfl) (fun _ => trivial)) ?_
  intro _
  refine GS.seq ?_
  refine GS.region (env' := fun _ => [(3, .int .u32 1591932736), (5, .int .u8 120), (6, .int .i64 5), (8, .slice a0_o 1 a0_c), (9, .int .i64 1), (10, .int .i64 0), (29, .bool false)]) (mem' := fun _ => [(1, .rd a0_o 1 [[.int .u8 120]])]) (RunsTo.mk [] [3, 5, 6, 8, 9, 10, 29] [1] (fun _ => []) (fun _ => by kernel_rfl) (fun _ => trivial)) ?_
  intro _
  refine GS.cond (t := false) rfl rfl (fun hf => by cases hf) (fun _ => ?_)
  refine GS.skip ?_
  refine GS.inBlock ?_
  refine GS.region (env' := fun _ => [(3, .int .u32 1591932736), (5, .int .u8 120), (6, .int .i64 6), (8, .slice a0_o 1 a0_c), (9, .int .i64 1), (10, .int .i64 0)]) (mem' := fun _ => [(1, .rd a0_o 1 [[.int .u8 120]])]) (RunsTo.mk [] [3, 5, 6, 8, 9, 10] [1] (fun _ => []) (fun _ => by kernel_rfl) (fun _ => trivial)) ?_
  intro _
  refine GS.inLoop ?_
  refine GS.seq ?_
  refine GS.seq ?_
  refine GS.region (env' := fun _ => [(3, .int .u32 1591932736), (5, .int .u8 120), (6, .int .i64 6), (8, .slice a0_o 1 a0_c), (9, .int .i64 1), (10, .int .i64 0), (15, .bool true)]) (mem' := fun _ => [(1, .rd a0_o 1 [[.int .u8 120]])]) (RunsTo.mk [] [3, 5, 6, 8, 9, 10, 15] [1] (fun _ => []) (fun _ => by kernel_rfl) (fun _ => trivial)) ?_
  intro _
  refine GS.cond (t := true) rfl rfl (fun _ => ?_) (fun hf => by cases hf)
  refine GS.skip ?_
  refine GS.seq ?_
  refine GS.block ?_
  refine GS.seq ?_
  refine GS.region (env' := fun _ => [(3, .int .u32 1591932736), (5, .int .u8 120), (6, .int .i64 6), (7, .int .u32 1), (8, .slice a0_o 1 a0_c), (9, .int .i64 1), (10, .int .i64 0)]) (mem' := fun _ => [(1, .rd a0_o 1 [[.int .u8 120]])]) (RunsTo.mk [] [3, 5, 6, 7, 8, 9, 10] [1] (fun _ => []) (fun _ => by kernel_rfl) (fun _ => trivial)) ?_
  intro _
  refine GS.seq ?_
  refine GS.region (env' := fun _ => [(3, .int .u32 795966368), (5, .int .u8 120), (6, .int .i64 6), (7, .int .u32 1), (8, .slice a0_o 1 a0_c), (9, .int .i64 1), (10, .int .i64 0)]) (mem' := fun _ => [(1, .rd a0_o 1 [[.int .u8 120]])]) (RunsTo.mk [] [3, 5, 6, 7, 8, 9, 10] [1] (fun _ => []) (fun _ => by kernel_rfl) (fun _ => trivial)) ?_
  intro _
  refine GS.seq ?_
  refine GS.region (env' := fun _ => [(3, .int .u32 795966368), (5, .int .u8 120), (6, .int .i64 6), (8, .slice a0_o 1 a0_c), (9, .int .i64 1), (10, .int .i64 0), (29, .bool true)]) (mem' := fun _ => [(1, .rd a0_o 1 [[.int .u8 120]])]) (RunsTo.mk [] [3, 5, 6, 8, 9, 10, 29] [1] (fun _ => []) (fun _ => by kernel_rfl) (fun _ => trivial)) ?_
  intro _
  refine GS.cond (t := true) rfl rfl (fun _ => ?_) (fun hf => by cases hf)
  refine GS.region (env' := fun _ => [(3, .int .u32 2911322328), (5, .int .u8 120), (6, .int .i64 6), (8, .slice a0_o 1 a0_c), (9, .int .i64 1), (10, .int .i64 0)]) (mem' := fun _ => [(1, .rd a0_o 1 [[.int .u8 120]])]) (RunsTo.mk [] [3, 5, 6, 8, 9, 10] [1] (fun _ => []) (fun _ => by kernel_rfl) (fun _ => trivial)) ?_
  intro _
  refine GS.inBlock ?_
  refine GS.region (env' := fun _ => [(3, .int .u32 2911322328), (5, .int .u8 120), (6, .int .i64 7), (8, .slice a0_o 1 a0_c), (9, .int .i64 1), (10, .int .i64 0)]) (mem' := fun _ => [(1, .rd a0_o 1 [[.int .u8 120]])]) (RunsTo.mk [] [3, 5, 6, 8, 9, 10] [1] (fun _ => []) (fun _ => by kernel_rfl) (fun _ => trivial)) ?_
  intro _
  refine GS.inLoop ?_
  refine GS.seq ?_
  refine GS.seq ?_
  refine GS.region (env' := fun _ => [(3, .int .u32 2911322328), (5, .int .u8 120), (6, .int .i64 7), (8, .slice a0_o 1 a0_c), (9, .int .i64 1), (10, .int .i64 0), (15, .bool true)]) (mem' := fun _ => [(1, .rd a0_o 1 [[.int .u8 120]])]) (RunsTo.mk [] [3, 5, 6, 8, 9, 10, 15] [1] (fun _ => []) (fun _ => by kernel_rfl) (fun _ => trivial)) ?_
  intro _
  refine GS.cond (t := true) rfl rfl (fun _ => ?_) (fun hf => by cases hf)
  refine GS.skip ?_
  refine GS.seq ?_
  refine GS.block ?_
  refine GS.seq ?_
  refine GS.region (env' := fun _ => [(3, .int .u32 2911322328), (5, .int .u8 120), (6, .int .i64 7), (7, .int .u32 0), (8, .slice a0_o 1 a0_c), (9, .int .i64 1), (10, .int .i64 0)]) (mem' := fun _ => [(1, .rd a0_o 1 [[.int .u8 120]])]) (RunsTo.mk [] [3, 5, 6, 7, 8, 9, 10] [1] (fun _ => []) (fun _ => by kernel_rfl) (fun _ => trivial)) ?_
  intro _
  refine GS.seq ?_
  refine GS.region (env' := fun _ => [(3, .int .u32 1455661164), (5, .int .u8 120), (6, .int .i64 7), (7, .int .u32 0), (8, .slice a0_o 1 a0_c), (9, .int .i64 1), (10, .int .i64 0)]) (mem' := fun _ => [(1, .rd a0_o 1 [[.int .u8 120]])]) (RunsTo.mk [] [3, 5, 6, 7, 8, 9, 10] [1] (fun _ => []) (fun _ => by kernel_rfl) (fun _ => trivial)) ?_
  intro _
  refine GS.seq ?_
  refine GS.region (env' := fun _ => [(3, .int .u32 1455661164), (5, .int .u8 120), (6, .int .i64 7), (8, .slice a0_o 1 a0_c), (9, .int .i64 1), (10, .int .i64 0), (29, .bool false)]) (mem' := fun _ => [(1, .rd a0_o 1 [[.int .u8 120]])]) (RunsTo.mk [] [3, 5, 6, 8, 9, 10, 29] [1] (fun _ => []) (fun _ => by kernel_rfl) (fun _ => trivial)) ?_
  intro _
  refine GS.cond (t := false) rfl rfl (fun hf => by cases hf) (fun _ => ?_)
  refine GS.skip ?_
  refine GS.inBlock ?_
  refine GS.region (env' := fun _ => [(3, .int .u32 1455661164), (5, .int .u8 120), (6, .int .i64 8), (8, .slice a0_o 1 a0_c), (9, .int .i64 1), (10, .int .i64 0)]) (mem' := fun _ => [(1, .rd a0_o 1 [[.int .u8 120]])]) (RunsTo.mk [] [3, 5, 6, 8, 9, 10] [1] (fun _ => []) (fun _ => by kernel_rfl) (fun _ => trivial)) ?_
  intro _
  refine GS.inLoop ?_
  refine GS.seq ?_
  refine GS.seq ?_
  refine GS.region (env' := fun _ => [(3, .int .u32 1455661164), (5, .int .u8 120), (6, .int .i64 8), (8, .slice a0_o 1 a0_c), (9, .int .i64 1), (10, .int .i64 0), (15, .bool false)]) (mem' := fun _ => [(1, .rd a0_o 1 [[.int .u8 120]])]) (RunsTo.mk [] [3, 5, 6, 8, 9, 10, 15] [1] (fun _ => []) (fun _ => by kernel_rfl) (fun _ => trivial)) ?_
  intro _
  refine GS.cond (t := false) rfl rfl (fun hf => by cases hf) (fun _ => ?_)
  refine GS.exit rfl ?_
  refine GS.inBlock ?_
  refine GS.region (env' := fun _ => [(3, .int .u32 1455661164), (8, .slice a0_o 1 a0_c), (9, .int .i64 1), (10, .int .i64 1)]) (mem' := fun _ => [(1, .rd a0_o 1 [[.int .u8 120]])]) (RunsTo.mk [] [3, 8, 9, 10] [1] (fun _ => []) (fun _ => by kernel_rfl) (fun _ => trivial)) ?_
  intro _
  refine GS.inLoop ?_
  refine GS.seq ?_
  refine GS.region (env' := fun _ => [(3, .int .u32 1455661164), (8, .slice a0_o 1 a0_c), (9, .int .i64 1), (10, .int .i64 1), (11, .bool false)]) (mem' := fun _ => [(1, .rd a0_o 1 [[.int .u8 120]])]) (RunsTo.mk [] [3, 8, 9, 10, 11] [1] (fun _ => []) (fun _ => by kernel_rfl) (fun _ => trivial)) ?_
  intro _
  refine GS.seq ?_
  refine GS.cond (t := false) rfl rfl (fun hf => by cases hf) (fun _ => ?_)
  refine GS.exit rfl ?_
  refine GS.seq ?_
  refine GS.region (env' := fun _ => [(2, .int .u32 2839306131)]) (mem' := fun _ => []) (RunsTo.mk [] [2] [] (fun _ => []) (fun _ => by kernel_rfl) (fun _ => trivial)) ?_
  intro _
  have hy := Option.some.inj hm
  subst hy
  refine GS.ret (fn := Tryz.f10) [0] [.int .u32 2839306131] [] rfl Tryz.func10 (by kernel_rfl) trivial (fun w' hs => ?_)
  exact ⟨(), rfl, hs.turnedG (ks := []) rfl rfl⟩

theorem w_slices_IndexFunc___api_Entry_api_Entry_ (F : Nat) (a1c0b : Nat) {y : Unit} (hm : m_slices_IndexFunc___api_Entry_api_Entry_ F = some y) : CallG Tryz.prog 72 #[.slice none 0 0, .func (.func 63) #[] #[.pointer (some ⟨a1c0b, 0, none⟩)]] (X := Unit) (fun (_ : Unit) => .int .i64 (-1)) [] [.rd (some ⟨a1c0b, 0, none⟩) 2 ([[.int .i64 0, .int .i64 0]] : List (List Value))] (fun (_ : Unit) => []) := by
  intro w hg
  rw [m_slices_IndexFunc___api_Entry_api_Entry_] at hm
  refine GS.start (S := mayT [] [.rd (some ⟨a1c0b, 0, none⟩) 2 ([[.int .i64 0, .int .i64 0]] : List (List Value))]) (mem := [(1, .rd (some ⟨a1c0b, 0, none⟩) 2 ([[.int .i64 0, .int .i64 0]] : List (List Value)))]) Tryz.func72 rfl Tryz.ntmps72 (Nat.le_of_ble_eq_true rfl) (hg.start rfl) ?_
  refine GS.conv (env' := [(0, .slice none 0 0), (1, .func (.func 63) #[] #[.pointer (some ⟨a1c0b, 0, none⟩)])]) rfl rfl ?_
  refine GS.seq ?_
  refine GS.region (env' := fun _ => [(0, .slice none 0 0), (1, .func (.func 63) #[] #[.pointer (some ⟨a1c0b, 0, none⟩)])]) (mem' := fun _ => [(1, .rd (some ⟨a1c0b, 0, none⟩) 2 ([[.int .i64 0, .int .i64 0]] : List (List Value)))]) (RunsTo.mk [] [0, 1] [1] (fun _ => []) (fun _ => by kernel_rfl) (fun _ => trivial)) ?_
  intro _
  refine GS.seq ?_
  refine GS.seq ?_
  refine GS.region (env' := fun _ => [(0, .slice none 0 0), (1, .func (.func 63) #[] #[.pointer (some ⟨a1c0b, 0, none⟩)]), (7, .int .i64 0), (8, .int .i64 0)]) (mem' := fun _ => [(1, .rd (some ⟨a1c0b, 0, none⟩) 2 ([[.int .i64 0, .int .i64 0]] : List (List Value)))]) (RunsTo.mk [] [0, 1, 7, 8] [1] (fun _ => []) (fun _ => by kernel_rfl) (fun _ => trivial)) ?_
  intro _
  refine GS.block ?_
  refine GS.loop ?_
  refine GS.seq ?_
  refine GS.region (env' := fun _ => [(0, .slice none 0 0), (1, .func (.func 63) #[] #[.pointer (some ⟨a1c0b, 0, none⟩)]), (7, .int .i64 0), (8, .int .i64 0), (9, .bool false)]) (mem' := fun _ => [(1, .rd (some ⟨a1c0b, 0, none⟩) 2 ([[.int .i64 0, .int .i64 0]] : List (List Value)))]) (RunsTo.mk [] [0, 1, 7, 8, 9] [1] (fun _ => []) (fun _ => by kernel_rfl) (fun _ => trivial)) ?_
  intro _
  refine GS.seq ?_
  refine GS.cond (t := false) rfl rfl (fun hf => by cases hf) (fun _ => ?_)
  refine GS.exit rfl ?_
  refine GS.seq ?_
  refine GS.region (env' := fun _ => [(4, .int .i64 (-1))]) (mem' := fun _ => []) (RunsTo.mk [] [4] [] (fun _ => []) (fun _ => by kernel_rfl) (fun _ => trivial)) ?_
  intro _
  have hy := Option.some.inj hm
  subst hy
  refine GS.ret (fn := Tryz.f72) [0] [.int .i64 (-1)] [] rfl Tryz.func72 (by kernel_rfl) trivial (fun w' hs => ?_)
  exact ⟨(), rfl, hs.turnedG (ks := []) rfl rfl⟩

theorem w_slices_ContainsFunc___api_Entry_api_Entry_ (F : Nat) (a1c0b : Nat) {y : Unit} (hm : m_slices_ContainsFunc___api_Entry_api_Entry_ F = some y) : CallG Tryz.prog 62 #[.slice none 0 0, .func (.func 63) #[] #[.pointer (some ⟨a1c0b, 0, none⟩)]] (X := Unit) (fun (_ : Unit) => .bool false) [] [.rd (some ⟨a1c0b, 0, none⟩) 2 ([[.int .i64 0, .int .i64 0]] : List (List Value))] (fun (_ : Unit) => []) := by
  intro w hg
  rw [m_slices_ContainsFunc___api_Entry_api_Entry_] at hm
  refine GS.start (S := mayT [] [.rd (some ⟨a1c0b, 0, none⟩) 2 ([[.int .i64 0, .int .i64 0]] : List (List Value))]) (mem := [(1, .rd (some ⟨a1c0b, 0, none⟩) 2 ([[.int .i64 0, .int .i64 0]] : List (List Value)))]) Tryz.func62 rfl Tryz.ntmps62 (Nat.le_of_ble_eq_true rfl) (hg.start rfl) ?_
  refine GS.conv (env' := [(0, .slice none 0 0), (1, .func (.func 63) #[] #[.pointer (some ⟨a1c0b, 0, none⟩)])]) rfl rfl ?_
  refine GS.seq ?_
  refine GS.region (env' := fun _ => [(0, .slice none 0 0), (1, .func (.func 63) #[] #[.pointer (some ⟨a1c0b, 0, none⟩)])]) (mem' := fun _ => [(1, .rd (some ⟨a1c0b, 0, none⟩) 2 ([[.int .i64 0, .int .i64 0]] : List (List Value)))]) (RunsTo.mk [] [0, 1] [1] (fun _ => []) (fun _ => by kernel_rfl) (fun _ => trivial)) ?_
  intro _
  refine GS.seq ?_
  refine bnd_elim hm (fun y3 e4 hm => ?_)
  refine GS.region (env' := fun _ => [(4, .bool false)]) (mem' := fun _ => []) (RunsTo.mk [(2, { act := .call [1] (.int .i64 (-1)) })] [4] [] (fun _ => [CallOK Tryz.prog 72 #[.slice none 0 0, .func (.func 63) #[] #[.pointer (some ⟨a1c0b, 0, none⟩)]] (.int .i64 (-1)) [some (.rd (some ⟨a1c0b, 0, none⟩) 2 ([[.int .i64 0, .int .i64 0]] : List (List Value)))]]) (fun _ => by kernel_rfl) (fun _ => ⟨(by have h1 := w_slices_IndexFunc___api_Entry_api_Entry_ F a1c0b e4; exact h1.ok ⟨(.inl ⟨.rd (some ⟨a1c0b, 0, none⟩) 2 ([[.int .i64 0, .int .i64 0]] : List (List Value)), .head _, Cov.refl _⟩), trivial⟩), trivial⟩)) ?_
  intro _
  have hy := Option.some.inj hm
  subst hy
  refine GS.ret (fn := Tryz.f62) [0] [.bool false] [] rfl Tryz.func62 (by kernel_rfl) trivial (fun w' hs => ?_)
  exact ⟨(), rfl, hs.turnedG (ks := []) rfl rfl⟩

theorem w_missing_has (F : Nat) (a0_5_o : Option Addr) (a0_5_c : Nat) {y : Unit} (hm : m_missing_has F = some y) : CallG Tryz.prog 53 #[.agg #[.int .i64 0, .int .i64 2, .int .i64 2, .slice none 0 0, .slice none 0 0, .slice a0_5_o 1 a0_5_c], .agg #[.int .i64 0, .int .i64 0]] (X := Unit) (fun (_ : Unit) => .bool false) [] [.rd a0_5_o 4 [[.string (ByteArray.mk #[97]), .int .i64 1, .int .i64 1, .int .u32 2839306131]]] (fun (_ : Unit) => []) := by
  intro w hg
  rw [m_missing_has] at hm
  refine GS.start (S := mayT [] [.rd a0_5_o 4 [[.string (ByteArray.mk #[97]), .int .i64 1, .int .i64 1, .int .u32 2839306131]]]) (mem := [(1, .rd a0_5_o 4 [[.string (ByteArray.mk #[97]), .int .i64 1, .int .i64 1, .int .u32 2839306131]])]) Tryz.func53 rfl Tryz.ntmps53 (Nat.le_of_ble_eq_true rfl) (hg.start rfl) ?_
  refine GS.conv (env' := [(0, .agg #[.int .i64 0, .int .i64 2, .int .i64 2, .slice none 0 0, .slice none 0 0, .slice a0_5_o 1 a0_5_c]), (1, .agg #[.int .i64 0, .int .i64 0])]) rfl rfl ?_
  refine GS.seq ?_
  refine GS.region (env' := fun fr1 => [(2, .pointer (some ⟨(fr1 0).x, 0, none⟩)), (3, .pointer (some ⟨(fr1 1).x, 0, none⟩))]) (mem' := fun fr1 => [(1, .rd a0_5_o 4 [[.string (ByteArray.mk #[97]), .int .i64 1, .int .i64 1, .int .u32 2839306131]]), (2, .cells ((fr1 0).x) 37 [.int .i64 0, .int .i64 2, .int .i64 2, .slice none 0 0, .slice none 0 0, .slice a0_5_o 1 a0_5_c]), (3, .cells ((fr1 1).x) 30 [.int .i64 0, .int .i64 0])]) (RunsTo.mk [(0, { act := .new .var, key := some 2 }), (1, { act := .new .var, key := some 3 })] [2, 3] [1, 2, 3] (fun fr1 => []) (fun fr1 => by kernel_rfl) (fun fr1 => trivial)) ?_
  intro fr1
  refine GS.seq ?_
  refine bnd_elim hm (fun y3 e4 hm => ?_)
  refine GS.region (env' := fun _ => [(4, .bool false)]) (mem' := fun _ => []) (RunsTo.mk [(1, { act := .load 2 0 0 [] }), (2, { act := .load 3 0 0 [] }), (3, { act := .eq, sp := some (.bool false) }), (6, { act := .load 2 0 0 [] }), (8, { act := .call [3] (.bool false) })] [4] [] (fun _ => [(fr1 0).x = (fr1 0).x, (fr1 1).x = (fr1 1).x, ((.bool (S_api_Version.beq (S_api_Version.mk 2 2) (S_api_Version.mk 0 0))) : Value) = .bool false, (fr1 0).x = (fr1 0).x, CallOK Tryz.prog 62 #[.slice none 0 0, .func (.func 63) #[] #[.pointer (some ⟨(fr1 1).x, 0, none⟩)]] (.bool false) [some (.cells ((fr1 1).x) 30 [.int .i64 0, .int .i64 0])]]) (fun _ => by kernel_rfl) (fun _ => ⟨rfl, rfl, (by kernel_rfl), rfl, (by have h1 := w_slices_ContainsFunc___api_Entry_api_Entry_ F (fr1 1).x e4; exact h1.ok ⟨(.inl ⟨.cells ((fr1 1).x) 30 [.int .i64 0, .int .i64 0], .head _, Cov.cells_rd⟩), trivial⟩), trivial⟩)) ?_
  intro _
  have hy := Option.some.inj hm
  subst hy
  refine GS.ret (fn := Tryz.f53) [0] [.bool false] [] rfl Tryz.func53 (by kernel_rfl) trivial (fun w' hs => ?_)
  exact ⟨(), rfl, hs.turnedG (ks := []) rfl rfl⟩

theorem w_missing_Common_1 (F : Nat) (a1b : Nat) (a1_5_o : Option Addr) (a1_5_c : Nat) (a2b : Nat) (a3b : Nat) {y : Unit} (hm : m_missing_Common_1 F = some y) : CallG Tryz.prog 52 #[.agg #[.int .i64 0, .int .i64 0], .pointer (some ⟨a1b, 0, none⟩), .pointer (some ⟨a2b, 0, none⟩), .pointer (some ⟨a3b, 0, none⟩)] (X := Unit) (fun (_ : Unit) => .tuple #[]) [] [.rd a1_5_o 4 [[.string (ByteArray.mk #[97]), .int .i64 1, .int .i64 1, .int .u32 2839306131]], .rd (some ⟨a1b, 0, none⟩) 6 ([[.int .i64 0, .int .i64 2, .int .i64 2, .slice none 0 0, .slice none 0 0, .slice a1_5_o 1 a1_5_c]] : List (List Value)), .rd (some ⟨a2b, 0, none⟩) 1 ([[.bool false]] : List (List Value)), .rd (some ⟨a3b, 0, none⟩) 2 ([[.int .i64 0, .int .i64 0]] : List (List Value))] (fun (_ : Unit) => []) := by
  intro w hg
  rw [m_missing_Common_1] at hm
  refine GS.start (S := mayT [] [.rd a1_5_o 4 [[.string (ByteArray.mk #[97]), .int .i64 1, .int .i64 1, .int .u32 2839306131]], .rd (some ⟨a1b, 0, none⟩) 6 ([[.int .i64 0, .int .i64 2, .int .i64 2, .slice none 0 0, .slice none 0 0, .slice a1_5_o 1 a1_5_c]] : List (List Value)), .rd (some ⟨a2b, 0, none⟩) 1 ([[.bool false]] : List (List Value)), .rd (some ⟨a3b, 0, none⟩) 2 ([[.int .i64 0, .int .i64 0]] : List (List Value))]) (mem := [(1, .rd a1_5_o 4 [[.string (ByteArray.mk #[97]), .int .i64 1, .int .i64 1, .int .u32 2839306131]]), (2, .rd (some ⟨a1b, 0, none⟩) 6 ([[.int .i64 0, .int .i64 2, .int .i64 2, .slice none 0 0, .slice none 0 0, .slice a1_5_o 1 a1_5_c]] : List (List Value))), (3, .rd (some ⟨a2b, 0, none⟩) 1 ([[.bool false]] : List (List Value))), (4, .rd (some ⟨a3b, 0, none⟩) 2 ([[.int .i64 0, .int .i64 0]] : List (List Value)))]) Tryz.func52 rfl Tryz.ntmps52 (Nat.le_of_ble_eq_true rfl) (hg.start rfl) ?_
  refine GS.conv (env' := [(0, .agg #[.int .i64 0, .int .i64 0]), (1, .pointer (some ⟨a1b, 0, none⟩)), (2, .pointer (some ⟨a2b, 0, none⟩)), (3, .pointer (some ⟨a3b, 0, none⟩))]) rfl rfl ?_
  refine GS.seq ?_
  refine GS.region (env' := fun fr1 => [(1, .pointer (some ⟨a1b, 0, none⟩)), (2, .pointer (some ⟨a2b, 0, none⟩)), (3, .pointer (some ⟨a3b, 0, none⟩)), (4, .pointer (some ⟨(fr1 0).x, 0, none⟩))]) (mem' := fun fr1 => [(1, .rd a1_5_o 4 [[.string (ByteArray.mk #[97]), .int .i64 1, .int .i64 1, .int .u32 2839306131]]), (2, .rd (some ⟨a1b, 0, none⟩) 6 ([[.int .i64 0, .int .i64 2, .int .i64 2, .slice none 0 0, .slice none 0 0, .slice a1_5_o 1 a1_5_c]] : List (List Value))), (3, .rd (some ⟨a2b, 0, none⟩) 1 ([[.bool false]] : List (List Value))), (4, .rd (some ⟨a3b, 0, none⟩) 2 ([[.int .i64 0, .int .i64 0]] : List (List Value))), (5, .cells ((fr1 0).x) 30 [.int .i64 0, .int .i64 0])]) (RunsTo.mk [(0, { act := .new .var, key := some 5 })] [1, 2, 3, 4] [1, 2, 3, 4, 5] (fun fr1 => []) (fun fr1 => by kernel_rfl) (fun fr1 => trivial)) ?_
  intro fr1
  refine GS.seq ?_
  refine bnd_elim hm (fun y3 e4 hm => ?_)
  refine GS.region (env' := fun _ => [(2, .pointer (some ⟨a2b, 0, none⟩)), (3, .pointer (some ⟨a3b, 0, none⟩)), (4, .pointer (some ⟨(fr1 0).x, 0, none⟩)), (17, .bool false)]) (mem' := fun _ => [(3, .rd (some ⟨a2b, 0, none⟩) 1 ([[.bool false]] : List (List Value))), (4, .rd (some ⟨a3b, 0, none⟩) 2 ([[.int .i64 0, .int .i64 0]] : List (List Value))), (5, .cells ((fr1 0).x) 30 [.int .i64 0, .int .i64 0])]) (RunsTo.mk [(0, { act := .load 2 0 0 [.int .i64 0, .int .i64 2, .int .i64 2, .slice none 0 0, .slice none 0 0, .slice a1_5_o 1 a1_5_c] }), (1, { act := .load 5 0 0 [] }), (2, { act := .call [1] (.bool false) })] [2, 3, 4, 17] [3, 4, 5] (fun _ => [a1b = blk (some ⟨a1b, 0, none⟩), 0 = offs (some ⟨a1b, 0, none⟩) + (0 * 6 + 0), ([[.int .i64 0, .int .i64 2, .int .i64 2, .slice none 0 0, .slice none 0 0, .slice a1_5_o 1 a1_5_c]] : List (List Value))[0]? = some [.int .i64 0, .int .i64 2, .int .i64 2, .slice none 0 0, .slice none 0 0, .slice a1_5_o 1 a1_5_c], (fr1 0).x = (fr1 0).x, CallOK Tryz.prog 53 #[.agg #[.int .i64 0, .int .i64 2, .int .i64 2, .slice none 0 0, .slice none 0 0, .slice a1_5_o 1 a1_5_c], .agg #[.int .i64 0, .int .i64 0]] (.bool false) [some (.rd a1_5_o 4 [[.string (ByteArray.mk #[97]), .int .i64 1, .int .i64 1, .int .u32 2839306131]])]]) (fun _ => by kernel_rfl) (fun _ => ⟨rfl, rfl, rfl, rfl, (by have h1 := w_missing_has F a1_5_o a1_5_c e4; exact h1.ok ⟨(.inl ⟨.rd a1_5_o 4 [[.string (ByteArray.mk #[97]), .int .i64 1, .int .i64 1, .int .u32 2839306131]], .head _, Cov.refl _⟩), trivial⟩), trivial⟩)) ?_
  intro _
  refine GS.cond (t := false) rfl rfl (fun hf => by cases hf) (fun _ => ?_)
  refine GS.skip ?_
  have hy := Option.some.inj hm
  subst hy
  refine GS.end_ (fn := Tryz.f52) [] [] [] rfl Tryz.func52 (by kernel_rfl) trivial (fun w' hs => ?_)
  exact ⟨(), rfl, hs.turnedG (ks := []) rfl rfl⟩

theorem w_missing_Common (F : Nat) (a1_5_o : Option Addr) (a1_5_c : Nat) {y : Unit} (hm : m_missing_Common F = some y) : CallG Tryz.prog 46 #[.agg #[.int .i64 0, .int .i64 0, .int .i64 0, .slice none 0 0, .slice none 0 0, .slice none 0 0], .agg #[.int .i64 0, .int .i64 2, .int .i64 2, .slice none 0 0, .slice none 0 0, .slice a1_5_o 1 a1_5_c]] (X := Unit) (fun (_ : Unit) => .tuple #[.agg #[.int .i64 0, .int .i64 0], .bool false]) [] [.rd a1_5_o 4 [[.string (ByteArray.mk #[97]), .int .i64 1, .int .i64 1, .int .u32 2839306131]]] (fun (_ : Unit) => []) := by
  intro w hg
  rw [m_missing_Common] at hm
  refine GS.start (S := mayT [] [.rd a1_5_o 4 [[.string (ByteArray.mk #[97]), .int .i64 1, .int .i64 1, .int .u32 2839306131]]]) (mem := [(1, .rd a1_5_o 4 [[.string (ByteArray.mk #[97]), .int .i64 1, .int .i64 1, .int .u32 2839306131]])]) Tryz.func46 rfl Tryz.ntmps46 (Nat.le_of_ble_eq_true rfl) (hg.start rfl) ?_
  refine GS.conv (env' := [(0, .agg #[.int .i64 0, .int .i64 0, .int .i64 0, .slice none 0 0, .slice none 0 0, .slice none 0 0]), (1, .agg #[.int .i64 0, .int .i64 2, .int .i64 2, .slice none 0 0, .slice none 0 0, .slice a1_5_o 1 a1_5_c])]) rfl rfl ?_
  refine GS.seq ?_
  refine GS.region (env' := fun fr1 => [(2, .pointer (some ⟨(fr1 0).x, 0, none⟩)), (3, .pointer (some ⟨(fr1 1).x, 0, none⟩)), (4, .pointer (some ⟨(fr1 2).x, 0, none⟩))]) (mem' := fun fr1 => [(1, .rd a1_5_o 4 [[.string (ByteArray.mk #[97]), .int .i64 1, .int .i64 1, .int .u32 2839306131]]), (2, .cells ((fr1 0).x) 37 [.int .i64 0, .int .i64 0, .int .i64 0, .slice none 0 0, .slice none 0 0, .slice none 0 0]), (3, .cells ((fr1 1).x) 37 [.int .i64 0, .int .i64 2, .int .i64 2, .slice none 0 0, .slice none 0 0, .slice a1_5_o 1 a1_5_c]), (4, .cells ((fr1 2).x) 30 [.int .i64 0, .int .i64 0])]) (RunsTo.mk [(0, { act := .new .var, key := some 2 }), (1, { act := .new .var, key := some 3 }), (2, { act := .new .var, key := some 4 })] [2, 3, 4] [1, 2, 3, 4] (fun fr1 => []) (fun fr1 => by kernel_rfl) (fun fr1 => trivial)) ?_
  intro fr1
  refine GS.seq ?_
  refine GS.region (env' := fun fr2 => [(2, .pointer (some ⟨(fr1 0).x, 0, none⟩)), (3, .pointer (some ⟨(fr1 1).x, 0, none⟩)), (4, .pointer (some ⟨(fr1 2).x, 0, none⟩)), (6, .pointer (some ⟨(fr2 1).x, 0, none⟩)), (7, .pointer (some ⟨(fr2 2).x, 0, none⟩))]) (mem' := fun fr2 => [(1, .rd a1_5_o 4 [[.string (ByteArray.mk #[97]), .int .i64 1, .int .i64 1, .int .u32 2839306131]]), (2, .cells ((fr1 0).x) 37 [.int .i64 0, .int .i64 0, .int .i64 0, .slice none 0 0, .slice none 0 0, .slice none 0 0]), (3, .cells ((fr1 1).x) 37 [.int .i64 0, .int .i64 2, .int .i64 2, .slice none 0 0, .slice none 0 0, .slice a1_5_o 1 a1_5_c]), (4, .cells ((fr1 2).x) 30 [.int .i64 0, .int .i64 0]), (5, .cells ((fr2 1).x) 30 [.int .i64 0, .int .i64 0]), (6, .cells ((fr2 2).x) 4 [.bool false])]) (RunsTo.mk [(1, { act := .new .var, key := some 5 }), (2, { act := .new .var, key := some 6 }), (3, { act := .store 0 0 [], key := some 5 }), (4, { act := .store 0 0 [], key := some 6 })] [2, 3, 4, 6, 7] [1, 2, 3, 4, 5, 6] (fun fr2 => [(fr2 1).x = (fr2 1).x, ((.agg #[.int .i64 0, .int .i64 0]) : Value).cells.toList.all Value.oneCell' = true, (fr2 2).x = (fr2 2).x, ((.bool false) : Value).cells.toList.all Value.oneCell' = true]) (fun fr2 => by kernel_rfl) (fun fr2 => ⟨rfl, rfl, rfl, rfl, trivial⟩)) ?_
  intro fr2
  refine GS.seq ?_
  refine GS.region (env' := fun _ => [(2, .pointer (some ⟨(fr1 0).x, 0, none⟩)), (4, .pointer (some ⟨(fr1 2).x, 0, none⟩)), (6, .pointer (some ⟨(fr2 1).x, 0, none⟩)), (7, .pointer (some ⟨(fr2 2).x, 0, none⟩)), (8, .func (.func 52) #[] #[.pointer (some ⟨(fr1 1).x, 0, none⟩), .pointer (some ⟨(fr2 2).x, 0, none⟩), .pointer (some ⟨(fr2 1).x, 0, none⟩)])]) (mem' := fun _ => [(1, .rd a1_5_o 4 [[.string (ByteArray.mk #[97]), .int .i64 1, .int .i64 1, .int .u32 2839306131]]), (2, .cells ((fr1 0).x) 37 [.int .i64 0, .int .i64 0, .int .i64 0, .slice none 0 0, .slice none 0 0, .slice none 0 0]), (3, .cells ((fr1 1).x) 37 [.int .i64 0, .int .i64 2, .int .i64 2, .slice none 0 0, .slice none 0 0, .slice a1_5_o 1 a1_5_c]), (4, .cells ((fr1 2).x) 30 [.int .i64 0, .int .i64 0]), (5, .cells ((fr2 1).x) 30 [.int .i64 0, .int .i64 0]), (6, .cells ((fr2 2).x) 4 [.bool false])]) (RunsTo.mk [] [2, 4, 6, 7, 8] [1, 2, 3, 4, 5, 6] (fun _ => []) (fun _ => by kernel_rfl) (fun _ => trivial)) ?_
  intro _
  refine GS.seq ?_
  refine bnd_elim hm (fun y5 e6 hm => ?_)
  refine GS.region (env' := fun _ => [(2, .pointer (some ⟨(fr1 0).x, 0, none⟩)), (4, .pointer (some ⟨(fr1 2).x, 0, none⟩)), (6, .pointer (some ⟨(fr2 1).x, 0, none⟩)), (7, .pointer (some ⟨(fr2 2).x, 0, none⟩)), (8, .func (.func 52) #[] #[.pointer (some ⟨(fr1 1).x, 0, none⟩), .pointer (some ⟨(fr2 2).x, 0, none⟩), .pointer (some ⟨(fr2 1).x, 0, none⟩)])]) (mem' := fun _ => [(1, .rd a1_5_o 4 [[.string (ByteArray.mk #[97]), .int .i64 1, .int .i64 1, .int .u32 2839306131]]), (2, .cells ((fr1 0).x) 37 [.int .i64 0, .int .i64 0, .int .i64 0, .slice none 0 0, .slice none 0 0, .slice none 0 0]), (3, .cells ((fr1 1).x) 37 [.int .i64 0, .int .i64 2, .int .i64 2, .slice none 0 0, .slice none 0 0, .slice a1_5_o 1 a1_5_c]), (4, .cells ((fr1 2).x) 30 [.int .i64 0, .int .i64 0]), (5, .cells ((fr2 1).x) 30 [.int .i64 0, .int .i64 0]), (6, .cells ((fr2 2).x) 4 [.bool false])]) (RunsTo.mk [(2, { act := .load 2 0 0 [] }), (3, { act := .call [1, 3, 5, 6] (.tuple #[]) })] [2, 4, 6, 7, 8] [1, 2, 3, 4, 5, 6] (fun _ => [(fr1 0).x = (fr1 0).x, CallOK Tryz.prog 52 #[.agg #[.int .i64 0, .int .i64 0], .pointer (some ⟨(fr1 1).x, 0, none⟩), .pointer (some ⟨(fr2 2).x, 0, none⟩), .pointer (some ⟨(fr2 1).x, 0, none⟩)] (.tuple #[]) [some (.rd a1_5_o 4 [[.string (ByteArray.mk #[97]), .int .i64 1, .int .i64 1, .int .u32 2839306131]]), some (.cells ((fr1 1).x) 37 [.int .i64 0, .int .i64 2, .int .i64 2, .slice none 0 0, .slice none 0 0, .slice a1_5_o 1 a1_5_c]), some (.cells ((fr2 1).x) 30 [.int .i64 0, .int .i64 0]), some (.cells ((fr2 2).x) 4 [.bool false])]]) (fun _ => by kernel_rfl) (fun _ => ⟨rfl, (by have h1 := w_missing_Common_1 F (fr1 1).x a1_5_o a1_5_c (fr2 2).x (fr2 1).x e6; exact h1.ok ⟨(.inl ⟨.rd a1_5_o 4 [[.string (ByteArray.mk #[97]), .int .i64 1, .int .i64 1, .int .u32 2839306131]], .head _, Cov.refl _⟩), (.inl ⟨.cells ((fr1 1).x) 37 [.int .i64 0, .int .i64 2, .int .i64 2, .slice none 0 0, .slice none 0 0, .slice a1_5_o 1 a1_5_c], (.tail _ (.head _)), Cov.cells_rd⟩), (.inl ⟨.cells ((fr2 2).x) 4 [.bool false], (.tail _ (.tail _ (.tail _ (.head _)))), Cov.cells_rd⟩), (.inl ⟨.cells ((fr2 1).x) 30 [.int .i64 0, .int .i64 0], (.tail _ (.tail _ (.head _))), Cov.cells_rd⟩), trivial⟩), trivial⟩)) ?_
  intro _
  refine GS.seq ?_
  refine GS.seq ?_
  refine GS.region (env' := fun _ => [(4, .pointer (some ⟨(fr1 2).x, 0, none⟩)), (6, .pointer (some ⟨(fr2 1).x, 0, none⟩)), (7, .pointer (some ⟨(fr2 2).x, 0, none⟩)), (8, .func (.func 52) #[] #[.pointer (some ⟨(fr1 1).x, 0, none⟩), .pointer (some ⟨(fr2 2).x, 0, none⟩), .pointer (some ⟨(fr2 1).x, 0, none⟩)]), (18, .slice none 0 0), (19, .int .i64 0), (20, .int .i64 0)]) (mem' := fun _ => [(1, .rd a1_5_o 4 [[.string (ByteArray.mk #[97]), .int .i64 1, .int .i64 1, .int .u32 2839306131]]), (3, .cells ((fr1 1).x) 37 [.int .i64 0, .int .i64 2, .int .i64 2, .slice none 0 0, .slice none 0 0, .slice a1_5_o 1 a1_5_c]), (4, .cells ((fr1 2).x) 30 [.int .i64 0, .int .i64 0]), (5, .cells ((fr2 1).x) 30 [.int .i64 0, .int .i64 0]), (6, .cells ((fr2 2).x) 4 [.bool false])]) (RunsTo.mk [(1, { act := .load 2 0 0 [] })] [4, 6, 7, 8, 18, 19, 20] [1, 3, 4, 5, 6] (fun _ => [(fr1 0).x = (fr1 0).x]) (fun _ => by kernel_rfl) (fun _ => ⟨rfl, trivial⟩)) ?_
  intro _
  refine GS.block ?_
  refine GS.loop ?_
  refine GS.seq ?_
  refine GS.region (env' := fun _ => [(4, .pointer (some ⟨(fr1 2).x, 0, none⟩)), (6, .pointer (some ⟨(fr2 1).x, 0, none⟩)), (7, .pointer (some ⟨(fr2 2).x, 0, none⟩)), (8, .func (.func 52) #[] #[.pointer (some ⟨(fr1 1).x, 0, none⟩), .pointer (some ⟨(fr2 2).x, 0, none⟩), .pointer (some ⟨(fr2 1).x, 0, none⟩)]), (18, .slice none 0 0), (19, .int .i64 0), (20, .int .i64 0), (21, .bool false)]) (mem' := fun _ => [(1, .rd a1_5_o 4 [[.string (ByteArray.mk #[97]), .int .i64 1, .int .i64 1, .int .u32 2839306131]]), (3, .cells ((fr1 1).x) 37 [.int .i64 0, .int .i64 2, .int .i64 2, .slice none 0 0, .slice none 0 0, .slice a1_5_o 1 a1_5_c]), (4, .cells ((fr1 2).x) 30 [.int .i64 0, .int .i64 0]), (5, .cells ((fr2 1).x) 30 [.int .i64 0, .int .i64 0]), (6, .cells ((fr2 2).x) 4 [.bool false])]) (RunsTo.mk [] [4, 6, 7, 8, 18, 19, 20, 21] [1, 3, 4, 5, 6] (fun _ => []) (fun _ => by kernel_rfl) (fun _ => trivial)) ?_
  intro _
  refine GS.seq ?_
  refine GS.cond (t := false) rfl rfl (fun hf => by cases hf) (fun _ => ?_)
  refine GS.exit rfl ?_
  refine GS.seq ?_
  refine GS.region (env' := fun _ => [(4, .pointer (some ⟨(fr1 2).x, 0, none⟩)), (5, .bool false)]) (mem' := fun _ => [(4, .cells ((fr1 2).x) 30 [.int .i64 0, .int .i64 0])]) (RunsTo.mkd [(0, { act := .load 5 0 0 [] }), (1, { act := .load 6 0 0 [] }), (2, { act := .store 0 0 [], key := some 4 })] [4, 5] [4] (fun _ => [(fr2 1).x = (fr2 1).x, (fr2 2).x = (fr2 2).x, (fr1 2).x = (fr1 2).x, ((.agg #[.int .i64 0, .int .i64 0]) : Value).cells.toList.all Value.oneCell' = true]) (by kernel_rfl) (by kernel_rfl) (fun _ => by kernel_rfl) (fun _ => ⟨rfl, rfl, rfl, rfl, trivial⟩)) ?_
  intro _
  have hy := Option.some.inj hm
  subst hy
  refine GS.ret (fn := Tryz.f46) [4, 0] [.agg #[.int .i64 0, .int .i64 0], .bool false] [(fr1 2).x = (fr1 2).x] rfl Tryz.func46 (by kernel_rfl) ⟨rfl, trivial⟩ (fun w' hs => ?_)
  exact ⟨(), rfl, hs.turnedG (ks := []) rfl rfl⟩

theorem w_missing_Diff (F : Nat) (a1_5_o : Option Addr) (a1_5_c : Nat) {y : Unit} (hm : m_missing_Diff F = some y) : CallG Tryz.prog 32 #[.agg #[.int .i64 0, .int .i64 0, .int .i64 0, .slice none 0 0, .slice none 0 0, .slice none 0 0], .agg #[.int .i64 0, .int .i64 2, .int .i64 2, .slice none 0 0, .slice none 0 0, .slice a1_5_o 1 a1_5_c]] (X := Unit) (fun (_ : Unit) => .tuple #[.slice none 0 0, .slice none 0 0, .bool false]) [] [.rd a1_5_o 4 [[.string (ByteArray.mk #[97]), .int .i64 1, .int .i64 1, .int .u32 2839306131]]] (fun (_ : Unit) => []) := by
  intro w hg
  rw [m_missing_Diff] at hm
  refine GS.start (S := mayT [] [.rd a1_5_o 4 [[.string (ByteArray.mk #[97]), .int .i64 1, .int .i64 1, .int .u32 2839306131]]]) (mem := [(1, .rd a1_5_o 4 [[.string (ByteArray.mk #[97]), .int .i64 1, .int .i64 1, .int .u32 2839306131]])]) Tryz.func32 rfl Tryz.ntmps32 (Nat.le_of_ble_eq_true rfl) (hg.start rfl) ?_
  refine GS.conv (env' := [(0, .agg #[.int .i64 0, .int .i64 0, .int .i64 0, .slice none 0 0, .slice none 0 0, .slice none 0 0]), (1, .agg #[.int .i64 0, .int .i64 2, .int .i64 2, .slice none 0 0, .slice none 0 0, .slice a1_5_o 1 a1_5_c])]) rfl rfl ?_
  refine GS.seq ?_
  refine GS.region (env' := fun fr1 => [(2, .pointer (some ⟨(fr1 0).x, 0, none⟩)), (3, .pointer (some ⟨(fr1 1).x, 0, none⟩))]) (mem' := fun fr1 => [(1, .rd a1_5_o 4 [[.string (ByteArray.mk #[97]), .int .i64 1, .int .i64 1, .int .u32 2839306131]]), (2, .cells ((fr1 0).x) 37 [.int .i64 0, .int .i64 0, .int .i64 0, .slice none 0 0, .slice none 0 0, .slice none 0 0]), (3, .cells ((fr1 1).x) 37 [.int .i64 0, .int .i64 2, .int .i64 2, .slice none 0 0, .slice none 0 0, .slice a1_5_o 1 a1_5_c])]) (RunsTo.mk [(0, { act := .new .var, key := some 2 }), (1, { act := .new .var, key := some 3 })] [2, 3] [1, 2, 3] (fun fr1 => []) (fun fr1 => by kernel_rfl) (fun fr1 => trivial)) ?_
  intro fr1
  refine GS.seq ?_
  refine GS.seq ?_
  refine bnd_elim hm (fun y3 e4 hm => ?_)
  refine GS.region (env' := fun fr2 => [(2, .pointer (some ⟨(fr1 0).x, 0, none⟩)), (3, .pointer (some ⟨(fr1 1).x, 0, none⟩)), (8, .bool false)]) (mem' := fun fr2 => [(1, .rd a1_5_o 4 [[.string (ByteArray.mk #[97]), .int .i64 1, .int .i64 1, .int .u32 2839306131]]), (2, .cells ((fr1 0).x) 37 [.int .i64 0, .int .i64 0, .int .i64 0, .slice none 0 0, .slice none 0 0, .slice none 0 0]), (3, .cells ((fr1 1).x) 37 [.int .i64 0, .int .i64 2, .int .i64 2, .slice none 0 0, .slice none 0 0, .slice a1_5_o 1 a1_5_c])]) (RunsTo.mk [(0, { act := .load 2 0 0 [] }), (1, { act := .load 3 0 0 [] }), (2, { act := .call [1] (.tuple #[.agg #[.int .i64 0, .int .i64 0], .bool false]) }), (6, { act := .new .var, key := some 4 }), (7, { act := .store 0 0 [], key := some 4 })] [2, 3, 8] [1, 2, 3] (fun fr2 => [(fr1 0).x = (fr1 0).x, (fr1 1).x = (fr1 1).x, CallOK Tryz.prog 46 #[.agg #[.int .i64 0, .int .i64 0, .int .i64 0, .slice none 0 0, .slice none 0 0, .slice none 0 0], .agg #[.int .i64 0, .int .i64 2, .int .i64 2, .slice none 0 0, .slice none 0 0, .slice a1_5_o 1 a1_5_c]] (.tuple #[.agg #[.int .i64 0, .int .i64 0], .bool false]) [some (.rd a1_5_o 4 [[.string (ByteArray.mk #[97]), .int .i64 1, .int .i64 1, .int .u32 2839306131]])], (fr2 6).x = (fr2 6).x, ((.agg #[.int .i64 0, .int .i64 0]) : Value).cells.toList.all Value.oneCell' = true]) (fun fr2 => by kernel_rfl) (fun fr2 => ⟨rfl, rfl, (by have h1 := w_missing_Common F a1_5_o a1_5_c e4; exact h1.ok ⟨(.inl ⟨.rd a1_5_o 4 [[.string (ByteArray.mk #[97]), .int .i64 1, .int .i64 1, .int .u32 2839306131]], .head _, Cov.refl _⟩), trivial⟩), rfl, rfl, trivial⟩)) ?_
  intro fr2
  refine GS.seq ?_
  refine GS.region (env' := fun _ => [(2, .pointer (some ⟨(fr1 0).x, 0, none⟩)), (3, .pointer (some ⟨(fr1 1).x, 0, none⟩)), (24, .bool true)]) (mem' := fun _ => [(1, .rd a1_5_o 4 [[.string (ByteArray.mk #[97]), .int .i64 1, .int .i64 1, .int .u32 2839306131]]), (2, .cells ((fr1 0).x) 37 [.int .i64 0, .int .i64 0, .int .i64 0, .slice none 0 0, .slice none 0 0, .slice none 0 0]), (3, .cells ((fr1 1).x) 37 [.int .i64 0, .int .i64 2, .int .i64 2, .slice none 0 0, .slice none 0 0, .slice a1_5_o 1 a1_5_c])]) (RunsTo.mk [] [2, 3, 24] [1, 2, 3] (fun _ => []) (fun _ => by kernel_rfl) (fun _ => trivial)) ?_
  intro _
  refine GS.cond (t := true) rfl rfl (fun _ => ?_) (fun hf => by cases hf)
  refine GS.seq ?_
  refine GS.region (env' := fun _ => [(4, .slice none 0 0), (5, .slice none 0 0), (6, .bool false)]) (mem' := fun _ => []) (RunsTo.mk [] [4, 5, 6] [] (fun _ => []) (fun _ => by kernel_rfl) (fun _ => trivial)) ?_
  intro _
  have hy := Option.some.inj hm
  subst hy
  refine GS.ret (fn := Tryz.f32) [0, 0, 0] [.slice none 0 0, .slice none 0 0, .bool false] [] rfl Tryz.func32 (by kernel_rfl) trivial (fun w' hs => ?_)
  exact ⟨(), rfl, hs.turnedG (ks := []) rfl rfl⟩

theorem w_pglog_Find (F : Nat) {y : Unit} (hm : m_pglog_Find F = some y) : CallG Tryz.prog 48 #[.agg #[.int .i64 0, .int .i64 0, .int .i64 0, .slice none 0 0, .slice none 0 0, .slice none 0 0], .string (ByteArray.mk #[97])] (X := Unit) (fun (_ : Unit) => .tuple #[.agg #[.string (ByteArray.mk #[]), .int .i64 0, .int .i64 0, .int .u32 0], .bool false]) [] [] (fun (_ : Unit) => []) := by
  intro w hg
  rw [m_pglog_Find] at hm
  refine GS.start (S := mayT [] []) (mem := []) Tryz.func48 rfl Tryz.ntmps48 (Nat.le_of_ble_eq_true rfl) (hg.start rfl) ?_
  refine GS.conv (env' := [(0, .agg #[.int .i64 0, .int .i64 0, .int .i64 0, .slice none 0 0, .slice none 0 0, .slice none 0 0]), (1, .string (ByteArray.mk #[97]))]) rfl rfl ?_
  refine GS.seq ?_
  refine GS.region (env' := fun fr1 => [(1, .string (ByteArray.mk #[97])), (2, .pointer (some ⟨(fr1 0).x, 0, none⟩)), (4, .pointer (some ⟨(fr1 1).x, 0, none⟩))]) (mem' := fun fr1 => [(1, .cells ((fr1 0).x) 37 [.int .i64 0, .int .i64 0, .int .i64 0, .slice none 0 0, .slice none 0 0, .slice none 0 0]), (2, .cells ((fr1 1).x) 60 [.string (ByteArray.mk #[]), .int .i64 0, .int .i64 0, .int .u32 0])]) (RunsTo.mk [(0, { act := .new .var, key := some 1 }), (1, { act := .new .var, key := some 2 })] [1, 2, 4] [1, 2] (fun fr1 => []) (fun fr1 => by kernel_rfl) (fun fr1 => trivial)) ?_
  intro fr1
  refine GS.seq ?_
  refine GS.seq ?_
  refine GS.region (env' := fun _ => [(1, .string (ByteArray.mk #[97])), (4, .pointer (some ⟨(fr1 1).x, 0, none⟩)), (9, .slice none 0 0), (10, .int .i64 0), (11, .int .i64 0)]) (mem' := fun _ => [(2, .cells ((fr1 1).x) 60 [.string (ByteArray.mk #[]), .int .i64 0, .int .i64 0, .int .u32 0])]) (RunsTo.mk [(1, { act := .load 1 0 0 [] })] [1, 4, 9, 10, 11] [2] (fun _ => [(fr1 0).x = (fr1 0).x]) (fun _ => by kernel_rfl) (fun _ => ⟨rfl, trivial⟩)) ?_
  intro _
  refine GS.block ?_
  refine GS.loop ?_
  refine GS.seq ?_
  refine GS.region (env' := fun _ => [(1, .string (ByteArray.mk #[97])), (4, .pointer (some ⟨(fr1 1).x, 0, none⟩)), (9, .slice none 0 0), (10, .int .i64 0), (11, .int .i64 0), (12, .bool false)]) (mem' := fun _ => [(2, .cells ((fr1 1).x) 60 [.string (ByteArray.mk #[]), .int .i64 0, .int .i64 0, .int .u32 0])]) (RunsTo.mk [] [1, 4, 9, 10, 11, 12] [2] (fun _ => []) (fun _ => by kernel_rfl) (fun _ => trivial)) ?_
  intro _
  refine GS.seq ?_
  refine GS.cond (t := false) rfl rfl (fun hf => by cases hf) (fun _ => ?_)
  refine GS.exit rfl ?_
  refine GS.seq ?_
  refine GS.region (env' := fun _ => [(4, .pointer (some ⟨(fr1 1).x, 0, none⟩)), (5, .bool false)]) (mem' := fun _ => [(2, .cells ((fr1 1).x) 60 [.string (ByteArray.mk #[]), .int .i64 0, .int .i64 0, .int .u32 0])]) (RunsTo.mk [(1, { act := .store 0 0 [], key := some 2 })] [4, 5] [2] (fun _ => [(fr1 1).x = (fr1 1).x, ((.agg #[.string (ByteArray.mk #[]), .int .i64 0, .int .i64 0, .int .u32 0]) : Value).cells.toList.all Value.oneCell' = true]) (fun _ => by kernel_rfl) (fun _ => ⟨rfl, rfl, trivial⟩)) ?_
  intro _
  have hy := Option.some.inj hm
  subst hy
  refine GS.ret (fn := Tryz.f48) [2, 0] [.agg #[.string (ByteArray.mk #[]), .int .i64 0, .int .i64 0, .int .u32 0], .bool false] [(fr1 1).x = (fr1 1).x] rfl Tryz.func48 (by kernel_rfl) ⟨rfl, trivial⟩ (fun w' hs => ?_)
  exact ⟨(), rfl, hs.turnedG (ks := []) rfl rfl⟩

theorem w_recovery_catalogues (F : Nat) (a1_5_o : Option Addr) (a1_5_c : Nat) {y : Unit} (hm : m_recovery_catalogues F = some y) : CallG Tryz.prog 33 #[.agg #[.int .i64 0, .int .i64 0, .int .i64 0, .slice none 0 0, .slice none 0 0, .slice none 0 0], .agg #[.int .i64 0, .int .i64 2, .int .i64 2, .slice none 0 0, .slice none 0 0, .slice a1_5_o 1 a1_5_c]] (X := Option Addr × Nat) (fun ⟨x0, x1⟩ => .tuple #[.slice x0 1 x1, .slice none 0 0]) [] [.rd a1_5_o 4 [[.string (ByteArray.mk #[97]), .int .i64 1, .int .i64 1, .int .u32 2839306131]]] (fun ⟨x0, x1⟩ => [.osl x0 x1 60 4 [[.string (ByteArray.mk #[97]), .int .i64 1, .int .i64 1, .int .u32 2839306131]]]) := by
  intro w hg
  rw [m_recovery_catalogues] at hm
  refine GS.start (S := mayT [] [.rd a1_5_o 4 [[.string (ByteArray.mk #[97]), .int .i64 1, .int .i64 1, .int .u32 2839306131]]]) (mem := [(1, .rd a1_5_o 4 [[.string (ByteArray.mk #[97]), .int .i64 1, .int .i64 1, .int .u32 2839306131]])]) Tryz.func33 rfl Tryz.ntmps33 (Nat.le_of_ble_eq_true rfl) (hg.start rfl) ?_
  refine GS.conv (env' := [(0, .agg #[.int .i64 0, .int .i64 0, .int .i64 0, .slice none 0 0, .slice none 0 0, .slice none 0 0]), (1, .agg #[.int .i64 0, .int .i64 2, .int .i64 2, .slice none 0 0, .slice none 0 0, .slice a1_5_o 1 a1_5_c])]) rfl rfl ?_
  refine GS.seq ?_
  refine GS.region (env' := fun fr1 => [(2, .pointer (some ⟨(fr1 0).x, 0, none⟩)), (3, .pointer (some ⟨(fr1 1).x, 0, none⟩))]) (mem' := fun fr1 => [(1, .rd a1_5_o 4 [[.string (ByteArray.mk #[97]), .int .i64 1, .int .i64 1, .int .u32 2839306131]]), (2, .cells ((fr1 0).x) 37 [.int .i64 0, .int .i64 0, .int .i64 0, .slice none 0 0, .slice none 0 0, .slice none 0 0]), (3, .cells ((fr1 1).x) 37 [.int .i64 0, .int .i64 2, .int .i64 2, .slice none 0 0, .slice none 0 0, .slice a1_5_o 1 a1_5_c])]) (RunsTo.mk [(0, { act := .new .var, key := some 2 }), (1, { act := .new .var, key := some 3 })] [2, 3] [1, 2, 3] (fun fr1 => []) (fun fr1 => by kernel_rfl) (fun fr1 => trivial)) ?_
  intro fr1
  refine GS.seq ?_
  refine GS.region (env' := fun _ => [(2, .pointer (some ⟨(fr1 0).x, 0, none⟩)), (3, .pointer (some ⟨(fr1 1).x, 0, none⟩)), (6, .slice none 0 0)]) (mem' := fun _ => [(1, .rd a1_5_o 4 [[.string (ByteArray.mk #[97]), .int .i64 1, .int .i64 1, .int .u32 2839306131]]), (2, .cells ((fr1 0).x) 37 [.int .i64 0, .int .i64 0, .int .i64 0, .slice none 0 0, .slice none 0 0, .slice none 0 0]), (3, .cells ((fr1 1).x) 37 [.int .i64 0, .int .i64 2, .int .i64 2, .slice none 0 0, .slice none 0 0, .slice a1_5_o 1 a1_5_c])]) (RunsTo.mk [] [2, 3, 6] [1, 2, 3] (fun _ => []) (fun _ => by kernel_rfl) (fun _ => trivial)) ?_
  intro _
  refine GS.seq ?_
  refine GS.region (env' := fun _ => [(2, .pointer (some ⟨(fr1 0).x, 0, none⟩)), (3, .pointer (some ⟨(fr1 1).x, 0, none⟩)), (6, .slice none 0 0), (7, .slice none 0 0)]) (mem' := fun _ => [(1, .rd a1_5_o 4 [[.string (ByteArray.mk #[97]), .int .i64 1, .int .i64 1, .int .u32 2839306131]]), (2, .cells ((fr1 0).x) 37 [.int .i64 0, .int .i64 0, .int .i64 0, .slice none 0 0, .slice none 0 0, .slice none 0 0]), (3, .cells ((fr1 1).x) 37 [.int .i64 0, .int .i64 2, .int .i64 2, .slice none 0 0, .slice none 0 0, .slice a1_5_o 1 a1_5_c])]) (RunsTo.mk [] [2, 3, 6, 7] [1, 2, 3] (fun _ => []) (fun _ => by kernel_rfl) (fun _ => trivial)) ?_
  intro _
  refine GS.seq ?_
  refine GS.seq ?_
  refine GS.region (env' := fun _ => [(2, .pointer (some ⟨(fr1 0).x, 0, none⟩)), (3, .pointer (some ⟨(fr1 1).x, 0, none⟩)), (6, .slice none 0 0), (7, .slice none 0 0), (17, .slice a1_5_o 1 a1_5_c), (18, .int .i64 1), (19, .int .i64 0)]) (mem' := fun _ => [(1, .rd a1_5_o 4 [[.string (ByteArray.mk #[97]), .int .i64 1, .int .i64 1, .int .u32 2839306131]]), (2, .cells ((fr1 0).x) 37 [.int .i64 0, .int .i64 0, .int .i64 0, .slice none 0 0, .slice none 0 0, .slice none 0 0]), (3, .cells ((fr1 1).x) 37 [.int .i64 0, .int .i64 2, .int .i64 2, .slice none 0 0, .slice none 0 0, .slice a1_5_o 1 a1_5_c])]) (RunsTo.mk [(1, { act := .load 3 0 0 [] })] [2, 3, 6, 7, 17, 18, 19] [1, 2, 3] (fun _ => [(fr1 1).x = (fr1 1).x]) (fun _ => by kernel_rfl) (fun _ => ⟨rfl, trivial⟩)) ?_
  intro _
  refine GS.block ?_
  refine GS.loop ?_
  refine GS.seq ?_
  refine GS.region (env' := fun _ => [(2, .pointer (some ⟨(fr1 0).x, 0, none⟩)), (3, .pointer (some ⟨(fr1 1).x, 0, none⟩)), (6, .slice none 0 0), (7, .slice none 0 0), (17, .slice a1_5_o 1 a1_5_c), (18, .int .i64 1), (19, .int .i64 0), (20, .bool true)]) (mem' := fun _ => [(1, .rd a1_5_o 4 [[.string (ByteArray.mk #[97]), .int .i64 1, .int .i64 1, .int .u32 2839306131]]), (2, .cells ((fr1 0).x) 37 [.int .i64 0, .int .i64 0, .int .i64 0, .slice none 0 0, .slice none 0 0, .slice none 0 0]), (3, .cells ((fr1 1).x) 37 [.int .i64 0, .int .i64 2, .int .i64 2, .slice none 0 0, .slice none 0 0, .slice a1_5_o 1 a1_5_c])]) (RunsTo.mk [] [2, 3, 6, 7, 17, 18, 19, 20] [1, 2, 3] (fun _ => []) (fun _ => by kernel_rfl) (fun _ => trivial)) ?_
  intro _
  refine GS.seq ?_
  refine GS.cond (t := true) rfl rfl (fun _ => ?_) (fun hf => by cases hf)
  refine GS.skip ?_
  refine GS.seq ?_
  refine GS.block ?_
  refine GS.seq ?_
  refine GS.region (env' := fun fr6 => [(2, .pointer (some ⟨(fr1 0).x, 0, none⟩)), (3, .pointer (some ⟨(fr1 1).x, 0, none⟩)), (6, .slice none 0 0), (7, .slice none 0 0), (9, .pointer (some ⟨(fr6 2).x, 0, none⟩)), (17, .slice a1_5_o 1 a1_5_c), (18, .int .i64 1), (19, .int .i64 0)]) (mem' := fun fr6 => [(1, .rd a1_5_o 4 [[.string (ByteArray.mk #[97]), .int .i64 1, .int .i64 1, .int .u32 2839306131]]), (2, .cells ((fr1 0).x) 37 [.int .i64 0, .int .i64 0, .int .i64 0, .slice none 0 0, .slice none 0 0, .slice none 0 0]), (3, .cells ((fr1 1).x) 37 [.int .i64 0, .int .i64 2, .int .i64 2, .slice none 0 0, .slice none 0 0, .slice a1_5_o 1 a1_5_c]), (4, .cells ((fr6 2).x) 60 [.string (ByteArray.mk #[97]), .int .i64 1, .int .i64 1, .int .u32 2839306131])]) (RunsTo.mk [(0, { act := .idx 1 0 }), (1, { act := .load 1 0 0 [.string (ByteArray.mk #[97]), .int .i64 1, .int .i64 1, .int .u32 2839306131] }), (2, { act := .new .var, key := some 4 }), (3, { act := .store 0 0 [], key := some 4 })] [2, 3, 6, 7, 9, 17, 18, 19] [1, 2, 3, 4] (fun fr6 => [a1_5_o = a1_5_o, 1 = ([[.string (ByteArray.mk #[97]), .int .i64 1, .int .i64 1, .int .u32 2839306131]] : List (List Value)).length, (0 : Int) = ((0 : Nat) : Int), 0 < 1, blk a1_5_o = blk a1_5_o, offs a1_5_o + 0 * 4 = offs a1_5_o + (0 * 4 + 0), ([[.string (ByteArray.mk #[97]), .int .i64 1, .int .i64 1, .int .u32 2839306131]] : List (List Value))[0]? = some [.string (ByteArray.mk #[97]), .int .i64 1, .int .i64 1, .int .u32 2839306131], (fr6 2).x = (fr6 2).x, ((.agg #[.string (ByteArray.mk #[97]), .int .i64 1, .int .i64 1, .int .u32 2839306131]) : Value).cells.toList.all Value.oneCell' = true]) (fun fr6 => by kernel_rfl) (fun fr6 => ⟨rfl, rfl, rfl, (Nat.le_of_ble_eq_true rfl), rfl, rfl, rfl, rfl, rfl, trivial⟩)) ?_
  intro fr6
  refine GS.seq ?_
  refine bnd_elim hm (fun y8 e9 hm => ?_)
  refine GS.region (env' := fun fr7 => [(2, .pointer (some ⟨(fr1 0).x, 0, none⟩)), (3, .pointer (some ⟨(fr1 1).x, 0, none⟩)), (6, .slice none 0 0), (7, .slice none 0 0), (9, .pointer (some ⟨(fr6 2).x, 0, none⟩)), (10, .pointer (some ⟨(fr7 7).x, 0, none⟩)), (11, .bool false), (17, .slice a1_5_o 1 a1_5_c), (18, .int .i64 1), (19, .int .i64 0)]) (mem' := fun fr7 => [(1, .rd a1_5_o 4 [[.string (ByteArray.mk #[97]), .int .i64 1, .int .i64 1, .int .u32 2839306131]]), (2, .cells ((fr1 0).x) 37 [.int .i64 0, .int .i64 0, .int .i64 0, .slice none 0 0, .slice none 0 0, .slice none 0 0]), (3, .cells ((fr1 1).x) 37 [.int .i64 0, .int .i64 2, .int .i64 2, .slice none 0 0, .slice none 0 0, .slice a1_5_o 1 a1_5_c]), (4, .cells ((fr6 2).x) 60 [.string (ByteArray.mk #[97]), .int .i64 1, .int .i64 1, .int .u32 2839306131]), (5, .cells ((fr7 7).x) 60 [.string (ByteArray.mk #[]), .int .i64 0, .int .i64 0, .int .u32 0])]) (RunsTo.mk [(0, { act := .load 2 0 0 [] }), (2, { act := .load 4 0 0 [] }), (3, { act := .call [] (.tuple #[.agg #[.string (ByteArray.mk #[]), .int .i64 0, .int .i64 0, .int .u32 0], .bool false]) }), (7, { act := .new .var, key := some 5 }), (8, { act := .store 0 0 [], key := some 5 })] [2, 3, 6, 7, 9, 10, 11, 17, 18, 19] [1, 2, 3, 4, 5] (fun fr7 => [(fr1 0).x = (fr1 0).x, (fr6 2).x = (fr6 2).x, CallOK Tryz.prog 48 #[.agg #[.int .i64 0, .int .i64 0, .int .i64 0, .slice none 0 0, .slice none 0 0, .slice none 0 0], .string (ByteArray.mk #[97])] (.tuple #[.agg #[.string (ByteArray.mk #[]), .int .i64 0, .int .i64 0, .int .u32 0], .bool false]) [], (fr7 7).x = (fr7 7).x, ((.agg #[.string (ByteArray.mk #[]), .int .i64 0, .int .i64 0, .int .u32 0]) : Value).cells.toList.all Value.oneCell' = true]) (fun fr7 => by kernel_rfl) (fun fr7 => ⟨rfl, rfl, (by have h1 := w_pglog_Find F  e9; exact h1.ok trivial), rfl, rfl, trivial⟩)) ?_
  intro fr7
  refine GS.seq ?_
  refine GS.region (env' := fun _ => [(2, .pointer (some ⟨(fr1 0).x, 0, none⟩)), (3, .pointer (some ⟨(fr1 1).x, 0, none⟩)), (6, .slice none 0 0), (7, .slice none 0 0), (9, .pointer (some ⟨(fr6 2).x, 0, none⟩)), (17, .slice a1_5_o 1 a1_5_c), (18, .int .i64 1), (19, .int .i64 0), (36, .bool true)]) (mem' := fun _ => [(1, .rd a1_5_o 4 [[.string (ByteArray.mk #[97]), .int .i64 1, .int .i64 1, .int .u32 2839306131]]), (2, .cells ((fr1 0).x) 37 [.int .i64 0, .int .i64 0, .int .i64 0, .slice none 0 0, .slice none 0 0, .slice none 0 0]), (3, .cells ((fr1 1).x) 37 [.int .i64 0, .int .i64 2, .int .i64 2, .slice none 0 0, .slice none 0 0, .slice a1_5_o 1 a1_5_c]), (4, .cells ((fr6 2).x) 60 [.string (ByteArray.mk #[97]), .int .i64 1, .int .i64 1, .int .u32 2839306131])]) (RunsTo.mk [] [2, 3, 6, 7, 9, 17, 18, 19, 36] [1, 2, 3, 4] (fun _ => []) (fun _ => by kernel_rfl) (fun _ => trivial)) ?_
  intro _
  refine GS.cond (t := true) rfl rfl (fun _ => ?_) (fun hf => by cases hf)
  refine GS.region (env' := fun fr11 => [(2, .pointer (some ⟨(fr1 0).x, 0, none⟩)), (3, .pointer (some ⟨(fr1 1).x, 0, none⟩)), (6, .slice ((fr11 3).ob) 1 ((fr11 3).cap)), (7, .slice none 0 0), (17, .slice a1_5_o 1 a1_5_c), (18, .int .i64 1), (19, .int .i64 0)]) (mem' := fun fr11 => [(1, .rd a1_5_o 4 [[.string (ByteArray.mk #[97]), .int .i64 1, .int .i64 1, .int .u32 2839306131]]), (2, .cells ((fr1 0).x) 37 [.int .i64 0, .int .i64 0, .int .i64 0, .slice none 0 0, .slice none 0 0, .slice none 0 0]), (3, .cells ((fr1 1).x) 37 [.int .i64 0, .int .i64 2, .int .i64 2, .slice none 0 0, .slice none 0 0, .slice a1_5_o 1 a1_5_c]), (7, .osl ((fr11 3).ob) ((fr11 3).cap) 60 4 ([[.string (ByteArray.mk #[97]), .int .i64 1, .int .i64 1, .int .u32 2839306131]] : List (List Value)))]) (RunsTo.mk [(1, { act := .load 4 0 0 [] }), (2, { act := .new (.row 1 4), key := some 6 }), (3, { act := .app (some 6), key := some 7, spf := some (fun f => .slice (f.ob) 1 (f.cap)) })] [2, 3, 6, 7, 17, 18, 19] [1, 2, 3, 7] (fun fr11 => [(fr6 2).x = (fr6 2).x, (some (Addr.mk (fr11 2).x 0 none)) = (some (Addr.mk (fr11 2).x 0 none)), 1 = ([[.string (ByteArray.mk #[97]), .int .i64 1, .int .i64 1, .int .u32 2839306131]] : List (List Value)).length, 0 = 0, 0 = 0, ([[.string (ByteArray.mk #[97]), .int .i64 1, .int .i64 1, .int .u32 2839306131]] : List (List Value)).length * (40 + 1) ≤ 70368744177664, ((.slice ((fr11 3).ob) (0 + ([[.string (ByteArray.mk #[97]), .int .i64 1, .int .i64 1, .int .u32 2839306131]] : List (List Value)).length) ((fr11 3).cap)) : Value) = .slice ((fr11 3).ob) 1 ((fr11 3).cap)]) (fun fr11 => by kernel_rfl) (fun fr11 => ⟨rfl, rfl, rfl, rfl, rfl, (show 1 * (40 + 1) ≤ 70368744177664 by decide), rfl, trivial⟩)) ?_
  intro fr11
  refine GS.conv (mem' := [(1, .rd a1_5_o 4 [[.string (ByteArray.mk #[97]), .int .i64 1, .int .i64 1, .int .u32 2839306131]]), (2, .cells ((fr1 0).x) 37 [.int .i64 0, .int .i64 0, .int .i64 0, .slice none 0 0, .slice none 0 0, .slice none 0 0]), (3, .cells ((fr1 1).x) 37 [.int .i64 0, .int .i64 2, .int .i64 2, .slice none 0 0, .slice none 0 0, .slice a1_5_o 1 a1_5_c]), (7, .osl ((fr11 3).ob) ((fr11 3).cap) 60 4 [[.string (ByteArray.mk #[97]), .int .i64 1, .int .i64 1, .int .u32 2839306131]])]) rfl (congrArg (fun rr : List (List Value) => ([(1, .rd a1_5_o 4 [[.string (ByteArray.mk #[97]), .int .i64 1, .int .i64 1, .int .u32 2839306131]]), (2, .cells ((fr1 0).x) 37 [.int .i64 0, .int .i64 0, .int .i64 0, .slice none 0 0, .slice none 0 0, .slice none 0 0]), (3, .cells ((fr1 1).x) 37 [.int .i64 0, .int .i64 2, .int .i64 2, .slice none 0 0, .slice none 0 0, .slice a1_5_o 1 a1_5_c]), (7, .osl ((fr11 3).ob) ((fr11 3).cap) 60 4 rr)] : List (Nat × Ent))) (show ([[.string (ByteArray.mk #[97]), .int .i64 1, .int .i64 1, .int .u32 2839306131]] : List (List Value)) = ([[.string (ByteArray.mk #[97]), .int .i64 1, .int .i64 1, .int .u32 2839306131]] : List (List Value)) from rfl)) ?_
  refine GS.inBlock ?_
  refine GS.region (env' := fun _ => [(2, .pointer (some ⟨(fr1 0).x, 0, none⟩)), (3, .pointer (some ⟨(fr1 1).x, 0, none⟩)), (6, .slice ((fr11 3).ob) 1 ((fr11 3).cap)), (7, .slice none 0 0), (17, .slice a1_5_o 1 a1_5_c), (18, .int .i64 1), (19, .int .i64 1)]) (mem' := fun _ => [(1, .rd a1_5_o 4 [[.string (ByteArray.mk #[97]), .int .i64 1, .int .i64 1, .int .u32 2839306131]]), (2, .cells ((fr1 0).x) 37 [.int .i64 0, .int .i64 0, .int .i64 0, .slice none 0 0, .slice none 0 0, .slice none 0 0]), (3, .cells ((fr1 1).x) 37 [.int .i64 0, .int .i64 2, .int .i64 2, .slice none 0 0, .slice none 0 0, .slice a1_5_o 1 a1_5_c]), (7, .osl ((fr11 3).ob) ((fr11 3).cap) 60 4 [[.string (ByteArray.mk #[97]), .int .i64 1, .int .i64 1, .int .u32 2839306131]])]) (RunsTo.mk [] [2, 3, 6, 7, 17, 18, 19] [1, 2, 3, 7] (fun _ => []) (fun _ => by kernel_rfl) (fun _ => trivial)) ?_
  intro _
  refine GS.inLoop ?_
  refine GS.seq ?_
  refine GS.region (env' := fun _ => [(2, .pointer (some ⟨(fr1 0).x, 0, none⟩)), (3, .pointer (some ⟨(fr1 1).x, 0, none⟩)), (6, .slice ((fr11 3).ob) 1 ((fr11 3).cap)), (7, .slice none 0 0), (17, .slice a1_5_o 1 a1_5_c), (18, .int .i64 1), (19, .int .i64 1), (20, .bool false)]) (mem' := fun _ => [(1, .rd a1_5_o 4 [[.string (ByteArray.mk #[97]), .int .i64 1, .int .i64 1, .int .u32 2839306131]]), (2, .cells ((fr1 0).x) 37 [.int .i64 0, .int .i64 0, .int .i64 0, .slice none 0 0, .slice none 0 0, .slice none 0 0]), (3, .cells ((fr1 1).x) 37 [.int .i64 0, .int .i64 2, .int .i64 2, .slice none 0 0, .slice none 0 0, .slice a1_5_o 1 a1_5_c]), (7, .osl ((fr11 3).ob) ((fr11 3).cap) 60 4 [[.string (ByteArray.mk #[97]), .int .i64 1, .int .i64 1, .int .u32 2839306131]])]) (RunsTo.mk [] [2, 3, 6, 7, 17, 18, 19, 20] [1, 2, 3, 7] (fun _ => []) (fun _ => by kernel_rfl) (fun _ => trivial)) ?_
  intro _
  refine GS.seq ?_
  refine GS.cond (t := false) rfl rfl (fun hf => by cases hf) (fun _ => ?_)
  refine GS.exit rfl ?_
  refine GS.seq ?_
  refine GS.seq ?_
  refine GS.region (env' := fun _ => [(3, .pointer (some ⟨(fr1 1).x, 0, none⟩)), (6, .slice ((fr11 3).ob) 1 ((fr11 3).cap)), (7, .slice none 0 0), (43, .slice none 0 0), (44, .int .i64 0), (45, .int .i64 0)]) (mem' := fun _ => [(1, .rd a1_5_o 4 [[.string (ByteArray.mk #[97]), .int .i64 1, .int .i64 1, .int .u32 2839306131]]), (3, .cells ((fr1 1).x) 37 [.int .i64 0, .int .i64 2, .int .i64 2, .slice none 0 0, .slice none 0 0, .slice a1_5_o 1 a1_5_c]), (7, .osl ((fr11 3).ob) ((fr11 3).cap) 60 4 [[.string (ByteArray.mk #[97]), .int .i64 1, .int .i64 1, .int .u32 2839306131]])]) (RunsTo.mk [(1, { act := .load 2 0 0 [] })] [3, 6, 7, 43, 44, 45] [1, 3, 7] (fun _ => [(fr1 0).x = (fr1 0).x]) (fun _ => by kernel_rfl) (fun _ => ⟨rfl, trivial⟩)) ?_
  intro _
  refine GS.block ?_
  refine GS.loop ?_
  refine GS.seq ?_
  refine GS.region (env' := fun _ => [(3, .pointer (some ⟨(fr1 1).x, 0, none⟩)), (6, .slice ((fr11 3).ob) 1 ((fr11 3).cap)), (7, .slice none 0 0), (43, .slice none 0 0), (44, .int .i64 0), (45, .int .i64 0), (46, .bool false)]) (mem' := fun _ => [(1, .rd a1_5_o 4 [[.string (ByteArray.mk #[97]), .int .i64 1, .int .i64 1, .int .u32 2839306131]]), (3, .cells ((fr1 1).x) 37 [.int .i64 0, .int .i64 2, .int .i64 2, .slice none 0 0, .slice none 0 0, .slice a1_5_o 1 a1_5_c]), (7, .osl ((fr11 3).ob) ((fr11 3).cap) 60 4 [[.string (ByteArray.mk #[97]), .int .i64 1, .int .i64 1, .int .u32 2839306131]])]) (RunsTo.mk [] [3, 6, 7, 43, 44, 45, 46] [1, 3, 7] (fun _ => []) (fun _ => by kernel_rfl) (fun _ => trivial)) ?_
  intro _
  refine GS.seq ?_
  refine GS.cond (t := false) rfl rfl (fun hf => by cases hf) (fun _ => ?_)
  refine GS.exit rfl ?_
  refine GS.seq ?_
  refine GS.region (env' := fun _ => [(4, .slice ((fr11 3).ob) 1 ((fr11 3).cap)), (5, .slice none 0 0)]) (mem' := fun _ => [(7, .osl ((fr11 3).ob) ((fr11 3).cap) 60 4 [[.string (ByteArray.mk #[97]), .int .i64 1, .int .i64 1, .int .u32 2839306131]])]) (RunsTo.mk [] [4, 5] [7] (fun _ => []) (fun _ => by kernel_rfl) (fun _ => trivial)) ?_
  intro _
  have hy := Option.some.inj hm
  subst hy
  refine GS.ret (fn := Tryz.f33) [0, 0] [.slice ((fr11 3).ob) 1 ((fr11 3).cap), .slice none 0 0] [] rfl Tryz.func33 (by kernel_rfl) trivial (fun w' hs => ?_)
  exact ⟨⟨(fr11 3).ob, (fr11 3).cap⟩, rfl, hs.turnedG (ks := [7]) rfl rfl⟩

theorem w_pglog_Copy (F : Nat) (a0_5_o : Option Addr) (a0_5_c : Nat) {y : Unit} (hm : m_pglog_Copy F = some y) : CallG Tryz.prog 34 #[.agg #[.int .i64 0, .int .i64 2, .int .i64 2, .slice none 0 0, .slice none 0 0, .slice a0_5_o 1 a0_5_c]] (X := Option Addr × Nat × Option Addr × Nat × Option Addr × Nat) (fun ⟨x0, x1, x2, x3, x4, x5⟩ => .agg #[.int .i64 0, .int .i64 2, .int .i64 2, .slice x0 0 x1, .slice x2 0 x3, .slice x4 1 x5]) [] [.rd a0_5_o 4 [[.string (ByteArray.mk #[97]), .int .i64 1, .int .i64 1, .int .u32 2839306131]]] (fun ⟨x0, x1, x2, x3, x4, x5⟩ => [.osl x0 x1 40 7 [], .osl x2 x3 111 5 [], .osl x4 x5 60 4 [[.string (ByteArray.mk #[97]), .int .i64 1, .int .i64 1, .int .u32 2839306131]]]) := by
  intro w hg
  rw [m_pglog_Copy] at hm
  refine GS.start (S := mayT [] [.rd a0_5_o 4 [[.string (ByteArray.mk #[97]), .int .i64 1, .int .i64 1, .int .u32 2839306131]]]) (mem := [(1, .rd a0_5_o 4 [[.string (ByteArray.mk #[97]), .int .i64 1, .int .i64 1, .int .u32 2839306131]])]) Tryz.func34 rfl Tryz.ntmps34 (Nat.le_of_ble_eq_true rfl) (hg.start rfl) ?_
  refine GS.conv (env' := [(0, .agg #[.int .i64 0, .int .i64 2, .int .i64 2, .slice none 0 0, .slice none 0 0, .slice a0_5_o 1 a0_5_c])]) rfl rfl ?_
  refine GS.seq ?_
  refine GS.region (env' := fun fr1 => [(1, .pointer (some ⟨(fr1 0).x, 0, none⟩)), (2, .pointer (some ⟨(fr1 1).x, 0, none⟩))]) (mem' := fun fr1 => [(1, .rd a0_5_o 4 [[.string (ByteArray.mk #[97]), .int .i64 1, .int .i64 1, .int .u32 2839306131]]), (2, .cells ((fr1 0).x) 37 [.int .i64 0, .int .i64 2, .int .i64 2, .slice none 0 0, .slice none 0 0, .slice a0_5_o 1 a0_5_c]), (3, .cells ((fr1 1).x) 37 [.int .i64 0, .int .i64 0, .int .i64 0, .slice none 0 0, .slice none 0 0, .slice none 0 0])]) (RunsTo.mk [(0, { act := .new .var, key := some 2 }), (1, { act := .new .var, key := some 3 })] [1, 2] [1, 2, 3] (fun fr1 => []) (fun fr1 => by kernel_rfl) (fun fr1 => trivial)) ?_
  intro fr1
  refine GS.seq ?_
  refine GS.region (env' := fun fr2 => [(1, .pointer (some ⟨(fr1 0).x, 0, none⟩)), (2, .pointer (some ⟨(fr1 1).x, 0, none⟩))]) (mem' := fun fr2 => [(1, .rd a0_5_o 4 [[.string (ByteArray.mk #[97]), .int .i64 1, .int .i64 1, .int .u32 2839306131]]), (2, .cells ((fr1 0).x) 37 [.int .i64 0, .int .i64 2, .int .i64 2, .slice ((fr2 2).ob) 0 ((fr2 2).cap), .slice none 0 0, .slice a0_5_o 1 a0_5_c]), (3, .cells ((fr1 1).x) 37 [.int .i64 0, .int .i64 0, .int .i64 0, .slice none 0 0, .slice none 0 0, .slice none 0 0]), (4, .osl ((fr2 2).ob) ((fr2 2).cap) 40 7 ([] : List (List Value)))]) (RunsTo.mk [(1, { act := .load 2 0 0 [] }), (2, { act := .app none, key := some 4, spf := some (fun f => .slice (f.ob) 0 (f.cap)) }), (4, { act := .store 0 0 [], key := some 2 })] [1, 2] [1, 2, 3, 4] (fun fr2 => [(fr1 0).x = (fr1 0).x, (none : Option Addr) = none, 0 = 0, 0 = 0, 0 = 0, ([] : List (List Value)).length * (64 + 1) ≤ 70368744177664, ((.slice ((fr2 2).ob) (0 + ([] : List (List Value)).length) ((fr2 2).cap)) : Value) = .slice ((fr2 2).ob) 0 ((fr2 2).cap), (fr1 0).x = (fr1 0).x, ((.slice ((fr2 2).ob) 0 ((fr2 2).cap)) : Value).cells.toList.all Value.oneCell' = true]) (fun fr2 => by kernel_rfl) (fun fr2 => ⟨rfl, rfl, rfl, rfl, rfl, (show 0 * (64 + 1) ≤ 70368744177664 by decide), rfl, rfl, rfl, trivial⟩)) ?_
  intro fr2
  refine GS.conv (mem' := [(1, .rd a0_5_o 4 [[.string (ByteArray.mk #[97]), .int .i64 1, .int .i64 1, .int .u32 2839306131]]), (2, .cells ((fr1 0).x) 37 [.int .i64 0, .int .i64 2, .int .i64 2, .slice ((fr2 2).ob) 0 ((fr2 2).cap), .slice none 0 0, .slice a0_5_o 1 a0_5_c]), (3, .cells ((fr1 1).x) 37 [.int .i64 0, .int .i64 0, .int .i64 0, .slice none 0 0, .slice none 0 0, .slice none 0 0]), (4, .osl ((fr2 2).ob) ((fr2 2).cap) 40 7 [])]) rfl (congrArg (fun rr : List (List Value) => ([(1, .rd a0_5_o 4 [[.string (ByteArray.mk #[97]), .int .i64 1, .int .i64 1, .int .u32 2839306131]]), (2, .cells ((fr1 0).x) 37 [.int .i64 0, .int .i64 2, .int .i64 2, .slice ((fr2 2).ob) 0 ((fr2 2).cap), .slice none 0 0, .slice a0_5_o 1 a0_5_c]), (3, .cells ((fr1 1).x) 37 [.int .i64 0, .int .i64 0, .int .i64 0, .slice none 0 0, .slice none 0 0, .slice none 0 0]), (4, .osl ((fr2 2).ob) ((fr2 2).cap) 40 7 rr)] : List (Nat × Ent))) (show ([] : List (List Value)) = ([] : List (List Value)) from rfl)) ?_
  refine GS.seq ?_
  refine GS.region (env' := fun fr3 => [(1, .pointer (some ⟨(fr1 0).x, 0, none⟩)), (2, .pointer (some ⟨(fr1 1).x, 0, none⟩))]) (mem' := fun fr3 => [(1, .rd a0_5_o 4 [[.string (ByteArray.mk #[97]), .int .i64 1, .int .i64 1, .int .u32 2839306131]]), (2, .cells ((fr1 0).x) 37 [.int .i64 0, .int .i64 2, .int .i64 2, .slice ((fr2 2).ob) 0 ((fr2 2).cap), .slice ((fr3 2).ob) 0 ((fr3 2).cap), .slice a0_5_o 1 a0_5_c]), (3, .cells ((fr1 1).x) 37 [.int .i64 0, .int .i64 0, .int .i64 0, .slice none 0 0, .slice none 0 0, .slice none 0 0]), (4, .osl ((fr2 2).ob) ((fr2 2).cap) 40 7 []), (5, .osl ((fr3 2).ob) ((fr3 2).cap) 111 5 ([] : List (List Value)))]) (RunsTo.mk [(1, { act := .load 2 0 0 [] }), (2, { act := .app none, key := some 5, spf := some (fun f => .slice (f.ob) 0 (f.cap)) }), (4, { act := .store 0 0 [], key := some 2 })] [1, 2] [1, 2, 3, 4, 5] (fun fr3 => [(fr1 0).x = (fr1 0).x, (none : Option Addr) = none, 0 = 0, 0 = 0, 0 = 0, ([] : List (List Value)).length * (40 + 1) ≤ 70368744177664, ((.slice ((fr3 2).ob) (0 + ([] : List (List Value)).length) ((fr3 2).cap)) : Value) = .slice ((fr3 2).ob) 0 ((fr3 2).cap), (fr1 0).x = (fr1 0).x, ((.slice ((fr3 2).ob) 0 ((fr3 2).cap)) : Value).cells.toList.all Value.oneCell' = true]) (fun fr3 => by kernel_rfl) (fun fr3 => ⟨rfl, rfl, rfl, rfl, rfl, (show 0 * (40 + 1) ≤ 70368744177664 by decide), rfl, rfl, rfl, trivial⟩)) ?_
  intro fr3
  refine GS.conv (mem' := [(1, .rd a0_5_o 4 [[.string (ByteArray.mk #[97]), .int .i64 1, .int .i64 1, .int .u32 2839306131]]), (2, .cells ((fr1 0).x) 37 [.int .i64 0, .int .i64 2, .int .i64 2, .slice ((fr2 2).ob) 0 ((fr2 2).cap), .slice ((fr3 2).ob) 0 ((fr3 2).cap), .slice a0_5_o 1 a0_5_c]), (3, .cells ((fr1 1).x) 37 [.int .i64 0, .int .i64 0, .int .i64 0, .slice none 0 0, .slice none 0 0, .slice none 0 0]), (4, .osl ((fr2 2).ob) ((fr2 2).cap) 40 7 []), (5, .osl ((fr3 2).ob) ((fr3 2).cap) 111 5 [])]) rfl (congrArg (fun rr : List (List Value) => ([(1, .rd a0_5_o 4 [[.string (ByteArray.mk #[97]), .int .i64 1, .int .i64 1, .int .u32 2839306131]]), (2, .cells ((fr1 0).x) 37 [.int .i64 0, .int .i64 2, .int .i64 2, .slice ((fr2 2).ob) 0 ((fr2 2).cap), .slice ((fr3 2).ob) 0 ((fr3 2).cap), .slice a0_5_o 1 a0_5_c]), (3, .cells ((fr1 1).x) 37 [.int .i64 0, .int .i64 0, .int .i64 0, .slice none 0 0, .slice none 0 0, .slice none 0 0]), (4, .osl ((fr2 2).ob) ((fr2 2).cap) 40 7 []), (5, .osl ((fr3 2).ob) ((fr3 2).cap) 111 5 rr)] : List (Nat × Ent))) (show ([] : List (List Value)) = ([] : List (List Value)) from rfl)) ?_
  refine GS.seq ?_
  refine GS.region (env' := fun fr4 => [(1, .pointer (some ⟨(fr1 0).x, 0, none⟩)), (2, .pointer (some ⟨(fr1 1).x, 0, none⟩))]) (mem' := fun fr4 => [(2, .cells ((fr1 0).x) 37 [.int .i64 0, .int .i64 2, .int .i64 2, .slice ((fr2 2).ob) 0 ((fr2 2).cap), .slice ((fr3 2).ob) 0 ((fr3 2).cap), .slice ((fr4 2).ob) 1 ((fr4 2).cap)]), (3, .cells ((fr1 1).x) 37 [.int .i64 0, .int .i64 0, .int .i64 0, .slice none 0 0, .slice none 0 0, .slice none 0 0]), (4, .osl ((fr2 2).ob) ((fr2 2).cap) 40 7 []), (5, .osl ((fr3 2).ob) ((fr3 2).cap) 111 5 []), (6, .osl ((fr4 2).ob) ((fr4 2).cap) 60 4 ([[.string (ByteArray.mk #[97]), .int .i64 1, .int .i64 1, .int .u32 2839306131]] : List (List Value)))]) (RunsTo.mk [(1, { act := .load 2 0 0 [] }), (2, { act := .app (some 1), key := some 6, spf := some (fun f => .slice (f.ob) 1 (f.cap)) }), (4, { act := .store 0 0 [], key := some 2 })] [1, 2] [2, 3, 4, 5, 6] (fun fr4 => [(fr1 0).x = (fr1 0).x, a0_5_o = a0_5_o, 1 = ([[.string (ByteArray.mk #[97]), .int .i64 1, .int .i64 1, .int .u32 2839306131]] : List (List Value)).length, 0 = 0, 0 = 0, ([[.string (ByteArray.mk #[97]), .int .i64 1, .int .i64 1, .int .u32 2839306131]] : List (List Value)).length * (40 + 1) ≤ 70368744177664, ((.slice ((fr4 2).ob) (0 + ([[.string (ByteArray.mk #[97]), .int .i64 1, .int .i64 1, .int .u32 2839306131]] : List (List Value)).length) ((fr4 2).cap)) : Value) = .slice ((fr4 2).ob) 1 ((fr4 2).cap), (fr1 0).x = (fr1 0).x, ((.slice ((fr4 2).ob) 1 ((fr4 2).cap)) : Value).cells.toList.all Value.oneCell' = true]) (fun fr4 => by kernel_rfl) (fun fr4 => ⟨rfl, rfl, rfl, rfl, rfl, (show 1 * (40 + 1) ≤ 70368744177664 by decide), rfl, rfl, rfl, trivial⟩)) ?_
  intro fr4
  refine GS.conv (mem' := [(2, .cells ((fr1 0).x) 37 [.int .i64 0, .int .i64 2, .int .i64 2, .slice ((fr2 2).ob) 0 ((fr2 2).cap), .slice ((fr3 2).ob) 0 ((fr3 2).cap), .slice ((fr4 2).ob) 1 ((fr4 2).cap)]), (3, .cells ((fr1 1).x) 37 [.int .i64 0, .int .i64 0, .int .i64 0, .slice none 0 0, .slice none 0 0, .slice none 0 0]), (4, .osl ((fr2 2).ob) ((fr2 2).cap) 40 7 []), (5, .osl ((fr3 2).ob) ((fr3 2).cap) 111 5 []), (6, .osl ((fr4 2).ob) ((fr4 2).cap) 60 4 [[.string (ByteArray.mk #[97]), .int .i64 1, .int .i64 1, .int .u32 2839306131]])]) rfl (congrArg (fun rr : List (List Value) => ([(2, .cells ((fr1 0).x) 37 [.int .i64 0, .int .i64 2, .int .i64 2, .slice ((fr2 2).ob) 0 ((fr2 2).cap), .slice ((fr3 2).ob) 0 ((fr3 2).cap), .slice ((fr4 2).ob) 1 ((fr4 2).cap)]), (3, .cells ((fr1 1).x) 37 [.int .i64 0, .int .i64 0, .int .i64 0, .slice none 0 0, .slice none 0 0, .slice none 0 0]), (4, .osl ((fr2 2).ob) ((fr2 2).cap) 40 7 []), (5, .osl ((fr3 2).ob) ((fr3 2).cap) 111 5 []), (6, .osl ((fr4 2).ob) ((fr4 2).cap) 60 4 rr)] : List (Nat × Ent))) (show ([[.string (ByteArray.mk #[97]), .int .i64 1, .int .i64 1, .int .u32 2839306131]] : List (List Value)) = ([[.string (ByteArray.mk #[97]), .int .i64 1, .int .i64 1, .int .u32 2839306131]] : List (List Value)) from rfl)) ?_
  refine GS.seq ?_
  refine GS.region (env' := fun _ => [(2, .pointer (some ⟨(fr1 1).x, 0, none⟩))]) (mem' := fun _ => [(3, .cells ((fr1 1).x) 37 [.int .i64 0, .int .i64 2, .int .i64 2, .slice ((fr2 2).ob) 0 ((fr2 2).cap), .slice ((fr3 2).ob) 0 ((fr3 2).cap), .slice ((fr4 2).ob) 1 ((fr4 2).cap)]), (4, .osl ((fr2 2).ob) ((fr2 2).cap) 40 7 []), (5, .osl ((fr3 2).ob) ((fr3 2).cap) 111 5 []), (6, .osl ((fr4 2).ob) ((fr4 2).cap) 60 4 [[.string (ByteArray.mk #[97]), .int .i64 1, .int .i64 1, .int .u32 2839306131]])]) (RunsTo.mk [(0, { act := .load 2 0 0 [] }), (1, { act := .store 0 0 [], key := some 3 })] [2] [3, 4, 5, 6] (fun _ => [(fr1 0).x = (fr1 0).x, (fr1 1).x = (fr1 1).x, ((.agg #[.int .i64 0, .int .i64 2, .int .i64 2, .slice ((fr2 2).ob) 0 ((fr2 2).cap), .slice ((fr3 2).ob) 0 ((fr3 2).cap), .slice ((fr4 2).ob) 1 ((fr4 2).cap)]) : Value).cells.toList.all Value.oneCell' = true]) (fun _ => by kernel_rfl) (fun _ => ⟨rfl, rfl, rfl, trivial⟩)) ?_
  intro _
  have hy := Option.some.inj hm
  subst hy
  refine GS.ret (fn := Tryz.f34) [3] [.agg #[.int .i64 0, .int .i64 2, .int .i64 2, .slice ((fr2 2).ob) 0 ((fr2 2).cap), .slice ((fr3 2).ob) 0 ((fr3 2).cap), .slice ((fr4 2).ob) 1 ((fr4 2).cap)]] [(fr1 1).x = (fr1 1).x] rfl Tryz.func34 (by kernel_rfl) ⟨rfl, trivial⟩ (fun w' hs => ?_)
  exact ⟨⟨(fr2 2).ob, (fr2 2).cap, (fr3 2).ob, (fr3 2).cap, (fr4 2).ob, (fr4 2).cap⟩, rfl, hs.turnedG (ks := [4, 5, 6]) rfl rfl⟩

theorem w_slices_Clone___api_Item_api_Item_ (F : Nat) (a0_o : Option Addr) (a0_c : Nat) {y : Unit} (hm : m_slices_Clone___api_Item_api_Item_ F = some y) : CallG Tryz.prog 35 #[.slice a0_o 1 a0_c] (X := Option Addr × Nat) (fun ⟨x0, x1⟩ => .slice x0 1 x1) [] [.rd a0_o 4 [[.string (ByteArray.mk #[97]), .int .i64 1, .int .i64 1, .int .u32 2839306131]]] (fun ⟨x0, x1⟩ => [.osl x0 x1 60 4 [[.string (ByteArray.mk #[97]), .int .i64 1, .int .i64 1, .int .u32 2839306131]]]) := by
  intro w hg
  rw [m_slices_Clone___api_Item_api_Item_] at hm
  refine GS.start (S := mayT [] [.rd a0_o 4 [[.string (ByteArray.mk #[97]), .int .i64 1, .int .i64 1, .int .u32 2839306131]]]) (mem := [(1, .rd a0_o 4 [[.string (ByteArray.mk #[97]), .int .i64 1, .int .i64 1, .int .u32 2839306131]])]) Tryz.func35 rfl Tryz.ntmps35 (Nat.le_of_ble_eq_true rfl) (hg.start rfl) ?_
  refine GS.conv (env' := [(0, .slice a0_o 1 a0_c)]) rfl rfl ?_
  refine GS.seq ?_
  refine GS.region (env' := fun _ => [(0, .slice a0_o 1 a0_c)]) (mem' := fun _ => [(1, .rd a0_o 4 [[.string (ByteArray.mk #[97]), .int .i64 1, .int .i64 1, .int .u32 2839306131]])]) (RunsTo.mk [] [0] [1] (fun _ => []) (fun _ => by kernel_rfl) (fun _ => trivial)) ?_
  intro _
  refine GS.seq ?_
  refine GS.seq ?_
  refine GS.know (p := a0_o.isNone = false) (fun w hw => ne_rd (hw.ok 1 _ rfl)) (fun k2 => ?_)
  refine GS.region (env' := fun _ => [(0, .slice a0_o 1 a0_c), (4, .bool false)]) (mem' := fun _ => [(1, .rd a0_o 4 [[.string (ByteArray.mk #[97]), .int .i64 1, .int .i64 1, .int .u32 2839306131]])]) (RunsTo.mk [(1, { act := .nilq, sp := some (.bool false) })] [0, 4] [1] (fun _ => [((.bool a0_o.isNone : Value)) = .bool false]) (fun _ => by kernel_rfl) (fun _ => ⟨(bool_eq k2), trivial⟩)) ?_
  intro _
  refine GS.cond (t := false) rfl rfl (fun hf => by cases hf) (fun _ => ?_)
  refine GS.skip ?_
  refine GS.seq ?_
  refine GS.region (env' := fun fr4 => [(2, .slice ((fr4 2).ob) 1 ((fr4 2).cap))]) (mem' := fun fr4 => [(2, .osl ((fr4 2).ob) ((fr4 2).cap) 60 4 (([] : List (List Value)) ++ ([[.string (ByteArray.mk #[97]), .int .i64 1, .int .i64 1, .int .u32 2839306131]] : List (List Value))))]) (RunsTo.mk [(0, { act := .new (.row 0 4), key := some 2 }), (2, { act := .app (some 1), key := some 2, spf := some (fun f => .slice (f.ob) 1 (f.cap)) })] [2] [2] (fun fr4 => [a0_o = a0_o, 1 = ([[.string (ByteArray.mk #[97]), .int .i64 1, .int .i64 1, .int .u32 2839306131]] : List (List Value)).length, (some (Addr.mk (fr4 0).x 0 none)) = (some (Addr.mk (fr4 0).x 0 none)), 0 = 0, 0 = ([] : List (List Value)).length, (([] : List (List Value)).length + ([[.string (ByteArray.mk #[97]), .int .i64 1, .int .i64 1, .int .u32 2839306131]] : List (List Value)).length) * (40 + 1) ≤ 70368744177664, ([[.string (ByteArray.mk #[97]), .int .i64 1, .int .i64 1, .int .u32 2839306131]] : List (List Value)).flatten.all Value.oneCell' = true, ((.slice ((fr4 2).ob) (0 + ([[.string (ByteArray.mk #[97]), .int .i64 1, .int .i64 1, .int .u32 2839306131]] : List (List Value)).length) ((fr4 2).cap)) : Value) = .slice ((fr4 2).ob) 1 ((fr4 2).cap)]) (fun fr4 => by kernel_rfl) (fun fr4 => ⟨rfl, rfl, rfl, rfl, rfl, (show (0 + 1) * (40 + 1) ≤ 70368744177664 by decide), rfl, rfl, trivial⟩)) ?_
  intro fr4
  refine GS.conv (mem' := [(2, .osl ((fr4 2).ob) ((fr4 2).cap) 60 4 [[.string (ByteArray.mk #[97]), .int .i64 1, .int .i64 1, .int .u32 2839306131]])]) rfl (congrArg (fun rr : List (List Value) => ([(2, .osl ((fr4 2).ob) ((fr4 2).cap) 60 4 rr)] : List (Nat × Ent))) (show ([] : List (List Value)) ++ ([[.string (ByteArray.mk #[97]), .int .i64 1, .int .i64 1, .int .u32 2839306131]] : List (List Value)) = ([[.string (ByteArray.mk #[97]), .int .i64 1, .int .i64 1, .int .u32 2839306131]] : List (List Value)) from rfl)) ?_
  have hy := Option.some.inj hm
  subst hy
  refine GS.ret (fn := Tryz.f35) [0] [.slice ((fr4 2).ob) 1 ((fr4 2).cap)] [] rfl Tryz.func35 (by kernel_rfl) trivial (fun w' hs => ?_)
  exact ⟨⟨(fr4 2).ob, (fr4 2).cap⟩, rfl, hs.turnedG (ks := [2]) rfl rfl⟩

end Go.Proofs.YtmhejmkelhflmaaGreat
