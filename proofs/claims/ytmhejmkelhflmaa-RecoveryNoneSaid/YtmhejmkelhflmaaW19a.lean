/-
  CHAPTER 19: the functions do what their models say (1).
-/
import Derived.Test.YtmhejmkelhflmaaE19
set_option linter.unusedVariables false
set_option linter.unusedSimpArgs false
set_option maxRecDepth 100000
set_option maxHeartbeats 8000000
namespace Go.Proofs.Ytmhejmkelhflmaa
open Go Go.RowKit Sx

theorem w___recovery_Puller__is (F : Nat) {y : Unit} (hm : m___recovery_Puller__is F = some y) : CallG Try.prog 16 #[.pointer none] (X := Unit) (fun (_ : Unit) => .bool false) [] [] (fun (_ : Unit) => []) := by
  intro w hg
  rw [m___recovery_Puller__is] at hm
  refine GS.start (S := mayT [] []) (mem := []) Try.func16 rfl Try.ntmps16 (Nat.le_of_ble_eq_true rfl) (hg.start rfl) ?_
  refine GS.conv (env' := [(0, .pointer none)]) rfl rfl ?_
  refine GS.seq ?_
  refine GS.region (env' := fun _ => [(0, .pointer none)]) (mem' := fun _ => []) (RunsTo.mk [] [0] [] (fun _ => []) (fun _ => by kernel_rfl) (fun _ => trivial)) ?_
  intro _
  refine GS.seq ?_
  refine GS.region (env' := fun _ => [(2, .bool false)]) (mem' := fun _ => []) (RunsTo.mk [] [2] [] (fun _ => []) (fun _ => by kernel_rfl) (fun _ => trivial)) ?_
  intro _
  have hy := Option.some.inj hm
  subst hy
  refine GS.ret (fn := Try.f16) [0] [.bool false] [] rfl Try.func16 (by kernel_rfl) trivial (fun w' hs => ?_)
  exact ⟨(), rfl, hs.turnedG (ks := []) rfl rfl⟩

theorem w___recovery_Puller__Left (F : Nat) {y : Int} (hm : m___recovery_Puller__Left F = some y) : CallG Try.prog 6 #[.pointer none] (X := Unit) (fun (_ : Unit) => .int .i64 y) [] [] (fun (_ : Unit) => []) := by
  intro w hg
  rw [m___recovery_Puller__Left] at hm
  refine GS.start (S := mayT [] []) (mem := []) Try.func6 rfl Try.ntmps6 (Nat.le_of_ble_eq_true rfl) (hg.start rfl) ?_
  refine GS.conv (env' := [(0, .pointer none)]) rfl rfl ?_
  refine GS.seq ?_
  refine GS.region (env' := fun _ => [(0, .pointer none)]) (mem' := fun _ => []) (RunsTo.mk [] [0] [] (fun _ => []) (fun _ => by kernel_rfl) (fun _ => trivial)) ?_
  intro _
  refine GS.seq ?_
  refine GS.seq ?_
  refine bnd_elim hm (fun y3 e4 hm => ?_)
  refine GS.region (env' := fun _ => [(0, .pointer none), (5, .bool true)]) (mem' := fun _ => []) (RunsTo.mk [(1, { act := .call [] (.bool false) })] [0, 5] [] (fun _ => [CallOK Try.prog 16 #[.pointer none] (.bool false) []]) (fun _ => by kernel_rfl) (fun _ => ⟨(by have h1 := w___recovery_Puller__is F  e4; exact h1.ok trivial), trivial⟩)) ?_
  intro _
  refine GS.cond (t := true) rfl rfl (fun _ => ?_) (fun hf => by cases hf)
  refine GS.seq ?_
  refine GS.region (env' := fun _ => [(2, .int .i64 0)]) (mem' := fun _ => []) (RunsTo.mk [] [2] [] (fun _ => []) (fun _ => by kernel_rfl) (fun _ => trivial)) ?_
  intro _
  have hy := Option.some.inj hm
  subst hy
  refine GS.ret (fn := Try.f6) [0] [.int .i64 0] [] rfl Try.func6 (by kernel_rfl) trivial (fun w' hs => ?_)
  exact ⟨(), rfl, hs.turnedG (ks := []) rfl rfl⟩

theorem w___recovery_Puller__Next (F : Nat) {y : Int × S_api_Node × S_api_Node × Int × Int × S_api_Pg × Int × Int × Int × S_api_Info × Int × S_api_Version × S_api_Entry × ByteArray × S_api_Version × Int × ByteArray × S_api_Version × Int} (hm : m___recovery_Puller__Next F = some y) : CallG Try.prog 4 #[.pointer none] (X := Unit) (fun (_ : Unit) => .tuple #[.agg #[.int .i64 y.1, .int .i64 y.2.1.Kind, .int .i64 y.2.1.Id, .int .i64 y.2.2.1.Kind, .int .i64 y.2.2.1.Id, .int .i64 y.2.2.2.1, .int .i64 y.2.2.2.2.1, .int .i64 y.2.2.2.2.2.1.Pool, .int .i64 y.2.2.2.2.2.1.Seed, .int .i64 y.2.2.2.2.2.2.1, .int .i64 y.2.2.2.2.2.2.2.1, .int .i64 y.2.2.2.2.2.2.2.2.1, .slice none 0 0, .slice none 0 0, .slice none 0 0, .int .i64 y.2.2.2.2.2.2.2.2.2.1.Les, .int .i64 y.2.2.2.2.2.2.2.2.2.1.Head.Epoch, .int .i64 y.2.2.2.2.2.2.2.2.2.1.Head.N, .int .i64 y.2.2.2.2.2.2.2.2.2.1.Tail.Epoch, .int .i64 y.2.2.2.2.2.2.2.2.2.1.Tail.N, .int .i64 y.2.2.2.2.2.2.2.2.2.1.Born, .int .i64 y.2.2.2.2.2.2.2.2.2.2.1, .int .i64 y.2.2.2.2.2.2.2.2.2.2.2.1.Epoch, .int .i64 y.2.2.2.2.2.2.2.2.2.2.2.1.N, .slice none 0 0, .slice none 0 0, .slice none 0 0, .int .i64 y.2.2.2.2.2.2.2.2.2.2.2.2.1.Version.Epoch, .int .i64 y.2.2.2.2.2.2.2.2.2.2.2.2.1.Version.N, .bool y.2.2.2.2.2.2.2.2.2.2.2.2.1.Remove, .int .i64 y.2.2.2.2.2.2.2.2.2.2.2.2.1.Errno, .string y.2.2.2.2.2.2.2.2.2.2.2.2.1.Name, .int .i64 y.2.2.2.2.2.2.2.2.2.2.2.2.1.Client, .int .i64 y.2.2.2.2.2.2.2.2.2.2.2.2.1.Number, .string y.2.2.2.2.2.2.2.2.2.2.2.2.2.1, .int .i64 y.2.2.2.2.2.2.2.2.2.2.2.2.2.2.1.Epoch, .int .i64 y.2.2.2.2.2.2.2.2.2.2.2.2.2.2.1.N, .slice none 0 0, .int .i64 y.2.2.2.2.2.2.2.2.2.2.2.2.2.2.2.1, .string y.2.2.2.2.2.2.2.2.2.2.2.2.2.2.2.2.1, .slice none 0 0, .int .i64 y.2.2.2.2.2.2.2.2.2.2.2.2.2.2.2.2.2.1.Epoch, .int .i64 y.2.2.2.2.2.2.2.2.2.2.2.2.2.2.2.2.2.1.N, .slice none 0 0, .slice none 0 0, .int .i64 y.2.2.2.2.2.2.2.2.2.2.2.2.2.2.2.2.2.2], .bool false]) [] [] (fun (_ : Unit) => []) := by
  intro w hg
  rw [m___recovery_Puller__Next] at hm
  refine GS.start (S := mayT [] []) (mem := []) Try.func4 rfl Try.ntmps4 (Nat.le_of_ble_eq_true rfl) (hg.start rfl) ?_
  refine GS.conv (env' := [(0, .pointer none)]) rfl rfl ?_
  refine GS.seq ?_
  refine GS.region (env' := fun fr1 => [(0, .pointer none), (2, .pointer (some ⟨(fr1 0).x, 0, none⟩))]) (mem' := fun fr1 => [(1, .cells ((fr1 0).x) 48 [.int .i64 0, .int .i64 0, .int .i64 0, .int .i64 0, .int .i64 0, .int .i64 0, .int .i64 0, .int .i64 0, .int .i64 0, .int .i64 0, .int .i64 0, .int .i64 0, .slice none 0 0, .slice none 0 0, .slice none 0 0, .int .i64 0, .int .i64 0, .int .i64 0, .int .i64 0, .int .i64 0, .int .i64 0, .int .i64 0, .int .i64 0, .int .i64 0, .slice none 0 0, .slice none 0 0, .slice none 0 0, .int .i64 0, .int .i64 0, .bool false, .int .i64 0, .string (ByteArray.mk #[]), .int .i64 0, .int .i64 0, .string (ByteArray.mk #[]), .int .i64 0, .int .i64 0, .slice none 0 0, .int .i64 0, .string (ByteArray.mk #[]), .slice none 0 0, .int .i64 0, .int .i64 0, .slice none 0 0, .slice none 0 0, .int .i64 0])]) (RunsTo.mk [(0, { act := .new .var, key := some 1 })] [0, 2] [1] (fun fr1 => []) (fun fr1 => by kernel_rfl) (fun fr1 => trivial)) ?_
  intro fr1
  refine GS.seq ?_
  refine GS.seq ?_
  refine bnd_elim hm (fun y3 e4 hm => ?_)
  refine GS.region (env' := fun _ => [(0, .pointer none), (2, .pointer (some ⟨(fr1 0).x, 0, none⟩)), (7, .bool (y3 == 0))]) (mem' := fun _ => [(1, .cells ((fr1 0).x) 48 [.int .i64 0, .int .i64 0, .int .i64 0, .int .i64 0, .int .i64 0, .int .i64 0, .int .i64 0, .int .i64 0, .int .i64 0, .int .i64 0, .int .i64 0, .int .i64 0, .slice none 0 0, .slice none 0 0, .slice none 0 0, .int .i64 0, .int .i64 0, .int .i64 0, .int .i64 0, .int .i64 0, .int .i64 0, .int .i64 0, .int .i64 0, .int .i64 0, .slice none 0 0, .slice none 0 0, .slice none 0 0, .int .i64 0, .int .i64 0, .bool false, .int .i64 0, .string (ByteArray.mk #[]), .int .i64 0, .int .i64 0, .string (ByteArray.mk #[]), .int .i64 0, .int .i64 0, .slice none 0 0, .int .i64 0, .string (ByteArray.mk #[]), .slice none 0 0, .int .i64 0, .int .i64 0, .slice none 0 0, .slice none 0 0, .int .i64 0])]) (RunsTo.mk [(1, { act := .call [] (.int .i64 y3) })] [0, 2, 7] [1] (fun _ => [CallOK Try.prog 6 #[.pointer none] (.int .i64 y3) []]) (fun _ => by kernel_rfl) (fun _ => ⟨(by have h1 := w___recovery_Puller__Left F  e4; exact h1.ok trivial), trivial⟩)) ?_
  intro _
  refine GS.cond (t := y3 == 0) rfl rfl (fun h5 => ?_) (fun h5 => ?_)
  · replace hm := br_t h5 hm
    refine GS.seq ?_
    refine GS.region (env' := fun _ => [(2, .pointer (some ⟨(fr1 0).x, 0, none⟩)), (3, .bool false)]) (mem' := fun _ => [(1, .cells ((fr1 0).x) 48 [.int .i64 0, .int .i64 0, .int .i64 0, .int .i64 0, .int .i64 0, .int .i64 0, .int .i64 0, .int .i64 0, .int .i64 0, .int .i64 0, .int .i64 0, .int .i64 0, .slice none 0 0, .slice none 0 0, .slice none 0 0, .int .i64 0, .int .i64 0, .int .i64 0, .int .i64 0, .int .i64 0, .int .i64 0, .int .i64 0, .int .i64 0, .int .i64 0, .slice none 0 0, .slice none 0 0, .slice none 0 0, .int .i64 0, .int .i64 0, .bool false, .int .i64 0, .string (ByteArray.mk #[]), .int .i64 0, .int .i64 0, .string (ByteArray.mk #[]), .int .i64 0, .int .i64 0, .slice none 0 0, .int .i64 0, .string (ByteArray.mk #[]), .slice none 0 0, .int .i64 0, .int .i64 0, .slice none 0 0, .slice none 0 0, .int .i64 0])]) (RunsTo.mk [(1, { act := .store 0 0 [], key := some 1 })] [2, 3] [1] (fun _ => [(fr1 0).x = (fr1 0).x, ((.agg #[.int .i64 0, .int .i64 0, .int .i64 0, .int .i64 0, .int .i64 0, .int .i64 0, .int .i64 0, .int .i64 0, .int .i64 0, .int .i64 0, .int .i64 0, .int .i64 0, .slice none 0 0, .slice none 0 0, .slice none 0 0, .int .i64 0, .int .i64 0, .int .i64 0, .int .i64 0, .int .i64 0, .int .i64 0, .int .i64 0, .int .i64 0, .int .i64 0, .slice none 0 0, .slice none 0 0, .slice none 0 0, .int .i64 0, .int .i64 0, .bool false, .int .i64 0, .string (ByteArray.mk #[]), .int .i64 0, .int .i64 0, .string (ByteArray.mk #[]), .int .i64 0, .int .i64 0, .slice none 0 0, .int .i64 0, .string (ByteArray.mk #[]), .slice none 0 0, .int .i64 0, .int .i64 0, .slice none 0 0, .slice none 0 0, .int .i64 0]) : Value).cells.toList.all Value.oneCell' = true]) (fun _ => by kernel_rfl) (fun _ => ⟨rfl, rfl, trivial⟩)) ?_
    intro _
    have hy := Option.some.inj hm
    subst hy
    refine GS.ret (fn := Try.f4) [1, 0] [.agg #[.int .i64 0, .int .i64 0, .int .i64 0, .int .i64 0, .int .i64 0, .int .i64 0, .int .i64 0, .int .i64 0, .int .i64 0, .int .i64 0, .int .i64 0, .int .i64 0, .slice none 0 0, .slice none 0 0, .slice none 0 0, .int .i64 0, .int .i64 0, .int .i64 0, .int .i64 0, .int .i64 0, .int .i64 0, .int .i64 0, .int .i64 0, .int .i64 0, .slice none 0 0, .slice none 0 0, .slice none 0 0, .int .i64 0, .int .i64 0, .bool false, .int .i64 0, .string (ByteArray.mk #[]), .int .i64 0, .int .i64 0, .string (ByteArray.mk #[]), .int .i64 0, .int .i64 0, .slice none 0 0, .int .i64 0, .string (ByteArray.mk #[]), .slice none 0 0, .int .i64 0, .int .i64 0, .slice none 0 0, .slice none 0 0, .int .i64 0], .bool false] [(fr1 0).x = (fr1 0).x] rfl Try.func4 (by kernel_rfl) ⟨rfl, trivial⟩ (fun w' hs => ?_)
    exact ⟨(), rfl, hs.turnedG (ks := []) rfl rfl⟩
  · replace hm := br_f h5 hm
    refine GS.skip ?_
    cases hm

theorem w___recovery_Puller__Take (F : Nat) (a1_Kind : Int) (a1_From : S_api_Node) (a1_To : S_api_Node) (a1_Boot : Int) (a1_Epoch : Int) (a1_Pg : S_api_Pg) (a1_Client : Int) (a1_Number : Int) (a1_Ballot : Int) (a1_Slots_o : Option Addr) (a1_Slots_n : Nat) (a1_Slots_c : Nat) (a1_Incs_o : Option Addr) (a1_Incs_n : Nat) (a1_Incs_c : Nat) (a1_Changes_o : Option Addr) (a1_Changes_n : Nat) (a1_Changes_c : Nat) (a1_Info : S_api_Info) (a1_State_Les : Int) (a1_State_Tail : S_api_Version) (a1_State_Log_o : Option Addr) (a1_State_Log_c : Nat) (a1_State_Log : List S_api_Entry) (a1_State_Lasts_o : Option Addr) (a1_State_Lasts_c : Nat) (a1_State_Lasts : List S_api_Last) (a1_State_Items_o : Option Addr) (a1_State_Items_c : Nat) (a1_State_Items : List S_api_Item) (a1_Entry : S_api_Entry) (a1_Object_Name : ByteArray) (a1_Object_Version : S_api_Version) (a1_Object_Data_o : Option Addr) (a1_Object_Data_c : Nat) (a1_Object_Data : List UInt8) (a1_Op_Kind : Int) (a1_Op_Name : ByteArray) (a1_Op_Data_o : Option Addr) (a1_Op_Data_c : Nat) (a1_Op_Data : List UInt8) (a1_Op_Expect : S_api_Version) (a1_Items_o : Option Addr) (a1_Items_c : Nat) (a1_Items : List S_api_Item) (a1_Names_o : Option Addr) (a1_Names_c : Nat) (a1_Names : List ByteArray) (a1_Errno : Int) {y : Unit} (hm : m___recovery_Puller__Take F a1_Kind a1_From a1_To a1_Boot a1_Epoch a1_Pg a1_Client a1_Number a1_Ballot a1_Slots_n a1_Incs_n a1_Changes_n a1_Info a1_State_Les a1_State_Tail a1_State_Log a1_State_Lasts a1_State_Items a1_Entry a1_Object_Name a1_Object_Version a1_Object_Data a1_Op_Kind a1_Op_Name a1_Op_Data a1_Op_Expect a1_Items a1_Names a1_Errno = some y) : CallG Try.prog 5 #[.pointer none, .agg #[.int .i64 a1_Kind, .int .i64 a1_From.Kind, .int .i64 a1_From.Id, .int .i64 a1_To.Kind, .int .i64 a1_To.Id, .int .i64 a1_Boot, .int .i64 a1_Epoch, .int .i64 a1_Pg.Pool, .int .i64 a1_Pg.Seed, .int .i64 a1_Client, .int .i64 a1_Number, .int .i64 a1_Ballot, .slice a1_Slots_o a1_Slots_n a1_Slots_c, .slice a1_Incs_o a1_Incs_n a1_Incs_c, .slice a1_Changes_o a1_Changes_n a1_Changes_c, .int .i64 a1_Info.Les, .int .i64 a1_Info.Head.Epoch, .int .i64 a1_Info.Head.N, .int .i64 a1_Info.Tail.Epoch, .int .i64 a1_Info.Tail.N, .int .i64 a1_Info.Born, .int .i64 a1_State_Les, .int .i64 a1_State_Tail.Epoch, .int .i64 a1_State_Tail.N, .slice a1_State_Log_o a1_State_Log.length a1_State_Log_c, .slice a1_State_Lasts_o a1_State_Lasts.length a1_State_Lasts_c, .slice a1_State_Items_o a1_State_Items.length a1_State_Items_c, .int .i64 a1_Entry.Version.Epoch, .int .i64 a1_Entry.Version.N, .bool a1_Entry.Remove, .int .i64 a1_Entry.Errno, .string a1_Entry.Name, .int .i64 a1_Entry.Client, .int .i64 a1_Entry.Number, .string a1_Object_Name, .int .i64 a1_Object_Version.Epoch, .int .i64 a1_Object_Version.N, .slice a1_Object_Data_o a1_Object_Data.length a1_Object_Data_c, .int .i64 a1_Op_Kind, .string a1_Op_Name, .slice a1_Op_Data_o a1_Op_Data.length a1_Op_Data_c, .int .i64 a1_Op_Expect.Epoch, .int .i64 a1_Op_Expect.N, .slice a1_Items_o a1_Items.length a1_Items_c, .slice a1_Names_o a1_Names.length a1_Names_c, .int .i64 a1_Errno]] (X := Unit) (fun (_ : Unit) => .bool false) [] [r40 a1_State_Log_o a1_State_Log, r185 a1_State_Lasts_o a1_State_Lasts, r65 a1_State_Items_o a1_State_Items, r5 a1_Object_Data_o a1_Object_Data, r5 a1_Op_Data_o a1_Op_Data, r65 a1_Items_o a1_Items, r9 a1_Names_o a1_Names] (fun (_ : Unit) => []) := by
  intro w hg
  rw [m___recovery_Puller__Take] at hm
  refine GS.start (S := mayT [] [r40 a1_State_Log_o a1_State_Log, r185 a1_State_Lasts_o a1_State_Lasts, r65 a1_State_Items_o a1_State_Items, r5 a1_Object_Data_o a1_Object_Data, r5 a1_Op_Data_o a1_Op_Data, r65 a1_Items_o a1_Items, r9 a1_Names_o a1_Names]) (mem := [(1, r40 a1_State_Log_o a1_State_Log), (2, r185 a1_State_Lasts_o a1_State_Lasts), (3, r65 a1_State_Items_o a1_State_Items), (4, r5 a1_Object_Data_o a1_Object_Data), (5, r5 a1_Op_Data_o a1_Op_Data), (6, r65 a1_Items_o a1_Items), (7, r9 a1_Names_o a1_Names)]) Try.func5 rfl Try.ntmps5 (Nat.le_of_ble_eq_true rfl) (hg.start rfl) ?_
  refine GS.conv (env' := [(0, .pointer none), (1, .agg #[.int .i64 a1_Kind, .int .i64 a1_From.Kind, .int .i64 a1_From.Id, .int .i64 a1_To.Kind, .int .i64 a1_To.Id, .int .i64 a1_Boot, .int .i64 a1_Epoch, .int .i64 a1_Pg.Pool, .int .i64 a1_Pg.Seed, .int .i64 a1_Client, .int .i64 a1_Number, .int .i64 a1_Ballot, .slice a1_Slots_o a1_Slots_n a1_Slots_c, .slice a1_Incs_o a1_Incs_n a1_Incs_c, .slice a1_Changes_o a1_Changes_n a1_Changes_c, .int .i64 a1_Info.Les, .int .i64 a1_Info.Head.Epoch, .int .i64 a1_Info.Head.N, .int .i64 a1_Info.Tail.Epoch, .int .i64 a1_Info.Tail.N, .int .i64 a1_Info.Born, .int .i64 a1_State_Les, .int .i64 a1_State_Tail.Epoch, .int .i64 a1_State_Tail.N, .slice a1_State_Log_o a1_State_Log.length a1_State_Log_c, .slice a1_State_Lasts_o a1_State_Lasts.length a1_State_Lasts_c, .slice a1_State_Items_o a1_State_Items.length a1_State_Items_c, .int .i64 a1_Entry.Version.Epoch, .int .i64 a1_Entry.Version.N, .bool a1_Entry.Remove, .int .i64 a1_Entry.Errno, .string a1_Entry.Name, .int .i64 a1_Entry.Client, .int .i64 a1_Entry.Number, .string a1_Object_Name, .int .i64 a1_Object_Version.Epoch, .int .i64 a1_Object_Version.N, .slice a1_Object_Data_o a1_Object_Data.length a1_Object_Data_c, .int .i64 a1_Op_Kind, .string a1_Op_Name, .slice a1_Op_Data_o a1_Op_Data.length a1_Op_Data_c, .int .i64 a1_Op_Expect.Epoch, .int .i64 a1_Op_Expect.N, .slice a1_Items_o a1_Items.length a1_Items_c, .slice a1_Names_o a1_Names.length a1_Names_c, .int .i64 a1_Errno])]) rfl rfl ?_
  refine GS.seq ?_
  refine GS.region (env' := fun fr1 => [(0, .pointer none), (3, .pointer (some ⟨(fr1 0).x, 0, none⟩))]) (mem' := fun fr1 => [(1, r40 a1_State_Log_o a1_State_Log), (2, r185 a1_State_Lasts_o a1_State_Lasts), (3, r65 a1_State_Items_o a1_State_Items), (4, r5 a1_Object_Data_o a1_Object_Data), (5, r5 a1_Op_Data_o a1_Op_Data), (6, r65 a1_Items_o a1_Items), (7, r9 a1_Names_o a1_Names), (8, .cells ((fr1 0).x) 48 [.int .i64 a1_Kind, .int .i64 a1_From.Kind, .int .i64 a1_From.Id, .int .i64 a1_To.Kind, .int .i64 a1_To.Id, .int .i64 a1_Boot, .int .i64 a1_Epoch, .int .i64 a1_Pg.Pool, .int .i64 a1_Pg.Seed, .int .i64 a1_Client, .int .i64 a1_Number, .int .i64 a1_Ballot, .slice a1_Slots_o a1_Slots_n a1_Slots_c, .slice a1_Incs_o a1_Incs_n a1_Incs_c, .slice a1_Changes_o a1_Changes_n a1_Changes_c, .int .i64 a1_Info.Les, .int .i64 a1_Info.Head.Epoch, .int .i64 a1_Info.Head.N, .int .i64 a1_Info.Tail.Epoch, .int .i64 a1_Info.Tail.N, .int .i64 a1_Info.Born, .int .i64 a1_State_Les, .int .i64 a1_State_Tail.Epoch, .int .i64 a1_State_Tail.N, .slice a1_State_Log_o a1_State_Log.length a1_State_Log_c, .slice a1_State_Lasts_o a1_State_Lasts.length a1_State_Lasts_c, .slice a1_State_Items_o a1_State_Items.length a1_State_Items_c, .int .i64 a1_Entry.Version.Epoch, .int .i64 a1_Entry.Version.N, .bool a1_Entry.Remove, .int .i64 a1_Entry.Errno, .string a1_Entry.Name, .int .i64 a1_Entry.Client, .int .i64 a1_Entry.Number, .string a1_Object_Name, .int .i64 a1_Object_Version.Epoch, .int .i64 a1_Object_Version.N, .slice a1_Object_Data_o a1_Object_Data.length a1_Object_Data_c, .int .i64 a1_Op_Kind, .string a1_Op_Name, .slice a1_Op_Data_o a1_Op_Data.length a1_Op_Data_c, .int .i64 a1_Op_Expect.Epoch, .int .i64 a1_Op_Expect.N, .slice a1_Items_o a1_Items.length a1_Items_c, .slice a1_Names_o a1_Names.length a1_Names_c, .int .i64 a1_Errno])]) (RunsTo.mk [(0, { act := .new .var, key := some 8 })] [0, 3] [1, 2, 3, 4, 5, 6, 7, 8] (fun fr1 => []) (fun fr1 => by kernel_rfl) (fun fr1 => trivial)) ?_
  intro fr1
  refine GS.seq ?_
  refine GS.seq ?_
  refine bnd_elim hm (fun y3 e4 hm => ?_)
  refine GS.region (env' := fun _ => [(0, .pointer none), (3, .pointer (some ⟨(fr1 0).x, 0, none⟩)), (9, .bool (y3 == 0))]) (mem' := fun _ => [(1, r40 a1_State_Log_o a1_State_Log), (2, r185 a1_State_Lasts_o a1_State_Lasts), (3, r65 a1_State_Items_o a1_State_Items), (4, r5 a1_Object_Data_o a1_Object_Data), (5, r5 a1_Op_Data_o a1_Op_Data), (6, r65 a1_Items_o a1_Items), (7, r9 a1_Names_o a1_Names), (8, .cells ((fr1 0).x) 48 [.int .i64 a1_Kind, .int .i64 a1_From.Kind, .int .i64 a1_From.Id, .int .i64 a1_To.Kind, .int .i64 a1_To.Id, .int .i64 a1_Boot, .int .i64 a1_Epoch, .int .i64 a1_Pg.Pool, .int .i64 a1_Pg.Seed, .int .i64 a1_Client, .int .i64 a1_Number, .int .i64 a1_Ballot, .slice a1_Slots_o a1_Slots_n a1_Slots_c, .slice a1_Incs_o a1_Incs_n a1_Incs_c, .slice a1_Changes_o a1_Changes_n a1_Changes_c, .int .i64 a1_Info.Les, .int .i64 a1_Info.Head.Epoch, .int .i64 a1_Info.Head.N, .int .i64 a1_Info.Tail.Epoch, .int .i64 a1_Info.Tail.N, .int .i64 a1_Info.Born, .int .i64 a1_State_Les, .int .i64 a1_State_Tail.Epoch, .int .i64 a1_State_Tail.N, .slice a1_State_Log_o a1_State_Log.length a1_State_Log_c, .slice a1_State_Lasts_o a1_State_Lasts.length a1_State_Lasts_c, .slice a1_State_Items_o a1_State_Items.length a1_State_Items_c, .int .i64 a1_Entry.Version.Epoch, .int .i64 a1_Entry.Version.N, .bool a1_Entry.Remove, .int .i64 a1_Entry.Errno, .string a1_Entry.Name, .int .i64 a1_Entry.Client, .int .i64 a1_Entry.Number, .string a1_Object_Name, .int .i64 a1_Object_Version.Epoch, .int .i64 a1_Object_Version.N, .slice a1_Object_Data_o a1_Object_Data.length a1_Object_Data_c, .int .i64 a1_Op_Kind, .string a1_Op_Name, .slice a1_Op_Data_o a1_Op_Data.length a1_Op_Data_c, .int .i64 a1_Op_Expect.Epoch, .int .i64 a1_Op_Expect.N, .slice a1_Items_o a1_Items.length a1_Items_c, .slice a1_Names_o a1_Names.length a1_Names_c, .int .i64 a1_Errno])]) (RunsTo.mk [(1, { act := .call [] (.int .i64 y3) })] [0, 3, 9] [1, 2, 3, 4, 5, 6, 7, 8] (fun _ => [CallOK Try.prog 6 #[.pointer none] (.int .i64 y3) []]) (fun _ => by kernel_rfl) (fun _ => ⟨(by have h1 := w___recovery_Puller__Left F  e4; exact h1.ok trivial), trivial⟩)) ?_
  intro _
  refine GS.cond (t := y3 == 0) rfl rfl (fun h5 => ?_) (fun h5 => ?_)
  · replace hm := br_t h5 hm
    refine GS.seq ?_
    refine GS.region (env' := fun _ => [(4, .bool false)]) (mem' := fun _ => []) (RunsTo.mk [] [4] [] (fun _ => []) (fun _ => by kernel_rfl) (fun _ => trivial)) ?_
    intro _
    have hy := Option.some.inj hm
    subst hy
    refine GS.ret (fn := Try.f5) [0] [.bool false] [] rfl Try.func5 (by kernel_rfl) trivial (fun w' hs => ?_)
    exact ⟨(), rfl, hs.turnedG (ks := []) rfl rfl⟩
  · replace hm := br_f h5 hm
    refine GS.skip ?_
    cases hm

theorem w___recovery_Puller__Watermark (F : Nat) {y : ByteArray} (hm : m___recovery_Puller__Watermark F = some y) : CallG Try.prog 7 #[.pointer none] (X := Unit) (fun (_ : Unit) => .string y) [] [] (fun (_ : Unit) => []) := by
  intro w hg
  rw [m___recovery_Puller__Watermark] at hm
  refine GS.start (S := mayT [] []) (mem := []) Try.func7 rfl Try.ntmps7 (Nat.le_of_ble_eq_true rfl) (hg.start rfl) ?_
  refine GS.conv (env' := [(0, .pointer none)]) rfl rfl ?_
  refine GS.seq ?_
  refine GS.region (env' := fun _ => [(0, .pointer none)]) (mem' := fun _ => []) (RunsTo.mk [] [0] [] (fun _ => []) (fun _ => by kernel_rfl) (fun _ => trivial)) ?_
  intro _
  refine GS.seq ?_
  refine GS.seq ?_
  refine bnd_elim hm (fun y3 e4 hm => ?_)
  refine GS.region (env' := fun _ => [(0, .pointer none), (5, .bool true)]) (mem' := fun _ => []) (RunsTo.mk [(1, { act := .call [] (.bool false) })] [0, 5] [] (fun _ => [CallOK Try.prog 16 #[.pointer none] (.bool false) []]) (fun _ => by kernel_rfl) (fun _ => ⟨(by have h1 := w___recovery_Puller__is F  e4; exact h1.ok trivial), trivial⟩)) ?_
  intro _
  refine GS.cond (t := true) rfl rfl (fun _ => ?_) (fun hf => by cases hf)
  refine GS.seq ?_
  refine GS.region (env' := fun _ => [(2, .string (ByteArray.mk #[]))]) (mem' := fun _ => []) (RunsTo.mk [] [2] [] (fun _ => []) (fun _ => by kernel_rfl) (fun _ => trivial)) ?_
  intro _
  have hy := Option.some.inj hm
  subst hy
  refine GS.ret (fn := Try.f7) [0] [.string (ByteArray.mk #[])] [] rfl Try.func7 (by kernel_rfl) trivial (fun w' hs => ?_)
  exact ⟨(), rfl, hs.turnedG (ks := []) rfl rfl⟩

theorem w___recovery_Puller__Objects (F : Nat) {y : Unit} (hm : m___recovery_Puller__Objects F = some y) : CallG Try.prog 8 #[.pointer none] (X := Unit) (fun (_ : Unit) => .slice none 0 0) [] [] (fun (_ : Unit) => []) := by
  intro w hg
  rw [m___recovery_Puller__Objects] at hm
  refine GS.start (S := mayT [] []) (mem := []) Try.func8 rfl Try.ntmps8 (Nat.le_of_ble_eq_true rfl) (hg.start rfl) ?_
  refine GS.conv (env' := [(0, .pointer none)]) rfl rfl ?_
  refine GS.seq ?_
  refine GS.region (env' := fun _ => [(0, .pointer none)]) (mem' := fun _ => []) (RunsTo.mk [] [0] [] (fun _ => []) (fun _ => by kernel_rfl) (fun _ => trivial)) ?_
  intro _
  refine GS.seq ?_
  refine GS.seq ?_
  refine bnd_elim hm (fun y3 e4 hm => ?_)
  refine GS.region (env' := fun _ => [(0, .pointer none), (8, .bool true)]) (mem' := fun _ => []) (RunsTo.mk [(1, { act := .call [] (.bool false) })] [0, 8] [] (fun _ => [CallOK Try.prog 16 #[.pointer none] (.bool false) []]) (fun _ => by kernel_rfl) (fun _ => ⟨(by have h1 := w___recovery_Puller__is F  e4; exact h1.ok trivial), trivial⟩)) ?_
  intro _
  refine GS.cond (t := true) rfl rfl (fun _ => ?_) (fun hf => by cases hf)
  refine GS.seq ?_
  refine GS.region (env' := fun _ => [(2, .slice none 0 0)]) (mem' := fun _ => []) (RunsTo.mk [] [2] [] (fun _ => []) (fun _ => by kernel_rfl) (fun _ => trivial)) ?_
  intro _
  have hy := Option.some.inj hm
  subst hy
  refine GS.ret (fn := Try.f8) [0] [.slice none 0 0] [] rfl Try.func8 (by kernel_rfl) trivial (fun w' hs => ?_)
  exact ⟨(), rfl, hs.turnedG (ks := []) rfl rfl⟩

theorem w___recovery_Puller__Drops (F : Nat) {y : Unit} (hm : m___recovery_Puller__Drops F = some y) : CallG Try.prog 9 #[.pointer none] (X := Unit) (fun (_ : Unit) => .slice none 0 0) [] [] (fun (_ : Unit) => []) := by
  intro w hg
  rw [m___recovery_Puller__Drops] at hm
  refine GS.start (S := mayT [] []) (mem := []) Try.func9 rfl Try.ntmps9 (Nat.le_of_ble_eq_true rfl) (hg.start rfl) ?_
  refine GS.conv (env' := [(0, .pointer none)]) rfl rfl ?_
  refine GS.seq ?_
  refine GS.region (env' := fun _ => [(0, .pointer none)]) (mem' := fun _ => []) (RunsTo.mk [] [0] [] (fun _ => []) (fun _ => by kernel_rfl) (fun _ => trivial)) ?_
  intro _
  refine GS.seq ?_
  refine GS.seq ?_
  refine bnd_elim hm (fun y3 e4 hm => ?_)
  refine GS.region (env' := fun _ => [(0, .pointer none), (5, .bool true)]) (mem' := fun _ => []) (RunsTo.mk [(1, { act := .call [] (.bool false) })] [0, 5] [] (fun _ => [CallOK Try.prog 16 #[.pointer none] (.bool false) []]) (fun _ => by kernel_rfl) (fun _ => ⟨(by have h1 := w___recovery_Puller__is F  e4; exact h1.ok trivial), trivial⟩)) ?_
  intro _
  refine GS.cond (t := true) rfl rfl (fun _ => ?_) (fun hf => by cases hf)
  refine GS.seq ?_
  refine GS.region (env' := fun _ => [(2, .slice none 0 0)]) (mem' := fun _ => []) (RunsTo.mk [] [2] [] (fun _ => []) (fun _ => by kernel_rfl) (fun _ => trivial)) ?_
  intro _
  have hy := Option.some.inj hm
  subst hy
  refine GS.ret (fn := Try.f9) [0] [.slice none 0 0] [] rfl Try.func9 (by kernel_rfl) trivial (fun w' hs => ?_)
  exact ⟨(), rfl, hs.turnedG (ks := []) rfl rfl⟩

theorem w___recovery_Puller__State (F : Nat) {y : Int × S_api_Version} (hm : m___recovery_Puller__State F = some y) : CallG Try.prog 10 #[.pointer none] (X := Unit) (fun (_ : Unit) => .agg #[.int .i64 y.1, .int .i64 y.2.Epoch, .int .i64 y.2.N, .slice none 0 0, .slice none 0 0, .slice none 0 0]) [] [] (fun (_ : Unit) => []) := by
  intro w hg
  rw [m___recovery_Puller__State] at hm
  refine GS.start (S := mayT [] []) (mem := []) Try.func10 rfl Try.ntmps10 (Nat.le_of_ble_eq_true rfl) (hg.start rfl) ?_
  refine GS.conv (env' := [(0, .pointer none)]) rfl rfl ?_
  refine GS.seq ?_
  refine GS.region (env' := fun fr1 => [(0, .pointer none), (2, .pointer (some ⟨(fr1 0).x, 0, none⟩))]) (mem' := fun fr1 => [(1, .cells ((fr1 0).x) 37 [.int .i64 0, .int .i64 0, .int .i64 0, .slice none 0 0, .slice none 0 0, .slice none 0 0])]) (RunsTo.mk [(0, { act := .new .var, key := some 1 })] [0, 2] [1] (fun fr1 => []) (fun fr1 => by kernel_rfl) (fun fr1 => trivial)) ?_
  intro fr1
  refine GS.seq ?_
  refine GS.seq ?_
  refine bnd_elim hm (fun y3 e4 hm => ?_)
  refine GS.region (env' := fun _ => [(0, .pointer none), (2, .pointer (some ⟨(fr1 0).x, 0, none⟩)), (5, .bool true)]) (mem' := fun _ => [(1, .cells ((fr1 0).x) 37 [.int .i64 0, .int .i64 0, .int .i64 0, .slice none 0 0, .slice none 0 0, .slice none 0 0])]) (RunsTo.mk [(1, { act := .call [] (.bool false) })] [0, 2, 5] [1] (fun _ => [CallOK Try.prog 16 #[.pointer none] (.bool false) []]) (fun _ => by kernel_rfl) (fun _ => ⟨(by have h1 := w___recovery_Puller__is F  e4; exact h1.ok trivial), trivial⟩)) ?_
  intro _
  refine GS.cond (t := true) rfl rfl (fun _ => ?_) (fun hf => by cases hf)
  refine GS.seq ?_
  refine GS.region (env' := fun _ => [(2, .pointer (some ⟨(fr1 0).x, 0, none⟩))]) (mem' := fun _ => [(1, .cells ((fr1 0).x) 37 [.int .i64 0, .int .i64 0, .int .i64 0, .slice none 0 0, .slice none 0 0, .slice none 0 0])]) (RunsTo.mk [(1, { act := .store 0 0 [], key := some 1 })] [2] [1] (fun _ => [(fr1 0).x = (fr1 0).x, ((.agg #[.int .i64 0, .int .i64 0, .int .i64 0, .slice none 0 0, .slice none 0 0, .slice none 0 0]) : Value).cells.toList.all Value.oneCell' = true]) (fun _ => by kernel_rfl) (fun _ => ⟨rfl, rfl, trivial⟩)) ?_
  intro _
  have hy := Option.some.inj hm
  subst hy
  refine GS.ret (fn := Try.f10) [1] [.agg #[.int .i64 0, .int .i64 0, .int .i64 0, .slice none 0 0, .slice none 0 0, .slice none 0 0]] [(fr1 0).x = (fr1 0).x] rfl Try.func10 (by kernel_rfl) ⟨rfl, trivial⟩ (fun w' hs => ?_)
  exact ⟨(), rfl, hs.turnedG (ks := []) rfl rfl⟩

theorem w___recovery_Puller__Done (F : Nat) {y : Unit} (hm : m___recovery_Puller__Done F = some y) : CallG Try.prog 11 #[.pointer none] (X := Unit) (fun (_ : Unit) => .bool false) [] [] (fun (_ : Unit) => []) := by
  intro w hg
  rw [m___recovery_Puller__Done] at hm
  refine GS.start (S := mayT [] []) (mem := []) Try.func11 rfl Try.ntmps11 (Nat.le_of_ble_eq_true rfl) (hg.start rfl) ?_
  refine GS.conv (env' := [(0, .pointer none)]) rfl rfl ?_
  refine GS.seq ?_
  refine GS.region (env' := fun _ => [(0, .pointer none)]) (mem' := fun _ => []) (RunsTo.mk [] [0] [] (fun _ => []) (fun _ => by kernel_rfl) (fun _ => trivial)) ?_
  intro _
  refine GS.seq ?_
  refine bnd_elim hm (fun y3 e4 hm => ?_)
  refine GS.region (env' := fun _ => [(2, .bool false)]) (mem' := fun _ => []) (RunsTo.mk [(1, { act := .call [] (.bool false) })] [2] [] (fun _ => [CallOK Try.prog 16 #[.pointer none] (.bool false) []]) (fun _ => by kernel_rfl) (fun _ => ⟨(by have h1 := w___recovery_Puller__is F  e4; exact h1.ok trivial), trivial⟩)) ?_
  intro _
  have hy := Option.some.inj hm
  subst hy
  refine GS.ret (fn := Try.f11) [0] [.bool false] [] rfl Try.func11 (by kernel_rfl) trivial (fun w' hs => ?_)
  exact ⟨(), rfl, hs.turnedG (ks := []) rfl rfl⟩

theorem w_tholeref01_Crc (F : Nat) (a0_o : Option Addr) (a0_c : Nat) {y : Unit} (hm : m_tholeref01_Crc F = some y) : CallG Try.prog 19 #[.slice a0_o 1 a0_c] (X := Unit) (fun (_ : Unit) => .int .u32 2839306131) [] [.rd a0_o 1 ([[.int .u8 120]] : List (List Value))] (fun (_ : Unit) => []) := by
  intro w hg
  rw [m_tholeref01_Crc] at hm
  refine GS.start (S := mayT [] [.rd a0_o 1 ([[.int .u8 120]] : List (List Value))]) (mem := [(1, .rd a0_o 1 ([[.int .u8 120]] : List (List Value)))]) Try.func19 rfl Try.ntmps19 (Nat.le_of_ble_eq_true rfl) (hg.start rfl) ?_
  refine GS.conv (env' := [(0, .slice a0_o 1 a0_c)]) rfl rfl ?_
  refine GS.seq ?_
  refine GS.region (env' := fun _ => [(0, .slice a0_o 1 a0_c)]) (mem' := fun _ => [(1, .rd a0_o 1 ([[.int .u8 120]] : List (List Value)))]) (RunsTo.mk [] [0] [1] (fun _ => []) (fun _ => by kernel_rfl) (fun _ => trivial)) ?_
  intro _
  refine GS.seq ?_
  refine GS.region (env' := fun _ => [(0, .slice a0_o 1 a0_c), (3, .int .u32 4294967295)]) (mem' := fun _ => [(1, .rd a0_o 1 ([[.int .u8 120]] : List (List Value)))]) (RunsTo.mk [] [0, 3] [1] (fun _ => []) (fun _ => by kernel_rfl) (fun _ => trivial)) ?_
  intro _
  refine GS.seq ?_
  refine GS.seq ?_
  refine GS.region (env' := fun _ => [(3, .int .u32 4294967295), (8, .slice a0_o 1 a0_c), (9, .int .i64 1), (10, .int .i64 0)]) (mem' := fun _ => [(1, .rd a0_o 1 ([[.int .u8 120]] : List (List Value)))]) (RunsTo.mk [] [3, 8, 9, 10] [1] (fun _ => []) (fun _ => by kernel_rfl) (fun _ => trivial)) ?_
  intro _
  refine GS.block ?_
  refine GS.loop ?_
  refine GS.seq ?_
  refine GS.region (env' := fun _ => [(3, .int .u32 4294967295), (8, .slice a0_o 1 a0_c), (9, .int .i64 1), (10, .int .i64 0), (11, .bool true)]) (mem' := fun _ => [(1, .rd a0_o 1 ([[.int .u8 120]] : List (List Value)))]) (RunsTo.mk [] [3, 8, 9, 10, 11] [1] (fun _ => []) (fun _ => by kernel_rfl) (fun _ => trivial)) ?_
  intro _
  refine GS.seq ?_
  refine GS.cond (t := true) rfl rfl (fun _ => ?_) (fun hf => by cases hf)
  refine GS.skip ?_
  refine GS.seq ?_
  refine GS.block ?_
  refine GS.seq ?_
  refine GS.region (env' := fun _ => [(3, .int .u32 4294967295), (5, .int .u8 120), (8, .slice a0_o 1 a0_c), (9, .int .i64 1), (10, .int .i64 0)]) (mem' := fun _ => [(1, .rd a0_o 1 ([[.int .u8 120]] : List (List Value)))]) (RunsTo.mk [(0, { act := .idx 1 0 }), (1, { act := .load 1 0 0 [.int .u8 120] })] [3, 5, 8, 9, 10] [1] (fun _ => [a0_o = a0_o, 1 = ([[.int .u8 120]] : List (List Value)).length, (0 : Int) = ((0 : Nat) : Int), 0 < 1, blk a0_o = blk a0_o, offs a0_o + 0 * 1 = offs a0_o + (0 * 1 + 0), ([[.int .u8 120]] : List (List Value))[0]? = some [.int .u8 120]]) (fun _ => by kernel_rfl) (fun _ => ⟨rfl, rfl, rfl, (Nat.le_of_ble_eq_true rfl), rfl, rfl, rfl, trivial⟩)) ?_
  intro _
  refine GS.seq ?_
  refine GS.region (env' := fun _ => [(3, .int .u32 4294967295), (5, .int .u8 120), (6, .int .i64 0), (8, .slice a0_o 1 a0_c), (9, .int .i64 1), (10, .int .i64 0)]) (mem' := fun _ => [(1, .rd a0_o 1 ([[.int .u8 120]] : List (List Value)))]) (RunsTo.mk [] [3, 5, 6, 8, 9, 10] [1] (fun _ => []) (fun _ => by kernel_rfl) (fun _ => trivial)) ?_
  intro _
  refine GS.block ?_
  refine GS.loop ?_
  refine GS.seq ?_
  refine GS.seq ?_
  refine GS.region (env' := fun _ => [(3, .int .u32 4294967295), (5, .int .u8 120), (6, .int .i64 0), (8, .slice a0_o 1 a0_c), (9, .int .i64 1), (10, .int .i64 0), (15, .bool true)]) (mem' := fun _ => [(1, .rd a0_o 1 ([[.int .u8 120]] : List (List Value)))]) (RunsTo.mk [] [3, 5, 6, 8, 9, 10, 15] [1] (fun _ => []) (fun _ => by kernel_rfl) (fun _ => trivial)) ?_
  intro _
  refine GS.cond (t := true) rfl rfl (fun _ => ?_) (fun hf => by cases hf)
  refine GS.skip ?_
  refine GS.seq ?_
  refine GS.block ?_
  refine GS.seq ?_
  refine GS.region (env' := fun _ => [(3, .int .u32 4294967295), (5, .int .u8 120), (6, .int .i64 0), (7, .int .u32 1), (8, .slice a0_o 1 a0_c), (9, .int .i64 1), (10, .int .i64 0)]) (mem' := fun _ => [(1, .rd a0_o 1 ([[.int .u8 120]] : List (List Value)))]) (RunsTo.mk [] [3, 5, 6, 7, 8, 9, 10] [1] (fun _ => []) (fun _ => by kernel_rfl) (fun _ => trivial)) ?_
  intro _
  refine GS.seq ?_
  refine GS.region (env' := fun _ => [(3, .int .u32 2147483647), (5, .int .u8 120), (6, .int .i64 0), (7, .int .u32 1), (8, .slice a0_o 1 a0_c), (9, .int .i64 1), (10, .int .i64 0)]) (mem' := fun _ => [(1, .rd a0_o 1 ([[.int .u8 120]] : List (List Value)))]) (RunsTo.mk [] [3, 5, 6, 7, 8, 9, 10] [1] (fun _ => []) (fun _ => by kernel_rfl) (fun _ => trivial)) ?_
  intro _
  refine GS.seq ?_
  refine GS.region (env' := fun _ => [(3, .int .u32 2147483647), (5, .int .u8 120), (6, .int .i64 0), (8, .slice a0_o 1 a0_c), (9, .int .i64 1), (10, .int .i64 0), (29, .bool true)]) (mem' := fun _ => [(1, .rd a0_o 1 ([[.int .u8 120]] : List (List Value)))]) (RunsTo.mk [] [3, 5, 6, 8, 9, 10, 29] [1] (fun _ => []) (fun _ => by kernel_rfl) (fun _ => trivial)) ?_
  intro _
  refine GS.cond (t := true) rfl rfl (fun _ => ?_) (fun hf => by cases hf)
  refine GS.region (env' := fun _ => [(3, .int .u32 4245275783), (5, .int .u8 120), (6, .int .i64 0), (8, .slice a0_o 1 a0_c), (9, .int .i64 1), (10, .int .i64 0)]) (mem' := fun _ => [(1, .rd a0_o 1 ([[.int .u8 120]] : List (List Value)))]) (RunsTo.mk [] [3, 5, 6, 8, 9, 10] [1] (fun _ => []) (fun _ => by kernel_rfl) (fun _ => trivial)) ?_
  intro _
  refine GS.inBlock ?_
  refine GS.region (env' := fun _ => [(3, .int .u32 4245275783), (5, .int .u8 120), (6, .int .i64 1), (8, .slice a0_o 1 a0_c), (9, .int .i64 1), (10, .int .i64 0)]) (mem' := fun _ => [(1, .rd a0_o 1 ([[.int .u8 120]] : List (List Value)))]) (RunsTo.mk [] [3, 5, 6, 8, 9, 10] [1] (fun _ => []) (fun _ => by kernel_rfl) (fun _ => trivial)) ?_
  intro _
  refine GS.inLoop ?_
  refine GS.seq ?_
  refine GS.seq ?_
  refine GS.region (env' := fun _ => [(3, .int .u32 4245275783), (5, .int .u8 120), (6, .int .i64 1), (8, .slice a0_o 1 a0_c), (9, .int .i64 1), (10, .int .i64 0), (15, .bool true)]) (mem' := fun _ => [(1, .rd a0_o 1 ([[.int .u8 120]] : List (List Value)))]) (RunsTo.mk [] [3, 5, 6, 8, 9, 10, 15] [1] (fun _ => []) (fun _ => by kernel_rfl) (fun _ => trivial)) ?_
  intro _
  refine GS.cond (t := true) rfl rfl (fun _ => ?_) (fun hf => by cases hf)
  refine GS.skip ?_
  refine GS.seq ?_
  refine GS.block ?_
  refine GS.seq ?_
  refine GS.region (env' := fun _ => [(3, .int .u32 4245275783), (5, .int .u8 120), (6, .int .i64 1), (7, .int .u32 1), (8, .slice a0_o 1 a0_c), (9, .int .i64 1), (10, .int .i64 0)]) (mem' := fun _ => [(1, .rd a0_o 1 ([[.int .u8 120]] : List (List Value)))]) (RunsTo.mk [] [3, 5, 6, 7, 8, 9, 10] [1] (fun _ => []) (fun _ => by kernel_rfl) (fun _ => trivial)) ?_
  intro _
  refine GS.seq ?_
  refine GS.region (env' := fun _ => [(3, .int .u32 2122637891), (5, .int .u8 120), (6, .int .i64 1), (7, .int .u32 1), (8, .slice a0_o 1 a0_c), (9, .int .i64 1), (10, .int .i64 0)]) (mem' := fun _ => [(1, .rd a0_o 1 ([[.int .u8 120]] : List (List Value)))]) (RunsTo.mk [] [3, 5, 6, 7, 8, 9, 10] [1] (fun _ => []) (fun _ => by kernel_rfl) (fun _ => trivial)) ?_
  intro _
  refine GS.seq ?_
  refine GS.region (env' := fun _ => [(3, .int .u32 2122637891), (5, .int .u8 120), (6, .int .i64 1), (8, .slice a0_o 1 a0_c), (9, .int .i64 1), (10, .int .i64 0), (29, .bool true)]) (mem' := fun _ => [(1, .rd a0_o 1 ([[.int .u8 120]] : List (List Value)))]) (RunsTo.mk [] [3, 5, 6, 8, 9, 10, 29] [1] (fun _ => []) (fun _ => by kernel_rfl) (fun _ => trivial)) ?_
  intro _
  refine GS.cond (t := true) rfl rfl (fun _ => ?_) (fun hf => by cases hf)
  refine GS.region (env' := fun _ => [(3, .int .u32 4235385147), (5, .int .u8 120), (6, .int .i64 1), (8, .slice a0_o 1 a0_c), (9, .int .i64 1), (10, .int .i64 0)]) (mem' := fun _ => [(1, .rd a0_o 1 ([[.int .u8 120]] : List (List Value)))]) (RunsTo.mk [] [3, 5, 6, 8, 9, 10] [1] (fun _ => []) (fun _ => by kernel_rfl) (fun _ => trivial)) ?_
  intro _
  refine GS.inBlock ?_
  refine GS.region (env' := fun _ => [(3, .int .u32 4235385147), (5, .int .u8 120), (6, .int .i64 2), (8, .slice a0_o 1 a0_c), (9, .int .i64 1), (10, .int .i64 0)]) (mem' := fun _ => [(1, .rd a0_o 1 ([[.int .u8 120]] : List (List Value)))]) (RunsTo.mk [] [3, 5, 6, 8, 9, 10] [1] (fun _ => []) (fun _ => by kernel_rfl) (fun _ => trivial)) ?_
  intro _
  refine GS.inLoop ?_
  refine GS.seq ?_
  refine GS.seq ?_
  refine GS.region (env' := fun _ => [(3, .int .u32 4235385147), (5, .int .u8 120), (6, .int .i64 2), (8, .slice a0_o 1 a0_c), (9, .int .i64 1), (10, .int .i64 0), (15, .bool true)]) (mem' := fun _ => [(1, .rd a0_o 1 ([[.int .u8 120]] : List (List Value)))]) (RunsTo.mk [] [3, 5, 6, 8, 9, 10, 15] [1] (fun _ => []) (fun _ => by kernel_rfl) (fun _ => trivial)) ?_
  intro _
  refine GS.cond (t := true) rfl rfl (fun _ => ?_) (fun hf => by cases hf)
  refine GS.skip ?_
  refine GS.seq ?_
  refine GS.block ?_
  refine GS.seq ?_
  refine GS.region (env' := fun _ => [(3, .int .u32 4235385147), (5, .int .u8 120), (6, .int .i64 2), (7, .int .u32 1), (8, .slice a0_o 1 a0_c), (9, .int .i64 1), (10, .int .i64 0)]) (mem' := fun _ => [(1, .rd a0_o 1 ([[.int .u8 120]] : List (List Value)))]) (RunsTo.mk [] [3, 5, 6, 7, 8, 9, 10] [1] (fun _ => []) (fun _ => by kernel_rfl) (fun _ => trivial)) ?_
  intro _
  refine GS.seq ?_
  refine GS.region (env' := fun _ => [(3, .int .u32 2117692573), (5, .int .u8 120), (6, .int .i64 2), (7, .int .u32 1), (8, .slice a0_o 1 a0_c), (9, .int .i64 1), (10, .int .i64 0)]) (mem' := fun _ => [(1, .rd a0_o 1 ([[.int .u8 120]] : List (List Value)))]) (RunsTo.mk [] [3, 5, 6, 7, 8, 9, 10] [1] (fun _ => []) (fun _ => by kernel_rfl) (fun _ => trivial)) ?_
  intro _
  refine GS.seq ?_
  refine GS.region (env' := fun _ => [(3, .int .u32 2117692573), (5, .int .u8 120), (6, .int .i64 2), (8, .slice a0_o 1 a0_c), (9, .int .i64 1), (10, .int .i64 0), (29, .bool true)]) (mem' := fun _ => [(1, .rd a0_o 1 ([[.int .u8 120]] : List (List Value)))]) (RunsTo.mk [] [3, 5, 6, 8, 9, 10, 29] [1] (fun _ => []) (fun _ => by kernel_rfl) (fun _ => trivial)) ?_
  intro _
  refine GS.cond (t := true) rfl rfl (fun _ => ?_) (fun hf => by cases hf)
  refine GS.region (env' := fun _ => [(3, .int .u32 4241446885), (5, .int .u8 120), (6, .int .i64 2), (8, .slice a0_o 1 a0_c), (9, .int .i64 1), (10, .int .i64 0)]) (mem' := fun _ => [(1, .rd a0_o 1 ([[.int .u8 120]] : List (List Value)))]) (RunsTo.mk [] [3, 5, 6, 8, 9, 10] [1] (fun _ => []) (fun _ => by kernel_rfl) (fun _ => trivial)) ?_
  intro _
  refine GS.inBlock ?_
  refine GS.region (env' := fun _ => [(3, .int .u32 4241446885), (5, .int .u8 120), (6, .int .i64 3), (8, .slice a0_o 1 a0_c), (9, .int .i64 1), (10, .int .i64 0)]) (mem' := fun _ => [(1, .rd a0_o 1 ([[.int .u8 120]] : List (List Value)))]) (RunsTo.mk [] [3, 5, 6, 8, 9, 10] [1] (fun _ => []) (fun _ => by kernel_rfl) (fun _ => trivial)) ?_
  intro _
  refine GS.inLoop ?_
  refine GS.seq ?_
  refine GS.seq ?_
  refine GS.region (env' := fun _ => [(3, .int .u32 4241446885), (5, .int .u8 120), (6, .int .i64 3), (8, .slice a0_o 1 a0_c), (9, .int .i64 1), (10, .int .i64 0), (15, .bool true)]) (mem' := fun _ => [(1, .rd a0_o 1 ([[.int .u8 120]] : List (List Value)))]) (RunsTo.mk [] [3, 5, 6, 8, 9, 10, 15] [1] (fun _ => []) (fun _ => by kernel_rfl) (fun _ => trivial)) ?_
  intro _
  refine GS.cond (t := true) rfl rfl (fun _ => ?_) (fun hf => by cases hf)
  refine GS.skip ?_
  refine GS.seq ?_
  refine GS.block ?_
  refine GS.seq ?_
  refine GS.region (env' := fun _ => [(3, .int .u32 4241446885), (5, .int .u8 120), (6, .int .i64 3), (7, .int .u32 0), (8, .slice a0_o 1 a0_c), (9, .int .i64 1), (10, .int .i64 0)]) (mem' := fun _ => [(1, .rd a0_o 1 ([[.int .u8 120]] : List (List Value)))]) (RunsTo.mk [] [3, 5, 6, 7, 8, 9, 10] [1] (fun _ => []) (fun _ => by kernel_rfl) (fun _ => trivial)) ?_
  intro _
  refine GS.seq ?_
  refine GS.region (env' := fun _ => [(3, .int .u32 2120723442), (5, .int .u8 120), (6, .int .i64 3), (7, .int .u32 0), (8, .slice a0_o 1 a0_c), (9, .int .i64 1), (10, .int .i64 0)]) (mem' := fun _ => [(1, .rd a0_o 1 ([[.int .u8 120]] : List (List Value)))]) (RunsTo.mk [] [3, 5, 6, 7, 8, 9, 10] [1] (fun _ => []) (fun _ => by kernel_rfl) (fun _ => trivial)) ?_
  intro _
  refine GS.seq ?_
  refine GS.region (env' := fun _ => [(3, .int .u32 2120723442), (5, .int .u8 120), (6, .int .i64 3), (8, .slice a0_o 1 a0_c), (9, .int .i64 1), (10, .int .i64 0), (29, .bool false)]) (mem' := fun _ => [(1, .rd a0_o 1 ([[.int .u8 120]] : List (List Value)))]) (RunsTo.mk [] [3, 5, 6, 8, 9, 10, 29] [1] (fun _ => []) (fun _ => by kernel_rfl) (fun _ => trivial)) ?_
  intro _
  refine GS.cond (t := false) rfl rfl (fun hf => by cases hf) (fun _ => ?_)
  refine GS.skip ?_
  refine GS.inBlock ?_
  refine GS.region (env' := fun _ => [(3, .int .u32 2120723442), (5, .int .u8 120), (6, .int .i64 4), (8, .slice a0_o 1 a0_c), (9, .int .i64 1), (10, .int .i64 0)]) (mem' := fun _ => [(1, .rd a0_o 1 ([[.int .u8 120]] : List (List Value)))]) (RunsTo.mk [] [3, 5, 6, 8, 9, 10] [1] (fun _ => []) (fun _ => by kernel_rfl) (fun _ => trivial)) ?_
  intro _
  refine GS.inLoop ?_
  refine GS.seq ?_
  refine GS.seq ?_
  refine GS.region (env' := fun _ => [(3, .int .u32 2120723442), (5, .int .u8 120), (6, .int .i64 4), (8, .slice a0_o 1 a0_c), (9, .int .i64 1), (10, .int .i64 0), (15, .bool true)]) (mem' := fun _ => [(1, .rd a0_o 1 ([[.int .u8 120]] : List (List Value)))]) (RunsTo.mk [] [3, 5, 6, 8, 9, 10, 15] [1] (fun _ => []) (fun _ => by kernel_rfl) (fun _ => trivial)) ?_
  intro _
  refine GS.cond (t := true) rfl rfl (fun _ => ?_) (fun hf => by cases hf)
  refine GS.skip ?_
  refine GS.seq ?_
  refine GS.block ?_
  refine GS.seq ?_
  refine GS.region (env' := fun _ => [(3, .int .u32 2120723442), (5, .int .u8 120), (6, .int .i64 4), (7, .int .u32 1), (8, .slice a0_o 1 a0_c), (9, .int .i64 1), (10, .int .i64 0)]) (mem' := fun _ => [(1, .rd a0_o 1 ([[.int .u8 120]] : List (List Value)))]) (RunsTo.mk [] [3, 5, 6, 7, 8, 9, 10] [1] (fun _ => []) (fun _ => by kernel_rfl) (fun _ => trivial)) ?_
  intro _
  refine GS.seq ?_
  refine GS.region (env' := fun _ => [(3, .int .u32 1060361721), (5, .int .u8 120), (6, .int .i64 4), (7, .int .u32 1), (8, .slice a0_o 1 a0_c), (9, .int .i64 1), (10, .int .i64 0)]) (mem' := fun _ => [(1, .rd a0_o 1 ([[.int .u8 120]] : List (List Value)))]) (RunsTo.mk [] [3, 5, 6, 7, 8, 9, 10] [1] (fun _ => []) (fun _ => by kernel_rfl) (fun _ => trivial)) ?_
  intro _
  refine GS.seq ?_
  refine GS.region (env' := fun _ => [(3, .int .u32 1060361721), (5, .int .u8 120), (6, .int .i64 4), (8, .slice a0_o 1 a0_c), (9, .int .i64 1), (10, .int .i64 0), (29, .bool true)]) (mem' := fun _ => [(1, .rd a0_o 1 ([[.int .u8 120]] : List (List Value)))]) (RunsTo.mk [] [3, 5, 6, 8, 9, 10, 29] [1] (fun _ => []) (fun _ => by kernel_rfl) (fun _ => trivial)) ?_
  intro _
  refine GS.cond (t := true) rfl rfl (fun _ => ?_) (fun hf => by cases hf)
  refine GS.region (env' := fun _ => [(3, .int .u32 3183865473), (5, .int .u8 120), (6, .int .i64 4), (8, .slice a0_o 1 a0_c), (9, .int .i64 1), (10, .int .i64 0)]) (mem' := fun _ => [(1, .rd a0_o 1 ([[.int .u8 120]] : List (List Value)))]) (RunsTo.mk [] [3, 5, 6, 8, 9, 10] [1] (fun _ => []) (fun _ => by kernel_rfl) (fun _ => trivial)) ?_
  intro _
  refine GS.inBlock ?_
  refine GS.region (env' := fun _ => [(3, .int .u32 3183865473), (5, .int .u8 120), (6, .int .i64 5), (8, .slice a0_o 1 a0_c), (9, .int .i64 1), (10, .int .i64 0)]) (mem' := fun _ => [(1, .rd a0_o 1 ([[.int .u8 120]] : List (List Value)))]) (RunsTo.mk [] [3, 5, 6, 8, 9, 10] [1] (fun _ => []) (fun _ => by kernel_rfl) (fun _ => trivial)) ?_
  intro _
  refine GS.inLoop ?_
  refine GS.seq ?_
  refine GS.seq ?_
  refine GS.region (env' := fun _ => [(3, .int .u32 3183865473), (5, .int .u8 120), (6, .int .i64 5), (8, .slice a0_o 1 a0_c), (9, .int .i64 1), (10, .int .i64 0), (15, .bool true)]) (mem' := fun _ => [(1, .rd a0_o 1 ([[.int .u8 120]] : List (List Value)))]) (RunsTo.mk [] [3, 5, 6, 8, 9, 10, 15] [1] (fun _ => []) (fun _ => by kernel_rfl) (fun _ => trivial)) ?_
  intro _
  refine GS.cond (t := true) rfl rfl (fun _ => ?_) (fun hf => by cases hf)
  refine GS.skip ?_
  refine GS.seq ?_
  refine GS.block ?_
  refine GS.seq ?_
  refine GS.region (env' := fun _ => [(3, .int .u32 3183865473), (5, .int .u8 120), (6, .int .i64 5), (7, .int .u32 0), (8, .slice a0_o 1 a0_c), (9, .int .i64 1), (10, .int .i64 0)]) (mem' := fun _ => [(1, .rd a0_o 1 ([[.int .u8 120]] : List (List Value)))]) (RunsTo.mk [] [3, 5, 6, 7, 8, 9, 10] [1] (fun _ => []) (fun _ => by kernel_rfl) (fun _ => trivial)) ?_
  intro _
  refine GS.seq ?_
  refine GS.region (env' := fun _ => [(3, .int .u32 1591932736), (5, .int .u8 120), (6, .int .i64 5), (7, .int .u32 0), (8, .slice a0_o 1 a0_c), (9, .int .i64 1), (10, .int .i64 0)]) (mem' := fun _ => [(1, .rd a0_o 1 ([[.int .u8 120]] : List (List Value)))]) (RunsTo.mk [] [3, 5, 6, 7, 8, 9, 10] [1] (fun _ => []) (fun _ => by kernel_rfl) (fun _ => trivial)) ?_
  intro _
  refine GS.seq ?_
  refine GS.region (env' := fun _ => [(3, .int .u32 1591932736), (5, .int .u8 120), (6, .int .i64 5), (8, .slice a0_o 1 a0_c), (9, .int .i64 1), (10, .int .i64 0), (29, .bool false)]) (mem' := fun _ => [(1, .rd a0_o 1 ([[.int .u8 120]] : List (List Value)))]) (RunsTo.mk [] [3, 5, 6, 8, 9, 10, 29] [1] (fun _ => []) (fun _ => by kernel_rfl) (fun _ => trivial)) ?_
  intro _
  refine GS.cond (t := false) rfl rfl (fun hf => by cases hf) (fun _ => ?_)
  refine GS.skip ?_
  refine GS.inBlock ?_
  refine GS.region (env' := fun _ => [(3, .int .u32 1591932736), (5, .int .u8 120), (6, .int .i64 6), (8, .slice a0_o 1 a0_c), (9, .int .i64 1), (10, .int .i64 0)]) (mem' := fun _ => [(1, .rd a0_o 1 ([[.int .u8 120]] : List (List Value)))]) (RunsTo.mk [] [3, 5, 6, 8, 9, 10] [1] (fun _ => []) (fun _ => by kernel_rfl) (fun _ => trivial)) ?_
  intro _
  refine GS.inLoop ?_
  refine GS.seq ?_
  refine GS.seq ?_
  refine GS.region (env' := fun _ => [(3, .int .u32 1591932736), (5, .int .u8 120), (6, .int .i64 6), (8, .slice a0_o 1 a0_c), (9, .int .i64 1), (10, .int .i64 0), (15, .bool true)]) (mem' := fun _ => [(1, .rd a0_o 1 ([[.int .u8 120]] : List (List Value)))]) (RunsTo.mk [] [3, 5, 6, 8, 9, 10, 15] [1] (fun _ => []) (fun _ => by kernel_rfl) (fun _ => trivial)) ?_
  intro _
  refine GS.cond (t := true) rfl rfl (fun _ => ?_) (fun hf => by cases hf)
  refine GS.skip ?_
  refine GS.seq ?_
  refine GS.block ?_
  refine GS.seq ?_
  refine GS.region (env' := fun _ => [(3, .int .u32 1591932736), (5, .int .u8 120), (6, .int .i64 6), (7, .int .u32 1), (8, .slice a0_o 1 a0_c), (9, .int .i64 1), (10, .int .i64 0)]) (mem' := fun _ => [(1, .rd a0_o 1 ([[.int .u8 120]] : List (List Value)))]) (RunsTo.mk [] [3, 5, 6, 7, 8, 9, 10] [1] (fun _ => []) (fun _ => by kernel_rfl) (fun _ => trivial)) ?_
  intro _
  refine GS.seq ?_
  refine GS.region (env' := fun _ => [(3, .int .u32 795966368), (5, .int .u8 120), (6, .int .i64 6), (7, .int .u32 1), (8, .slice a0_o 1 a0_c), (9, .int .i64 1), (10, .int .i64 0)]) (mem' := fun _ => [(1, .rd a0_o 1 ([[.int .u8 120]] : List (List Value)))]) (RunsTo.mk [] [3, 5, 6, 7, 8, 9, 10] [1] (fun _ => []) (fun _ => by kernel_rfl) (fun _ => trivial)) ?_
  intro _
  refine GS.seq ?_
  refine GS.region (env' := fun _ => [(3, .int .u32 795966368), (5, .int .u8 120), (6, .int .i64 6), (8, .slice a0_o 1 a0_c), (9, .int .i64 1), (10, .int .i64 0), (29, .bool true)]) (mem' := fun _ => [(1, .rd a0_o 1 ([[.int .u8 120]] : List (List Value)))]) (RunsTo.mk [] [3, 5, 6, 8, 9, 10, 29] [1] (fun _ => []) (fun _ => by kernel_rfl) (fun _ => trivial)) ?_
  intro _
  refine GS.cond (t := true) rfl rfl (fun _ => ?_) (fun hf => by cases hf)
  refine GS.region (env' := fun _ => [(3, .int .u32 2911322328), (5, .int .u8 120), (6, .int .i64 6), (8, .slice a0_o 1 a0_c), (9, .int .i64 1), (10, .int .i64 0)]) (mem' := fun _ => [(1, .rd a0_o 1 ([[.int .u8 120]] : List (List Value)))]) (RunsTo.mk [] [3, 5, 6, 8, 9, 10] [1] (fun _ => []) (fun _ => by kernel_rfl) (fun _ => trivial)) ?_
  intro _
  refine GS.inBlock ?_
  refine GS.region (env' := fun _ => [(3, .int .u32 2911322328), (5, .int .u8 120), (6, .int .i64 7), (8, .slice a0_o 1 a0_c), (9, .int .i64 1), (10, .int .i64 0)]) (mem' := fun _ => [(1, .rd a0_o 1 ([[.int .u8 120]] : List (List Value)))]) (RunsTo.mk [] [3, 5, 6, 8, 9, 10] [1] (fun _ => []) (fun _ => by kernel_rfl) (fun _ => trivial)) ?_
  intro _
  refine GS.inLoop ?_
  refine GS.seq ?_
  refine GS.seq ?_
  refine GS.region (env' := fun _ => [(3, .int .u32 2911322328), (5, .int .u8 120), (6, .int .i64 7), (8, .slice a0_o 1 a0_c), (9, .int .i64 1), (10, .int .i64 0), (15, .bool true)]) (mem' := fun _ => [(1, .rd a0_o 1 ([[.int .u8 120]] : List (List Value)))]) (RunsTo.mk [] [3, 5, 6, 8, 9, 10, 15] [1] (fun _ => []) (fun _ => by kernel_rfl) (fun _ => trivial)) ?_
  intro _
  refine GS.cond (t := true) rfl rfl (fun _ => ?_) (fun hf => by cases hf)
  refine GS.skip ?_
  refine GS.seq ?_
  refine GS.block ?_
  refine GS.seq ?_
  refine GS.region (env' := fun _ => [(3, .int .u32 2911322328), (5, .int .u8 120), (6, .int .i64 7), (7, .int .u32 0), (8, .slice a0_o 1 a0_c), (9, .int .i64 1), (10, .int .i64 0)]) (mem' := fun _ => [(1, .rd a0_o 1 ([[.int .u8 120]] : List (List Value)))]) (RunsTo.mk [] [3, 5, 6, 7, 8, 9, 10] [1] (fun _ => []) (fun _ => by kernel_rfl) (fun _ => trivial)) ?_
  intro _
  refine GS.seq ?_
  refine GS.region (env' := fun _ => [(3, .int .u32 1455661164), (5, .int .u8 120), (6, .int .i64 7), (7, .int .u32 0), (8, .slice a0_o 1 a0_c), (9, .int .i64 1), (10, .int .i64 0)]) (mem' := fun _ => [(1, .rd a0_o 1 ([[.int .u8 120]] : List (List Value)))]) (RunsTo.mk [] [3, 5, 6, 7, 8, 9, 10] [1] (fun _ => []) (fun _ => by kernel_rfl) (fun _ => trivial)) ?_
  intro _
  refine GS.seq ?_
  refine GS.region (env' := fun _ => [(3, .int .u32 1455661164), (5, .int .u8 120), (6, .int .i64 7), (8, .slice a0_o 1 a0_c), (9, .int .i64 1), (10, .int .i64 0), (29, .bool false)]) (mem' := fun _ => [(1, .rd a0_o 1 ([[.int .u8 120]] : List (List Value)))]) (RunsTo.mk [] [3, 5, 6, 8, 9, 10, 29] [1] (fun _ => []) (fun _ => by kernel_rfl) (fun _ => trivial)) ?_
  intro _
  refine GS.cond (t := false) rfl rfl (fun hf => by cases hf) (fun _ => ?_)
  refine GS.skip ?_
  refine GS.inBlock ?_
  refine GS.region (env' := fun _ => [(3, .int .u32 1455661164), (5, .int .u8 120), (6, .int .i64 8), (8, .slice a0_o 1 a0_c), (9, .int .i64 1), (10, .int .i64 0)]) (mem' := fun _ => [(1, .rd a0_o 1 ([[.int .u8 120]] : List (List Value)))]) (RunsTo.mk [] [3, 5, 6, 8, 9, 10] [1] (fun _ => []) (fun _ => by kernel_rfl) (fun _ => trivial)) ?_
  intro _
  refine GS.inLoop ?_
  refine GS.seq ?_
  refine GS.seq ?_
  refine GS.region (env' := fun _ => [(3, .int .u32 1455661164), (5, .int .u8 120), (6, .int .i64 8), (8, .slice a0_o 1 a0_c), (9, .int .i64 1), (10, .int .i64 0), (15, .bool false)]) (mem' := fun _ => [(1, .rd a0_o 1 ([[.int .u8 120]] : List (List Value)))]) (RunsTo.mk [] [3, 5, 6, 8, 9, 10, 15] [1] (fun _ => []) (fun _ => by kernel_rfl) (fun _ => trivial)) ?_
  intro _
  refine GS.cond (t := false) rfl rfl (fun hf => by cases hf) (fun _ => ?_)
  refine GS.exit rfl ?_
  refine GS.inBlock ?_
  refine GS.region (env' := fun _ => [(3, .int .u32 1455661164), (8, .slice a0_o 1 a0_c), (9, .int .i64 1), (10, .int .i64 1)]) (mem' := fun _ => [(1, .rd a0_o 1 ([[.int .u8 120]] : List (List Value)))]) (RunsTo.mk [] [3, 8, 9, 10] [1] (fun _ => []) (fun _ => by kernel_rfl) (fun _ => trivial)) ?_
  intro _
  refine GS.inLoop ?_
  refine GS.seq ?_
  refine GS.region (env' := fun _ => [(3, .int .u32 1455661164), (8, .slice a0_o 1 a0_c), (9, .int .i64 1), (10, .int .i64 1), (11, .bool false)]) (mem' := fun _ => [(1, .rd a0_o 1 ([[.int .u8 120]] : List (List Value)))]) (RunsTo.mk [] [3, 8, 9, 10, 11] [1] (fun _ => []) (fun _ => by kernel_rfl) (fun _ => trivial)) ?_
  intro _
  refine GS.seq ?_
  refine GS.cond (t := false) rfl rfl (fun hf => by cases hf) (fun _ => ?_)
  refine GS.exit rfl ?_
  refine GS.seq ?_
  refine GS.region (env' := fun _ => [(2, .int .u32 2839306131)]) (mem' := fun _ => []) (RunsTo.mk [] [2] [] (fun _ => []) (fun _ => by kernel_rfl) (fun _ => trivial)) ?_
  intro _
  have hy := Option.some.inj hm
  subst hy
  refine GS.ret (fn := Try.f19) [0] [.int .u32 2839306131] [] rfl Try.func19 (by kernel_rfl) trivial (fun w' hs => ?_)
  exact ⟨(), rfl, hs.turnedG (ks := []) rfl rfl⟩

theorem w_slices_IndexFunc___api_Entry_api_Entry_ (F : Nat) (a1c0b : Nat) {y : Unit} (hm : m_slices_IndexFunc___api_Entry_api_Entry_ F = some y) : CallG Try.prog 64 #[.slice none 0 0, .func (.func 51) #[] #[.pointer (some ⟨a1c0b, 0, none⟩)]] (X := Unit) (fun (_ : Unit) => .int .i64 (-1)) [] [.rd (some ⟨a1c0b, 0, none⟩) 2 ([[.int .i64 0, .int .i64 0]] : List (List Value))] (fun (_ : Unit) => []) := by
  intro w hg
  rw [m_slices_IndexFunc___api_Entry_api_Entry_] at hm
  refine GS.start (S := mayT [] [.rd (some ⟨a1c0b, 0, none⟩) 2 ([[.int .i64 0, .int .i64 0]] : List (List Value))]) (mem := [(1, .rd (some ⟨a1c0b, 0, none⟩) 2 ([[.int .i64 0, .int .i64 0]] : List (List Value)))]) Try.func64 rfl Try.ntmps64 (Nat.le_of_ble_eq_true rfl) (hg.start rfl) ?_
  refine GS.conv (env' := [(0, .slice none 0 0), (1, .func (.func 51) #[] #[.pointer (some ⟨a1c0b, 0, none⟩)])]) rfl rfl ?_
  refine GS.seq ?_
  refine GS.region (env' := fun _ => [(0, .slice none 0 0), (1, .func (.func 51) #[] #[.pointer (some ⟨a1c0b, 0, none⟩)])]) (mem' := fun _ => [(1, .rd (some ⟨a1c0b, 0, none⟩) 2 ([[.int .i64 0, .int .i64 0]] : List (List Value)))]) (RunsTo.mk [] [0, 1] [1] (fun _ => []) (fun _ => by kernel_rfl) (fun _ => trivial)) ?_
  intro _
  refine GS.seq ?_
  refine GS.seq ?_
  refine GS.region (env' := fun _ => [(0, .slice none 0 0), (1, .func (.func 51) #[] #[.pointer (some ⟨a1c0b, 0, none⟩)]), (7, .int .i64 0), (8, .int .i64 0)]) (mem' := fun _ => [(1, .rd (some ⟨a1c0b, 0, none⟩) 2 ([[.int .i64 0, .int .i64 0]] : List (List Value)))]) (RunsTo.mk [] [0, 1, 7, 8] [1] (fun _ => []) (fun _ => by kernel_rfl) (fun _ => trivial)) ?_
  intro _
  refine GS.block ?_
  refine GS.loop ?_
  refine GS.seq ?_
  refine GS.region (env' := fun _ => [(0, .slice none 0 0), (1, .func (.func 51) #[] #[.pointer (some ⟨a1c0b, 0, none⟩)]), (7, .int .i64 0), (8, .int .i64 0), (9, .bool false)]) (mem' := fun _ => [(1, .rd (some ⟨a1c0b, 0, none⟩) 2 ([[.int .i64 0, .int .i64 0]] : List (List Value)))]) (RunsTo.mk [] [0, 1, 7, 8, 9] [1] (fun _ => []) (fun _ => by kernel_rfl) (fun _ => trivial)) ?_
  intro _
  refine GS.seq ?_
  refine GS.cond (t := false) rfl rfl (fun hf => by cases hf) (fun _ => ?_)
  refine GS.exit rfl ?_
  refine GS.seq ?_
  refine GS.region (env' := fun _ => [(4, .int .i64 (-1))]) (mem' := fun _ => []) (RunsTo.mk [] [4] [] (fun _ => []) (fun _ => by kernel_rfl) (fun _ => trivial)) ?_
  intro _
  have hy := Option.some.inj hm
  subst hy
  refine GS.ret (fn := Try.f64) [0] [.int .i64 (-1)] [] rfl Try.func64 (by kernel_rfl) trivial (fun w' hs => ?_)
  exact ⟨(), rfl, hs.turnedG (ks := []) rfl rfl⟩

theorem w_slices_ContainsFunc___api_Entry_api_Entry_ (F : Nat) (a1c0b : Nat) {y : Unit} (hm : m_slices_ContainsFunc___api_Entry_api_Entry_ F = some y) : CallG Try.prog 50 #[.slice none 0 0, .func (.func 51) #[] #[.pointer (some ⟨a1c0b, 0, none⟩)]] (X := Unit) (fun (_ : Unit) => .bool false) [] [.rd (some ⟨a1c0b, 0, none⟩) 2 ([[.int .i64 0, .int .i64 0]] : List (List Value))] (fun (_ : Unit) => []) := by
  intro w hg
  rw [m_slices_ContainsFunc___api_Entry_api_Entry_] at hm
  refine GS.start (S := mayT [] [.rd (some ⟨a1c0b, 0, none⟩) 2 ([[.int .i64 0, .int .i64 0]] : List (List Value))]) (mem := [(1, .rd (some ⟨a1c0b, 0, none⟩) 2 ([[.int .i64 0, .int .i64 0]] : List (List Value)))]) Try.func50 rfl Try.ntmps50 (Nat.le_of_ble_eq_true rfl) (hg.start rfl) ?_
  refine GS.conv (env' := [(0, .slice none 0 0), (1, .func (.func 51) #[] #[.pointer (some ⟨a1c0b, 0, none⟩)])]) rfl rfl ?_
  refine GS.seq ?_
  refine GS.region (env' := fun _ => [(0, .slice none 0 0), (1, .func (.func 51) #[] #[.pointer (some ⟨a1c0b, 0, none⟩)])]) (mem' := fun _ => [(1, .rd (some ⟨a1c0b, 0, none⟩) 2 ([[.int .i64 0, .int .i64 0]] : List (List Value)))]) (RunsTo.mk [] [0, 1] [1] (fun _ => []) (fun _ => by kernel_rfl) (fun _ => trivial)) ?_
  intro _
  refine GS.seq ?_
  refine bnd_elim hm (fun y3 e4 hm => ?_)
  refine GS.region (env' := fun _ => [(4, .bool false)]) (mem' := fun _ => []) (RunsTo.mk [(2, { act := .call [1] (.int .i64 (-1)) })] [4] [] (fun _ => [CallOK Try.prog 64 #[.slice none 0 0, .func (.func 51) #[] #[.pointer (some ⟨a1c0b, 0, none⟩)]] (.int .i64 (-1)) [some (.rd (some ⟨a1c0b, 0, none⟩) 2 ([[.int .i64 0, .int .i64 0]] : List (List Value)))]]) (fun _ => by kernel_rfl) (fun _ => ⟨(by have h1 := w_slices_IndexFunc___api_Entry_api_Entry_ F a1c0b e4; exact h1.ok ⟨(.inl ⟨.rd (some ⟨a1c0b, 0, none⟩) 2 ([[.int .i64 0, .int .i64 0]] : List (List Value)), .head _, Cov.refl _⟩), trivial⟩), trivial⟩)) ?_
  intro _
  have hy := Option.some.inj hm
  subst hy
  refine GS.ret (fn := Try.f50) [0] [.bool false] [] rfl Try.func50 (by kernel_rfl) trivial (fun w' hs => ?_)
  exact ⟨(), rfl, hs.turnedG (ks := []) rfl rfl⟩

theorem w_missing_has (F : Nat) (a0_5_o : Option Addr) (a0_5_c : Nat) {y : Unit} (hm : m_missing_has F = some y) : CallG Try.prog 40 #[.agg #[.int .i64 0, .int .i64 2, .int .i64 2, .slice none 0 0, .slice none 0 0, .slice a0_5_o 1 a0_5_c], .agg #[.int .i64 0, .int .i64 0]] (X := Unit) (fun (_ : Unit) => .bool false) [] [.rd a0_5_o 4 ([[.string (ByteArray.mk #[97]), .int .i64 1, .int .i64 1, .int .u32 2839306131]] : List (List Value))] (fun (_ : Unit) => []) := by
  intro w hg
  rw [m_missing_has] at hm
  refine GS.start (S := mayT [] [.rd a0_5_o 4 ([[.string (ByteArray.mk #[97]), .int .i64 1, .int .i64 1, .int .u32 2839306131]] : List (List Value))]) (mem := [(1, .rd a0_5_o 4 ([[.string (ByteArray.mk #[97]), .int .i64 1, .int .i64 1, .int .u32 2839306131]] : List (List Value)))]) Try.func40 rfl Try.ntmps40 (Nat.le_of_ble_eq_true rfl) (hg.start rfl) ?_
  refine GS.conv (env' := [(0, .agg #[.int .i64 0, .int .i64 2, .int .i64 2, .slice none 0 0, .slice none 0 0, .slice a0_5_o 1 a0_5_c]), (1, .agg #[.int .i64 0, .int .i64 0])]) rfl rfl ?_
  refine GS.seq ?_
  refine GS.region (env' := fun fr1 => [(2, .pointer (some ⟨(fr1 0).x, 0, none⟩)), (3, .pointer (some ⟨(fr1 1).x, 0, none⟩))]) (mem' := fun fr1 => [(1, .rd a0_5_o 4 ([[.string (ByteArray.mk #[97]), .int .i64 1, .int .i64 1, .int .u32 2839306131]] : List (List Value))), (2, .cells ((fr1 0).x) 37 [.int .i64 0, .int .i64 2, .int .i64 2, .slice none 0 0, .slice none 0 0, .slice a0_5_o 1 a0_5_c]), (3, .cells ((fr1 1).x) 30 [.int .i64 0, .int .i64 0])]) (RunsTo.mk [(0, { act := .new .var, key := some 2 }), (1, { act := .new .var, key := some 3 })] [2, 3] [1, 2, 3] (fun fr1 => []) (fun fr1 => by kernel_rfl) (fun fr1 => trivial)) ?_
  intro fr1
  refine GS.seq ?_
  refine bnd_elim hm (fun y3 e4 hm => ?_)
  refine GS.region (env' := fun _ => [(4, .bool false)]) (mem' := fun _ => []) (RunsTo.mk [(1, { act := .load 2 0 0 [] }), (2, { act := .load 3 0 0 [] }), (3, { act := .eq, sp := some (.bool false) }), (6, { act := .load 2 0 0 [] }), (8, { act := .call [3] (.bool false) })] [4] [] (fun _ => [(fr1 0).x = (fr1 0).x, (fr1 1).x = (fr1 1).x, ((.bool (S_api_Version.beq (S_api_Version.mk 2 2) (S_api_Version.mk 0 0))) : Value) = .bool false, (fr1 0).x = (fr1 0).x, CallOK Try.prog 50 #[.slice none 0 0, .func (.func 51) #[] #[.pointer (some ⟨(fr1 1).x, 0, none⟩)]] (.bool false) [some (.cells ((fr1 1).x) 30 [.int .i64 0, .int .i64 0])]]) (fun _ => by kernel_rfl) (fun _ => ⟨rfl, rfl, (by kernel_rfl), rfl, (by have h1 := w_slices_ContainsFunc___api_Entry_api_Entry_ F (fr1 1).x e4; exact h1.ok ⟨(.inl ⟨.cells ((fr1 1).x) 30 [.int .i64 0, .int .i64 0], .head _, Cov.cells_rd⟩), trivial⟩), trivial⟩)) ?_
  intro _
  have hy := Option.some.inj hm
  subst hy
  refine GS.ret (fn := Try.f40) [0] [.bool false] [] rfl Try.func40 (by kernel_rfl) trivial (fun w' hs => ?_)
  exact ⟨(), rfl, hs.turnedG (ks := []) rfl rfl⟩

theorem w_missing_Common_1 (F : Nat) (a1b : Nat) (a1_5_o : Option Addr) (a1_5_c : Nat) (a2b : Nat) (a3b : Nat) {y : Unit} (hm : m_missing_Common_1 F = some y) : CallG Try.prog 39 #[.agg #[.int .i64 0, .int .i64 0], .pointer (some ⟨a1b, 0, none⟩), .pointer (some ⟨a2b, 0, none⟩), .pointer (some ⟨a3b, 0, none⟩)] (X := Unit) (fun (_ : Unit) => .tuple #[]) [] [.rd a1_5_o 4 ([[.string (ByteArray.mk #[97]), .int .i64 1, .int .i64 1, .int .u32 2839306131]] : List (List Value)), .rd (some ⟨a1b, 0, none⟩) 6 ([[.int .i64 0, .int .i64 2, .int .i64 2, .slice none 0 0, .slice none 0 0, .slice a1_5_o 1 a1_5_c]] : List (List Value)), .rd (some ⟨a2b, 0, none⟩) 1 ([[.bool false]] : List (List Value)), .rd (some ⟨a3b, 0, none⟩) 2 ([[.int .i64 0, .int .i64 0]] : List (List Value))] (fun (_ : Unit) => []) := by
  intro w hg
  rw [m_missing_Common_1] at hm
  refine GS.start (S := mayT [] [.rd a1_5_o 4 ([[.string (ByteArray.mk #[97]), .int .i64 1, .int .i64 1, .int .u32 2839306131]] : List (List Value)), .rd (some ⟨a1b, 0, none⟩) 6 ([[.int .i64 0, .int .i64 2, .int .i64 2, .slice none 0 0, .slice none 0 0, .slice a1_5_o 1 a1_5_c]] : List (List Value)), .rd (some ⟨a2b, 0, none⟩) 1 ([[.bool false]] : List (List Value)), .rd (some ⟨a3b, 0, none⟩) 2 ([[.int .i64 0, .int .i64 0]] : List (List Value))]) (mem := [(1, .rd a1_5_o 4 ([[.string (ByteArray.mk #[97]), .int .i64 1, .int .i64 1, .int .u32 2839306131]] : List (List Value))), (2, .rd (some ⟨a1b, 0, none⟩) 6 ([[.int .i64 0, .int .i64 2, .int .i64 2, .slice none 0 0, .slice none 0 0, .slice a1_5_o 1 a1_5_c]] : List (List Value))), (3, .rd (some ⟨a2b, 0, none⟩) 1 ([[.bool false]] : List (List Value))), (4, .rd (some ⟨a3b, 0, none⟩) 2 ([[.int .i64 0, .int .i64 0]] : List (List Value)))]) Try.func39 rfl Try.ntmps39 (Nat.le_of_ble_eq_true rfl) (hg.start rfl) ?_
  refine GS.conv (env' := [(0, .agg #[.int .i64 0, .int .i64 0]), (1, .pointer (some ⟨a1b, 0, none⟩)), (2, .pointer (some ⟨a2b, 0, none⟩)), (3, .pointer (some ⟨a3b, 0, none⟩))]) rfl rfl ?_
  refine GS.seq ?_
  refine GS.region (env' := fun fr1 => [(1, .pointer (some ⟨a1b, 0, none⟩)), (2, .pointer (some ⟨a2b, 0, none⟩)), (3, .pointer (some ⟨a3b, 0, none⟩)), (4, .pointer (some ⟨(fr1 0).x, 0, none⟩))]) (mem' := fun fr1 => [(1, .rd a1_5_o 4 ([[.string (ByteArray.mk #[97]), .int .i64 1, .int .i64 1, .int .u32 2839306131]] : List (List Value))), (2, .rd (some ⟨a1b, 0, none⟩) 6 ([[.int .i64 0, .int .i64 2, .int .i64 2, .slice none 0 0, .slice none 0 0, .slice a1_5_o 1 a1_5_c]] : List (List Value))), (3, .rd (some ⟨a2b, 0, none⟩) 1 ([[.bool false]] : List (List Value))), (4, .rd (some ⟨a3b, 0, none⟩) 2 ([[.int .i64 0, .int .i64 0]] : List (List Value))), (5, .cells ((fr1 0).x) 30 [.int .i64 0, .int .i64 0])]) (RunsTo.mk [(0, { act := .new .var, key := some 5 })] [1, 2, 3, 4] [1, 2, 3, 4, 5] (fun fr1 => []) (fun fr1 => by kernel_rfl) (fun fr1 => trivial)) ?_
  intro fr1
  refine GS.seq ?_
  refine bnd_elim hm (fun y3 e4 hm => ?_)
  refine GS.region (env' := fun _ => [(2, .pointer (some ⟨a2b, 0, none⟩)), (3, .pointer (some ⟨a3b, 0, none⟩)), (4, .pointer (some ⟨(fr1 0).x, 0, none⟩)), (17, .bool false)]) (mem' := fun _ => [(3, .rd (some ⟨a2b, 0, none⟩) 1 ([[.bool false]] : List (List Value))), (4, .rd (some ⟨a3b, 0, none⟩) 2 ([[.int .i64 0, .int .i64 0]] : List (List Value))), (5, .cells ((fr1 0).x) 30 [.int .i64 0, .int .i64 0])]) (RunsTo.mk [(0, { act := .load 2 0 0 [.int .i64 0, .int .i64 2, .int .i64 2, .slice none 0 0, .slice none 0 0, .slice a1_5_o 1 a1_5_c] }), (1, { act := .load 5 0 0 [] }), (2, { act := .call [1] (.bool false) })] [2, 3, 4, 17] [3, 4, 5] (fun _ => [a1b = blk (some ⟨a1b, 0, none⟩), 0 = offs (some ⟨a1b, 0, none⟩) + (0 * 6 + 0), ([[.int .i64 0, .int .i64 2, .int .i64 2, .slice none 0 0, .slice none 0 0, .slice a1_5_o 1 a1_5_c]] : List (List Value))[0]? = some [.int .i64 0, .int .i64 2, .int .i64 2, .slice none 0 0, .slice none 0 0, .slice a1_5_o 1 a1_5_c], (fr1 0).x = (fr1 0).x, CallOK Try.prog 40 #[.agg #[.int .i64 0, .int .i64 2, .int .i64 2, .slice none 0 0, .slice none 0 0, .slice a1_5_o 1 a1_5_c], .agg #[.int .i64 0, .int .i64 0]] (.bool false) [some (.rd a1_5_o 4 ([[.string (ByteArray.mk #[97]), .int .i64 1, .int .i64 1, .int .u32 2839306131]] : List (List Value)))]]) (fun _ => by kernel_rfl) (fun _ => ⟨rfl, rfl, rfl, rfl, (by have h1 := w_missing_has F a1_5_o a1_5_c e4; exact h1.ok ⟨(.inl ⟨.rd a1_5_o 4 ([[.string (ByteArray.mk #[97]), .int .i64 1, .int .i64 1, .int .u32 2839306131]] : List (List Value)), .head _, Cov.refl _⟩), trivial⟩), trivial⟩)) ?_
  intro _
  refine GS.cond (t := false) rfl rfl (fun hf => by cases hf) (fun _ => ?_)
  refine GS.skip ?_
  have hy := Option.some.inj hm
  subst hy
  refine GS.end_ (fn := Try.f39) [] [] [] rfl Try.func39 (by kernel_rfl) trivial (fun w' hs => ?_)
  exact ⟨(), rfl, hs.turnedG (ks := []) rfl rfl⟩

theorem w_missing_Common (F : Nat) (a1_5_o : Option Addr) (a1_5_c : Nat) {y : Unit} (hm : m_missing_Common F = some y) : CallG Try.prog 32 #[.agg #[.int .i64 0, .int .i64 0, .int .i64 0, .slice none 0 0, .slice none 0 0, .slice none 0 0], .agg #[.int .i64 0, .int .i64 2, .int .i64 2, .slice none 0 0, .slice none 0 0, .slice a1_5_o 1 a1_5_c]] (X := Unit) (fun (_ : Unit) => .tuple #[.agg #[.int .i64 0, .int .i64 0], .bool false]) [] [.rd a1_5_o 4 ([[.string (ByteArray.mk #[97]), .int .i64 1, .int .i64 1, .int .u32 2839306131]] : List (List Value))] (fun (_ : Unit) => []) := by
  intro w hg
  rw [m_missing_Common] at hm
  refine GS.start (S := mayT [] [.rd a1_5_o 4 ([[.string (ByteArray.mk #[97]), .int .i64 1, .int .i64 1, .int .u32 2839306131]] : List (List Value))]) (mem := [(1, .rd a1_5_o 4 ([[.string (ByteArray.mk #[97]), .int .i64 1, .int .i64 1, .int .u32 2839306131]] : List (List Value)))]) Try.func32 rfl Try.ntmps32 (Nat.le_of_ble_eq_true rfl) (hg.start rfl) ?_
  refine GS.conv (env' := [(0, .agg #[.int .i64 0, .int .i64 0, .int .i64 0, .slice none 0 0, .slice none 0 0, .slice none 0 0]), (1, .agg #[.int .i64 0, .int .i64 2, .int .i64 2, .slice none 0 0, .slice none 0 0, .slice a1_5_o 1 a1_5_c])]) rfl rfl ?_
  refine GS.seq ?_
  refine GS.region (env' := fun fr1 => [(2, .pointer (some ⟨(fr1 0).x, 0, none⟩)), (3, .pointer (some ⟨(fr1 1).x, 0, none⟩)), (4, .pointer (some ⟨(fr1 2).x, 0, none⟩))]) (mem' := fun fr1 => [(1, .rd a1_5_o 4 ([[.string (ByteArray.mk #[97]), .int .i64 1, .int .i64 1, .int .u32 2839306131]] : List (List Value))), (2, .cells ((fr1 0).x) 37 [.int .i64 0, .int .i64 0, .int .i64 0, .slice none 0 0, .slice none 0 0, .slice none 0 0]), (3, .cells ((fr1 1).x) 37 [.int .i64 0, .int .i64 2, .int .i64 2, .slice none 0 0, .slice none 0 0, .slice a1_5_o 1 a1_5_c]), (4, .cells ((fr1 2).x) 30 [.int .i64 0, .int .i64 0])]) (RunsTo.mk [(0, { act := .new .var, key := some 2 }), (1, { act := .new .var, key := some 3 }), (2, { act := .new .var, key := some 4 })] [2, 3, 4] [1, 2, 3, 4] (fun fr1 => []) (fun fr1 => by kernel_rfl) (fun fr1 => trivial)) ?_
  intro fr1
  refine GS.seq ?_
  refine GS.region (env' := fun fr2 => [(2, .pointer (some ⟨(fr1 0).x, 0, none⟩)), (3, .pointer (some ⟨(fr1 1).x, 0, none⟩)), (4, .pointer (some ⟨(fr1 2).x, 0, none⟩)), (6, .pointer (some ⟨(fr2 1).x, 0, none⟩)), (7, .pointer (some ⟨(fr2 2).x, 0, none⟩))]) (mem' := fun fr2 => [(1, .rd a1_5_o 4 ([[.string (ByteArray.mk #[97]), .int .i64 1, .int .i64 1, .int .u32 2839306131]] : List (List Value))), (2, .cells ((fr1 0).x) 37 [.int .i64 0, .int .i64 0, .int .i64 0, .slice none 0 0, .slice none 0 0, .slice none 0 0]), (3, .cells ((fr1 1).x) 37 [.int .i64 0, .int .i64 2, .int .i64 2, .slice none 0 0, .slice none 0 0, .slice a1_5_o 1 a1_5_c]), (4, .cells ((fr1 2).x) 30 [.int .i64 0, .int .i64 0]), (5, .cells ((fr2 1).x) 30 [.int .i64 0, .int .i64 0]), (6, .cells ((fr2 2).x) 4 [.bool false])]) (RunsTo.mk [(1, { act := .new .var, key := some 5 }), (2, { act := .new .var, key := some 6 }), (3, { act := .store 0 0 [], key := some 5 }), (4, { act := .store 0 0 [], key := some 6 })] [2, 3, 4, 6, 7] [1, 2, 3, 4, 5, 6] (fun fr2 => [(fr2 1).x = (fr2 1).x, ((.agg #[.int .i64 0, .int .i64 0]) : Value).cells.toList.all Value.oneCell' = true, (fr2 2).x = (fr2 2).x, ((.bool false) : Value).cells.toList.all Value.oneCell' = true]) (fun fr2 => by kernel_rfl) (fun fr2 => ⟨rfl, rfl, rfl, rfl, trivial⟩)) ?_
  intro fr2
  refine GS.seq ?_
  refine GS.region (env' := fun _ => [(2, .pointer (some ⟨(fr1 0).x, 0, none⟩)), (4, .pointer (some ⟨(fr1 2).x, 0, none⟩)), (6, .pointer (some ⟨(fr2 1).x, 0, none⟩)), (7, .pointer (some ⟨(fr2 2).x, 0, none⟩)), (8, .func (.func 39) #[] #[.pointer (some ⟨(fr1 1).x, 0, none⟩), .pointer (some ⟨(fr2 2).x, 0, none⟩), .pointer (some ⟨(fr2 1).x, 0, none⟩)])]) (mem' := fun _ => [(1, .rd a1_5_o 4 ([[.string (ByteArray.mk #[97]), .int .i64 1, .int .i64 1, .int .u32 2839306131]] : List (List Value))), (2, .cells ((fr1 0).x) 37 [.int .i64 0, .int .i64 0, .int .i64 0, .slice none 0 0, .slice none 0 0, .slice none 0 0]), (3, .cells ((fr1 1).x) 37 [.int .i64 0, .int .i64 2, .int .i64 2, .slice none 0 0, .slice none 0 0, .slice a1_5_o 1 a1_5_c]), (4, .cells ((fr1 2).x) 30 [.int .i64 0, .int .i64 0]), (5, .cells ((fr2 1).x) 30 [.int .i64 0, .int .i64 0]), (6, .cells ((fr2 2).x) 4 [.bool false])]) (RunsTo.mk [] [2, 4, 6, 7, 8] [1, 2, 3, 4, 5, 6] (fun _ => []) (fun _ => by kernel_rfl) (fun _ => trivial)) ?_
  intro _
  refine GS.seq ?_
  refine bnd_elim hm (fun y5 e6 hm => ?_)
  refine GS.region (env' := fun _ => [(2, .pointer (some ⟨(fr1 0).x, 0, none⟩)), (4, .pointer (some ⟨(fr1 2).x, 0, none⟩)), (6, .pointer (some ⟨(fr2 1).x, 0, none⟩)), (7, .pointer (some ⟨(fr2 2).x, 0, none⟩)), (8, .func (.func 39) #[] #[.pointer (some ⟨(fr1 1).x, 0, none⟩), .pointer (some ⟨(fr2 2).x, 0, none⟩), .pointer (some ⟨(fr2 1).x, 0, none⟩)])]) (mem' := fun _ => [(1, .rd a1_5_o 4 ([[.string (ByteArray.mk #[97]), .int .i64 1, .int .i64 1, .int .u32 2839306131]] : List (List Value))), (2, .cells ((fr1 0).x) 37 [.int .i64 0, .int .i64 0, .int .i64 0, .slice none 0 0, .slice none 0 0, .slice none 0 0]), (3, .cells ((fr1 1).x) 37 [.int .i64 0, .int .i64 2, .int .i64 2, .slice none 0 0, .slice none 0 0, .slice a1_5_o 1 a1_5_c]), (4, .cells ((fr1 2).x) 30 [.int .i64 0, .int .i64 0]), (5, .cells ((fr2 1).x) 30 [.int .i64 0, .int .i64 0]), (6, .cells ((fr2 2).x) 4 [.bool false])]) (RunsTo.mk [(2, { act := .load 2 0 0 [] }), (3, { act := .call [1, 3, 5, 6] (.tuple #[]) })] [2, 4, 6, 7, 8] [1, 2, 3, 4, 5, 6] (fun _ => [(fr1 0).x = (fr1 0).x, CallOK Try.prog 39 #[.agg #[.int .i64 0, .int .i64 0], .pointer (some ⟨(fr1 1).x, 0, none⟩), .pointer (some ⟨(fr2 2).x, 0, none⟩), .pointer (some ⟨(fr2 1).x, 0, none⟩)] (.tuple #[]) [some (.rd a1_5_o 4 ([[.string (ByteArray.mk #[97]), .int .i64 1, .int .i64 1, .int .u32 2839306131]] : List (List Value))), some (.cells ((fr1 1).x) 37 [.int .i64 0, .int .i64 2, .int .i64 2, .slice none 0 0, .slice none 0 0, .slice a1_5_o 1 a1_5_c]), some (.cells ((fr2 1).x) 30 [.int .i64 0, .int .i64 0]), some (.cells ((fr2 2).x) 4 [.bool false])]]) (fun _ => by kernel_rfl) (fun _ => ⟨rfl, (by have h1 := w_missing_Common_1 F (fr1 1).x a1_5_o a1_5_c (fr2 2).x (fr2 1).x e6; exact h1.ok ⟨(.inl ⟨.rd a1_5_o 4 ([[.string (ByteArray.mk #[97]), .int .i64 1, .int .i64 1, .int .u32 2839306131]] : List (List Value)), .head _, Cov.refl _⟩), (.inl ⟨.cells ((fr1 1).x) 37 [.int .i64 0, .int .i64 2, .int .i64 2, .slice none 0 0, .slice none 0 0, .slice a1_5_o 1 a1_5_c], (.tail _ (.head _)), Cov.cells_rd⟩), (.inl ⟨.cells ((fr2 2).x) 4 [.bool false], (.tail _ (.tail _ (.tail _ (.head _)))), Cov.cells_rd⟩), (.inl ⟨.cells ((fr2 1).x) 30 [.int .i64 0, .int .i64 0], (.tail _ (.tail _ (.head _))), Cov.cells_rd⟩), trivial⟩), trivial⟩)) ?_
  intro _
  refine GS.seq ?_
  refine GS.seq ?_
  refine GS.region (env' := fun _ => [(4, .pointer (some ⟨(fr1 2).x, 0, none⟩)), (6, .pointer (some ⟨(fr2 1).x, 0, none⟩)), (7, .pointer (some ⟨(fr2 2).x, 0, none⟩)), (8, .func (.func 39) #[] #[.pointer (some ⟨(fr1 1).x, 0, none⟩), .pointer (some ⟨(fr2 2).x, 0, none⟩), .pointer (some ⟨(fr2 1).x, 0, none⟩)]), (18, .slice none 0 0), (19, .int .i64 0), (20, .int .i64 0)]) (mem' := fun _ => [(1, .rd a1_5_o 4 ([[.string (ByteArray.mk #[97]), .int .i64 1, .int .i64 1, .int .u32 2839306131]] : List (List Value))), (3, .cells ((fr1 1).x) 37 [.int .i64 0, .int .i64 2, .int .i64 2, .slice none 0 0, .slice none 0 0, .slice a1_5_o 1 a1_5_c]), (4, .cells ((fr1 2).x) 30 [.int .i64 0, .int .i64 0]), (5, .cells ((fr2 1).x) 30 [.int .i64 0, .int .i64 0]), (6, .cells ((fr2 2).x) 4 [.bool false])]) (RunsTo.mk [(1, { act := .load 2 0 0 [] })] [4, 6, 7, 8, 18, 19, 20] [1, 3, 4, 5, 6] (fun _ => [(fr1 0).x = (fr1 0).x]) (fun _ => by kernel_rfl) (fun _ => ⟨rfl, trivial⟩)) ?_
  intro _
  refine GS.block ?_
  refine GS.loop ?_
  refine GS.seq ?_
  refine GS.region (env' := fun _ => [(4, .pointer (some ⟨(fr1 2).x, 0, none⟩)), (6, .pointer (some ⟨(fr2 1).x, 0, none⟩)), (7, .pointer (some ⟨(fr2 2).x, 0, none⟩)), (8, .func (.func 39) #[] #[.pointer (some ⟨(fr1 1).x, 0, none⟩), .pointer (some ⟨(fr2 2).x, 0, none⟩), .pointer (some ⟨(fr2 1).x, 0, none⟩)]), (18, .slice none 0 0), (19, .int .i64 0), (20, .int .i64 0), (21, .bool false)]) (mem' := fun _ => [(1, .rd a1_5_o 4 ([[.string (ByteArray.mk #[97]), .int .i64 1, .int .i64 1, .int .u32 2839306131]] : List (List Value))), (3, .cells ((fr1 1).x) 37 [.int .i64 0, .int .i64 2, .int .i64 2, .slice none 0 0, .slice none 0 0, .slice a1_5_o 1 a1_5_c]), (4, .cells ((fr1 2).x) 30 [.int .i64 0, .int .i64 0]), (5, .cells ((fr2 1).x) 30 [.int .i64 0, .int .i64 0]), (6, .cells ((fr2 2).x) 4 [.bool false])]) (RunsTo.mk [] [4, 6, 7, 8, 18, 19, 20, 21] [1, 3, 4, 5, 6] (fun _ => []) (fun _ => by kernel_rfl) (fun _ => trivial)) ?_
  intro _
  refine GS.seq ?_
  refine GS.cond (t := false) rfl rfl (fun hf => by cases hf) (fun _ => ?_)
  refine GS.exit rfl ?_
  refine GS.seq ?_
  refine GS.region (env' := fun _ => [(4, .pointer (some ⟨(fr1 2).x, 0, none⟩)), (5, .bool false)]) (mem' := fun _ => [(4, .cells ((fr1 2).x) 30 [.int .i64 0, .int .i64 0])]) (RunsTo.mkd [(0, { act := .load 5 0 0 [] }), (1, { act := .load 6 0 0 [] }), (2, { act := .store 0 0 [], key := some 4 })] [4, 5] [4] (fun _ => [(fr2 1).x = (fr2 1).x, (fr2 2).x = (fr2 2).x, (fr1 2).x = (fr1 2).x, ((.agg #[.int .i64 0, .int .i64 0]) : Value).cells.toList.all Value.oneCell' = true]) (by kernel_rfl) (by kernel_rfl) (fun _ => by kernel_rfl) (fun _ => ⟨rfl, rfl, rfl, rfl, trivial⟩)) ?_
  intro _
  have hy := Option.some.inj hm
  subst hy
  refine GS.ret (fn := Try.f32) [4, 0] [.agg #[.int .i64 0, .int .i64 0], .bool false] [(fr1 2).x = (fr1 2).x] rfl Try.func32 (by kernel_rfl) ⟨rfl, trivial⟩ (fun w' hs => ?_)
  exact ⟨(), rfl, hs.turnedG (ks := []) rfl rfl⟩

theorem w_missing_Diff (F : Nat) (a1_5_o : Option Addr) (a1_5_c : Nat) {y : Unit} (hm : m_missing_Diff F = some y) : CallG Try.prog 25 #[.agg #[.int .i64 0, .int .i64 0, .int .i64 0, .slice none 0 0, .slice none 0 0, .slice none 0 0], .agg #[.int .i64 0, .int .i64 2, .int .i64 2, .slice none 0 0, .slice none 0 0, .slice a1_5_o 1 a1_5_c]] (X := Unit) (fun (_ : Unit) => .tuple #[.slice none 0 0, .slice none 0 0, .bool false]) [] [.rd a1_5_o 4 ([[.string (ByteArray.mk #[97]), .int .i64 1, .int .i64 1, .int .u32 2839306131]] : List (List Value))] (fun (_ : Unit) => []) := by
  intro w hg
  rw [m_missing_Diff] at hm
  refine GS.start (S := mayT [] [.rd a1_5_o 4 ([[.string (ByteArray.mk #[97]), .int .i64 1, .int .i64 1, .int .u32 2839306131]] : List (List Value))]) (mem := [(1, .rd a1_5_o 4 ([[.string (ByteArray.mk #[97]), .int .i64 1, .int .i64 1, .int .u32 2839306131]] : List (List Value)))]) Try.func25 rfl Try.ntmps25 (Nat.le_of_ble_eq_true rfl) (hg.start rfl) ?_
  refine GS.conv (env' := [(0, .agg #[.int .i64 0, .int .i64 0, .int .i64 0, .slice none 0 0, .slice none 0 0, .slice none 0 0]), (1, .agg #[.int .i64 0, .int .i64 2, .int .i64 2, .slice none 0 0, .slice none 0 0, .slice a1_5_o 1 a1_5_c])]) rfl rfl ?_
  refine GS.seq ?_
  refine GS.region (env' := fun fr1 => [(2, .pointer (some ⟨(fr1 0).x, 0, none⟩)), (3, .pointer (some ⟨(fr1 1).x, 0, none⟩))]) (mem' := fun fr1 => [(1, .rd a1_5_o 4 ([[.string (ByteArray.mk #[97]), .int .i64 1, .int .i64 1, .int .u32 2839306131]] : List (List Value))), (2, .cells ((fr1 0).x) 37 [.int .i64 0, .int .i64 0, .int .i64 0, .slice none 0 0, .slice none 0 0, .slice none 0 0]), (3, .cells ((fr1 1).x) 37 [.int .i64 0, .int .i64 2, .int .i64 2, .slice none 0 0, .slice none 0 0, .slice a1_5_o 1 a1_5_c])]) (RunsTo.mk [(0, { act := .new .var, key := some 2 }), (1, { act := .new .var, key := some 3 })] [2, 3] [1, 2, 3] (fun fr1 => []) (fun fr1 => by kernel_rfl) (fun fr1 => trivial)) ?_
  intro fr1
  refine GS.seq ?_
  refine GS.seq ?_
  refine bnd_elim hm (fun y3 e4 hm => ?_)
  refine GS.region (env' := fun fr2 => [(2, .pointer (some ⟨(fr1 0).x, 0, none⟩)), (3, .pointer (some ⟨(fr1 1).x, 0, none⟩)), (8, .bool false)]) (mem' := fun fr2 => [(1, .rd a1_5_o 4 ([[.string (ByteArray.mk #[97]), .int .i64 1, .int .i64 1, .int .u32 2839306131]] : List (List Value))), (2, .cells ((fr1 0).x) 37 [.int .i64 0, .int .i64 0, .int .i64 0, .slice none 0 0, .slice none 0 0, .slice none 0 0]), (3, .cells ((fr1 1).x) 37 [.int .i64 0, .int .i64 2, .int .i64 2, .slice none 0 0, .slice none 0 0, .slice a1_5_o 1 a1_5_c])]) (RunsTo.mk [(0, { act := .load 2 0 0 [] }), (1, { act := .load 3 0 0 [] }), (2, { act := .call [1] (.tuple #[.agg #[.int .i64 0, .int .i64 0], .bool false]) }), (6, { act := .new .var, key := some 4 }), (7, { act := .store 0 0 [], key := some 4 })] [2, 3, 8] [1, 2, 3] (fun fr2 => [(fr1 0).x = (fr1 0).x, (fr1 1).x = (fr1 1).x, CallOK Try.prog 32 #[.agg #[.int .i64 0, .int .i64 0, .int .i64 0, .slice none 0 0, .slice none 0 0, .slice none 0 0], .agg #[.int .i64 0, .int .i64 2, .int .i64 2, .slice none 0 0, .slice none 0 0, .slice a1_5_o 1 a1_5_c]] (.tuple #[.agg #[.int .i64 0, .int .i64 0], .bool false]) [some (.rd a1_5_o 4 ([[.string (ByteArray.mk #[97]), .int .i64 1, .int .i64 1, .int .u32 2839306131]] : List (List Value)))], (fr2 6).x = (fr2 6).x, ((.agg #[.int .i64 0, .int .i64 0]) : Value).cells.toList.all Value.oneCell' = true]) (fun fr2 => by kernel_rfl) (fun fr2 => ⟨rfl, rfl, (by have h1 := w_missing_Common F a1_5_o a1_5_c e4; exact h1.ok ⟨(.inl ⟨.rd a1_5_o 4 ([[.string (ByteArray.mk #[97]), .int .i64 1, .int .i64 1, .int .u32 2839306131]] : List (List Value)), .head _, Cov.refl _⟩), trivial⟩), rfl, rfl, trivial⟩)) ?_
  intro fr2
  refine GS.seq ?_
  refine GS.region (env' := fun _ => [(2, .pointer (some ⟨(fr1 0).x, 0, none⟩)), (3, .pointer (some ⟨(fr1 1).x, 0, none⟩)), (24, .bool true)]) (mem' := fun _ => [(1, .rd a1_5_o 4 ([[.string (ByteArray.mk #[97]), .int .i64 1, .int .i64 1, .int .u32 2839306131]] : List (List Value))), (2, .cells ((fr1 0).x) 37 [.int .i64 0, .int .i64 0, .int .i64 0, .slice none 0 0, .slice none 0 0, .slice none 0 0]), (3, .cells ((fr1 1).x) 37 [.int .i64 0, .int .i64 2, .int .i64 2, .slice none 0 0, .slice none 0 0, .slice a1_5_o 1 a1_5_c])]) (RunsTo.mk [] [2, 3, 24] [1, 2, 3] (fun _ => []) (fun _ => by kernel_rfl) (fun _ => trivial)) ?_
  intro _
  refine GS.cond (t := true) rfl rfl (fun _ => ?_) (fun hf => by cases hf)
  refine GS.seq ?_
  refine GS.region (env' := fun _ => [(4, .slice none 0 0), (5, .slice none 0 0), (6, .bool false)]) (mem' := fun _ => []) (RunsTo.mk [] [4, 5, 6] [] (fun _ => []) (fun _ => by kernel_rfl) (fun _ => trivial)) ?_
  intro _
  have hy := Option.some.inj hm
  subst hy
  refine GS.ret (fn := Try.f25) [0, 0, 0] [.slice none 0 0, .slice none 0 0, .bool false] [] rfl Try.func25 (by kernel_rfl) trivial (fun w' hs => ?_)
  exact ⟨(), rfl, hs.turnedG (ks := []) rfl rfl⟩

theorem w_pglog_Find (F : Nat) {y : Unit} (hm : m_pglog_Find F = some y) : CallG Try.prog 34 #[.agg #[.int .i64 0, .int .i64 0, .int .i64 0, .slice none 0 0, .slice none 0 0, .slice none 0 0], .string (ByteArray.mk #[97])] (X := Unit) (fun (_ : Unit) => .tuple #[.agg #[.string (ByteArray.mk #[]), .int .i64 0, .int .i64 0, .int .u32 0], .bool false]) [] [] (fun (_ : Unit) => []) := by
  intro w hg
  rw [m_pglog_Find] at hm
  refine GS.start (S := mayT [] []) (mem := []) Try.func34 rfl Try.ntmps34 (Nat.le_of_ble_eq_true rfl) (hg.start rfl) ?_
  refine GS.conv (env' := [(0, .agg #[.int .i64 0, .int .i64 0, .int .i64 0, .slice none 0 0, .slice none 0 0, .slice none 0 0]), (1, .string (ByteArray.mk #[97]))]) rfl rfl ?_
  refine GS.seq ?_
  refine GS.region (env' := fun fr1 => [(1, .string (ByteArray.mk #[97])), (2, .pointer (some ⟨(fr1 0).x, 0, none⟩)), (4, .pointer (some ⟨(fr1 1).x, 0, none⟩))]) (mem' := fun fr1 => [(1, .cells ((fr1 0).x) 37 [.int .i64 0, .int .i64 0, .int .i64 0, .slice none 0 0, .slice none 0 0, .slice none 0 0]), (2, .cells ((fr1 1).x) 65 [.string (ByteArray.mk #[]), .int .i64 0, .int .i64 0, .int .u32 0])]) (RunsTo.mk [(0, { act := .new .var, key := some 1 }), (1, { act := .new .var, key := some 2 })] [1, 2, 4] [1, 2] (fun fr1 => []) (fun fr1 => by kernel_rfl) (fun fr1 => trivial)) ?_
  intro fr1
  refine GS.seq ?_
  refine GS.seq ?_
  refine GS.region (env' := fun _ => [(1, .string (ByteArray.mk #[97])), (4, .pointer (some ⟨(fr1 1).x, 0, none⟩)), (9, .slice none 0 0), (10, .int .i64 0), (11, .int .i64 0)]) (mem' := fun _ => [(2, .cells ((fr1 1).x) 65 [.string (ByteArray.mk #[]), .int .i64 0, .int .i64 0, .int .u32 0])]) (RunsTo.mk [(1, { act := .load 1 0 0 [] })] [1, 4, 9, 10, 11] [2] (fun _ => [(fr1 0).x = (fr1 0).x]) (fun _ => by kernel_rfl) (fun _ => ⟨rfl, trivial⟩)) ?_
  intro _
  refine GS.block ?_
  refine GS.loop ?_
  refine GS.seq ?_
  refine GS.region (env' := fun _ => [(1, .string (ByteArray.mk #[97])), (4, .pointer (some ⟨(fr1 1).x, 0, none⟩)), (9, .slice none 0 0), (10, .int .i64 0), (11, .int .i64 0), (12, .bool false)]) (mem' := fun _ => [(2, .cells ((fr1 1).x) 65 [.string (ByteArray.mk #[]), .int .i64 0, .int .i64 0, .int .u32 0])]) (RunsTo.mk [] [1, 4, 9, 10, 11, 12] [2] (fun _ => []) (fun _ => by kernel_rfl) (fun _ => trivial)) ?_
  intro _
  refine GS.seq ?_
  refine GS.cond (t := false) rfl rfl (fun hf => by cases hf) (fun _ => ?_)
  refine GS.exit rfl ?_
  refine GS.seq ?_
  refine GS.region (env' := fun _ => [(4, .pointer (some ⟨(fr1 1).x, 0, none⟩)), (5, .bool false)]) (mem' := fun _ => [(2, .cells ((fr1 1).x) 65 [.string (ByteArray.mk #[]), .int .i64 0, .int .i64 0, .int .u32 0])]) (RunsTo.mk [(1, { act := .store 0 0 [], key := some 2 })] [4, 5] [2] (fun _ => [(fr1 1).x = (fr1 1).x, ((.agg #[.string (ByteArray.mk #[]), .int .i64 0, .int .i64 0, .int .u32 0]) : Value).cells.toList.all Value.oneCell' = true]) (fun _ => by kernel_rfl) (fun _ => ⟨rfl, rfl, trivial⟩)) ?_
  intro _
  have hy := Option.some.inj hm
  subst hy
  refine GS.ret (fn := Try.f34) [2, 0] [.agg #[.string (ByteArray.mk #[]), .int .i64 0, .int .i64 0, .int .u32 0], .bool false] [(fr1 1).x = (fr1 1).x] rfl Try.func34 (by kernel_rfl) ⟨rfl, trivial⟩ (fun w' hs => ?_)
  exact ⟨(), rfl, hs.turnedG (ks := []) rfl rfl⟩

theorem w_recovery_catalogues (F : Nat) (a1_5_o : Option Addr) (a1_5_c : Nat) {y : Unit} (hm : m_recovery_catalogues F = some y) : CallG Try.prog 26 #[.agg #[.int .i64 0, .int .i64 0, .int .i64 0, .slice none 0 0, .slice none 0 0, .slice none 0 0], .agg #[.int .i64 0, .int .i64 2, .int .i64 2, .slice none 0 0, .slice none 0 0, .slice a1_5_o 1 a1_5_c]] (X := Option Addr × Nat) (fun ⟨x0, x1⟩ => .tuple #[.slice x0 1 x1, .slice none 0 0]) [] [.rd a1_5_o 4 ([[.string (ByteArray.mk #[97]), .int .i64 1, .int .i64 1, .int .u32 2839306131]] : List (List Value))] (fun ⟨x0, x1⟩ => [.osl x0 x1 65 4 ([[.string (ByteArray.mk #[97]), .int .i64 1, .int .i64 1, .int .u32 2839306131]] : List (List Value))]) := by
  intro w hg
  rw [m_recovery_catalogues] at hm
  refine GS.start (S := mayT [] [.rd a1_5_o 4 ([[.string (ByteArray.mk #[97]), .int .i64 1, .int .i64 1, .int .u32 2839306131]] : List (List Value))]) (mem := [(1, .rd a1_5_o 4 ([[.string (ByteArray.mk #[97]), .int .i64 1, .int .i64 1, .int .u32 2839306131]] : List (List Value)))]) Try.func26 rfl Try.ntmps26 (Nat.le_of_ble_eq_true rfl) (hg.start rfl) ?_
  refine GS.conv (env' := [(0, .agg #[.int .i64 0, .int .i64 0, .int .i64 0, .slice none 0 0, .slice none 0 0, .slice none 0 0]), (1, .agg #[.int .i64 0, .int .i64 2, .int .i64 2, .slice none 0 0, .slice none 0 0, .slice a1_5_o 1 a1_5_c])]) rfl rfl ?_
  refine GS.seq ?_
  refine GS.region (env' := fun fr1 => [(2, .pointer (some ⟨(fr1 0).x, 0, none⟩)), (3, .pointer (some ⟨(fr1 1).x, 0, none⟩))]) (mem' := fun fr1 => [(1, .rd a1_5_o 4 ([[.string (ByteArray.mk #[97]), .int .i64 1, .int .i64 1, .int .u32 2839306131]] : List (List Value))), (2, .cells ((fr1 0).x) 37 [.int .i64 0, .int .i64 0, .int .i64 0, .slice none 0 0, .slice none 0 0, .slice none 0 0]), (3, .cells ((fr1 1).x) 37 [.int .i64 0, .int .i64 2, .int .i64 2, .slice none 0 0, .slice none 0 0, .slice a1_5_o 1 a1_5_c])]) (RunsTo.mk [(0, { act := .new .var, key := some 2 }), (1, { act := .new .var, key := some 3 })] [2, 3] [1, 2, 3] (fun fr1 => []) (fun fr1 => by kernel_rfl) (fun fr1 => trivial)) ?_
  intro fr1
  refine GS.seq ?_
  refine GS.region (env' := fun _ => [(2, .pointer (some ⟨(fr1 0).x, 0, none⟩)), (3, .pointer (some ⟨(fr1 1).x, 0, none⟩)), (6, .slice none 0 0)]) (mem' := fun _ => [(1, .rd a1_5_o 4 ([[.string (ByteArray.mk #[97]), .int .i64 1, .int .i64 1, .int .u32 2839306131]] : List (List Value))), (2, .cells ((fr1 0).x) 37 [.int .i64 0, .int .i64 0, .int .i64 0, .slice none 0 0, .slice none 0 0, .slice none 0 0]), (3, .cells ((fr1 1).x) 37 [.int .i64 0, .int .i64 2, .int .i64 2, .slice none 0 0, .slice none 0 0, .slice a1_5_o 1 a1_5_c])]) (RunsTo.mk [] [2, 3, 6] [1, 2, 3] (fun _ => []) (fun _ => by kernel_rfl) (fun _ => trivial)) ?_
  intro _
  refine GS.seq ?_
  refine GS.region (env' := fun _ => [(2, .pointer (some ⟨(fr1 0).x, 0, none⟩)), (3, .pointer (some ⟨(fr1 1).x, 0, none⟩)), (6, .slice none 0 0), (7, .slice none 0 0)]) (mem' := fun _ => [(1, .rd a1_5_o 4 ([[.string (ByteArray.mk #[97]), .int .i64 1, .int .i64 1, .int .u32 2839306131]] : List (List Value))), (2, .cells ((fr1 0).x) 37 [.int .i64 0, .int .i64 0, .int .i64 0, .slice none 0 0, .slice none 0 0, .slice none 0 0]), (3, .cells ((fr1 1).x) 37 [.int .i64 0, .int .i64 2, .int .i64 2, .slice none 0 0, .slice none 0 0, .slice a1_5_o 1 a1_5_c])]) (RunsTo.mk [] [2, 3, 6, 7] [1, 2, 3] (fun _ => []) (fun _ => by kernel_rfl) (fun _ => trivial)) ?_
  intro _
  refine GS.seq ?_
  refine GS.seq ?_
  refine GS.region (env' := fun _ => [(2, .pointer (some ⟨(fr1 0).x, 0, none⟩)), (3, .pointer (some ⟨(fr1 1).x, 0, none⟩)), (6, .slice none 0 0), (7, .slice none 0 0), (17, .slice a1_5_o 1 a1_5_c), (18, .int .i64 1), (19, .int .i64 0)]) (mem' := fun _ => [(1, .rd a1_5_o 4 ([[.string (ByteArray.mk #[97]), .int .i64 1, .int .i64 1, .int .u32 2839306131]] : List (List Value))), (2, .cells ((fr1 0).x) 37 [.int .i64 0, .int .i64 0, .int .i64 0, .slice none 0 0, .slice none 0 0, .slice none 0 0]), (3, .cells ((fr1 1).x) 37 [.int .i64 0, .int .i64 2, .int .i64 2, .slice none 0 0, .slice none 0 0, .slice a1_5_o 1 a1_5_c])]) (RunsTo.mk [(1, { act := .load 3 0 0 [] })] [2, 3, 6, 7, 17, 18, 19] [1, 2, 3] (fun _ => [(fr1 1).x = (fr1 1).x]) (fun _ => by kernel_rfl) (fun _ => ⟨rfl, trivial⟩)) ?_
  intro _
  refine GS.block ?_
  refine GS.loop ?_
  refine GS.seq ?_
  refine GS.region (env' := fun _ => [(2, .pointer (some ⟨(fr1 0).x, 0, none⟩)), (3, .pointer (some ⟨(fr1 1).x, 0, none⟩)), (6, .slice none 0 0), (7, .slice none 0 0), (17, .slice a1_5_o 1 a1_5_c), (18, .int .i64 1), (19, .int .i64 0), (20, .bool true)]) (mem' := fun _ => [(1, .rd a1_5_o 4 ([[.string (ByteArray.mk #[97]), .int .i64 1, .int .i64 1, .int .u32 2839306131]] : List (List Value))), (2, .cells ((fr1 0).x) 37 [.int .i64 0, .int .i64 0, .int .i64 0, .slice none 0 0, .slice none 0 0, .slice none 0 0]), (3, .cells ((fr1 1).x) 37 [.int .i64 0, .int .i64 2, .int .i64 2, .slice none 0 0, .slice none 0 0, .slice a1_5_o 1 a1_5_c])]) (RunsTo.mk [] [2, 3, 6, 7, 17, 18, 19, 20] [1, 2, 3] (fun _ => []) (fun _ => by kernel_rfl) (fun _ => trivial)) ?_
  intro _
  refine GS.seq ?_
  refine GS.cond (t := true) rfl rfl (fun _ => ?_) (fun hf => by cases hf)
  refine GS.skip ?_
  refine GS.seq ?_
  refine GS.block ?_
  refine GS.seq ?_
  refine GS.region (env' := fun fr6 => [(2, .pointer (some ⟨(fr1 0).x, 0, none⟩)), (3, .pointer (some ⟨(fr1 1).x, 0, none⟩)), (6, .slice none 0 0), (7, .slice none 0 0), (9, .pointer (some ⟨(fr6 2).x, 0, none⟩)), (17, .slice a1_5_o 1 a1_5_c), (18, .int .i64 1), (19, .int .i64 0)]) (mem' := fun fr6 => [(1, .rd a1_5_o 4 ([[.string (ByteArray.mk #[97]), .int .i64 1, .int .i64 1, .int .u32 2839306131]] : List (List Value))), (2, .cells ((fr1 0).x) 37 [.int .i64 0, .int .i64 0, .int .i64 0, .slice none 0 0, .slice none 0 0, .slice none 0 0]), (3, .cells ((fr1 1).x) 37 [.int .i64 0, .int .i64 2, .int .i64 2, .slice none 0 0, .slice none 0 0, .slice a1_5_o 1 a1_5_c]), (4, .cells ((fr6 2).x) 65 [.string (ByteArray.mk #[97]), .int .i64 1, .int .i64 1, .int .u32 2839306131])]) (RunsTo.mk [(0, { act := .idx 1 0 }), (1, { act := .load 1 0 0 [.string (ByteArray.mk #[97]), .int .i64 1, .int .i64 1, .int .u32 2839306131] }), (2, { act := .new .var, key := some 4 }), (3, { act := .store 0 0 [], key := some 4 })] [2, 3, 6, 7, 9, 17, 18, 19] [1, 2, 3, 4] (fun fr6 => [a1_5_o = a1_5_o, 1 = ([[.string (ByteArray.mk #[97]), .int .i64 1, .int .i64 1, .int .u32 2839306131]] : List (List Value)).length, (0 : Int) = ((0 : Nat) : Int), 0 < 1, blk a1_5_o = blk a1_5_o, offs a1_5_o + 0 * 4 = offs a1_5_o + (0 * 4 + 0), ([[.string (ByteArray.mk #[97]), .int .i64 1, .int .i64 1, .int .u32 2839306131]] : List (List Value))[0]? = some [.string (ByteArray.mk #[97]), .int .i64 1, .int .i64 1, .int .u32 2839306131], (fr6 2).x = (fr6 2).x, ((.agg #[.string (ByteArray.mk #[97]), .int .i64 1, .int .i64 1, .int .u32 2839306131]) : Value).cells.toList.all Value.oneCell' = true]) (fun fr6 => by kernel_rfl) (fun fr6 => ⟨rfl, rfl, rfl, (Nat.le_of_ble_eq_true rfl), rfl, rfl, rfl, rfl, rfl, trivial⟩)) ?_
  intro fr6
  refine GS.seq ?_
  refine bnd_elim hm (fun y8 e9 hm => ?_)
  refine GS.region (env' := fun fr7 => [(2, .pointer (some ⟨(fr1 0).x, 0, none⟩)), (3, .pointer (some ⟨(fr1 1).x, 0, none⟩)), (6, .slice none 0 0), (7, .slice none 0 0), (9, .pointer (some ⟨(fr6 2).x, 0, none⟩)), (10, .pointer (some ⟨(fr7 7).x, 0, none⟩)), (11, .bool false), (17, .slice a1_5_o 1 a1_5_c), (18, .int .i64 1), (19, .int .i64 0)]) (mem' := fun fr7 => [(1, .rd a1_5_o 4 ([[.string (ByteArray.mk #[97]), .int .i64 1, .int .i64 1, .int .u32 2839306131]] : List (List Value))), (2, .cells ((fr1 0).x) 37 [.int .i64 0, .int .i64 0, .int .i64 0, .slice none 0 0, .slice none 0 0, .slice none 0 0]), (3, .cells ((fr1 1).x) 37 [.int .i64 0, .int .i64 2, .int .i64 2, .slice none 0 0, .slice none 0 0, .slice a1_5_o 1 a1_5_c]), (4, .cells ((fr6 2).x) 65 [.string (ByteArray.mk #[97]), .int .i64 1, .int .i64 1, .int .u32 2839306131]), (5, .cells ((fr7 7).x) 65 [.string (ByteArray.mk #[]), .int .i64 0, .int .i64 0, .int .u32 0])]) (RunsTo.mk [(0, { act := .load 2 0 0 [] }), (2, { act := .load 4 0 0 [] }), (3, { act := .call [] (.tuple #[.agg #[.string (ByteArray.mk #[]), .int .i64 0, .int .i64 0, .int .u32 0], .bool false]) }), (7, { act := .new .var, key := some 5 }), (8, { act := .store 0 0 [], key := some 5 })] [2, 3, 6, 7, 9, 10, 11, 17, 18, 19] [1, 2, 3, 4, 5] (fun fr7 => [(fr1 0).x = (fr1 0).x, (fr6 2).x = (fr6 2).x, CallOK Try.prog 34 #[.agg #[.int .i64 0, .int .i64 0, .int .i64 0, .slice none 0 0, .slice none 0 0, .slice none 0 0], .string (ByteArray.mk #[97])] (.tuple #[.agg #[.string (ByteArray.mk #[]), .int .i64 0, .int .i64 0, .int .u32 0], .bool false]) [], (fr7 7).x = (fr7 7).x, ((.agg #[.string (ByteArray.mk #[]), .int .i64 0, .int .i64 0, .int .u32 0]) : Value).cells.toList.all Value.oneCell' = true]) (fun fr7 => by kernel_rfl) (fun fr7 => ⟨rfl, rfl, (by have h1 := w_pglog_Find F  e9; exact h1.ok trivial), rfl, rfl, trivial⟩)) ?_
  intro fr7
  refine GS.seq ?_
  refine GS.region (env' := fun _ => [(2, .pointer (some ⟨(fr1 0).x, 0, none⟩)), (3, .pointer (some ⟨(fr1 1).x, 0, none⟩)), (6, .slice none 0 0), (7, .slice none 0 0), (9, .pointer (some ⟨(fr6 2).x, 0, none⟩)), (17, .slice a1_5_o 1 a1_5_c), (18, .int .i64 1), (19, .int .i64 0), (36, .bool true)]) (mem' := fun _ => [(1, .rd a1_5_o 4 ([[.string (ByteArray.mk #[97]), .int .i64 1, .int .i64 1, .int .u32 2839306131]] : List (List Value))), (2, .cells ((fr1 0).x) 37 [.int .i64 0, .int .i64 0, .int .i64 0, .slice none 0 0, .slice none 0 0, .slice none 0 0]), (3, .cells ((fr1 1).x) 37 [.int .i64 0, .int .i64 2, .int .i64 2, .slice none 0 0, .slice none 0 0, .slice a1_5_o 1 a1_5_c]), (4, .cells ((fr6 2).x) 65 [.string (ByteArray.mk #[97]), .int .i64 1, .int .i64 1, .int .u32 2839306131])]) (RunsTo.mk [] [2, 3, 6, 7, 9, 17, 18, 19, 36] [1, 2, 3, 4] (fun _ => []) (fun _ => by kernel_rfl) (fun _ => trivial)) ?_
  intro _
  refine GS.cond (t := true) rfl rfl (fun _ => ?_) (fun hf => by cases hf)
  refine GS.region (env' := fun fr11 => [(2, .pointer (some ⟨(fr1 0).x, 0, none⟩)), (3, .pointer (some ⟨(fr1 1).x, 0, none⟩)), (6, .slice ((fr11 3).ob) 1 ((fr11 3).cap)), (7, .slice none 0 0), (17, .slice a1_5_o 1 a1_5_c), (18, .int .i64 1), (19, .int .i64 0)]) (mem' := fun fr11 => [(1, .rd a1_5_o 4 ([[.string (ByteArray.mk #[97]), .int .i64 1, .int .i64 1, .int .u32 2839306131]] : List (List Value))), (2, .cells ((fr1 0).x) 37 [.int .i64 0, .int .i64 0, .int .i64 0, .slice none 0 0, .slice none 0 0, .slice none 0 0]), (3, .cells ((fr1 1).x) 37 [.int .i64 0, .int .i64 2, .int .i64 2, .slice none 0 0, .slice none 0 0, .slice a1_5_o 1 a1_5_c]), (7, .osl ((fr11 3).ob) ((fr11 3).cap) 65 4 ([[.string (ByteArray.mk #[97]), .int .i64 1, .int .i64 1, .int .u32 2839306131]] : List (List Value)))]) (RunsTo.mk [(1, { act := .load 4 0 0 [] }), (2, { act := .new (.row 1 4), key := some 6 }), (3, { act := .app (some 6), key := some 7, spf := some (fun f => .slice (f.ob) 1 (f.cap)) })] [2, 3, 6, 7, 17, 18, 19] [1, 2, 3, 7] (fun fr11 => [(fr6 2).x = (fr6 2).x, (some (Addr.mk (fr11 2).x 0 none)) = (some (Addr.mk (fr11 2).x 0 none)), 1 = ([[.string (ByteArray.mk #[97]), .int .i64 1, .int .i64 1, .int .u32 2839306131]] : List (List Value)).length, 0 = 0, 0 = 0, ([[.string (ByteArray.mk #[97]), .int .i64 1, .int .i64 1, .int .u32 2839306131]] : List (List Value)).length * (40 + 1) ≤ 70368744177664, ((.slice ((fr11 3).ob) (0 + ([[.string (ByteArray.mk #[97]), .int .i64 1, .int .i64 1, .int .u32 2839306131]] : List (List Value)).length) ((fr11 3).cap)) : Value) = .slice ((fr11 3).ob) 1 ((fr11 3).cap)]) (fun fr11 => by kernel_rfl) (fun fr11 => ⟨rfl, rfl, rfl, rfl, rfl, (show 1 * (40 + 1) ≤ 70368744177664 by decide), rfl, trivial⟩)) ?_
  intro fr11
  refine GS.conv (mem' := [(1, .rd a1_5_o 4 ([[.string (ByteArray.mk #[97]), .int .i64 1, .int .i64 1, .int .u32 2839306131]] : List (List Value))), (2, .cells ((fr1 0).x) 37 [.int .i64 0, .int .i64 0, .int .i64 0, .slice none 0 0, .slice none 0 0, .slice none 0 0]), (3, .cells ((fr1 1).x) 37 [.int .i64 0, .int .i64 2, .int .i64 2, .slice none 0 0, .slice none 0 0, .slice a1_5_o 1 a1_5_c]), (7, .osl ((fr11 3).ob) ((fr11 3).cap) 65 4 ([[.string (ByteArray.mk #[97]), .int .i64 1, .int .i64 1, .int .u32 2839306131]] : List (List Value)))]) rfl (congrArg (fun rr : List (List Value) => ([(1, .rd a1_5_o 4 ([[.string (ByteArray.mk #[97]), .int .i64 1, .int .i64 1, .int .u32 2839306131]] : List (List Value))), (2, .cells ((fr1 0).x) 37 [.int .i64 0, .int .i64 0, .int .i64 0, .slice none 0 0, .slice none 0 0, .slice none 0 0]), (3, .cells ((fr1 1).x) 37 [.int .i64 0, .int .i64 2, .int .i64 2, .slice none 0 0, .slice none 0 0, .slice a1_5_o 1 a1_5_c]), (7, .osl ((fr11 3).ob) ((fr11 3).cap) 65 4 rr)] : List (Nat × Ent))) (show ([[.string (ByteArray.mk #[97]), .int .i64 1, .int .i64 1, .int .u32 2839306131]] : List (List Value)) = ([[.string (ByteArray.mk #[97]), .int .i64 1, .int .i64 1, .int .u32 2839306131]] : List (List Value)) from rfl)) ?_
  refine GS.inBlock ?_
  refine GS.region (env' := fun _ => [(2, .pointer (some ⟨(fr1 0).x, 0, none⟩)), (3, .pointer (some ⟨(fr1 1).x, 0, none⟩)), (6, .slice ((fr11 3).ob) 1 ((fr11 3).cap)), (7, .slice none 0 0), (17, .slice a1_5_o 1 a1_5_c), (18, .int .i64 1), (19, .int .i64 1)]) (mem' := fun _ => [(1, .rd a1_5_o 4 ([[.string (ByteArray.mk #[97]), .int .i64 1, .int .i64 1, .int .u32 2839306131]] : List (List Value))), (2, .cells ((fr1 0).x) 37 [.int .i64 0, .int .i64 0, .int .i64 0, .slice none 0 0, .slice none 0 0, .slice none 0 0]), (3, .cells ((fr1 1).x) 37 [.int .i64 0, .int .i64 2, .int .i64 2, .slice none 0 0, .slice none 0 0, .slice a1_5_o 1 a1_5_c]), (7, .osl ((fr11 3).ob) ((fr11 3).cap) 65 4 ([[.string (ByteArray.mk #[97]), .int .i64 1, .int .i64 1, .int .u32 2839306131]] : List (List Value)))]) (RunsTo.mk [] [2, 3, 6, 7, 17, 18, 19] [1, 2, 3, 7] (fun _ => []) (fun _ => by kernel_rfl) (fun _ => trivial)) ?_
  intro _
  refine GS.inLoop ?_
  refine GS.seq ?_
  refine GS.region (env' := fun _ => [(2, .pointer (some ⟨(fr1 0).x, 0, none⟩)), (3, .pointer (some ⟨(fr1 1).x, 0, none⟩)), (6, .slice ((fr11 3).ob) 1 ((fr11 3).cap)), (7, .slice none 0 0), (17, .slice a1_5_o 1 a1_5_c), (18, .int .i64 1), (19, .int .i64 1), (20, .bool false)]) (mem' := fun _ => [(1, .rd a1_5_o 4 ([[.string (ByteArray.mk #[97]), .int .i64 1, .int .i64 1, .int .u32 2839306131]] : List (List Value))), (2, .cells ((fr1 0).x) 37 [.int .i64 0, .int .i64 0, .int .i64 0, .slice none 0 0, .slice none 0 0, .slice none 0 0]), (3, .cells ((fr1 1).x) 37 [.int .i64 0, .int .i64 2, .int .i64 2, .slice none 0 0, .slice none 0 0, .slice a1_5_o 1 a1_5_c]), (7, .osl ((fr11 3).ob) ((fr11 3).cap) 65 4 ([[.string (ByteArray.mk #[97]), .int .i64 1, .int .i64 1, .int .u32 2839306131]] : List (List Value)))]) (RunsTo.mk [] [2, 3, 6, 7, 17, 18, 19, 20] [1, 2, 3, 7] (fun _ => []) (fun _ => by kernel_rfl) (fun _ => trivial)) ?_
  intro _
  refine GS.seq ?_
  refine GS.cond (t := false) rfl rfl (fun hf => by cases hf) (fun _ => ?_)
  refine GS.exit rfl ?_
  refine GS.seq ?_
  refine GS.seq ?_
  refine GS.region (env' := fun _ => [(3, .pointer (some ⟨(fr1 1).x, 0, none⟩)), (6, .slice ((fr11 3).ob) 1 ((fr11 3).cap)), (7, .slice none 0 0), (43, .slice none 0 0), (44, .int .i64 0), (45, .int .i64 0)]) (mem' := fun _ => [(1, .rd a1_5_o 4 ([[.string (ByteArray.mk #[97]), .int .i64 1, .int .i64 1, .int .u32 2839306131]] : List (List Value))), (3, .cells ((fr1 1).x) 37 [.int .i64 0, .int .i64 2, .int .i64 2, .slice none 0 0, .slice none 0 0, .slice a1_5_o 1 a1_5_c]), (7, .osl ((fr11 3).ob) ((fr11 3).cap) 65 4 ([[.string (ByteArray.mk #[97]), .int .i64 1, .int .i64 1, .int .u32 2839306131]] : List (List Value)))]) (RunsTo.mk [(1, { act := .load 2 0 0 [] })] [3, 6, 7, 43, 44, 45] [1, 3, 7] (fun _ => [(fr1 0).x = (fr1 0).x]) (fun _ => by kernel_rfl) (fun _ => ⟨rfl, trivial⟩)) ?_
  intro _
  refine GS.block ?_
  refine GS.loop ?_
  refine GS.seq ?_
  refine GS.region (env' := fun _ => [(3, .pointer (some ⟨(fr1 1).x, 0, none⟩)), (6, .slice ((fr11 3).ob) 1 ((fr11 3).cap)), (7, .slice none 0 0), (43, .slice none 0 0), (44, .int .i64 0), (45, .int .i64 0), (46, .bool false)]) (mem' := fun _ => [(1, .rd a1_5_o 4 ([[.string (ByteArray.mk #[97]), .int .i64 1, .int .i64 1, .int .u32 2839306131]] : List (List Value))), (3, .cells ((fr1 1).x) 37 [.int .i64 0, .int .i64 2, .int .i64 2, .slice none 0 0, .slice none 0 0, .slice a1_5_o 1 a1_5_c]), (7, .osl ((fr11 3).ob) ((fr11 3).cap) 65 4 ([[.string (ByteArray.mk #[97]), .int .i64 1, .int .i64 1, .int .u32 2839306131]] : List (List Value)))]) (RunsTo.mk [] [3, 6, 7, 43, 44, 45, 46] [1, 3, 7] (fun _ => []) (fun _ => by kernel_rfl) (fun _ => trivial)) ?_
  intro _
  refine GS.seq ?_
  refine GS.cond (t := false) rfl rfl (fun hf => by cases hf) (fun _ => ?_)
  refine GS.exit rfl ?_
  refine GS.seq ?_
  refine GS.region (env' := fun _ => [(4, .slice ((fr11 3).ob) 1 ((fr11 3).cap)), (5, .slice none 0 0)]) (mem' := fun _ => [(7, .osl ((fr11 3).ob) ((fr11 3).cap) 65 4 ([[.string (ByteArray.mk #[97]), .int .i64 1, .int .i64 1, .int .u32 2839306131]] : List (List Value)))]) (RunsTo.mk [] [4, 5] [7] (fun _ => []) (fun _ => by kernel_rfl) (fun _ => trivial)) ?_
  intro _
  have hy := Option.some.inj hm
  subst hy
  refine GS.ret (fn := Try.f26) [0, 0] [.slice ((fr11 3).ob) 1 ((fr11 3).cap), .slice none 0 0] [] rfl Try.func26 (by kernel_rfl) trivial (fun w' hs => ?_)
  exact ⟨⟨(fr11 3).ob, (fr11 3).cap⟩, rfl, hs.turnedG (ks := [7]) rfl rfl⟩

end Go.Proofs.Ytmhejmkelhflmaa
