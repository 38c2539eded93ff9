/-
  CHAPTER 21: the functions do what their models say (1).
-/
import Derived.Test.YtcegkgbceogflaaM21
set_option linter.unusedVariables false
set_option linter.unusedSimpArgs false
set_option maxRecDepth 100000
namespace Go.Proofs.Ytcegkgbceogflaa
open Go Go.RowKit Sx

theorem w___scrub_Machine__is (F : Nat) {y : Unit} (hm : m___scrub_Machine__is F = some y) : CallG Try.prog 12 #[.pointer none] (X := Unit) (fun (_ : Unit) => .bool false) [] [] (fun (_ : Unit) => []) := by
  intro w hg
  rw [m___scrub_Machine__is] at hm
  refine GS.start (S := mayT [] []) (mem := []) Try.func12 rfl Try.ntmps12 (Nat.le_of_ble_eq_true rfl) (hg.start rfl) ?_
  refine GS.conv (env' := [(0, .pointer none)]) rfl rfl ?_
  refine GS.seq ?_
  refine GS.region (env' := fun _ => [(0, .pointer none)]) (mem' := fun _ => []) (RunsTo.mk [] [0] [] (fun _ => []) (fun _ => by kernel_rfl) (fun _ => trivial)) ?_
  intro _
  refine GS.seq ?_
  refine GS.region (env' := fun _ => [(2, .bool false)]) (mem' := fun _ => []) (RunsTo.mk [] [2] [] (fun _ => []) (fun _ => by kernel_rfl) (fun _ => trivial)) ?_
  intro _
  have hy := Option.some.inj hm
  subst hy
  refine GS.ret (fn := Try.f12) [0] [.bool false] [] rfl Try.func12 (by kernel_rfl) trivial (fun w' hs => ?_)
  exact ⟨(), rfl, hs.turnedG (ks := []) rfl rfl⟩

theorem w___scrub_Machine__Step (F : Nat) (a1_Kind : Int) (a1_From : S_api_Node) (a1_To : S_api_Node) (a1_Boot : Int) (a1_Epoch : Int) (a1_Pg : S_api_Pg) (a1_Client : Int) (a1_Number : Int) (a1_Ballot : Int) (a1_Slots_o : Option Addr) (a1_Slots_n : Nat) (a1_Slots_c : Nat) (a1_Incs_o : Option Addr) (a1_Incs_n : Nat) (a1_Incs_c : Nat) (a1_Changes_o : Option Addr) (a1_Changes_n : Nat) (a1_Changes_c : Nat) (a1_Info : S_api_Info) (a1_State_Les : Int) (a1_State_Tail : S_api_Version) (a1_State_Log_o : Option Addr) (a1_State_Log_c : Nat) (a1_State_Log : List S_api_Entry) (a1_State_Lasts_o : Option Addr) (a1_State_Lasts_c : Nat) (a1_State_Lasts : List S_api_Last) (a1_State_Items_o : Option Addr) (a1_State_Items_c : Nat) (a1_State_Items : List S_api_Item) (a1_Entry : S_api_Entry) (a1_Object_Name : ByteArray) (a1_Object_Version : S_api_Version) (a1_Object_Data_o : Option Addr) (a1_Object_Data_c : Nat) (a1_Object_Data : List UInt8) (a1_Op_Kind : Int) (a1_Op_Name : ByteArray) (a1_Op_Data_o : Option Addr) (a1_Op_Data_c : Nat) (a1_Op_Data : List UInt8) (a1_Op_Expect : S_api_Version) (a1_Items_o : Option Addr) (a1_Items_c : Nat) (a1_Items : List S_api_Item) (a1_Names_o : Option Addr) (a1_Names_c : Nat) (a1_Names : List ByteArray) (a1_Errno : Int) {y : Nat} (hm : m___scrub_Machine__Step F a1_Kind a1_From a1_To a1_Boot a1_Epoch a1_Pg a1_Client a1_Number a1_Ballot a1_Slots_n a1_Incs_n a1_Changes_n a1_Info a1_State_Les a1_State_Tail a1_State_Log a1_State_Lasts a1_State_Items a1_Entry a1_Object_Name a1_Object_Version a1_Object_Data a1_Op_Kind a1_Op_Name a1_Op_Data a1_Op_Expect a1_Items a1_Names a1_Errno = some y) : CallG Try.prog 5 #[.pointer none, .agg #[.int .i64 a1_Kind, .int .i64 a1_From.Kind, .int .i64 a1_From.Id, .int .i64 a1_To.Kind, .int .i64 a1_To.Id, .int .i64 a1_Boot, .int .i64 a1_Epoch, .int .i64 a1_Pg.Pool, .int .i64 a1_Pg.Seed, .int .i64 a1_Client, .int .i64 a1_Number, .int .i64 a1_Ballot, .slice a1_Slots_o a1_Slots_n a1_Slots_c, .slice a1_Incs_o a1_Incs_n a1_Incs_c, .slice a1_Changes_o a1_Changes_n a1_Changes_c, .int .i64 a1_Info.Les, .int .i64 a1_Info.Head.Epoch, .int .i64 a1_Info.Head.N, .int .i64 a1_Info.Tail.Epoch, .int .i64 a1_Info.Tail.N, .int .i64 a1_Info.Born, .int .i64 a1_State_Les, .int .i64 a1_State_Tail.Epoch, .int .i64 a1_State_Tail.N, .slice a1_State_Log_o a1_State_Log.length a1_State_Log_c, .slice a1_State_Lasts_o a1_State_Lasts.length a1_State_Lasts_c, .slice a1_State_Items_o a1_State_Items.length a1_State_Items_c, .int .i64 a1_Entry.Version.Epoch, .int .i64 a1_Entry.Version.N, .bool a1_Entry.Remove, .int .i64 a1_Entry.Errno, .string a1_Entry.Name, .int .i64 a1_Entry.Client, .int .i64 a1_Entry.Number, .string a1_Object_Name, .int .i64 a1_Object_Version.Epoch, .int .i64 a1_Object_Version.N, .slice a1_Object_Data_o a1_Object_Data.length a1_Object_Data_c, .int .i64 a1_Op_Kind, .string a1_Op_Name, .slice a1_Op_Data_o a1_Op_Data.length a1_Op_Data_c, .int .i64 a1_Op_Expect.Epoch, .int .i64 a1_Op_Expect.N, .slice a1_Items_o a1_Items.length a1_Items_c, .slice a1_Names_o a1_Names.length a1_Names_c, .int .i64 a1_Errno]] (X := Option Addr × Nat) (fun ⟨x0, x1⟩ => .slice x0 y x1) [] [r40 a1_State_Log_o a1_State_Log, r164 a1_State_Lasts_o a1_State_Lasts, r75 a1_State_Items_o a1_State_Items, r5 a1_Object_Data_o a1_Object_Data, r5 a1_Op_Data_o a1_Op_Data, r75 a1_Items_o a1_Items, r9 a1_Names_o a1_Names] (fun ⟨x0, x1⟩ => []) := by
  intro w hg
  rw [m___scrub_Machine__Step] at hm
  refine GS.start (S := mayT [] [r40 a1_State_Log_o a1_State_Log, r164 a1_State_Lasts_o a1_State_Lasts, r75 a1_State_Items_o a1_State_Items, r5 a1_Object_Data_o a1_Object_Data, r5 a1_Op_Data_o a1_Op_Data, r75 a1_Items_o a1_Items, r9 a1_Names_o a1_Names]) (mem := [(1, r40 a1_State_Log_o a1_State_Log), (2, r164 a1_State_Lasts_o a1_State_Lasts), (3, r75 a1_State_Items_o a1_State_Items), (4, r5 a1_Object_Data_o a1_Object_Data), (5, r5 a1_Op_Data_o a1_Op_Data), (6, r75 a1_Items_o a1_Items), (7, r9 a1_Names_o a1_Names)]) Try.func5 rfl Try.ntmps5 (Nat.le_of_ble_eq_true rfl) (hg.start rfl) ?_
  refine GS.conv (env' := [(0, .pointer none), (1, .agg #[.int .i64 a1_Kind, .int .i64 a1_From.Kind, .int .i64 a1_From.Id, .int .i64 a1_To.Kind, .int .i64 a1_To.Id, .int .i64 a1_Boot, .int .i64 a1_Epoch, .int .i64 a1_Pg.Pool, .int .i64 a1_Pg.Seed, .int .i64 a1_Client, .int .i64 a1_Number, .int .i64 a1_Ballot, .slice a1_Slots_o a1_Slots_n a1_Slots_c, .slice a1_Incs_o a1_Incs_n a1_Incs_c, .slice a1_Changes_o a1_Changes_n a1_Changes_c, .int .i64 a1_Info.Les, .int .i64 a1_Info.Head.Epoch, .int .i64 a1_Info.Head.N, .int .i64 a1_Info.Tail.Epoch, .int .i64 a1_Info.Tail.N, .int .i64 a1_Info.Born, .int .i64 a1_State_Les, .int .i64 a1_State_Tail.Epoch, .int .i64 a1_State_Tail.N, .slice a1_State_Log_o a1_State_Log.length a1_State_Log_c, .slice a1_State_Lasts_o a1_State_Lasts.length a1_State_Lasts_c, .slice a1_State_Items_o a1_State_Items.length a1_State_Items_c, .int .i64 a1_Entry.Version.Epoch, .int .i64 a1_Entry.Version.N, .bool a1_Entry.Remove, .int .i64 a1_Entry.Errno, .string a1_Entry.Name, .int .i64 a1_Entry.Client, .int .i64 a1_Entry.Number, .string a1_Object_Name, .int .i64 a1_Object_Version.Epoch, .int .i64 a1_Object_Version.N, .slice a1_Object_Data_o a1_Object_Data.length a1_Object_Data_c, .int .i64 a1_Op_Kind, .string a1_Op_Name, .slice a1_Op_Data_o a1_Op_Data.length a1_Op_Data_c, .int .i64 a1_Op_Expect.Epoch, .int .i64 a1_Op_Expect.N, .slice a1_Items_o a1_Items.length a1_Items_c, .slice a1_Names_o a1_Names.length a1_Names_c, .int .i64 a1_Errno])]) rfl rfl ?_
  refine GS.seq ?_
  refine GS.region (env' := fun fr1 => [(0, .pointer none), (3, .pointer (some ⟨(fr1 0).x, 0, none⟩))]) (mem' := fun fr1 => [(1, r40 a1_State_Log_o a1_State_Log), (2, r164 a1_State_Lasts_o a1_State_Lasts), (3, r75 a1_State_Items_o a1_State_Items), (4, r5 a1_Object_Data_o a1_Object_Data), (5, r5 a1_Op_Data_o a1_Op_Data), (6, r75 a1_Items_o a1_Items), (7, r9 a1_Names_o a1_Names), (8, .cells ((fr1 0).x) 48 [.int .i64 a1_Kind, .int .i64 a1_From.Kind, .int .i64 a1_From.Id, .int .i64 a1_To.Kind, .int .i64 a1_To.Id, .int .i64 a1_Boot, .int .i64 a1_Epoch, .int .i64 a1_Pg.Pool, .int .i64 a1_Pg.Seed, .int .i64 a1_Client, .int .i64 a1_Number, .int .i64 a1_Ballot, .slice a1_Slots_o a1_Slots_n a1_Slots_c, .slice a1_Incs_o a1_Incs_n a1_Incs_c, .slice a1_Changes_o a1_Changes_n a1_Changes_c, .int .i64 a1_Info.Les, .int .i64 a1_Info.Head.Epoch, .int .i64 a1_Info.Head.N, .int .i64 a1_Info.Tail.Epoch, .int .i64 a1_Info.Tail.N, .int .i64 a1_Info.Born, .int .i64 a1_State_Les, .int .i64 a1_State_Tail.Epoch, .int .i64 a1_State_Tail.N, .slice a1_State_Log_o a1_State_Log.length a1_State_Log_c, .slice a1_State_Lasts_o a1_State_Lasts.length a1_State_Lasts_c, .slice a1_State_Items_o a1_State_Items.length a1_State_Items_c, .int .i64 a1_Entry.Version.Epoch, .int .i64 a1_Entry.Version.N, .bool a1_Entry.Remove, .int .i64 a1_Entry.Errno, .string a1_Entry.Name, .int .i64 a1_Entry.Client, .int .i64 a1_Entry.Number, .string a1_Object_Name, .int .i64 a1_Object_Version.Epoch, .int .i64 a1_Object_Version.N, .slice a1_Object_Data_o a1_Object_Data.length a1_Object_Data_c, .int .i64 a1_Op_Kind, .string a1_Op_Name, .slice a1_Op_Data_o a1_Op_Data.length a1_Op_Data_c, .int .i64 a1_Op_Expect.Epoch, .int .i64 a1_Op_Expect.N, .slice a1_Items_o a1_Items.length a1_Items_c, .slice a1_Names_o a1_Names.length a1_Names_c, .int .i64 a1_Errno])]) (RunsTo.mk [(0, { act := .new .var, key := some 8 })] [0, 3] [1, 2, 3, 4, 5, 6, 7, 8] (fun fr1 => []) (fun fr1 => by kernel_rfl) (fun fr1 => trivial)) ?_
  intro fr1
  refine GS.seq ?_
  refine GS.seq ?_
  refine bnd_elim hm (fun y3 e4 hm => ?_)
  refine GS.region (env' := fun _ => [(0, .pointer none), (3, .pointer (some ⟨(fr1 0).x, 0, none⟩)), (49, .bool true)]) (mem' := fun _ => [(1, r40 a1_State_Log_o a1_State_Log), (2, r164 a1_State_Lasts_o a1_State_Lasts), (3, r75 a1_State_Items_o a1_State_Items), (4, r5 a1_Object_Data_o a1_Object_Data), (5, r5 a1_Op_Data_o a1_Op_Data), (6, r75 a1_Items_o a1_Items), (7, r9 a1_Names_o a1_Names), (8, .cells ((fr1 0).x) 48 [.int .i64 a1_Kind, .int .i64 a1_From.Kind, .int .i64 a1_From.Id, .int .i64 a1_To.Kind, .int .i64 a1_To.Id, .int .i64 a1_Boot, .int .i64 a1_Epoch, .int .i64 a1_Pg.Pool, .int .i64 a1_Pg.Seed, .int .i64 a1_Client, .int .i64 a1_Number, .int .i64 a1_Ballot, .slice a1_Slots_o a1_Slots_n a1_Slots_c, .slice a1_Incs_o a1_Incs_n a1_Incs_c, .slice a1_Changes_o a1_Changes_n a1_Changes_c, .int .i64 a1_Info.Les, .int .i64 a1_Info.Head.Epoch, .int .i64 a1_Info.Head.N, .int .i64 a1_Info.Tail.Epoch, .int .i64 a1_Info.Tail.N, .int .i64 a1_Info.Born, .int .i64 a1_State_Les, .int .i64 a1_State_Tail.Epoch, .int .i64 a1_State_Tail.N, .slice a1_State_Log_o a1_State_Log.length a1_State_Log_c, .slice a1_State_Lasts_o a1_State_Lasts.length a1_State_Lasts_c, .slice a1_State_Items_o a1_State_Items.length a1_State_Items_c, .int .i64 a1_Entry.Version.Epoch, .int .i64 a1_Entry.Version.N, .bool a1_Entry.Remove, .int .i64 a1_Entry.Errno, .string a1_Entry.Name, .int .i64 a1_Entry.Client, .int .i64 a1_Entry.Number, .string a1_Object_Name, .int .i64 a1_Object_Version.Epoch, .int .i64 a1_Object_Version.N, .slice a1_Object_Data_o a1_Object_Data.length a1_Object_Data_c, .int .i64 a1_Op_Kind, .string a1_Op_Name, .slice a1_Op_Data_o a1_Op_Data.length a1_Op_Data_c, .int .i64 a1_Op_Expect.Epoch, .int .i64 a1_Op_Expect.N, .slice a1_Items_o a1_Items.length a1_Items_c, .slice a1_Names_o a1_Names.length a1_Names_c, .int .i64 a1_Errno])]) (RunsTo.mkd [(1, { act := .call [] (.bool false) })] [0, 3, 49] [1, 2, 3, 4, 5, 6, 7, 8] (fun _ => [CallOK Try.prog 12 #[.pointer none] (.bool false) []]) (by kernel_rfl) (by kernel_rfl) (fun _ => by kernel_rfl) (fun _ => ⟨(w___scrub_Machine__is F  e4).ok trivial, trivial⟩)) ?_
  intro _
  refine GS.cond (t := true) rfl rfl (fun _ => ?_) (fun hf => by cases hf)
  refine GS.seq ?_
  refine GS.region (env' := fun _ => [(4, .slice none 0 0)]) (mem' := fun _ => []) (RunsTo.mk [] [4] [] (fun _ => []) (fun _ => by kernel_rfl) (fun _ => trivial)) ?_
  intro _
  have hy := Option.some.inj hm
  subst hy
  refine GS.ret (fn := Try.f5) [0] [.slice none 0 0] [] rfl Try.func5 (by kernel_rfl) trivial (fun w' hs => ?_)
  exact ⟨⟨none, 0⟩, rfl, hs.turnedG (ks := []) rfl rfl⟩

theorem w___scrub_Machine__Tick (F : Nat) {y : Nat} (hm : m___scrub_Machine__Tick F = some y) : CallG Try.prog 6 #[.pointer none] (X := Option Addr × Nat) (fun ⟨x0, x1⟩ => .slice x0 y x1) [] [] (fun ⟨x0, x1⟩ => []) := by
  intro w hg
  rw [m___scrub_Machine__Tick] at hm
  refine GS.start (S := mayT [] []) (mem := []) Try.func6 rfl Try.ntmps6 (Nat.le_of_ble_eq_true rfl) (hg.start rfl) ?_
  refine GS.conv (env' := [(0, .pointer none)]) rfl rfl ?_
  refine GS.seq ?_
  refine GS.region (env' := fun _ => [(0, .pointer none)]) (mem' := fun _ => []) (RunsTo.mk [] [0] [] (fun _ => []) (fun _ => by kernel_rfl) (fun _ => trivial)) ?_
  intro _
  refine GS.seq ?_
  refine GS.seq ?_
  refine bnd_elim hm (fun y3 e4 hm => ?_)
  refine GS.region (env' := fun _ => [(0, .pointer none), (9, .bool true)]) (mem' := fun _ => []) (RunsTo.mk [(1, { act := .call [] (.bool false) })] [0, 9] [] (fun _ => [CallOK Try.prog 12 #[.pointer none] (.bool false) []]) (fun _ => by kernel_rfl) (fun _ => ⟨(w___scrub_Machine__is F  e4).ok trivial, trivial⟩)) ?_
  intro _
  refine GS.cond (t := true) rfl rfl (fun _ => ?_) (fun hf => by cases hf)
  refine GS.seq ?_
  refine GS.region (env' := fun _ => [(2, .slice none 0 0)]) (mem' := fun _ => []) (RunsTo.mk [] [2] [] (fun _ => []) (fun _ => by kernel_rfl) (fun _ => trivial)) ?_
  intro _
  have hy := Option.some.inj hm
  subst hy
  refine GS.ret (fn := Try.f6) [0] [.slice none 0 0] [] rfl Try.func6 (by kernel_rfl) trivial (fun w' hs => ?_)
  exact ⟨⟨none, 0⟩, rfl, hs.turnedG (ks := []) rfl rfl⟩

theorem w___scrub_Machine__Done (F : Nat) {y : Unit} (hm : m___scrub_Machine__Done F = some y) : CallG Try.prog 7 #[.pointer none] (X := Unit) (fun (_ : Unit) => .bool false) [] [] (fun (_ : Unit) => []) := by
  intro w hg
  rw [m___scrub_Machine__Done] at hm
  refine GS.start (S := mayT [] []) (mem := []) Try.func7 rfl Try.ntmps7 (Nat.le_of_ble_eq_true rfl) (hg.start rfl) ?_
  refine GS.conv (env' := [(0, .pointer none)]) rfl rfl ?_
  refine GS.seq ?_
  refine GS.region (env' := fun _ => [(0, .pointer none)]) (mem' := fun _ => []) (RunsTo.mk [] [0] [] (fun _ => []) (fun _ => by kernel_rfl) (fun _ => trivial)) ?_
  intro _
  refine GS.seq ?_
  refine bnd_elim hm (fun y3 e4 hm => ?_)
  refine GS.region (env' := fun _ => [(2, .bool false)]) (mem' := fun _ => []) (RunsTo.mk [(1, { act := .call [] (.bool false) })] [2] [] (fun _ => [CallOK Try.prog 12 #[.pointer none] (.bool false) []]) (fun _ => by kernel_rfl) (fun _ => ⟨(w___scrub_Machine__is F  e4).ok trivial, trivial⟩)) ?_
  intro _
  have hy := Option.some.inj hm
  subst hy
  refine GS.ret (fn := Try.f7) [0] [.bool false] [] rfl Try.func7 (by kernel_rfl) trivial (fun w' hs => ?_)
  exact ⟨(), rfl, hs.turnedG (ks := []) rfl rfl⟩

theorem w___scrub_Machine__Fixes (F : Nat) {y : Nat} (hm : m___scrub_Machine__Fixes F = some y) : CallG Try.prog 8 #[.pointer none] (X := Option Addr × Nat) (fun ⟨x0, x1⟩ => .slice x0 y x1) [] [] (fun ⟨x0, x1⟩ => []) := by
  intro w hg
  rw [m___scrub_Machine__Fixes] at hm
  refine GS.start (S := mayT [] []) (mem := []) Try.func8 rfl Try.ntmps8 (Nat.le_of_ble_eq_true rfl) (hg.start rfl) ?_
  refine GS.conv (env' := [(0, .pointer none)]) rfl rfl ?_
  refine GS.seq ?_
  refine GS.region (env' := fun _ => [(0, .pointer none)]) (mem' := fun _ => []) (RunsTo.mk [] [0] [] (fun _ => []) (fun _ => by kernel_rfl) (fun _ => trivial)) ?_
  intro _
  refine GS.seq ?_
  refine GS.seq ?_
  refine bnd_elim hm (fun y3 e4 hm => ?_)
  refine GS.region (env' := fun _ => [(0, .pointer none), (8, .bool true)]) (mem' := fun _ => []) (RunsTo.mk [(1, { act := .call [] (.bool false) })] [0, 8] [] (fun _ => [CallOK Try.prog 7 #[.pointer none] (.bool false) []]) (fun _ => by kernel_rfl) (fun _ => ⟨(w___scrub_Machine__Done F  e4).ok trivial, trivial⟩)) ?_
  intro _
  refine GS.cond (t := true) rfl rfl (fun _ => ?_) (fun hf => by cases hf)
  refine GS.seq ?_
  refine GS.region (env' := fun _ => [(2, .slice none 0 0)]) (mem' := fun _ => []) (RunsTo.mk [] [2] [] (fun _ => []) (fun _ => by kernel_rfl) (fun _ => trivial)) ?_
  intro _
  have hy := Option.some.inj hm
  subst hy
  refine GS.ret (fn := Try.f8) [0] [.slice none 0 0] [] rfl Try.func8 (by kernel_rfl) trivial (fun w' hs => ?_)
  exact ⟨⟨none, 0⟩, rfl, hs.turnedG (ks := []) rfl rfl⟩

theorem w___scrub_Machine__Lost (F : Nat) {y : List ByteArray} (hm : m___scrub_Machine__Lost F = some y) : CallG Try.prog 9 #[.pointer none] (X := Option Addr × Nat) (fun ⟨x0, x1⟩ => .slice x0 y.length x1) [] [] (fun ⟨x0, x1⟩ => [o9 x0 x1 y]) := by
  intro w hg
  rw [m___scrub_Machine__Lost] at hm
  refine GS.start (S := mayT [] []) (mem := []) Try.func9 rfl Try.ntmps9 (Nat.le_of_ble_eq_true rfl) (hg.start rfl) ?_
  refine GS.conv (env' := [(0, .pointer none)]) rfl rfl ?_
  refine GS.seq ?_
  refine GS.region (env' := fun _ => [(0, .pointer none)]) (mem' := fun _ => []) (RunsTo.mk [] [0] [] (fun _ => []) (fun _ => by kernel_rfl) (fun _ => trivial)) ?_
  intro _
  refine GS.seq ?_
  refine GS.seq ?_
  refine bnd_elim hm (fun y3 e4 hm => ?_)
  refine GS.region (env' := fun _ => [(0, .pointer none), (5, .bool true)]) (mem' := fun _ => []) (RunsTo.mk [(1, { act := .call [] (.bool false) })] [0, 5] [] (fun _ => [CallOK Try.prog 7 #[.pointer none] (.bool false) []]) (fun _ => by kernel_rfl) (fun _ => ⟨(w___scrub_Machine__Done F  e4).ok trivial, trivial⟩)) ?_
  intro _
  refine GS.cond (t := true) rfl rfl (fun _ => ?_) (fun hf => by cases hf)
  refine GS.seq ?_
  refine GS.region (env' := fun _ => [(2, .slice none 0 0)]) (mem' := fun _ => []) (RunsTo.mk [] [2] [] (fun _ => []) (fun _ => by kernel_rfl) (fun _ => trivial)) ?_
  intro _
  refine GS.setMem (mem' := [(1, o9 none 0 ([] : List ByteArray))]) (fun w hw => Sat.addNil hw rfl) ?_
  have hy := Option.some.inj hm
  subst hy
  refine GS.ret (fn := Try.f9) [0] [.slice none 0 0] [] rfl Try.func9 (by kernel_rfl) trivial (fun w' hs => ?_)
  exact ⟨⟨none, 0⟩, rfl, hs.turnedG (ks := [1]) rfl rfl⟩

theorem w_tholelaw21_item (F : Nat) {y : Unit} (hm : m_tholelaw21_item F = some y) : CallG Try.prog 19 #[.int .u32 7] (X := Unit) (fun (_ : Unit) => .agg #[.string (ByteArray.mk #[97]), .int .i64 1, .int .i64 1, .int .u32 7]) [] [] (fun (_ : Unit) => []) := by
  intro w hg
  rw [m_tholelaw21_item] at hm
  refine GS.start (S := mayT [] []) (mem := []) Try.func19 rfl Try.ntmps19 (Nat.le_of_ble_eq_true rfl) (hg.start rfl) ?_
  refine GS.conv (env' := [(0, .int .u32 7)]) rfl rfl ?_
  refine GS.seq ?_
  refine GS.region (env' := fun fr1 => [(0, .int .u32 7), (2, .pointer (some ⟨(fr1 0).x, 0, none⟩))]) (mem' := fun fr1 => [(1, .cells ((fr1 0).x) 75 [.string (ByteArray.mk #[]), .int .i64 0, .int .i64 0, .int .u32 0])]) (RunsTo.mk [(0, { act := .new .var, key := some 1 })] [0, 2] [1] (fun fr1 => []) (fun fr1 => by kernel_rfl) (fun fr1 => trivial)) ?_
  intro fr1
  refine GS.seq ?_
  refine GS.region (env' := fun _ => [(2, .pointer (some ⟨(fr1 0).x, 0, none⟩))]) (mem' := fun _ => [(1, .cells ((fr1 0).x) 75 [.string (ByteArray.mk #[97]), .int .i64 1, .int .i64 1, .int .u32 7])]) (RunsTo.mk [(3, { act := .store 0 0 [], key := some 1 })] [2] [1] (fun _ => [(fr1 0).x = (fr1 0).x, ((.agg #[.string (ByteArray.mk #[97]), .int .i64 1, .int .i64 1, .int .u32 7]) : Value).cells.toList.all Value.oneCell' = true]) (fun _ => by kernel_rfl) (fun _ => ⟨rfl, rfl, trivial⟩)) ?_
  intro _
  have hy := Option.some.inj hm
  subst hy
  refine GS.ret (fn := Try.f19) [1] [.agg #[.string (ByteArray.mk #[97]), .int .i64 1, .int .i64 1, .int .u32 7]] [(fr1 0).x = (fr1 0).x] rfl Try.func19 (by kernel_rfl) ⟨rfl, trivial⟩ (fun w' hs => ?_)
  exact ⟨(), rfl, hs.turnedG (ks := []) rfl rfl⟩

theorem w_tholelaw21_item_2 (F : Nat) {y : Unit} (hm : m_tholelaw21_item_2 F = some y) : CallG Try.prog 19 #[.int .u32 8] (X := Unit) (fun (_ : Unit) => .agg #[.string (ByteArray.mk #[97]), .int .i64 1, .int .i64 1, .int .u32 8]) [] [] (fun (_ : Unit) => []) := by
  intro w hg
  rw [m_tholelaw21_item_2] at hm
  refine GS.start (S := mayT [] []) (mem := []) Try.func19 rfl Try.ntmps19 (Nat.le_of_ble_eq_true rfl) (hg.start rfl) ?_
  refine GS.conv (env' := [(0, .int .u32 8)]) rfl rfl ?_
  refine GS.seq ?_
  refine GS.region (env' := fun fr1 => [(0, .int .u32 8), (2, .pointer (some ⟨(fr1 0).x, 0, none⟩))]) (mem' := fun fr1 => [(1, .cells ((fr1 0).x) 75 [.string (ByteArray.mk #[]), .int .i64 0, .int .i64 0, .int .u32 0])]) (RunsTo.mk [(0, { act := .new .var, key := some 1 })] [0, 2] [1] (fun fr1 => []) (fun fr1 => by kernel_rfl) (fun fr1 => trivial)) ?_
  intro fr1
  refine GS.seq ?_
  refine GS.region (env' := fun _ => [(2, .pointer (some ⟨(fr1 0).x, 0, none⟩))]) (mem' := fun _ => [(1, .cells ((fr1 0).x) 75 [.string (ByteArray.mk #[97]), .int .i64 1, .int .i64 1, .int .u32 8])]) (RunsTo.mk [(3, { act := .store 0 0 [], key := some 1 })] [2] [1] (fun _ => [(fr1 0).x = (fr1 0).x, ((.agg #[.string (ByteArray.mk #[97]), .int .i64 1, .int .i64 1, .int .u32 8]) : Value).cells.toList.all Value.oneCell' = true]) (fun _ => by kernel_rfl) (fun _ => ⟨rfl, rfl, trivial⟩)) ?_
  intro _
  have hy := Option.some.inj hm
  subst hy
  refine GS.ret (fn := Try.f19) [1] [.agg #[.string (ByteArray.mk #[97]), .int .i64 1, .int .i64 1, .int .u32 8]] [(fr1 0).x = (fr1 0).x] rfl Try.func19 (by kernel_rfl) ⟨rfl, trivial⟩ (fun w' hs => ?_)
  exact ⟨(), rfl, hs.turnedG (ks := []) rfl rfl⟩

theorem w_slices_Index___api_Item_api_Item_ (F : Nat) (a0_o : Option Addr) (a0_c : Nat) {y : Unit} (hm : m_slices_Index___api_Item_api_Item_ F = some y) : CallG Try.prog 38 #[.slice a0_o 1 a0_c, .agg #[.string (ByteArray.mk #[97]), .int .i64 1, .int .i64 1, .int .u32 7]] (X := Unit) (fun (_ : Unit) => .int .i64 0) [] [.rd a0_o 4 ([[.string (ByteArray.mk #[97]), .int .i64 1, .int .i64 1, .int .u32 7]] : List (List Value))] (fun (_ : Unit) => []) := by
  intro w hg
  rw [m_slices_Index___api_Item_api_Item_] at hm
  refine GS.start (S := mayT [] [.rd a0_o 4 ([[.string (ByteArray.mk #[97]), .int .i64 1, .int .i64 1, .int .u32 7]] : List (List Value))]) (mem := [(1, .rd a0_o 4 ([[.string (ByteArray.mk #[97]), .int .i64 1, .int .i64 1, .int .u32 7]] : List (List Value)))]) Try.func38 rfl Try.ntmps38 (Nat.le_of_ble_eq_true rfl) (hg.start rfl) ?_
  refine GS.conv (env' := [(0, .slice a0_o 1 a0_c), (1, .agg #[.string (ByteArray.mk #[97]), .int .i64 1, .int .i64 1, .int .u32 7])]) rfl rfl ?_
  refine GS.seq ?_
  refine GS.region (env' := fun fr1 => [(0, .slice a0_o 1 a0_c), (3, .pointer (some ⟨(fr1 0).x, 0, none⟩))]) (mem' := fun fr1 => [(1, .rd a0_o 4 ([[.string (ByteArray.mk #[97]), .int .i64 1, .int .i64 1, .int .u32 7]] : List (List Value))), (2, .cells ((fr1 0).x) 75 [.string (ByteArray.mk #[97]), .int .i64 1, .int .i64 1, .int .u32 7])]) (RunsTo.mk [(0, { act := .new .var, key := some 2 })] [0, 3] [1, 2] (fun fr1 => []) (fun fr1 => by kernel_rfl) (fun fr1 => trivial)) ?_
  intro fr1
  refine GS.seq ?_
  refine GS.seq ?_
  refine GS.region (env' := fun _ => [(0, .slice a0_o 1 a0_c), (3, .pointer (some ⟨(fr1 0).x, 0, none⟩)), (7, .int .i64 1), (8, .int .i64 0)]) (mem' := fun _ => [(1, .rd a0_o 4 ([[.string (ByteArray.mk #[97]), .int .i64 1, .int .i64 1, .int .u32 7]] : List (List Value))), (2, .cells ((fr1 0).x) 75 [.string (ByteArray.mk #[97]), .int .i64 1, .int .i64 1, .int .u32 7])]) (RunsTo.mk [] [0, 3, 7, 8] [1, 2] (fun _ => []) (fun _ => by kernel_rfl) (fun _ => trivial)) ?_
  intro _
  refine GS.block ?_
  refine GS.loop ?_
  refine GS.seq ?_
  refine GS.region (env' := fun _ => [(0, .slice a0_o 1 a0_c), (3, .pointer (some ⟨(fr1 0).x, 0, none⟩)), (7, .int .i64 1), (8, .int .i64 0), (9, .bool true)]) (mem' := fun _ => [(1, .rd a0_o 4 ([[.string (ByteArray.mk #[97]), .int .i64 1, .int .i64 1, .int .u32 7]] : List (List Value))), (2, .cells ((fr1 0).x) 75 [.string (ByteArray.mk #[97]), .int .i64 1, .int .i64 1, .int .u32 7])]) (RunsTo.mk [] [0, 3, 7, 8, 9] [1, 2] (fun _ => []) (fun _ => by kernel_rfl) (fun _ => trivial)) ?_
  intro _
  refine GS.seq ?_
  refine GS.cond (t := true) rfl rfl (fun _ => ?_) (fun hf => by cases hf)
  refine GS.skip ?_
  refine GS.seq ?_
  refine GS.block ?_
  refine GS.seq ?_
  refine GS.region (env' := fun _ => [(0, .slice a0_o 1 a0_c), (3, .pointer (some ⟨(fr1 0).x, 0, none⟩)), (5, .int .i64 0), (7, .int .i64 1), (8, .int .i64 0)]) (mem' := fun _ => [(1, .rd a0_o 4 ([[.string (ByteArray.mk #[97]), .int .i64 1, .int .i64 1, .int .u32 7]] : List (List Value))), (2, .cells ((fr1 0).x) 75 [.string (ByteArray.mk #[97]), .int .i64 1, .int .i64 1, .int .u32 7])]) (RunsTo.mk [] [0, 3, 5, 7, 8] [1, 2] (fun _ => []) (fun _ => by kernel_rfl) (fun _ => trivial)) ?_
  intro _
  refine GS.seq ?_
  refine GS.region (env' := fun _ => [(0, .slice a0_o 1 a0_c), (3, .pointer (some ⟨(fr1 0).x, 0, none⟩)), (5, .int .i64 0), (7, .int .i64 1), (8, .int .i64 0), (16, .bool true)]) (mem' := fun _ => [(1, .rd a0_o 4 ([[.string (ByteArray.mk #[97]), .int .i64 1, .int .i64 1, .int .u32 7]] : List (List Value))), (2, .cells ((fr1 0).x) 75 [.string (ByteArray.mk #[97]), .int .i64 1, .int .i64 1, .int .u32 7])]) (RunsTo.mkd [(0, { act := .load 2 0 0 [] }), (3, { act := .idx 1 0 }), (4, { act := .load 1 0 0 [.string (ByteArray.mk #[97]), .int .i64 1, .int .i64 1, .int .u32 7] }), (5, { act := .eq, sp := some (.bool true) })] [0, 3, 5, 7, 8, 16] [1, 2] (fun _ => [(fr1 0).x = (fr1 0).x, a0_o = a0_o, 1 = ([[.string (ByteArray.mk #[97]), .int .i64 1, .int .i64 1, .int .u32 7]] : List (List Value)).length, (0 : Int) = ((0 : Nat) : Int), 0 < 1, blk a0_o = blk a0_o, offs a0_o + 0 * 4 = offs a0_o + (0 * 4 + 0), ([[.string (ByteArray.mk #[97]), .int .i64 1, .int .i64 1, .int .u32 7]] : List (List Value))[0]? = some [.string (ByteArray.mk #[97]), .int .i64 1, .int .i64 1, .int .u32 7], ((.bool (S_api_Item.beq (S_api_Item.mk (ByteArray.mk #[97]) (S_api_Version.mk 1 1) 7) (S_api_Item.mk (ByteArray.mk #[97]) (S_api_Version.mk 1 1) 7))) : Value) = .bool true]) (by kernel_rfl) (by kernel_rfl) (fun _ => by kernel_rfl) (fun _ => ⟨rfl, rfl, rfl, rfl, (Nat.le_of_ble_eq_true rfl), rfl, rfl, rfl, (by kernel_rfl), trivial⟩)) ?_
  intro _
  refine GS.cond (t := true) rfl rfl (fun _ => ?_) (fun hf => by cases hf)
  refine GS.seq ?_
  refine GS.region (env' := fun _ => [(4, .int .i64 0)]) (mem' := fun _ => []) (RunsTo.mk [] [4] [] (fun _ => []) (fun _ => by kernel_rfl) (fun _ => trivial)) ?_
  intro _
  have hy := Option.some.inj hm
  subst hy
  refine GS.ret (fn := Try.f38) [0] [.int .i64 0] [] rfl Try.func38 (by kernel_rfl) trivial (fun w' hs => ?_)
  exact ⟨(), rfl, hs.turnedG (ks := []) rfl rfl⟩

theorem w_slices_Contains___api_Item_api_Item_ (F : Nat) (a0_o : Option Addr) (a0_c : Nat) {y : Unit} (hm : m_slices_Contains___api_Item_api_Item_ F = some y) : CallG Try.prog 32 #[.slice a0_o 1 a0_c, .agg #[.string (ByteArray.mk #[97]), .int .i64 1, .int .i64 1, .int .u32 7]] (X := Unit) (fun (_ : Unit) => .bool true) [] [.rd a0_o 4 ([[.string (ByteArray.mk #[97]), .int .i64 1, .int .i64 1, .int .u32 7]] : List (List Value))] (fun (_ : Unit) => []) := by
  intro w hg
  rw [m_slices_Contains___api_Item_api_Item_] at hm
  refine GS.start (S := mayT [] [.rd a0_o 4 ([[.string (ByteArray.mk #[97]), .int .i64 1, .int .i64 1, .int .u32 7]] : List (List Value))]) (mem := [(1, .rd a0_o 4 ([[.string (ByteArray.mk #[97]), .int .i64 1, .int .i64 1, .int .u32 7]] : List (List Value)))]) Try.func32 rfl Try.ntmps32 (Nat.le_of_ble_eq_true rfl) (hg.start rfl) ?_
  refine GS.conv (env' := [(0, .slice a0_o 1 a0_c), (1, .agg #[.string (ByteArray.mk #[97]), .int .i64 1, .int .i64 1, .int .u32 7])]) rfl rfl ?_
  refine GS.seq ?_
  refine GS.region (env' := fun fr1 => [(0, .slice a0_o 1 a0_c), (3, .pointer (some ⟨(fr1 0).x, 0, none⟩))]) (mem' := fun fr1 => [(1, .rd a0_o 4 ([[.string (ByteArray.mk #[97]), .int .i64 1, .int .i64 1, .int .u32 7]] : List (List Value))), (2, .cells ((fr1 0).x) 75 [.string (ByteArray.mk #[97]), .int .i64 1, .int .i64 1, .int .u32 7])]) (RunsTo.mk [(0, { act := .new .var, key := some 2 })] [0, 3] [1, 2] (fun fr1 => []) (fun fr1 => by kernel_rfl) (fun fr1 => trivial)) ?_
  intro fr1
  refine GS.seq ?_
  refine bnd_elim hm (fun y3 e4 hm => ?_)
  refine GS.region (env' := fun _ => [(4, .bool true)]) (mem' := fun _ => []) (RunsTo.mk [(1, { act := .load 2 0 0 [] }), (2, { act := .call [1] (.int .i64 0) })] [4] [] (fun _ => [(fr1 0).x = (fr1 0).x, CallOK Try.prog 38 #[.slice a0_o 1 a0_c, .agg #[.string (ByteArray.mk #[97]), .int .i64 1, .int .i64 1, .int .u32 7]] (.int .i64 0) [some (.rd a0_o 4 ([[.string (ByteArray.mk #[97]), .int .i64 1, .int .i64 1, .int .u32 7]] : List (List Value)))]]) (fun _ => by kernel_rfl) (fun _ => ⟨rfl, (w_slices_Index___api_Item_api_Item_ F a0_o a0_c e4).ok ⟨(.inl ⟨.rd a0_o 4 ([[.string (ByteArray.mk #[97]), .int .i64 1, .int .i64 1, .int .u32 7]] : List (List Value)), .head _, Cov.refl _⟩), trivial⟩, trivial⟩)) ?_
  intro _
  have hy := Option.some.inj hm
  subst hy
  refine GS.ret (fn := Try.f32) [0] [.bool true] [] rfl Try.func32 (by kernel_rfl) trivial (fun w' hs => ?_)
  exact ⟨(), rfl, hs.turnedG (ks := []) rfl rfl⟩

theorem w_slices_Index___string_string_ (F : Nat) {y : Unit} (hm : m_slices_Index___string_string_ F = some y) : CallG Try.prog 39 #[.slice none 0 0, .string (ByteArray.mk #[97])] (X := Unit) (fun (_ : Unit) => .int .i64 (-1)) [] [] (fun (_ : Unit) => []) := by
  intro w hg
  rw [m_slices_Index___string_string_] at hm
  refine GS.start (S := mayT [] []) (mem := []) Try.func39 rfl Try.ntmps39 (Nat.le_of_ble_eq_true rfl) (hg.start rfl) ?_
  refine GS.conv (env' := [(0, .slice none 0 0), (1, .string (ByteArray.mk #[97]))]) rfl rfl ?_
  refine GS.seq ?_
  refine GS.region (env' := fun _ => [(0, .slice none 0 0), (1, .string (ByteArray.mk #[97]))]) (mem' := fun _ => []) (RunsTo.mk [] [0, 1] [] (fun _ => []) (fun _ => by kernel_rfl) (fun _ => trivial)) ?_
  intro _
  refine GS.seq ?_
  refine GS.seq ?_
  refine GS.region (env' := fun _ => [(0, .slice none 0 0), (1, .string (ByteArray.mk #[97])), (7, .int .i64 0), (8, .int .i64 0)]) (mem' := fun _ => []) (RunsTo.mk [] [0, 1, 7, 8] [] (fun _ => []) (fun _ => by kernel_rfl) (fun _ => trivial)) ?_
  intro _
  refine GS.block ?_
  refine GS.loop ?_
  refine GS.seq ?_
  refine GS.region (env' := fun _ => [(0, .slice none 0 0), (1, .string (ByteArray.mk #[97])), (7, .int .i64 0), (8, .int .i64 0), (9, .bool false)]) (mem' := fun _ => []) (RunsTo.mk [] [0, 1, 7, 8, 9] [] (fun _ => []) (fun _ => by kernel_rfl) (fun _ => trivial)) ?_
  intro _
  refine GS.seq ?_
  refine GS.cond (t := false) rfl rfl (fun hf => by cases hf) (fun _ => ?_)
  refine GS.exit rfl ?_
  refine GS.seq ?_
  refine GS.region (env' := fun _ => [(4, .int .i64 (-1))]) (mem' := fun _ => []) (RunsTo.mk [] [4] [] (fun _ => []) (fun _ => by kernel_rfl) (fun _ => trivial)) ?_
  intro _
  have hy := Option.some.inj hm
  subst hy
  refine GS.ret (fn := Try.f39) [0] [.int .i64 (-1)] [] rfl Try.func39 (by kernel_rfl) trivial (fun w' hs => ?_)
  exact ⟨(), rfl, hs.turnedG (ks := []) rfl rfl⟩

theorem w_slices_Contains___string_string_ (F : Nat) {y : Unit} (hm : m_slices_Contains___string_string_ F = some y) : CallG Try.prog 33 #[.slice none 0 0, .string (ByteArray.mk #[97])] (X := Unit) (fun (_ : Unit) => .bool false) [] [] (fun (_ : Unit) => []) := by
  intro w hg
  rw [m_slices_Contains___string_string_] at hm
  refine GS.start (S := mayT [] []) (mem := []) Try.func33 rfl Try.ntmps33 (Nat.le_of_ble_eq_true rfl) (hg.start rfl) ?_
  refine GS.conv (env' := [(0, .slice none 0 0), (1, .string (ByteArray.mk #[97]))]) rfl rfl ?_
  refine GS.seq ?_
  refine GS.region (env' := fun _ => [(0, .slice none 0 0), (1, .string (ByteArray.mk #[97]))]) (mem' := fun _ => []) (RunsTo.mk [] [0, 1] [] (fun _ => []) (fun _ => by kernel_rfl) (fun _ => trivial)) ?_
  intro _
  refine GS.seq ?_
  refine bnd_elim hm (fun y3 e4 hm => ?_)
  refine GS.region (env' := fun _ => [(4, .bool false)]) (mem' := fun _ => []) (RunsTo.mk [(2, { act := .call [] (.int .i64 (-1)) })] [4] [] (fun _ => [CallOK Try.prog 39 #[.slice none 0 0, .string (ByteArray.mk #[97])] (.int .i64 (-1)) []]) (fun _ => by kernel_rfl) (fun _ => ⟨(w_slices_Index___string_string_ F  e4).ok trivial, trivial⟩)) ?_
  intro _
  have hy := Option.some.inj hm
  subst hy
  refine GS.ret (fn := Try.f33) [0] [.bool false] [] rfl Try.func33 (by kernel_rfl) trivial (fun w' hs => ?_)
  exact ⟨(), rfl, hs.turnedG (ks := []) rfl rfl⟩

theorem w__scrub_Copy__good (F : Nat) (a0_1_o : Option Addr) (a0_1_c : Nat) {y : Unit} (hm : m__scrub_Copy__good F = some y) : CallG Try.prog 26 #[.agg #[.int .i64 0, .slice a0_1_o 1 a0_1_c, .slice none 0 0], .agg #[.string (ByteArray.mk #[97]), .int .i64 1, .int .i64 1, .int .u32 7]] (X := Unit) (fun (_ : Unit) => .bool true) [] [.rd a0_1_o 4 ([[.string (ByteArray.mk #[97]), .int .i64 1, .int .i64 1, .int .u32 7]] : List (List Value))] (fun (_ : Unit) => []) := by
  intro w hg
  rw [m__scrub_Copy__good] at hm
  refine GS.start (S := mayT [] [.rd a0_1_o 4 ([[.string (ByteArray.mk #[97]), .int .i64 1, .int .i64 1, .int .u32 7]] : List (List Value))]) (mem := [(1, .rd a0_1_o 4 ([[.string (ByteArray.mk #[97]), .int .i64 1, .int .i64 1, .int .u32 7]] : List (List Value)))]) Try.func26 rfl Try.ntmps26 (Nat.le_of_ble_eq_true rfl) (hg.start rfl) ?_
  refine GS.conv (env' := [(0, .agg #[.int .i64 0, .slice a0_1_o 1 a0_1_c, .slice none 0 0]), (1, .agg #[.string (ByteArray.mk #[97]), .int .i64 1, .int .i64 1, .int .u32 7])]) rfl rfl ?_
  refine GS.seq ?_
  refine GS.region (env' := fun fr1 => [(2, .pointer (some ⟨(fr1 0).x, 0, none⟩)), (3, .pointer (some ⟨(fr1 1).x, 0, none⟩))]) (mem' := fun fr1 => [(1, .rd a0_1_o 4 ([[.string (ByteArray.mk #[97]), .int .i64 1, .int .i64 1, .int .u32 7]] : List (List Value))), (2, .cells ((fr1 0).x) 60 [.int .i64 0, .slice a0_1_o 1 a0_1_c, .slice none 0 0]), (3, .cells ((fr1 1).x) 75 [.string (ByteArray.mk #[97]), .int .i64 1, .int .i64 1, .int .u32 7])]) (RunsTo.mk [(0, { act := .new .var, key := some 2 }), (1, { act := .new .var, key := some 3 })] [2, 3] [1, 2, 3] (fun fr1 => []) (fun fr1 => by kernel_rfl) (fun fr1 => trivial)) ?_
  intro fr1
  refine GS.seq ?_
  refine bnd_elim hm (fun y3 e4 hm => ?_)
  refine bnd_elim hm (fun y5 e6 hm => ?_)
  refine GS.region (env' := fun _ => [(4, .bool true)]) (mem' := fun _ => []) (RunsTo.mk [(1, { act := .load 2 0 0 [] }), (2, { act := .load 3 0 0 [] }), (3, { act := .call [1] (.bool true) }), (6, { act := .load 2 0 0 [] }), (8, { act := .load 3 0 0 [] }), (9, { act := .call [] (.bool false) })] [4] [] (fun _ => [(fr1 0).x = (fr1 0).x, (fr1 1).x = (fr1 1).x, CallOK Try.prog 32 #[.slice a0_1_o 1 a0_1_c, .agg #[.string (ByteArray.mk #[97]), .int .i64 1, .int .i64 1, .int .u32 7]] (.bool true) [some (.rd a0_1_o 4 ([[.string (ByteArray.mk #[97]), .int .i64 1, .int .i64 1, .int .u32 7]] : List (List Value)))], (fr1 0).x = (fr1 0).x, (fr1 1).x = (fr1 1).x, CallOK Try.prog 33 #[.slice none 0 0, .string (ByteArray.mk #[97])] (.bool false) []]) (fun _ => by kernel_rfl) (fun _ => ⟨rfl, rfl, (w_slices_Contains___api_Item_api_Item_ F a0_1_o a0_1_c e4).ok ⟨(.inl ⟨.rd a0_1_o 4 ([[.string (ByteArray.mk #[97]), .int .i64 1, .int .i64 1, .int .u32 7]] : List (List Value)), .head _, Cov.refl _⟩), trivial⟩, rfl, rfl, (w_slices_Contains___string_string_ F  e6).ok trivial, trivial⟩)) ?_
  intro _
  have hy := Option.some.inj hm
  subst hy
  refine GS.ret (fn := Try.f26) [0] [.bool true] [] rfl Try.func26 (by kernel_rfl) trivial (fun w' hs => ?_)
  exact ⟨(), rfl, hs.turnedG (ks := []) rfl rfl⟩

theorem w_scrub_Compare_1 (F : Nat) (a0_1_o : Option Addr) (a0_1_c : Nat) (a1b : Nat) {y : Unit} (hm : m_scrub_Compare_1 F = some y) : CallG Try.prog 25 #[.agg #[.int .i64 0, .slice a0_1_o 1 a0_1_c, .slice none 0 0], .pointer (some ⟨a1b, 0, none⟩)] (X := Unit) (fun (_ : Unit) => .bool true) [] [.rd a0_1_o 4 ([[.string (ByteArray.mk #[97]), .int .i64 1, .int .i64 1, .int .u32 7]] : List (List Value)), .rd (some ⟨a1b, 0, none⟩) 4 ([[.string (ByteArray.mk #[97]), .int .i64 1, .int .i64 1, .int .u32 7]] : List (List Value))] (fun (_ : Unit) => []) := by
  intro w hg
  rw [m_scrub_Compare_1] at hm
  refine GS.start (S := mayT [] [.rd a0_1_o 4 ([[.string (ByteArray.mk #[97]), .int .i64 1, .int .i64 1, .int .u32 7]] : List (List Value)), .rd (some ⟨a1b, 0, none⟩) 4 ([[.string (ByteArray.mk #[97]), .int .i64 1, .int .i64 1, .int .u32 7]] : List (List Value))]) (mem := [(1, .rd a0_1_o 4 ([[.string (ByteArray.mk #[97]), .int .i64 1, .int .i64 1, .int .u32 7]] : List (List Value))), (2, .rd (some ⟨a1b, 0, none⟩) 4 ([[.string (ByteArray.mk #[97]), .int .i64 1, .int .i64 1, .int .u32 7]] : List (List Value)))]) Try.func25 rfl Try.ntmps25 (Nat.le_of_ble_eq_true rfl) (hg.start rfl) ?_
  refine GS.conv (env' := [(0, .agg #[.int .i64 0, .slice a0_1_o 1 a0_1_c, .slice none 0 0]), (1, .pointer (some ⟨a1b, 0, none⟩))]) rfl rfl ?_
  refine GS.seq ?_
  refine GS.region (env' := fun fr1 => [(1, .pointer (some ⟨a1b, 0, none⟩)), (2, .pointer (some ⟨(fr1 0).x, 0, none⟩))]) (mem' := fun fr1 => [(1, .rd a0_1_o 4 ([[.string (ByteArray.mk #[97]), .int .i64 1, .int .i64 1, .int .u32 7]] : List (List Value))), (2, .rd (some ⟨a1b, 0, none⟩) 4 ([[.string (ByteArray.mk #[97]), .int .i64 1, .int .i64 1, .int .u32 7]] : List (List Value))), (3, .cells ((fr1 0).x) 60 [.int .i64 0, .slice a0_1_o 1 a0_1_c, .slice none 0 0])]) (RunsTo.mk [(0, { act := .new .var, key := some 3 })] [1, 2] [1, 2, 3] (fun fr1 => []) (fun fr1 => by kernel_rfl) (fun fr1 => trivial)) ?_
  intro fr1
  refine GS.seq ?_
  refine bnd_elim hm (fun y3 e4 hm => ?_)
  refine GS.region (env' := fun _ => [(3, .bool true)]) (mem' := fun _ => []) (RunsTo.mk [(0, { act := .load 3 0 0 [] }), (1, { act := .load 2 0 0 [.string (ByteArray.mk #[97]), .int .i64 1, .int .i64 1, .int .u32 7] }), (2, { act := .call [1] (.bool true) })] [3] [] (fun _ => [(fr1 0).x = (fr1 0).x, a1b = blk (some ⟨a1b, 0, none⟩), 0 = offs (some ⟨a1b, 0, none⟩) + (0 * 4 + 0), ([[.string (ByteArray.mk #[97]), .int .i64 1, .int .i64 1, .int .u32 7]] : List (List Value))[0]? = some [.string (ByteArray.mk #[97]), .int .i64 1, .int .i64 1, .int .u32 7], CallOK Try.prog 26 #[.agg #[.int .i64 0, .slice a0_1_o 1 a0_1_c, .slice none 0 0], .agg #[.string (ByteArray.mk #[97]), .int .i64 1, .int .i64 1, .int .u32 7]] (.bool true) [some (.rd a0_1_o 4 ([[.string (ByteArray.mk #[97]), .int .i64 1, .int .i64 1, .int .u32 7]] : List (List Value)))]]) (fun _ => by kernel_rfl) (fun _ => ⟨rfl, rfl, rfl, rfl, (w__scrub_Copy__good F a0_1_o a0_1_c e4).ok ⟨(.inl ⟨.rd a0_1_o 4 ([[.string (ByteArray.mk #[97]), .int .i64 1, .int .i64 1, .int .u32 7]] : List (List Value)), .head _, Cov.refl _⟩), trivial⟩, trivial⟩)) ?_
  intro _
  have hy := Option.some.inj hm
  subst hy
  refine GS.ret (fn := Try.f25) [0] [.bool true] [] rfl Try.func25 (by kernel_rfl) trivial (fun w' hs => ?_)
  exact ⟨(), rfl, hs.turnedG (ks := []) rfl rfl⟩

theorem w_slices_IndexFunc___scrub_Copy_scrub_Copy_ (F : Nat) (a0_o : Option Addr) (a0_c : Nat) (a0_0_1_o : Option Addr) (a0_0_1_c : Nat) (a0_1_1_o : Option Addr) (a0_1_1_c : Nat) (a1c0b : Nat) {y : Unit} (hm : m_slices_IndexFunc___scrub_Copy_scrub_Copy_ F = some y) : CallG Try.prog 24 #[.slice a0_o 2 a0_c, .func (.func 25) #[] #[.pointer (some ⟨a1c0b, 0, none⟩)]] (X := Unit) (fun (_ : Unit) => .int .i64 0) [] [.rd a0_0_1_o 4 ([[.string (ByteArray.mk #[97]), .int .i64 1, .int .i64 1, .int .u32 7]] : List (List Value)), .rd a0_1_1_o 4 ([[.string (ByteArray.mk #[97]), .int .i64 1, .int .i64 1, .int .u32 8]] : List (List Value)), .rd a0_o 3 ([[.int .i64 0, .slice a0_0_1_o 1 a0_0_1_c, .slice none 0 0], [.int .i64 1, .slice a0_1_1_o 1 a0_1_1_c, .slice none 0 0]] : List (List Value)), .rd (some ⟨a1c0b, 0, none⟩) 4 ([[.string (ByteArray.mk #[97]), .int .i64 1, .int .i64 1, .int .u32 7]] : List (List Value))] (fun (_ : Unit) => []) := by
  intro w hg
  rw [m_slices_IndexFunc___scrub_Copy_scrub_Copy_] at hm
  refine GS.start (S := mayT [] [.rd a0_0_1_o 4 ([[.string (ByteArray.mk #[97]), .int .i64 1, .int .i64 1, .int .u32 7]] : List (List Value)), .rd a0_1_1_o 4 ([[.string (ByteArray.mk #[97]), .int .i64 1, .int .i64 1, .int .u32 8]] : List (List Value)), .rd a0_o 3 ([[.int .i64 0, .slice a0_0_1_o 1 a0_0_1_c, .slice none 0 0], [.int .i64 1, .slice a0_1_1_o 1 a0_1_1_c, .slice none 0 0]] : List (List Value)), .rd (some ⟨a1c0b, 0, none⟩) 4 ([[.string (ByteArray.mk #[97]), .int .i64 1, .int .i64 1, .int .u32 7]] : List (List Value))]) (mem := [(1, .rd a0_0_1_o 4 ([[.string (ByteArray.mk #[97]), .int .i64 1, .int .i64 1, .int .u32 7]] : List (List Value))), (2, .rd a0_1_1_o 4 ([[.string (ByteArray.mk #[97]), .int .i64 1, .int .i64 1, .int .u32 8]] : List (List Value))), (3, .rd a0_o 3 ([[.int .i64 0, .slice a0_0_1_o 1 a0_0_1_c, .slice none 0 0], [.int .i64 1, .slice a0_1_1_o 1 a0_1_1_c, .slice none 0 0]] : List (List Value))), (4, .rd (some ⟨a1c0b, 0, none⟩) 4 ([[.string (ByteArray.mk #[97]), .int .i64 1, .int .i64 1, .int .u32 7]] : List (List Value)))]) Try.func24 rfl Try.ntmps24 (Nat.le_of_ble_eq_true rfl) (hg.start rfl) ?_
  refine GS.conv (env' := [(0, .slice a0_o 2 a0_c), (1, .func (.func 25) #[] #[.pointer (some ⟨a1c0b, 0, none⟩)])]) rfl rfl ?_
  refine GS.seq ?_
  refine GS.region (env' := fun _ => [(0, .slice a0_o 2 a0_c), (1, .func (.func 25) #[] #[.pointer (some ⟨a1c0b, 0, none⟩)])]) (mem' := fun _ => [(1, .rd a0_0_1_o 4 ([[.string (ByteArray.mk #[97]), .int .i64 1, .int .i64 1, .int .u32 7]] : List (List Value))), (2, .rd a0_1_1_o 4 ([[.string (ByteArray.mk #[97]), .int .i64 1, .int .i64 1, .int .u32 8]] : List (List Value))), (3, .rd a0_o 3 ([[.int .i64 0, .slice a0_0_1_o 1 a0_0_1_c, .slice none 0 0], [.int .i64 1, .slice a0_1_1_o 1 a0_1_1_c, .slice none 0 0]] : List (List Value))), (4, .rd (some ⟨a1c0b, 0, none⟩) 4 ([[.string (ByteArray.mk #[97]), .int .i64 1, .int .i64 1, .int .u32 7]] : List (List Value)))]) (RunsTo.mk [] [0, 1] [1, 2, 3, 4] (fun _ => []) (fun _ => by kernel_rfl) (fun _ => trivial)) ?_
  intro _
  refine GS.seq ?_
  refine GS.seq ?_
  refine GS.region (env' := fun _ => [(0, .slice a0_o 2 a0_c), (1, .func (.func 25) #[] #[.pointer (some ⟨a1c0b, 0, none⟩)]), (7, .int .i64 2), (8, .int .i64 0)]) (mem' := fun _ => [(1, .rd a0_0_1_o 4 ([[.string (ByteArray.mk #[97]), .int .i64 1, .int .i64 1, .int .u32 7]] : List (List Value))), (2, .rd a0_1_1_o 4 ([[.string (ByteArray.mk #[97]), .int .i64 1, .int .i64 1, .int .u32 8]] : List (List Value))), (3, .rd a0_o 3 ([[.int .i64 0, .slice a0_0_1_o 1 a0_0_1_c, .slice none 0 0], [.int .i64 1, .slice a0_1_1_o 1 a0_1_1_c, .slice none 0 0]] : List (List Value))), (4, .rd (some ⟨a1c0b, 0, none⟩) 4 ([[.string (ByteArray.mk #[97]), .int .i64 1, .int .i64 1, .int .u32 7]] : List (List Value)))]) (RunsTo.mk [] [0, 1, 7, 8] [1, 2, 3, 4] (fun _ => []) (fun _ => by kernel_rfl) (fun _ => trivial)) ?_
  intro _
  refine GS.block ?_
  refine GS.loop ?_
  refine GS.seq ?_
  refine GS.region (env' := fun _ => [(0, .slice a0_o 2 a0_c), (1, .func (.func 25) #[] #[.pointer (some ⟨a1c0b, 0, none⟩)]), (7, .int .i64 2), (8, .int .i64 0), (9, .bool true)]) (mem' := fun _ => [(1, .rd a0_0_1_o 4 ([[.string (ByteArray.mk #[97]), .int .i64 1, .int .i64 1, .int .u32 7]] : List (List Value))), (2, .rd a0_1_1_o 4 ([[.string (ByteArray.mk #[97]), .int .i64 1, .int .i64 1, .int .u32 8]] : List (List Value))), (3, .rd a0_o 3 ([[.int .i64 0, .slice a0_0_1_o 1 a0_0_1_c, .slice none 0 0], [.int .i64 1, .slice a0_1_1_o 1 a0_1_1_c, .slice none 0 0]] : List (List Value))), (4, .rd (some ⟨a1c0b, 0, none⟩) 4 ([[.string (ByteArray.mk #[97]), .int .i64 1, .int .i64 1, .int .u32 7]] : List (List Value)))]) (RunsTo.mk [] [0, 1, 7, 8, 9] [1, 2, 3, 4] (fun _ => []) (fun _ => by kernel_rfl) (fun _ => trivial)) ?_
  intro _
  refine GS.seq ?_
  refine GS.cond (t := true) rfl rfl (fun _ => ?_) (fun hf => by cases hf)
  refine GS.skip ?_
  refine GS.seq ?_
  refine GS.block ?_
  refine GS.seq ?_
  refine GS.region (env' := fun _ => [(0, .slice a0_o 2 a0_c), (1, .func (.func 25) #[] #[.pointer (some ⟨a1c0b, 0, none⟩)]), (5, .int .i64 0), (7, .int .i64 2), (8, .int .i64 0)]) (mem' := fun _ => [(1, .rd a0_0_1_o 4 ([[.string (ByteArray.mk #[97]), .int .i64 1, .int .i64 1, .int .u32 7]] : List (List Value))), (2, .rd a0_1_1_o 4 ([[.string (ByteArray.mk #[97]), .int .i64 1, .int .i64 1, .int .u32 8]] : List (List Value))), (3, .rd a0_o 3 ([[.int .i64 0, .slice a0_0_1_o 1 a0_0_1_c, .slice none 0 0], [.int .i64 1, .slice a0_1_1_o 1 a0_1_1_c, .slice none 0 0]] : List (List Value))), (4, .rd (some ⟨a1c0b, 0, none⟩) 4 ([[.string (ByteArray.mk #[97]), .int .i64 1, .int .i64 1, .int .u32 7]] : List (List Value)))]) (RunsTo.mk [] [0, 1, 5, 7, 8] [1, 2, 3, 4] (fun _ => []) (fun _ => by kernel_rfl) (fun _ => trivial)) ?_
  intro _
  refine GS.seq ?_
  refine bnd_elim hm (fun y6 e7 hm => ?_)
  refine GS.region (env' := fun _ => [(0, .slice a0_o 2 a0_c), (1, .func (.func 25) #[] #[.pointer (some ⟨a1c0b, 0, none⟩)]), (5, .int .i64 0), (7, .int .i64 2), (8, .int .i64 0), (16, .bool true)]) (mem' := fun _ => [(1, .rd a0_0_1_o 4 ([[.string (ByteArray.mk #[97]), .int .i64 1, .int .i64 1, .int .u32 7]] : List (List Value))), (2, .rd a0_1_1_o 4 ([[.string (ByteArray.mk #[97]), .int .i64 1, .int .i64 1, .int .u32 8]] : List (List Value))), (3, .rd a0_o 3 ([[.int .i64 0, .slice a0_0_1_o 1 a0_0_1_c, .slice none 0 0], [.int .i64 1, .slice a0_1_1_o 1 a0_1_1_c, .slice none 0 0]] : List (List Value))), (4, .rd (some ⟨a1c0b, 0, none⟩) 4 ([[.string (ByteArray.mk #[97]), .int .i64 1, .int .i64 1, .int .u32 7]] : List (List Value)))]) (RunsTo.mk [(3, { act := .idx 3 0 }), (4, { act := .load 3 0 0 [.int .i64 0, .slice a0_0_1_o 1 a0_0_1_c, .slice none 0 0] }), (5, { act := .call [1, 4] (.bool true) })] [0, 1, 5, 7, 8, 16] [1, 2, 3, 4] (fun _ => [a0_o = a0_o, 2 = ([[.int .i64 0, .slice a0_0_1_o 1 a0_0_1_c, .slice none 0 0], [.int .i64 1, .slice a0_1_1_o 1 a0_1_1_c, .slice none 0 0]] : List (List Value)).length, (0 : Int) = ((0 : Nat) : Int), 0 < 2, blk a0_o = blk a0_o, offs a0_o + 0 * 3 = offs a0_o + (0 * 3 + 0), ([[.int .i64 0, .slice a0_0_1_o 1 a0_0_1_c, .slice none 0 0], [.int .i64 1, .slice a0_1_1_o 1 a0_1_1_c, .slice none 0 0]] : List (List Value))[0]? = some [.int .i64 0, .slice a0_0_1_o 1 a0_0_1_c, .slice none 0 0], CallOK Try.prog 25 #[.agg #[.int .i64 0, .slice a0_0_1_o 1 a0_0_1_c, .slice none 0 0], .pointer (some ⟨a1c0b, 0, none⟩)] (.bool true) [some (.rd a0_0_1_o 4 ([[.string (ByteArray.mk #[97]), .int .i64 1, .int .i64 1, .int .u32 7]] : List (List Value))), some (.rd (some ⟨a1c0b, 0, none⟩) 4 ([[.string (ByteArray.mk #[97]), .int .i64 1, .int .i64 1, .int .u32 7]] : List (List Value)))]]) (fun _ => by kernel_rfl) (fun _ => ⟨rfl, rfl, rfl, (Nat.le_of_ble_eq_true rfl), rfl, rfl, rfl, (w_scrub_Compare_1 F a0_0_1_o a0_0_1_c a1c0b e7).ok ⟨(.inl ⟨.rd a0_0_1_o 4 ([[.string (ByteArray.mk #[97]), .int .i64 1, .int .i64 1, .int .u32 7]] : List (List Value)), .head _, Cov.refl _⟩), (.inl ⟨.rd (some ⟨a1c0b, 0, none⟩) 4 ([[.string (ByteArray.mk #[97]), .int .i64 1, .int .i64 1, .int .u32 7]] : List (List Value)), (.tail _ (.head _)), Cov.refl _⟩), trivial⟩, trivial⟩)) ?_
  intro _
  refine GS.cond (t := true) rfl rfl (fun _ => ?_) (fun hf => by cases hf)
  refine GS.seq ?_
  refine GS.region (env' := fun _ => [(4, .int .i64 0)]) (mem' := fun _ => []) (RunsTo.mk [] [4] [] (fun _ => []) (fun _ => by kernel_rfl) (fun _ => trivial)) ?_
  intro _
  have hy := Option.some.inj hm
  subst hy
  refine GS.ret (fn := Try.f24) [0] [.int .i64 0] [] rfl Try.func24 (by kernel_rfl) trivial (fun w' hs => ?_)
  exact ⟨(), rfl, hs.turnedG (ks := []) rfl rfl⟩

theorem w_slices_Index___api_Item_api_Item__2 (F : Nat) (a0_o : Option Addr) (a0_c : Nat) {y : Unit} (hm : m_slices_Index___api_Item_api_Item__2 F = some y) : CallG Try.prog 38 #[.slice a0_o 1 a0_c, .agg #[.string (ByteArray.mk #[97]), .int .i64 1, .int .i64 1, .int .u32 7]] (X := Unit) (fun (_ : Unit) => .int .i64 (-1)) [] [.rd a0_o 4 ([[.string (ByteArray.mk #[97]), .int .i64 1, .int .i64 1, .int .u32 8]] : List (List Value))] (fun (_ : Unit) => []) := by
  intro w hg
  rw [m_slices_Index___api_Item_api_Item__2] at hm
  refine GS.start (S := mayT [] [.rd a0_o 4 ([[.string (ByteArray.mk #[97]), .int .i64 1, .int .i64 1, .int .u32 8]] : List (List Value))]) (mem := [(1, .rd a0_o 4 ([[.string (ByteArray.mk #[97]), .int .i64 1, .int .i64 1, .int .u32 8]] : List (List Value)))]) Try.func38 rfl Try.ntmps38 (Nat.le_of_ble_eq_true rfl) (hg.start rfl) ?_
  refine GS.conv (env' := [(0, .slice a0_o 1 a0_c), (1, .agg #[.string (ByteArray.mk #[97]), .int .i64 1, .int .i64 1, .int .u32 7])]) rfl rfl ?_
  refine GS.seq ?_
  refine GS.region (env' := fun fr1 => [(0, .slice a0_o 1 a0_c), (3, .pointer (some ⟨(fr1 0).x, 0, none⟩))]) (mem' := fun fr1 => [(1, .rd a0_o 4 ([[.string (ByteArray.mk #[97]), .int .i64 1, .int .i64 1, .int .u32 8]] : List (List Value))), (2, .cells ((fr1 0).x) 75 [.string (ByteArray.mk #[97]), .int .i64 1, .int .i64 1, .int .u32 7])]) (RunsTo.mk [(0, { act := .new .var, key := some 2 })] [0, 3] [1, 2] (fun fr1 => []) (fun fr1 => by kernel_rfl) (fun fr1 => trivial)) ?_
  intro fr1
  refine GS.seq ?_
  refine GS.seq ?_
  refine GS.region (env' := fun _ => [(0, .slice a0_o 1 a0_c), (3, .pointer (some ⟨(fr1 0).x, 0, none⟩)), (7, .int .i64 1), (8, .int .i64 0)]) (mem' := fun _ => [(1, .rd a0_o 4 ([[.string (ByteArray.mk #[97]), .int .i64 1, .int .i64 1, .int .u32 8]] : List (List Value))), (2, .cells ((fr1 0).x) 75 [.string (ByteArray.mk #[97]), .int .i64 1, .int .i64 1, .int .u32 7])]) (RunsTo.mk [] [0, 3, 7, 8] [1, 2] (fun _ => []) (fun _ => by kernel_rfl) (fun _ => trivial)) ?_
  intro _
  refine GS.block ?_
  refine GS.loop ?_
  refine GS.seq ?_
  refine GS.region (env' := fun _ => [(0, .slice a0_o 1 a0_c), (3, .pointer (some ⟨(fr1 0).x, 0, none⟩)), (7, .int .i64 1), (8, .int .i64 0), (9, .bool true)]) (mem' := fun _ => [(1, .rd a0_o 4 ([[.string (ByteArray.mk #[97]), .int .i64 1, .int .i64 1, .int .u32 8]] : List (List Value))), (2, .cells ((fr1 0).x) 75 [.string (ByteArray.mk #[97]), .int .i64 1, .int .i64 1, .int .u32 7])]) (RunsTo.mk [] [0, 3, 7, 8, 9] [1, 2] (fun _ => []) (fun _ => by kernel_rfl) (fun _ => trivial)) ?_
  intro _
  refine GS.seq ?_
  refine GS.cond (t := true) rfl rfl (fun _ => ?_) (fun hf => by cases hf)
  refine GS.skip ?_
  refine GS.seq ?_
  refine GS.block ?_
  refine GS.seq ?_
  refine GS.region (env' := fun _ => [(0, .slice a0_o 1 a0_c), (3, .pointer (some ⟨(fr1 0).x, 0, none⟩)), (5, .int .i64 0), (7, .int .i64 1), (8, .int .i64 0)]) (mem' := fun _ => [(1, .rd a0_o 4 ([[.string (ByteArray.mk #[97]), .int .i64 1, .int .i64 1, .int .u32 8]] : List (List Value))), (2, .cells ((fr1 0).x) 75 [.string (ByteArray.mk #[97]), .int .i64 1, .int .i64 1, .int .u32 7])]) (RunsTo.mk [] [0, 3, 5, 7, 8] [1, 2] (fun _ => []) (fun _ => by kernel_rfl) (fun _ => trivial)) ?_
  intro _
  refine GS.seq ?_
  refine GS.region (env' := fun _ => [(0, .slice a0_o 1 a0_c), (3, .pointer (some ⟨(fr1 0).x, 0, none⟩)), (5, .int .i64 0), (7, .int .i64 1), (8, .int .i64 0), (16, .bool false)]) (mem' := fun _ => [(1, .rd a0_o 4 ([[.string (ByteArray.mk #[97]), .int .i64 1, .int .i64 1, .int .u32 8]] : List (List Value))), (2, .cells ((fr1 0).x) 75 [.string (ByteArray.mk #[97]), .int .i64 1, .int .i64 1, .int .u32 7])]) (RunsTo.mkd [(0, { act := .load 2 0 0 [] }), (3, { act := .idx 1 0 }), (4, { act := .load 1 0 0 [.string (ByteArray.mk #[97]), .int .i64 1, .int .i64 1, .int .u32 8] }), (5, { act := .eq, sp := some (.bool false) })] [0, 3, 5, 7, 8, 16] [1, 2] (fun _ => [(fr1 0).x = (fr1 0).x, a0_o = a0_o, 1 = ([[.string (ByteArray.mk #[97]), .int .i64 1, .int .i64 1, .int .u32 8]] : List (List Value)).length, (0 : Int) = ((0 : Nat) : Int), 0 < 1, blk a0_o = blk a0_o, offs a0_o + 0 * 4 = offs a0_o + (0 * 4 + 0), ([[.string (ByteArray.mk #[97]), .int .i64 1, .int .i64 1, .int .u32 8]] : List (List Value))[0]? = some [.string (ByteArray.mk #[97]), .int .i64 1, .int .i64 1, .int .u32 8], ((.bool (S_api_Item.beq (S_api_Item.mk (ByteArray.mk #[97]) (S_api_Version.mk 1 1) 7) (S_api_Item.mk (ByteArray.mk #[97]) (S_api_Version.mk 1 1) 8))) : Value) = .bool false]) (by kernel_rfl) (by kernel_rfl) (fun _ => by kernel_rfl) (fun _ => ⟨rfl, rfl, rfl, rfl, (Nat.le_of_ble_eq_true rfl), rfl, rfl, rfl, (by kernel_rfl), trivial⟩)) ?_
  intro _
  refine GS.cond (t := false) rfl rfl (fun hf => by cases hf) (fun _ => ?_)
  refine GS.skip ?_
  refine GS.inBlock ?_
  refine GS.region (env' := fun _ => [(0, .slice a0_o 1 a0_c), (3, .pointer (some ⟨(fr1 0).x, 0, none⟩)), (7, .int .i64 1), (8, .int .i64 1)]) (mem' := fun _ => [(1, .rd a0_o 4 ([[.string (ByteArray.mk #[97]), .int .i64 1, .int .i64 1, .int .u32 8]] : List (List Value))), (2, .cells ((fr1 0).x) 75 [.string (ByteArray.mk #[97]), .int .i64 1, .int .i64 1, .int .u32 7])]) (RunsTo.mk [] [0, 3, 7, 8] [1, 2] (fun _ => []) (fun _ => by kernel_rfl) (fun _ => trivial)) ?_
  intro _
  refine GS.inLoop ?_
  refine GS.seq ?_
  refine GS.region (env' := fun _ => [(0, .slice a0_o 1 a0_c), (3, .pointer (some ⟨(fr1 0).x, 0, none⟩)), (7, .int .i64 1), (8, .int .i64 1), (9, .bool false)]) (mem' := fun _ => [(1, .rd a0_o 4 ([[.string (ByteArray.mk #[97]), .int .i64 1, .int .i64 1, .int .u32 8]] : List (List Value))), (2, .cells ((fr1 0).x) 75 [.string (ByteArray.mk #[97]), .int .i64 1, .int .i64 1, .int .u32 7])]) (RunsTo.mk [] [0, 3, 7, 8, 9] [1, 2] (fun _ => []) (fun _ => by kernel_rfl) (fun _ => trivial)) ?_
  intro _
  refine GS.seq ?_
  refine GS.cond (t := false) rfl rfl (fun hf => by cases hf) (fun _ => ?_)
  refine GS.exit rfl ?_
  refine GS.seq ?_
  refine GS.region (env' := fun _ => [(4, .int .i64 (-1))]) (mem' := fun _ => []) (RunsTo.mk [] [4] [] (fun _ => []) (fun _ => by kernel_rfl) (fun _ => trivial)) ?_
  intro _
  have hy := Option.some.inj hm
  subst hy
  refine GS.ret (fn := Try.f38) [0] [.int .i64 (-1)] [] rfl Try.func38 (by kernel_rfl) trivial (fun w' hs => ?_)
  exact ⟨(), rfl, hs.turnedG (ks := []) rfl rfl⟩

theorem w_slices_Contains___api_Item_api_Item__2 (F : Nat) (a0_o : Option Addr) (a0_c : Nat) {y : Unit} (hm : m_slices_Contains___api_Item_api_Item__2 F = some y) : CallG Try.prog 32 #[.slice a0_o 1 a0_c, .agg #[.string (ByteArray.mk #[97]), .int .i64 1, .int .i64 1, .int .u32 7]] (X := Unit) (fun (_ : Unit) => .bool false) [] [.rd a0_o 4 ([[.string (ByteArray.mk #[97]), .int .i64 1, .int .i64 1, .int .u32 8]] : List (List Value))] (fun (_ : Unit) => []) := by
  intro w hg
  rw [m_slices_Contains___api_Item_api_Item__2] at hm
  refine GS.start (S := mayT [] [.rd a0_o 4 ([[.string (ByteArray.mk #[97]), .int .i64 1, .int .i64 1, .int .u32 8]] : List (List Value))]) (mem := [(1, .rd a0_o 4 ([[.string (ByteArray.mk #[97]), .int .i64 1, .int .i64 1, .int .u32 8]] : List (List Value)))]) Try.func32 rfl Try.ntmps32 (Nat.le_of_ble_eq_true rfl) (hg.start rfl) ?_
  refine GS.conv (env' := [(0, .slice a0_o 1 a0_c), (1, .agg #[.string (ByteArray.mk #[97]), .int .i64 1, .int .i64 1, .int .u32 7])]) rfl rfl ?_
  refine GS.seq ?_
  refine GS.region (env' := fun fr1 => [(0, .slice a0_o 1 a0_c), (3, .pointer (some ⟨(fr1 0).x, 0, none⟩))]) (mem' := fun fr1 => [(1, .rd a0_o 4 ([[.string (ByteArray.mk #[97]), .int .i64 1, .int .i64 1, .int .u32 8]] : List (List Value))), (2, .cells ((fr1 0).x) 75 [.string (ByteArray.mk #[97]), .int .i64 1, .int .i64 1, .int .u32 7])]) (RunsTo.mk [(0, { act := .new .var, key := some 2 })] [0, 3] [1, 2] (fun fr1 => []) (fun fr1 => by kernel_rfl) (fun fr1 => trivial)) ?_
  intro fr1
  refine GS.seq ?_
  refine bnd_elim hm (fun y3 e4 hm => ?_)
  refine GS.region (env' := fun _ => [(4, .bool false)]) (mem' := fun _ => []) (RunsTo.mk [(1, { act := .load 2 0 0 [] }), (2, { act := .call [1] (.int .i64 (-1)) })] [4] [] (fun _ => [(fr1 0).x = (fr1 0).x, CallOK Try.prog 38 #[.slice a0_o 1 a0_c, .agg #[.string (ByteArray.mk #[97]), .int .i64 1, .int .i64 1, .int .u32 7]] (.int .i64 (-1)) [some (.rd a0_o 4 ([[.string (ByteArray.mk #[97]), .int .i64 1, .int .i64 1, .int .u32 8]] : List (List Value)))]]) (fun _ => by kernel_rfl) (fun _ => ⟨rfl, (w_slices_Index___api_Item_api_Item__2 F a0_o a0_c e4).ok ⟨(.inl ⟨.rd a0_o 4 ([[.string (ByteArray.mk #[97]), .int .i64 1, .int .i64 1, .int .u32 8]] : List (List Value)), .head _, Cov.refl _⟩), trivial⟩, trivial⟩)) ?_
  intro _
  have hy := Option.some.inj hm
  subst hy
  refine GS.ret (fn := Try.f32) [0] [.bool false] [] rfl Try.func32 (by kernel_rfl) trivial (fun w' hs => ?_)
  exact ⟨(), rfl, hs.turnedG (ks := []) rfl rfl⟩

theorem w__scrub_Copy__good_2 (F : Nat) (a0_1_o : Option Addr) (a0_1_c : Nat) {y : Unit} (hm : m__scrub_Copy__good_2 F = some y) : CallG Try.prog 26 #[.agg #[.int .i64 1, .slice a0_1_o 1 a0_1_c, .slice none 0 0], .agg #[.string (ByteArray.mk #[97]), .int .i64 1, .int .i64 1, .int .u32 7]] (X := Unit) (fun (_ : Unit) => .bool false) [] [.rd a0_1_o 4 ([[.string (ByteArray.mk #[97]), .int .i64 1, .int .i64 1, .int .u32 8]] : List (List Value))] (fun (_ : Unit) => []) := by
  intro w hg
  rw [m__scrub_Copy__good_2] at hm
  refine GS.start (S := mayT [] [.rd a0_1_o 4 ([[.string (ByteArray.mk #[97]), .int .i64 1, .int .i64 1, .int .u32 8]] : List (List Value))]) (mem := [(1, .rd a0_1_o 4 ([[.string (ByteArray.mk #[97]), .int .i64 1, .int .i64 1, .int .u32 8]] : List (List Value)))]) Try.func26 rfl Try.ntmps26 (Nat.le_of_ble_eq_true rfl) (hg.start rfl) ?_
  refine GS.conv (env' := [(0, .agg #[.int .i64 1, .slice a0_1_o 1 a0_1_c, .slice none 0 0]), (1, .agg #[.string (ByteArray.mk #[97]), .int .i64 1, .int .i64 1, .int .u32 7])]) rfl rfl ?_
  refine GS.seq ?_
  refine GS.region (env' := fun fr1 => [(2, .pointer (some ⟨(fr1 0).x, 0, none⟩)), (3, .pointer (some ⟨(fr1 1).x, 0, none⟩))]) (mem' := fun fr1 => [(1, .rd a0_1_o 4 ([[.string (ByteArray.mk #[97]), .int .i64 1, .int .i64 1, .int .u32 8]] : List (List Value))), (2, .cells ((fr1 0).x) 60 [.int .i64 1, .slice a0_1_o 1 a0_1_c, .slice none 0 0]), (3, .cells ((fr1 1).x) 75 [.string (ByteArray.mk #[97]), .int .i64 1, .int .i64 1, .int .u32 7])]) (RunsTo.mk [(0, { act := .new .var, key := some 2 }), (1, { act := .new .var, key := some 3 })] [2, 3] [1, 2, 3] (fun fr1 => []) (fun fr1 => by kernel_rfl) (fun fr1 => trivial)) ?_
  intro fr1
  refine GS.seq ?_
  refine bnd_elim hm (fun y3 e4 hm => ?_)
  refine GS.region (env' := fun _ => [(4, .bool false)]) (mem' := fun _ => []) (RunsTo.mk [(1, { act := .load 2 0 0 [] }), (2, { act := .load 3 0 0 [] }), (3, { act := .call [1] (.bool false) })] [4] [] (fun _ => [(fr1 0).x = (fr1 0).x, (fr1 1).x = (fr1 1).x, CallOK Try.prog 32 #[.slice a0_1_o 1 a0_1_c, .agg #[.string (ByteArray.mk #[97]), .int .i64 1, .int .i64 1, .int .u32 7]] (.bool false) [some (.rd a0_1_o 4 ([[.string (ByteArray.mk #[97]), .int .i64 1, .int .i64 1, .int .u32 8]] : List (List Value)))]]) (fun _ => by kernel_rfl) (fun _ => ⟨rfl, rfl, (w_slices_Contains___api_Item_api_Item__2 F a0_1_o a0_1_c e4).ok ⟨(.inl ⟨.rd a0_1_o 4 ([[.string (ByteArray.mk #[97]), .int .i64 1, .int .i64 1, .int .u32 8]] : List (List Value)), .head _, Cov.refl _⟩), trivial⟩, trivial⟩)) ?_
  intro _
  have hy := Option.some.inj hm
  subst hy
  refine GS.ret (fn := Try.f26) [0] [.bool false] [] rfl Try.func26 (by kernel_rfl) trivial (fun w' hs => ?_)
  exact ⟨(), rfl, hs.turnedG (ks := []) rfl rfl⟩

theorem w_math_bits_Len64 (F : Nat) {y : Unit} (hm : m_math_bits_Len64 F = some y) : CallG Try.prog 50 #[.int .u64 1] (X := Unit) (fun (_ : Unit) => .int .i64 1) [] [] (fun (_ : Unit) => []) := by
  intro w hg
  rw [m_math_bits_Len64] at hm
  refine GS.start (S := mayT [] []) (mem := []) Try.func50 rfl Try.ntmps50 (Nat.le_of_ble_eq_true rfl) (hg.start rfl) ?_
  refine GS.conv (env' := [(0, .int .u64 1)]) rfl rfl ?_
  refine GS.seq ?_
  refine GS.region (env' := fun _ => [(0, .int .u64 1), (2, .int .i64 0)]) (mem' := fun _ => []) (RunsTo.mk [] [0, 2] [] (fun _ => []) (fun _ => by kernel_rfl) (fun _ => trivial)) ?_
  intro _
  refine GS.seq ?_
  refine GS.seq ?_
  refine GS.region (env' := fun _ => [(0, .int .u64 1), (2, .int .i64 0), (4, .bool false)]) (mem' := fun _ => []) (RunsTo.mk [] [0, 2, 4] [] (fun _ => []) (fun _ => by kernel_rfl) (fun _ => trivial)) ?_
  intro _
  refine GS.cond (t := false) rfl rfl (fun hf => by cases hf) (fun _ => ?_)
  refine GS.skip ?_
  refine GS.seq ?_
  refine GS.seq ?_
  refine GS.region (env' := fun _ => [(0, .int .u64 1), (2, .int .i64 0), (8, .bool false)]) (mem' := fun _ => []) (RunsTo.mk [] [0, 2, 8] [] (fun _ => []) (fun _ => by kernel_rfl) (fun _ => trivial)) ?_
  intro _
  refine GS.cond (t := false) rfl rfl (fun hf => by cases hf) (fun _ => ?_)
  refine GS.skip ?_
  refine GS.seq ?_
  refine GS.seq ?_
  refine GS.region (env' := fun _ => [(0, .int .u64 1), (2, .int .i64 0), (14, .bool false)]) (mem' := fun _ => []) (RunsTo.mk [] [0, 2, 14] [] (fun _ => []) (fun _ => by kernel_rfl) (fun _ => trivial)) ?_
  intro _
  refine GS.cond (t := false) rfl rfl (fun hf => by cases hf) (fun _ => ?_)
  refine GS.skip ?_
  refine GS.seq ?_
  refine GS.region (env' := fun _ => [(2, .int .i64 1)]) (mem' := fun _ => []) (RunsTo.mk [(3, { act := .elt 1, sp := some (.int .u8 1) })] [2] [] (fun _ => [(1 : Int) = ((1 : Nat) : Int), 1 < (ByteArray.mk #[0, 1, 2, 2, 3, 3, 3, 3, 4, 4, 4, 4, 4, 4, 4, 4, 5, 5, 5, 5, 5, 5, 5, 5, 5, 5, 5, 5, 5, 5, 5, 5, 6, 6, 6, 6, 6, 6, 6, 6, 6, 6, 6, 6, 6, 6, 6, 6, 6, 6, 6, 6, 6, 6, 6, 6, 6, 6, 6, 6, 6, 6, 6, 6, 7, 7, 7, 7, 7, 7, 7, 7, 7, 7, 7, 7, 7, 7, 7, 7, 7, 7, 7, 7, 7, 7, 7, 7, 7, 7, 7, 7, 7, 7, 7, 7, 7, 7, 7, 7, 7, 7, 7, 7, 7, 7, 7, 7, 7, 7, 7, 7, 7, 7, 7, 7, 7, 7, 7, 7, 7, 7, 7, 7, 7, 7, 7, 7, 8, 8, 8, 8, 8, 8, 8, 8, 8, 8, 8, 8, 8, 8, 8, 8, 8, 8, 8, 8, 8, 8, 8, 8, 8, 8, 8, 8, 8, 8, 8, 8, 8, 8, 8, 8, 8, 8, 8, 8, 8, 8, 8, 8, 8, 8, 8, 8, 8, 8, 8, 8, 8, 8, 8, 8, 8, 8, 8, 8, 8, 8, 8, 8, 8, 8, 8, 8, 8, 8, 8, 8, 8, 8, 8, 8, 8, 8, 8, 8, 8, 8, 8, 8, 8, 8, 8, 8, 8, 8, 8, 8, 8, 8, 8, 8, 8, 8, 8, 8, 8, 8, 8, 8, 8, 8, 8, 8, 8, 8, 8, 8, 8, 8, 8, 8, 8, 8, 8, 8, 8, 8, 8, 8, 8, 8, 8, 8]).size, ((.int .u8 ((((ByteArray.mk #[0, 1, 2, 2, 3, 3, 3, 3, 4, 4, 4, 4, 4, 4, 4, 4, 5, 5, 5, 5, 5, 5, 5, 5, 5, 5, 5, 5, 5, 5, 5, 5, 6, 6, 6, 6, 6, 6, 6, 6, 6, 6, 6, 6, 6, 6, 6, 6, 6, 6, 6, 6, 6, 6, 6, 6, 6, 6, 6, 6, 6, 6, 6, 6, 7, 7, 7, 7, 7, 7, 7, 7, 7, 7, 7, 7, 7, 7, 7, 7, 7, 7, 7, 7, 7, 7, 7, 7, 7, 7, 7, 7, 7, 7, 7, 7, 7, 7, 7, 7, 7, 7, 7, 7, 7, 7, 7, 7, 7, 7, 7, 7, 7, 7, 7, 7, 7, 7, 7, 7, 7, 7, 7, 7, 7, 7, 7, 7, 8, 8, 8, 8, 8, 8, 8, 8, 8, 8, 8, 8, 8, 8, 8, 8, 8, 8, 8, 8, 8, 8, 8, 8, 8, 8, 8, 8, 8, 8, 8, 8, 8, 8, 8, 8, 8, 8, 8, 8, 8, 8, 8, 8, 8, 8, 8, 8, 8, 8, 8, 8, 8, 8, 8, 8, 8, 8, 8, 8, 8, 8, 8, 8, 8, 8, 8, 8, 8, 8, 8, 8, 8, 8, 8, 8, 8, 8, 8, 8, 8, 8, 8, 8, 8, 8, 8, 8, 8, 8, 8, 8, 8, 8, 8, 8, 8, 8, 8, 8, 8, 8, 8, 8, 8, 8, 8, 8, 8, 8, 8, 8, 8, 8, 8, 8, 8, 8, 8, 8, 8, 8, 8, 8, 8, 8, 8, 8]).data.getD 1 0).toNat : Nat) : Int)) : Value) = .int .u8 1]) (fun _ => by kernel_rfl) (fun _ => ⟨rfl, (Nat.le_of_ble_eq_true rfl), (by kernel_rfl), trivial⟩)) ?_
  intro _
  have hy := Option.some.inj hm
  subst hy
  refine GS.ret (fn := Try.f50) [0] [.int .i64 1] [] rfl Try.func50 (by kernel_rfl) trivial (fun w' hs => ?_)
  exact ⟨(), rfl, hs.turnedG (ks := []) rfl rfl⟩

theorem w_math_bits_Len (F : Nat) {y : Unit} (hm : m_math_bits_Len F = some y) : CallG Try.prog 35 #[.int .u64 1] (X := Unit) (fun (_ : Unit) => .int .i64 1) [] [] (fun (_ : Unit) => []) := by
  intro w hg
  rw [m_math_bits_Len] at hm
  refine GS.start (S := mayT [] []) (mem := []) Try.func35 rfl Try.ntmps35 (Nat.le_of_ble_eq_true rfl) (hg.start rfl) ?_
  refine GS.conv (env' := [(0, .int .u64 1)]) rfl rfl ?_
  refine GS.seq ?_
  refine GS.region (env' := fun _ => [(0, .int .u64 1)]) (mem' := fun _ => []) (RunsTo.mk [] [0] [] (fun _ => []) (fun _ => by kernel_rfl) (fun _ => trivial)) ?_
  intro _
  refine GS.seq ?_
  refine GS.cond (t := false) rfl rfl (fun hf => by cases hf) (fun _ => ?_)
  refine GS.skip ?_
  refine GS.seq ?_
  refine bnd_elim hm (fun y3 e4 hm => ?_)
  refine GS.region (env' := fun _ => [(2, .int .i64 1)]) (mem' := fun _ => []) (RunsTo.mk [(1, { act := .call [] (.int .i64 1) })] [2] [] (fun _ => [CallOK Try.prog 50 #[.int .u64 1] (.int .i64 1) []]) (fun _ => by kernel_rfl) (fun _ => ⟨(w_math_bits_Len64 F  e4).ok trivial, trivial⟩)) ?_
  intro _
  have hy := Option.some.inj hm
  subst hy
  refine GS.ret (fn := Try.f35) [0] [.int .i64 1] [] rfl Try.func35 (by kernel_rfl) trivial (fun w' hs => ?_)
  exact ⟨(), rfl, hs.turnedG (ks := []) rfl rfl⟩

theorem w_slices_insertionSortOrdered_int_ (F : Nat) (a0_o : Option Addr) (a0_c : Nat) {y : Unit} (hm : m_slices_insertionSortOrdered_int_ F = some y) : CallG Try.prog 40 #[.slice a0_o 1 a0_c, .int .i64 0, .int .i64 1] (X := Unit) (fun (_ : Unit) => .tuple #[]) [] [.rd a0_o 1 ([[.int .i64 1]] : List (List Value))] (fun (_ : Unit) => []) := by
  intro w hg
  rw [m_slices_insertionSortOrdered_int_] at hm
  refine GS.start (S := mayT [] [.rd a0_o 1 ([[.int .i64 1]] : List (List Value))]) (mem := [(1, .rd a0_o 1 ([[.int .i64 1]] : List (List Value)))]) Try.func40 rfl Try.ntmps40 (Nat.le_of_ble_eq_true rfl) (hg.start rfl) ?_
  refine GS.conv (env' := [(0, .slice a0_o 1 a0_c), (1, .int .i64 0), (2, .int .i64 1)]) rfl rfl ?_
  refine GS.seq ?_
  refine GS.region (env' := fun _ => [(0, .slice a0_o 1 a0_c), (1, .int .i64 0), (2, .int .i64 1), (6, .int .i64 1)]) (mem' := fun _ => [(1, .rd a0_o 1 ([[.int .i64 1]] : List (List Value)))]) (RunsTo.mk [] [0, 1, 2, 6] [1] (fun _ => []) (fun _ => by kernel_rfl) (fun _ => trivial)) ?_
  intro _
  refine GS.block ?_
  refine GS.loop ?_
  refine GS.seq ?_
  refine GS.seq ?_
  refine GS.region (env' := fun _ => [(0, .slice a0_o 1 a0_c), (1, .int .i64 0), (2, .int .i64 1), (6, .int .i64 1), (12, .bool false)]) (mem' := fun _ => [(1, .rd a0_o 1 ([[.int .i64 1]] : List (List Value)))]) (RunsTo.mk [] [0, 1, 2, 6, 12] [1] (fun _ => []) (fun _ => by kernel_rfl) (fun _ => trivial)) ?_
  intro _
  refine GS.cond (t := false) rfl rfl (fun hf => by cases hf) (fun _ => ?_)
  refine GS.exit rfl ?_
  have hy := Option.some.inj hm
  subst hy
  refine GS.end_ (fn := Try.f40) [] [] [] rfl Try.func40 (by kernel_rfl) trivial (fun w' hs => ?_)
  exact ⟨(), rfl, hs.turnedG (ks := []) rfl rfl⟩

theorem w_slices_pdqsortOrdered_int_ (F : Nat) (a0_o : Option Addr) (a0_c : Nat) {y : Unit} (hm : m_slices_pdqsortOrdered_int_ F = some y) : CallG Try.prog 34 #[.slice a0_o 1 a0_c, .int .i64 0, .int .i64 1, .int .i64 1] (X := Unit) (fun (_ : Unit) => .tuple #[]) [] [.rd a0_o 1 ([[.int .i64 1]] : List (List Value))] (fun (_ : Unit) => []) := by
  intro w hg
  rw [m_slices_pdqsortOrdered_int_] at hm
  refine GS.start (S := mayT [] [.rd a0_o 1 ([[.int .i64 1]] : List (List Value))]) (mem := [(1, .rd a0_o 1 ([[.int .i64 1]] : List (List Value)))]) Try.func34 rfl Try.ntmps34 (Nat.le_of_ble_eq_true rfl) (hg.start rfl) ?_
  refine GS.conv (env' := [(0, .slice a0_o 1 a0_c), (1, .int .i64 0), (2, .int .i64 1), (3, .int .i64 1)]) rfl rfl ?_
  refine GS.seq ?_
  refine GS.region (env' := fun _ => [(0, .slice a0_o 1 a0_c), (1, .int .i64 0), (2, .int .i64 1), (3, .int .i64 1), (8, .bool true)]) (mem' := fun _ => [(1, .rd a0_o 1 ([[.int .i64 1]] : List (List Value)))]) (RunsTo.mk [] [0, 1, 2, 3, 8] [1] (fun _ => []) (fun _ => by kernel_rfl) (fun _ => trivial)) ?_
  intro _
  refine GS.seq ?_
  refine GS.region (env' := fun _ => [(0, .slice a0_o 1 a0_c), (1, .int .i64 0), (2, .int .i64 1), (3, .int .i64 1), (8, .bool true), (9, .bool true)]) (mem' := fun _ => [(1, .rd a0_o 1 ([[.int .i64 1]] : List (List Value)))]) (RunsTo.mk [] [0, 1, 2, 3, 8, 9] [1] (fun _ => []) (fun _ => by kernel_rfl) (fun _ => trivial)) ?_
  intro _
  refine GS.block ?_
  refine GS.loop ?_
  refine GS.block ?_
  refine GS.seq ?_
  refine GS.region (env' := fun _ => [(0, .slice a0_o 1 a0_c), (1, .int .i64 0), (2, .int .i64 1), (3, .int .i64 1), (8, .bool true), (9, .bool true), (10, .int .i64 1)]) (mem' := fun _ => [(1, .rd a0_o 1 ([[.int .i64 1]] : List (List Value)))]) (RunsTo.mk [] [0, 1, 2, 3, 8, 9, 10] [1] (fun _ => []) (fun _ => by kernel_rfl) (fun _ => trivial)) ?_
  intro _
  refine GS.seq ?_
  refine GS.seq ?_
  refine GS.region (env' := fun _ => [(0, .slice a0_o 1 a0_c), (1, .int .i64 0), (2, .int .i64 1), (3, .int .i64 1), (8, .bool true), (9, .bool true), (10, .int .i64 1), (23, .bool true)]) (mem' := fun _ => [(1, .rd a0_o 1 ([[.int .i64 1]] : List (List Value)))]) (RunsTo.mk [] [0, 1, 2, 3, 8, 9, 10, 23] [1] (fun _ => []) (fun _ => by kernel_rfl) (fun _ => trivial)) ?_
  intro _
  refine GS.cond (t := true) rfl rfl (fun _ => ?_) (fun hf => by cases hf)
  refine GS.seq ?_
  refine bnd_elim hm (fun y6 e7 hm => ?_)
  refine GS.region (env' := fun _ => []) (mem' := fun _ => []) (RunsTo.mk [(3, { act := .call [1] (.tuple #[]) })] [] [] (fun _ => [CallOK Try.prog 40 #[.slice a0_o 1 a0_c, .int .i64 0, .int .i64 1] (.tuple #[]) [some (.rd a0_o 1 ([[.int .i64 1]] : List (List Value)))]]) (fun _ => by kernel_rfl) (fun _ => ⟨(w_slices_insertionSortOrdered_int_ F a0_o a0_c e7).ok ⟨(.inl ⟨.rd a0_o 1 ([[.int .i64 1]] : List (List Value)), .head _, Cov.refl _⟩), trivial⟩, trivial⟩)) ?_
  intro _
  have hy := Option.some.inj hm
  subst hy
  refine GS.ret (fn := Try.f34) [] [] [] rfl Try.func34 (by kernel_rfl) trivial (fun w' hs => ?_)
  exact ⟨(), rfl, hs.turnedG (ks := []) rfl rfl⟩

theorem w_slices_Sort___int_int_ (F : Nat) (a0_o : Option Addr) (a0_c : Nat) {y : Unit} (hm : m_slices_Sort___int_int_ F = some y) : CallG Try.prog 27 #[.slice a0_o 1 a0_c] (X := Unit) (fun (_ : Unit) => .tuple #[]) [] [.rd a0_o 1 ([[.int .i64 1]] : List (List Value))] (fun (_ : Unit) => []) := by
  intro w hg
  rw [m_slices_Sort___int_int_] at hm
  refine GS.start (S := mayT [] [.rd a0_o 1 ([[.int .i64 1]] : List (List Value))]) (mem := [(1, .rd a0_o 1 ([[.int .i64 1]] : List (List Value)))]) Try.func27 rfl Try.ntmps27 (Nat.le_of_ble_eq_true rfl) (hg.start rfl) ?_
  refine GS.conv (env' := [(0, .slice a0_o 1 a0_c)]) rfl rfl ?_
  refine GS.seq ?_
  refine GS.region (env' := fun _ => [(0, .slice a0_o 1 a0_c), (2, .int .i64 1)]) (mem' := fun _ => [(1, .rd a0_o 1 ([[.int .i64 1]] : List (List Value)))]) (RunsTo.mk [] [0, 2] [1] (fun _ => []) (fun _ => by kernel_rfl) (fun _ => trivial)) ?_
  intro _
  refine bnd_elim hm (fun y3 e4 hm => ?_)
  refine bnd_elim hm (fun y5 e6 hm => ?_)
  refine GS.region (env' := fun _ => []) (mem' := fun _ => []) (RunsTo.mk [(4, { act := .call [] (.int .i64 1) }), (5, { act := .call [1] (.tuple #[]) })] [] [] (fun _ => [CallOK Try.prog 35 #[.int .u64 1] (.int .i64 1) [], CallOK Try.prog 34 #[.slice a0_o 1 a0_c, .int .i64 0, .int .i64 1, .int .i64 1] (.tuple #[]) [some (.rd a0_o 1 ([[.int .i64 1]] : List (List Value)))]]) (fun _ => by kernel_rfl) (fun _ => ⟨(w_math_bits_Len F  e4).ok trivial, (w_slices_pdqsortOrdered_int_ F a0_o a0_c e6).ok ⟨(.inl ⟨.rd a0_o 1 ([[.int .i64 1]] : List (List Value)), .head _, Cov.refl _⟩), trivial⟩, trivial⟩)) ?_
  intro _
  have hy := Option.some.inj hm
  subst hy
  refine GS.end_ (fn := Try.f27) [] [] [] rfl Try.func27 (by kernel_rfl) trivial (fun w' hs => ?_)
  exact ⟨(), rfl, hs.turnedG (ks := []) rfl rfl⟩

theorem w_slices_insertionSortCmpFunc_scrub_Fix_ (F : Nat) (a0_o : Option Addr) (a0_c : Nat) (a0_0_4_o : Option Addr) (a0_0_4_c : Nat) {y : Unit} (hm : m_slices_insertionSortCmpFunc_scrub_Fix_ F = some y) : CallG Try.prog 51 #[.slice a0_o 1 a0_c, .int .i64 0, .int .i64 1, .func (.func 29) #[] #[]] (X := Unit) (fun (_ : Unit) => .tuple #[]) [] [.rd a0_0_4_o 1 ([[.int .i64 1]] : List (List Value)), .rd a0_o 5 ([[.string (ByteArray.mk #[97]), .int .i64 1, .int .i64 1, .int .i64 0, .slice a0_0_4_o 1 a0_0_4_c]] : List (List Value))] (fun (_ : Unit) => []) := by
  intro w hg
  rw [m_slices_insertionSortCmpFunc_scrub_Fix_] at hm
  refine GS.start (S := mayT [] [.rd a0_0_4_o 1 ([[.int .i64 1]] : List (List Value)), .rd a0_o 5 ([[.string (ByteArray.mk #[97]), .int .i64 1, .int .i64 1, .int .i64 0, .slice a0_0_4_o 1 a0_0_4_c]] : List (List Value))]) (mem := [(1, .rd a0_0_4_o 1 ([[.int .i64 1]] : List (List Value))), (2, .rd a0_o 5 ([[.string (ByteArray.mk #[97]), .int .i64 1, .int .i64 1, .int .i64 0, .slice a0_0_4_o 1 a0_0_4_c]] : List (List Value)))]) Try.func51 rfl Try.ntmps51 (Nat.le_of_ble_eq_true rfl) (hg.start rfl) ?_
  refine GS.conv (env' := [(0, .slice a0_o 1 a0_c), (1, .int .i64 0), (2, .int .i64 1), (3, .func (.func 29) #[] #[])]) rfl rfl ?_
  refine GS.seq ?_
  refine GS.region (env' := fun _ => [(0, .slice a0_o 1 a0_c), (1, .int .i64 0), (2, .int .i64 1), (3, .func (.func 29) #[] #[]), (8, .int .i64 1)]) (mem' := fun _ => [(1, .rd a0_0_4_o 1 ([[.int .i64 1]] : List (List Value))), (2, .rd a0_o 5 ([[.string (ByteArray.mk #[97]), .int .i64 1, .int .i64 1, .int .i64 0, .slice a0_0_4_o 1 a0_0_4_c]] : List (List Value)))]) (RunsTo.mk [] [0, 1, 2, 3, 8] [1, 2] (fun _ => []) (fun _ => by kernel_rfl) (fun _ => trivial)) ?_
  intro _
  refine GS.block ?_
  refine GS.loop ?_
  refine GS.seq ?_
  refine GS.seq ?_
  refine GS.region (env' := fun _ => [(0, .slice a0_o 1 a0_c), (1, .int .i64 0), (2, .int .i64 1), (3, .func (.func 29) #[] #[]), (8, .int .i64 1), (14, .bool false)]) (mem' := fun _ => [(1, .rd a0_0_4_o 1 ([[.int .i64 1]] : List (List Value))), (2, .rd a0_o 5 ([[.string (ByteArray.mk #[97]), .int .i64 1, .int .i64 1, .int .i64 0, .slice a0_0_4_o 1 a0_0_4_c]] : List (List Value)))]) (RunsTo.mk [] [0, 1, 2, 3, 8, 14] [1, 2] (fun _ => []) (fun _ => by kernel_rfl) (fun _ => trivial)) ?_
  intro _
  refine GS.cond (t := false) rfl rfl (fun hf => by cases hf) (fun _ => ?_)
  refine GS.exit rfl ?_
  have hy := Option.some.inj hm
  subst hy
  refine GS.end_ (fn := Try.f51) [] [] [] rfl Try.func51 (by kernel_rfl) trivial (fun w' hs => ?_)
  exact ⟨(), rfl, hs.turnedG (ks := []) rfl rfl⟩

theorem w_slices_stableCmpFunc_scrub_Fix_ (F : Nat) (a0_o : Option Addr) (a0_c : Nat) (a0_0_4_o : Option Addr) (a0_0_4_c : Nat) {y : Unit} (hm : m_slices_stableCmpFunc_scrub_Fix_ F = some y) : CallG Try.prog 36 #[.slice a0_o 1 a0_c, .int .i64 1, .func (.func 29) #[] #[]] (X := Unit) (fun (_ : Unit) => .tuple #[]) [] [.rd a0_0_4_o 1 ([[.int .i64 1]] : List (List Value)), .rd a0_o 5 ([[.string (ByteArray.mk #[97]), .int .i64 1, .int .i64 1, .int .i64 0, .slice a0_0_4_o 1 a0_0_4_c]] : List (List Value))] (fun (_ : Unit) => []) := by
  intro w hg
  rw [m_slices_stableCmpFunc_scrub_Fix_] at hm
  refine GS.start (S := mayT [] [.rd a0_0_4_o 1 ([[.int .i64 1]] : List (List Value)), .rd a0_o 5 ([[.string (ByteArray.mk #[97]), .int .i64 1, .int .i64 1, .int .i64 0, .slice a0_0_4_o 1 a0_0_4_c]] : List (List Value))]) (mem := [(1, .rd a0_0_4_o 1 ([[.int .i64 1]] : List (List Value))), (2, .rd a0_o 5 ([[.string (ByteArray.mk #[97]), .int .i64 1, .int .i64 1, .int .i64 0, .slice a0_0_4_o 1 a0_0_4_c]] : List (List Value)))]) Try.func36 rfl Try.ntmps36 (Nat.le_of_ble_eq_true rfl) (hg.start rfl) ?_
  refine GS.conv (env' := [(0, .slice a0_o 1 a0_c), (1, .int .i64 1), (2, .func (.func 29) #[] #[])]) rfl rfl ?_
  refine GS.seq ?_
  refine GS.region (env' := fun _ => [(0, .slice a0_o 1 a0_c), (1, .int .i64 1), (2, .func (.func 29) #[] #[]), (6, .int .i64 20)]) (mem' := fun _ => [(1, .rd a0_0_4_o 1 ([[.int .i64 1]] : List (List Value))), (2, .rd a0_o 5 ([[.string (ByteArray.mk #[97]), .int .i64 1, .int .i64 1, .int .i64 0, .slice a0_0_4_o 1 a0_0_4_c]] : List (List Value)))]) (RunsTo.mk [] [0, 1, 2, 6] [1, 2] (fun _ => []) (fun _ => by kernel_rfl) (fun _ => trivial)) ?_
  intro _
  refine GS.seq ?_
  refine GS.region (env' := fun _ => [(0, .slice a0_o 1 a0_c), (1, .int .i64 1), (2, .func (.func 29) #[] #[]), (6, .int .i64 20), (7, .int .i64 0), (8, .int .i64 20)]) (mem' := fun _ => [(1, .rd a0_0_4_o 1 ([[.int .i64 1]] : List (List Value))), (2, .rd a0_o 5 ([[.string (ByteArray.mk #[97]), .int .i64 1, .int .i64 1, .int .i64 0, .slice a0_0_4_o 1 a0_0_4_c]] : List (List Value)))]) (RunsTo.mk [] [0, 1, 2, 6, 7, 8] [1, 2] (fun _ => []) (fun _ => by kernel_rfl) (fun _ => trivial)) ?_
  intro _
  refine GS.seq ?_
  refine GS.block ?_
  refine GS.loop ?_
  refine GS.seq ?_
  refine GS.seq ?_
  refine GS.region (env' := fun _ => [(0, .slice a0_o 1 a0_c), (1, .int .i64 1), (2, .func (.func 29) #[] #[]), (6, .int .i64 20), (7, .int .i64 0), (8, .int .i64 20), (13, .bool false)]) (mem' := fun _ => [(1, .rd a0_0_4_o 1 ([[.int .i64 1]] : List (List Value))), (2, .rd a0_o 5 ([[.string (ByteArray.mk #[97]), .int .i64 1, .int .i64 1, .int .i64 0, .slice a0_0_4_o 1 a0_0_4_c]] : List (List Value)))]) (RunsTo.mk [] [0, 1, 2, 6, 7, 8, 13] [1, 2] (fun _ => []) (fun _ => by kernel_rfl) (fun _ => trivial)) ?_
  intro _
  refine GS.cond (t := false) rfl rfl (fun hf => by cases hf) (fun _ => ?_)
  refine GS.exit rfl ?_
  refine GS.seq ?_
  refine bnd_elim hm (fun y5 e6 hm => ?_)
  refine GS.region (env' := fun _ => [(0, .slice a0_o 1 a0_c), (1, .int .i64 1), (2, .func (.func 29) #[] #[]), (6, .int .i64 20)]) (mem' := fun _ => [(1, .rd a0_0_4_o 1 ([[.int .i64 1]] : List (List Value))), (2, .rd a0_o 5 ([[.string (ByteArray.mk #[97]), .int .i64 1, .int .i64 1, .int .i64 0, .slice a0_0_4_o 1 a0_0_4_c]] : List (List Value)))]) (RunsTo.mk [(4, { act := .call [1, 2] (.tuple #[]) })] [0, 1, 2, 6] [1, 2] (fun _ => [CallOK Try.prog 51 #[.slice a0_o 1 a0_c, .int .i64 0, .int .i64 1, .func (.func 29) #[] #[]] (.tuple #[]) [some (.rd a0_0_4_o 1 ([[.int .i64 1]] : List (List Value))), some (.rd a0_o 5 ([[.string (ByteArray.mk #[97]), .int .i64 1, .int .i64 1, .int .i64 0, .slice a0_0_4_o 1 a0_0_4_c]] : List (List Value)))]]) (fun _ => by kernel_rfl) (fun _ => ⟨(w_slices_insertionSortCmpFunc_scrub_Fix_ F a0_o a0_c a0_0_4_o a0_0_4_c e6).ok ⟨(.inl ⟨.rd a0_0_4_o 1 ([[.int .i64 1]] : List (List Value)), .head _, Cov.refl _⟩), (.inl ⟨.rd a0_o 5 ([[.string (ByteArray.mk #[97]), .int .i64 1, .int .i64 1, .int .i64 0, .slice a0_0_4_o 1 a0_0_4_c]] : List (List Value)), (.tail _ (.head _)), Cov.refl _⟩), trivial⟩, trivial⟩)) ?_
  intro _
  refine GS.block ?_
  refine GS.loop ?_
  refine GS.seq ?_
  refine GS.seq ?_
  refine GS.region (env' := fun _ => [(0, .slice a0_o 1 a0_c), (1, .int .i64 1), (2, .func (.func 29) #[] #[]), (6, .int .i64 20), (30, .bool false)]) (mem' := fun _ => [(1, .rd a0_0_4_o 1 ([[.int .i64 1]] : List (List Value))), (2, .rd a0_o 5 ([[.string (ByteArray.mk #[97]), .int .i64 1, .int .i64 1, .int .i64 0, .slice a0_0_4_o 1 a0_0_4_c]] : List (List Value)))]) (RunsTo.mk [] [0, 1, 2, 6, 30] [1, 2] (fun _ => []) (fun _ => by kernel_rfl) (fun _ => trivial)) ?_
  intro _
  refine GS.cond (t := false) rfl rfl (fun hf => by cases hf) (fun _ => ?_)
  refine GS.exit rfl ?_
  have hy := Option.some.inj hm
  subst hy
  refine GS.end_ (fn := Try.f36) [] [] [] rfl Try.func36 (by kernel_rfl) trivial (fun w' hs => ?_)
  exact ⟨(), rfl, hs.turnedG (ks := []) rfl rfl⟩

theorem w_slices_SortStableFunc___scrub_Fix_scrub_Fix_ (F : Nat) (a0_o : Option Addr) (a0_c : Nat) (a0_0_4_o : Option Addr) (a0_0_4_c : Nat) {y : Unit} (hm : m_slices_SortStableFunc___scrub_Fix_scrub_Fix_ F = some y) : CallG Try.prog 28 #[.slice a0_o 1 a0_c, .func (.func 29) #[] #[]] (X := Unit) (fun (_ : Unit) => .tuple #[]) [] [.rd a0_0_4_o 1 ([[.int .i64 1]] : List (List Value)), .rd a0_o 5 ([[.string (ByteArray.mk #[97]), .int .i64 1, .int .i64 1, .int .i64 0, .slice a0_0_4_o 1 a0_0_4_c]] : List (List Value))] (fun (_ : Unit) => []) := by
  intro w hg
  rw [m_slices_SortStableFunc___scrub_Fix_scrub_Fix_] at hm
  refine GS.start (S := mayT [] [.rd a0_0_4_o 1 ([[.int .i64 1]] : List (List Value)), .rd a0_o 5 ([[.string (ByteArray.mk #[97]), .int .i64 1, .int .i64 1, .int .i64 0, .slice a0_0_4_o 1 a0_0_4_c]] : List (List Value))]) (mem := [(1, .rd a0_0_4_o 1 ([[.int .i64 1]] : List (List Value))), (2, .rd a0_o 5 ([[.string (ByteArray.mk #[97]), .int .i64 1, .int .i64 1, .int .i64 0, .slice a0_0_4_o 1 a0_0_4_c]] : List (List Value)))]) Try.func28 rfl Try.ntmps28 (Nat.le_of_ble_eq_true rfl) (hg.start rfl) ?_
  refine GS.conv (env' := [(0, .slice a0_o 1 a0_c), (1, .func (.func 29) #[] #[])]) rfl rfl ?_
  refine bnd_elim hm (fun y2 e3 hm => ?_)
  refine GS.region (env' := fun _ => []) (mem' := fun _ => []) (RunsTo.mk [(4, { act := .call [1, 2] (.tuple #[]) })] [] [] (fun _ => [CallOK Try.prog 36 #[.slice a0_o 1 a0_c, .int .i64 1, .func (.func 29) #[] #[]] (.tuple #[]) [some (.rd a0_0_4_o 1 ([[.int .i64 1]] : List (List Value))), some (.rd a0_o 5 ([[.string (ByteArray.mk #[97]), .int .i64 1, .int .i64 1, .int .i64 0, .slice a0_0_4_o 1 a0_0_4_c]] : List (List Value)))]]) (fun _ => by kernel_rfl) (fun _ => ⟨(w_slices_stableCmpFunc_scrub_Fix_ F a0_o a0_c a0_0_4_o a0_0_4_c e3).ok ⟨(.inl ⟨.rd a0_0_4_o 1 ([[.int .i64 1]] : List (List Value)), .head _, Cov.refl _⟩), (.inl ⟨.rd a0_o 5 ([[.string (ByteArray.mk #[97]), .int .i64 1, .int .i64 1, .int .i64 0, .slice a0_0_4_o 1 a0_0_4_c]] : List (List Value)), (.tail _ (.head _)), Cov.refl _⟩), trivial⟩, trivial⟩)) ?_
  intro _
  have hy := Option.some.inj hm
  subst hy
  refine GS.end_ (fn := Try.f28) [] [] [] rfl Try.func28 (by kernel_rfl) trivial (fun w' hs => ?_)
  exact ⟨(), rfl, hs.turnedG (ks := []) rfl rfl⟩

theorem w_math_bits_Len64_2 (F : Nat) {y : Unit} (hm : m_math_bits_Len64_2 F = some y) : CallG Try.prog 50 #[.int .u64 0] (X := Unit) (fun (_ : Unit) => .int .i64 0) [] [] (fun (_ : Unit) => []) := by
  intro w hg
  rw [m_math_bits_Len64_2] at hm
  refine GS.start (S := mayT [] []) (mem := []) Try.func50 rfl Try.ntmps50 (Nat.le_of_ble_eq_true rfl) (hg.start rfl) ?_
  refine GS.conv (env' := [(0, .int .u64 0)]) rfl rfl ?_
  refine GS.seq ?_
  refine GS.region (env' := fun _ => [(0, .int .u64 0), (2, .int .i64 0)]) (mem' := fun _ => []) (RunsTo.mk [] [0, 2] [] (fun _ => []) (fun _ => by kernel_rfl) (fun _ => trivial)) ?_
  intro _
  refine GS.seq ?_
  refine GS.seq ?_
  refine GS.region (env' := fun _ => [(0, .int .u64 0), (2, .int .i64 0), (4, .bool false)]) (mem' := fun _ => []) (RunsTo.mk [] [0, 2, 4] [] (fun _ => []) (fun _ => by kernel_rfl) (fun _ => trivial)) ?_
  intro _
  refine GS.cond (t := false) rfl rfl (fun hf => by cases hf) (fun _ => ?_)
  refine GS.skip ?_
  refine GS.seq ?_
  refine GS.seq ?_
  refine GS.region (env' := fun _ => [(0, .int .u64 0), (2, .int .i64 0), (8, .bool false)]) (mem' := fun _ => []) (RunsTo.mk [] [0, 2, 8] [] (fun _ => []) (fun _ => by kernel_rfl) (fun _ => trivial)) ?_
  intro _
  refine GS.cond (t := false) rfl rfl (fun hf => by cases hf) (fun _ => ?_)
  refine GS.skip ?_
  refine GS.seq ?_
  refine GS.seq ?_
  refine GS.region (env' := fun _ => [(0, .int .u64 0), (2, .int .i64 0), (14, .bool false)]) (mem' := fun _ => []) (RunsTo.mk [] [0, 2, 14] [] (fun _ => []) (fun _ => by kernel_rfl) (fun _ => trivial)) ?_
  intro _
  refine GS.cond (t := false) rfl rfl (fun hf => by cases hf) (fun _ => ?_)
  refine GS.skip ?_
  refine GS.seq ?_
  refine GS.region (env' := fun _ => [(2, .int .i64 0)]) (mem' := fun _ => []) (RunsTo.mk [(3, { act := .elt 0, sp := some (.int .u8 0) })] [2] [] (fun _ => [(0 : Int) = ((0 : Nat) : Int), 0 < (ByteArray.mk #[0, 1, 2, 2, 3, 3, 3, 3, 4, 4, 4, 4, 4, 4, 4, 4, 5, 5, 5, 5, 5, 5, 5, 5, 5, 5, 5, 5, 5, 5, 5, 5, 6, 6, 6, 6, 6, 6, 6, 6, 6, 6, 6, 6, 6, 6, 6, 6, 6, 6, 6, 6, 6, 6, 6, 6, 6, 6, 6, 6, 6, 6, 6, 6, 7, 7, 7, 7, 7, 7, 7, 7, 7, 7, 7, 7, 7, 7, 7, 7, 7, 7, 7, 7, 7, 7, 7, 7, 7, 7, 7, 7, 7, 7, 7, 7, 7, 7, 7, 7, 7, 7, 7, 7, 7, 7, 7, 7, 7, 7, 7, 7, 7, 7, 7, 7, 7, 7, 7, 7, 7, 7, 7, 7, 7, 7, 7, 7, 8, 8, 8, 8, 8, 8, 8, 8, 8, 8, 8, 8, 8, 8, 8, 8, 8, 8, 8, 8, 8, 8, 8, 8, 8, 8, 8, 8, 8, 8, 8, 8, 8, 8, 8, 8, 8, 8, 8, 8, 8, 8, 8, 8, 8, 8, 8, 8, 8, 8, 8, 8, 8, 8, 8, 8, 8, 8, 8, 8, 8, 8, 8, 8, 8, 8, 8, 8, 8, 8, 8, 8, 8, 8, 8, 8, 8, 8, 8, 8, 8, 8, 8, 8, 8, 8, 8, 8, 8, 8, 8, 8, 8, 8, 8, 8, 8, 8, 8, 8, 8, 8, 8, 8, 8, 8, 8, 8, 8, 8, 8, 8, 8, 8, 8, 8, 8, 8, 8, 8, 8, 8, 8, 8, 8, 8, 8, 8]).size, ((.int .u8 ((((ByteArray.mk #[0, 1, 2, 2, 3, 3, 3, 3, 4, 4, 4, 4, 4, 4, 4, 4, 5, 5, 5, 5, 5, 5, 5, 5, 5, 5, 5, 5, 5, 5, 5, 5, 6, 6, 6, 6, 6, 6, 6, 6, 6, 6, 6, 6, 6, 6, 6, 6, 6, 6, 6, 6, 6, 6, 6, 6, 6, 6, 6, 6, 6, 6, 6, 6, 7, 7, 7, 7, 7, 7, 7, 7, 7, 7, 7, 7, 7, 7, 7, 7, 7, 7, 7, 7, 7, 7, 7, 7, 7, 7, 7, 7, 7, 7, 7, 7, 7, 7, 7, 7, 7, 7, 7, 7, 7, 7, 7, 7, 7, 7, 7, 7, 7, 7, 7, 7, 7, 7, 7, 7, 7, 7, 7, 7, 7, 7, 7, 7, 8, 8, 8, 8, 8, 8, 8, 8, 8, 8, 8, 8, 8, 8, 8, 8, 8, 8, 8, 8, 8, 8, 8, 8, 8, 8, 8, 8, 8, 8, 8, 8, 8, 8, 8, 8, 8, 8, 8, 8, 8, 8, 8, 8, 8, 8, 8, 8, 8, 8, 8, 8, 8, 8, 8, 8, 8, 8, 8, 8, 8, 8, 8, 8, 8, 8, 8, 8, 8, 8, 8, 8, 8, 8, 8, 8, 8, 8, 8, 8, 8, 8, 8, 8, 8, 8, 8, 8, 8, 8, 8, 8, 8, 8, 8, 8, 8, 8, 8, 8, 8, 8, 8, 8, 8, 8, 8, 8, 8, 8, 8, 8, 8, 8, 8, 8, 8, 8, 8, 8, 8, 8, 8, 8, 8, 8, 8, 8]).data.getD 0 0).toNat : Nat) : Int)) : Value) = .int .u8 0]) (fun _ => by kernel_rfl) (fun _ => ⟨rfl, (Nat.le_of_ble_eq_true rfl), (by kernel_rfl), trivial⟩)) ?_
  intro _
  have hy := Option.some.inj hm
  subst hy
  refine GS.ret (fn := Try.f50) [0] [.int .i64 0] [] rfl Try.func50 (by kernel_rfl) trivial (fun w' hs => ?_)
  exact ⟨(), rfl, hs.turnedG (ks := []) rfl rfl⟩

theorem w_math_bits_Len_2 (F : Nat) {y : Unit} (hm : m_math_bits_Len_2 F = some y) : CallG Try.prog 35 #[.int .u64 0] (X := Unit) (fun (_ : Unit) => .int .i64 0) [] [] (fun (_ : Unit) => []) := by
  intro w hg
  rw [m_math_bits_Len_2] at hm
  refine GS.start (S := mayT [] []) (mem := []) Try.func35 rfl Try.ntmps35 (Nat.le_of_ble_eq_true rfl) (hg.start rfl) ?_
  refine GS.conv (env' := [(0, .int .u64 0)]) rfl rfl ?_
  refine GS.seq ?_
  refine GS.region (env' := fun _ => [(0, .int .u64 0)]) (mem' := fun _ => []) (RunsTo.mk [] [0] [] (fun _ => []) (fun _ => by kernel_rfl) (fun _ => trivial)) ?_
  intro _
  refine GS.seq ?_
  refine GS.cond (t := false) rfl rfl (fun hf => by cases hf) (fun _ => ?_)
  refine GS.skip ?_
  refine GS.seq ?_
  refine bnd_elim hm (fun y3 e4 hm => ?_)
  refine GS.region (env' := fun _ => [(2, .int .i64 0)]) (mem' := fun _ => []) (RunsTo.mk [(1, { act := .call [] (.int .i64 0) })] [2] [] (fun _ => [CallOK Try.prog 50 #[.int .u64 0] (.int .i64 0) []]) (fun _ => by kernel_rfl) (fun _ => ⟨(w_math_bits_Len64_2 F  e4).ok trivial, trivial⟩)) ?_
  intro _
  have hy := Option.some.inj hm
  subst hy
  refine GS.ret (fn := Try.f35) [0] [.int .i64 0] [] rfl Try.func35 (by kernel_rfl) trivial (fun w' hs => ?_)
  exact ⟨(), rfl, hs.turnedG (ks := []) rfl rfl⟩

theorem w_slices_insertionSortOrdered_string_ (F : Nat) {y : Unit} (hm : m_slices_insertionSortOrdered_string_ F = some y) : CallG Try.prog 53 #[.slice none 0 0, .int .i64 0, .int .i64 0] (X := Unit) (fun (_ : Unit) => .tuple #[]) [] [] (fun (_ : Unit) => []) := by
  intro w hg
  rw [m_slices_insertionSortOrdered_string_] at hm
  refine GS.start (S := mayT [] []) (mem := []) Try.func53 rfl Try.ntmps53 (Nat.le_of_ble_eq_true rfl) (hg.start rfl) ?_
  refine GS.conv (env' := [(0, .slice none 0 0), (1, .int .i64 0), (2, .int .i64 0)]) rfl rfl ?_
  refine GS.seq ?_
  refine GS.region (env' := fun _ => [(0, .slice none 0 0), (1, .int .i64 0), (2, .int .i64 0), (6, .int .i64 1)]) (mem' := fun _ => []) (RunsTo.mk [] [0, 1, 2, 6] [] (fun _ => []) (fun _ => by kernel_rfl) (fun _ => trivial)) ?_
  intro _
  refine GS.block ?_
  refine GS.loop ?_
  refine GS.seq ?_
  refine GS.seq ?_
  refine GS.region (env' := fun _ => [(0, .slice none 0 0), (1, .int .i64 0), (2, .int .i64 0), (6, .int .i64 1), (12, .bool false)]) (mem' := fun _ => []) (RunsTo.mk [] [0, 1, 2, 6, 12] [] (fun _ => []) (fun _ => by kernel_rfl) (fun _ => trivial)) ?_
  intro _
  refine GS.cond (t := false) rfl rfl (fun hf => by cases hf) (fun _ => ?_)
  refine GS.exit rfl ?_
  have hy := Option.some.inj hm
  subst hy
  refine GS.end_ (fn := Try.f53) [] [] [] rfl Try.func53 (by kernel_rfl) trivial (fun w' hs => ?_)
  exact ⟨(), rfl, hs.turnedG (ks := []) rfl rfl⟩

theorem w_slices_pdqsortOrdered_string_ (F : Nat) {y : Unit} (hm : m_slices_pdqsortOrdered_string_ F = some y) : CallG Try.prog 37 #[.slice none 0 0, .int .i64 0, .int .i64 0, .int .i64 0] (X := Unit) (fun (_ : Unit) => .tuple #[]) [] [] (fun (_ : Unit) => []) := by
  intro w hg
  rw [m_slices_pdqsortOrdered_string_] at hm
  refine GS.start (S := mayT [] []) (mem := []) Try.func37 rfl Try.ntmps37 (Nat.le_of_ble_eq_true rfl) (hg.start rfl) ?_
  refine GS.conv (env' := [(0, .slice none 0 0), (1, .int .i64 0), (2, .int .i64 0), (3, .int .i64 0)]) rfl rfl ?_
  refine GS.seq ?_
  refine GS.region (env' := fun _ => [(0, .slice none 0 0), (1, .int .i64 0), (2, .int .i64 0), (3, .int .i64 0), (8, .bool true)]) (mem' := fun _ => []) (RunsTo.mk [] [0, 1, 2, 3, 8] [] (fun _ => []) (fun _ => by kernel_rfl) (fun _ => trivial)) ?_
  intro _
  refine GS.seq ?_
  refine GS.region (env' := fun _ => [(0, .slice none 0 0), (1, .int .i64 0), (2, .int .i64 0), (3, .int .i64 0), (8, .bool true), (9, .bool true)]) (mem' := fun _ => []) (RunsTo.mk [] [0, 1, 2, 3, 8, 9] [] (fun _ => []) (fun _ => by kernel_rfl) (fun _ => trivial)) ?_
  intro _
  refine GS.block ?_
  refine GS.loop ?_
  refine GS.block ?_
  refine GS.seq ?_
  refine GS.region (env' := fun _ => [(0, .slice none 0 0), (1, .int .i64 0), (2, .int .i64 0), (3, .int .i64 0), (8, .bool true), (9, .bool true), (10, .int .i64 0)]) (mem' := fun _ => []) (RunsTo.mk [] [0, 1, 2, 3, 8, 9, 10] [] (fun _ => []) (fun _ => by kernel_rfl) (fun _ => trivial)) ?_
  intro _
  refine GS.seq ?_
  refine GS.seq ?_
  refine GS.region (env' := fun _ => [(0, .slice none 0 0), (1, .int .i64 0), (2, .int .i64 0), (3, .int .i64 0), (8, .bool true), (9, .bool true), (10, .int .i64 0), (23, .bool true)]) (mem' := fun _ => []) (RunsTo.mk [] [0, 1, 2, 3, 8, 9, 10, 23] [] (fun _ => []) (fun _ => by kernel_rfl) (fun _ => trivial)) ?_
  intro _
  refine GS.cond (t := true) rfl rfl (fun _ => ?_) (fun hf => by cases hf)
  refine GS.seq ?_
  refine bnd_elim hm (fun y6 e7 hm => ?_)
  refine GS.region (env' := fun _ => []) (mem' := fun _ => []) (RunsTo.mk [(3, { act := .call [] (.tuple #[]) })] [] [] (fun _ => [CallOK Try.prog 53 #[.slice none 0 0, .int .i64 0, .int .i64 0] (.tuple #[]) []]) (fun _ => by kernel_rfl) (fun _ => ⟨(w_slices_insertionSortOrdered_string_ F  e7).ok trivial, trivial⟩)) ?_
  intro _
  have hy := Option.some.inj hm
  subst hy
  refine GS.ret (fn := Try.f37) [] [] [] rfl Try.func37 (by kernel_rfl) trivial (fun w' hs => ?_)
  exact ⟨(), rfl, hs.turnedG (ks := []) rfl rfl⟩

theorem w_slices_Sort___string_string_ (F : Nat) {y : Unit} (hm : m_slices_Sort___string_string_ F = some y) : CallG Try.prog 31 #[.slice none 0 0] (X := Unit) (fun (_ : Unit) => .tuple #[]) [] [] (fun (_ : Unit) => []) := by
  intro w hg
  rw [m_slices_Sort___string_string_] at hm
  refine GS.start (S := mayT [] []) (mem := []) Try.func31 rfl Try.ntmps31 (Nat.le_of_ble_eq_true rfl) (hg.start rfl) ?_
  refine GS.conv (env' := [(0, .slice none 0 0)]) rfl rfl ?_
  refine GS.seq ?_
  refine GS.region (env' := fun _ => [(0, .slice none 0 0), (2, .int .i64 0)]) (mem' := fun _ => []) (RunsTo.mk [] [0, 2] [] (fun _ => []) (fun _ => by kernel_rfl) (fun _ => trivial)) ?_
  intro _
  refine bnd_elim hm (fun y3 e4 hm => ?_)
  refine bnd_elim hm (fun y5 e6 hm => ?_)
  refine GS.region (env' := fun _ => []) (mem' := fun _ => []) (RunsTo.mk [(4, { act := .call [] (.int .i64 0) }), (5, { act := .call [] (.tuple #[]) })] [] [] (fun _ => [CallOK Try.prog 35 #[.int .u64 0] (.int .i64 0) [], CallOK Try.prog 37 #[.slice none 0 0, .int .i64 0, .int .i64 0, .int .i64 0] (.tuple #[]) []]) (fun _ => by kernel_rfl) (fun _ => ⟨(w_math_bits_Len_2 F  e4).ok trivial, (w_slices_pdqsortOrdered_string_ F  e6).ok trivial, trivial⟩)) ?_
  intro _
  have hy := Option.some.inj hm
  subst hy
  refine GS.end_ (fn := Try.f31) [] [] [] rfl Try.func31 (by kernel_rfl) trivial (fun w' hs => ?_)
  exact ⟨(), rfl, hs.turnedG (ks := []) rfl rfl⟩

end Go.Proofs.Ytcegkgbceogflaa
