/-
  CHAPTER 18n: the functions do what their models say (1).
-/
import Derived.Test.YtjnbkhnebmlilaaGreatE18n
set_option linter.unusedVariables false
set_option linter.unusedSimpArgs false
set_option maxRecDepth 100000
set_option maxHeartbeats 8000000
namespace Go.Proofs.YtjnbkhnebmlilaaGreat
open Go Go.RowKit Sx

theorem w___primary_Machine__Step (F : Nat) (a1_Kind : Int) (a1_From : S_api_Node) (a1_To : S_api_Node) (a1_Boot : Int) (a1_Epoch : Int) (a1_Pg : S_api_Pg) (a1_Client : Int) (a1_Number : Int) (a1_Ballot : Int) (a1_Slots_o : Option Addr) (a1_Slots_n : Nat) (a1_Slots_c : Nat) (a1_Incs_o : Option Addr) (a1_Incs_n : Nat) (a1_Incs_c : Nat) (a1_Changes_o : Option Addr) (a1_Changes_n : Nat) (a1_Changes_c : Nat) (a1_Info : S_api_Info) (a1_State_Les : Int) (a1_State_Tail : S_api_Version) (a1_State_Log_o : Option Addr) (a1_State_Log_c : Nat) (a1_State_Log : List S_api_Entry) (a1_State_Lasts_o : Option Addr) (a1_State_Lasts_c : Nat) (a1_State_Lasts : List S_api_Last) (a1_State_Items_o : Option Addr) (a1_State_Items_c : Nat) (a1_State_Items : List S_api_Item) (a1_Entry : S_api_Entry) (a1_Object_Name : ByteArray) (a1_Object_Version : S_api_Version) (a1_Object_Data_o : Option Addr) (a1_Object_Data_c : Nat) (a1_Object_Data : List UInt8) (a1_Op_Kind : Int) (a1_Op_Name : ByteArray) (a1_Op_Data_o : Option Addr) (a1_Op_Data_c : Nat) (a1_Op_Data : List UInt8) (a1_Op_Expect : S_api_Version) (a1_Items_o : Option Addr) (a1_Items_c : Nat) (a1_Items : List S_api_Item) (a1_Names_o : Option Addr) (a1_Names_c : Nat) (a1_Names : List ByteArray) (a1_Errno : Int) {y : Bool × Int × S_api_Version × Bool × ByteArray × S_api_Version × Bool × Bool × ByteArray} (hm : m___primary_Machine__Step F a1_Kind a1_From a1_To a1_Boot a1_Epoch a1_Pg a1_Client a1_Number a1_Ballot a1_Slots_n a1_Incs_n a1_Changes_n a1_Info a1_State_Les a1_State_Tail a1_State_Log a1_State_Lasts a1_State_Items a1_Entry a1_Object_Name a1_Object_Version a1_Object_Data a1_Op_Kind a1_Op_Name a1_Op_Data a1_Op_Expect a1_Items a1_Names a1_Errno = some y) : CallG Tryz.prog 16 #[.pointer none, .agg ((kc2 a1_Kind a1_From.Kind a1_From.Id a1_To.Kind a1_To.Id a1_Boot a1_Epoch a1_Pg.Pool a1_Pg.Seed a1_Client a1_Number a1_Ballot a1_Slots_o a1_Slots_n a1_Slots_c a1_Incs_o a1_Incs_n a1_Incs_c a1_Changes_o a1_Changes_n a1_Changes_c a1_Info.Les a1_Info.Head.Epoch a1_Info.Head.N a1_Info.Tail.Epoch a1_Info.Tail.N a1_Info.Born a1_State_Les a1_State_Tail.Epoch a1_State_Tail.N a1_State_Log_o a1_State_Log.length a1_State_Log_c a1_State_Lasts_o a1_State_Lasts.length a1_State_Lasts_c a1_State_Items_o a1_State_Items.length a1_State_Items_c a1_Entry.Version.Epoch a1_Entry.Version.N a1_Entry.Remove a1_Entry.Errno a1_Entry.Name a1_Entry.Client a1_Entry.Number a1_Object_Name a1_Object_Version.Epoch a1_Object_Version.N a1_Object_Data_o a1_Object_Data.length a1_Object_Data_c a1_Op_Kind a1_Op_Name a1_Op_Data_o a1_Op_Data.length a1_Op_Data_c a1_Op_Expect.Epoch a1_Op_Expect.N a1_Items_o a1_Items.length a1_Items_c a1_Names_o a1_Names.length a1_Names_c a1_Errno)).toArray] (X := Unit) (fun (_ : Unit) => .agg ((kc4 y.1 y.2.1 y.2.2.1.Epoch y.2.2.1.N y.2.2.2.1 y.2.2.2.2.1 y.2.2.2.2.2.1.Epoch y.2.2.2.2.2.1.N y.2.2.2.2.2.2.1 y.2.2.2.2.2.2.2.1 y.2.2.2.2.2.2.2.2)).toArray) [] [r31 a1_State_Log_o a1_State_Log, r94 a1_State_Lasts_o a1_State_Lasts, r91 a1_State_Items_o a1_State_Items, r5 a1_Object_Data_o a1_Object_Data, r5 a1_Op_Data_o a1_Op_Data, r91 a1_Items_o a1_Items, r9 a1_Names_o a1_Names] (fun (_ : Unit) => []) := by
  intro w hg
  rw [m___primary_Machine__Step] at hm
  refine GS.start (S := mayT [] [r31 a1_State_Log_o a1_State_Log, r94 a1_State_Lasts_o a1_State_Lasts, r91 a1_State_Items_o a1_State_Items, r5 a1_Object_Data_o a1_Object_Data, r5 a1_Op_Data_o a1_Op_Data, r91 a1_Items_o a1_Items, r9 a1_Names_o a1_Names]) (mem := [(1, r31 a1_State_Log_o a1_State_Log), (2, r94 a1_State_Lasts_o a1_State_Lasts), (3, r91 a1_State_Items_o a1_State_Items), (4, r5 a1_Object_Data_o a1_Object_Data), (5, r5 a1_Op_Data_o a1_Op_Data), (6, r91 a1_Items_o a1_Items), (7, r9 a1_Names_o a1_Names)]) Tryz.func16 rfl Tryz.ntmps16 (Nat.le_of_ble_eq_true rfl) (hg.start rfl) ?_
  refine GS.conv (env' := [(0, .pointer none), (1, .agg ((kc2 a1_Kind a1_From.Kind a1_From.Id a1_To.Kind a1_To.Id a1_Boot a1_Epoch a1_Pg.Pool a1_Pg.Seed a1_Client a1_Number a1_Ballot a1_Slots_o a1_Slots_n a1_Slots_c a1_Incs_o a1_Incs_n a1_Incs_c a1_Changes_o a1_Changes_n a1_Changes_c a1_Info.Les a1_Info.Head.Epoch a1_Info.Head.N a1_Info.Tail.Epoch a1_Info.Tail.N a1_Info.Born a1_State_Les a1_State_Tail.Epoch a1_State_Tail.N a1_State_Log_o a1_State_Log.length a1_State_Log_c a1_State_Lasts_o a1_State_Lasts.length a1_State_Lasts_c a1_State_Items_o a1_State_Items.length a1_State_Items_c a1_Entry.Version.Epoch a1_Entry.Version.N a1_Entry.Remove a1_Entry.Errno a1_Entry.Name a1_Entry.Client a1_Entry.Number a1_Object_Name a1_Object_Version.Epoch a1_Object_Version.N a1_Object_Data_o a1_Object_Data.length a1_Object_Data_c a1_Op_Kind a1_Op_Name a1_Op_Data_o a1_Op_Data.length a1_Op_Data_c a1_Op_Expect.Epoch a1_Op_Expect.N a1_Items_o a1_Items.length a1_Items_c a1_Names_o a1_Names.length a1_Names_c a1_Errno)).toArray)]) rfl rfl ?_
  refine GS.seq ?_
  refine GS.region (env' := fun fr1 => [(0, .pointer none), (3, .pointer (some ⟨(fr1 0).x, 0, none⟩)), (4, .pointer (some ⟨(fr1 1).x, 0, none⟩))]) (mem' := fun fr1 => [(1, r31 a1_State_Log_o a1_State_Log), (2, r94 a1_State_Lasts_o a1_State_Lasts), (3, r91 a1_State_Items_o a1_State_Items), (4, r5 a1_Object_Data_o a1_Object_Data), (5, r5 a1_Op_Data_o a1_Op_Data), (6, r91 a1_Items_o a1_Items), (7, r9 a1_Names_o a1_Names), (8, .cells ((fr1 0).x) 65 (kc2 a1_Kind a1_From.Kind a1_From.Id a1_To.Kind a1_To.Id a1_Boot a1_Epoch a1_Pg.Pool a1_Pg.Seed a1_Client a1_Number a1_Ballot a1_Slots_o a1_Slots_n a1_Slots_c a1_Incs_o a1_Incs_n a1_Incs_c a1_Changes_o a1_Changes_n a1_Changes_c a1_Info.Les a1_Info.Head.Epoch a1_Info.Head.N a1_Info.Tail.Epoch a1_Info.Tail.N a1_Info.Born a1_State_Les a1_State_Tail.Epoch a1_State_Tail.N a1_State_Log_o a1_State_Log.length a1_State_Log_c a1_State_Lasts_o a1_State_Lasts.length a1_State_Lasts_c a1_State_Items_o a1_State_Items.length a1_State_Items_c a1_Entry.Version.Epoch a1_Entry.Version.N a1_Entry.Remove a1_Entry.Errno a1_Entry.Name a1_Entry.Client a1_Entry.Number a1_Object_Name a1_Object_Version.Epoch a1_Object_Version.N a1_Object_Data_o a1_Object_Data.length a1_Object_Data_c a1_Op_Kind a1_Op_Name a1_Op_Data_o a1_Op_Data.length a1_Op_Data_c a1_Op_Expect.Epoch a1_Op_Expect.N a1_Items_o a1_Items.length a1_Items_c a1_Names_o a1_Names.length a1_Names_c a1_Errno)), (9, .cells ((fr1 1).x) 68 (kc3))]) (RunsTo.mk [(0, { act := .new .var, key := some 8 }), (1, { act := .new .var, key := some 9 })] [0, 3, 4] [1, 2, 3, 4, 5, 6, 7, 8, 9] (fun fr1 => []) (fun fr1 => by kernel_rfl) (fun fr1 => trivial)) ?_
  intro fr1
  refine GS.seq ?_
  refine GS.seq ?_
  refine GS.region (env' := fun _ => [(0, .pointer none), (3, .pointer (some ⟨(fr1 0).x, 0, none⟩)), (4, .pointer (some ⟨(fr1 1).x, 0, none⟩)), (32, .bool true)]) (mem' := fun _ => [(1, r31 a1_State_Log_o a1_State_Log), (2, r94 a1_State_Lasts_o a1_State_Lasts), (3, r91 a1_State_Items_o a1_State_Items), (4, r5 a1_Object_Data_o a1_Object_Data), (5, r5 a1_Op_Data_o a1_Op_Data), (6, r91 a1_Items_o a1_Items), (7, r9 a1_Names_o a1_Names), (8, .cells ((fr1 0).x) 65 (kc2 a1_Kind a1_From.Kind a1_From.Id a1_To.Kind a1_To.Id a1_Boot a1_Epoch a1_Pg.Pool a1_Pg.Seed a1_Client a1_Number a1_Ballot a1_Slots_o a1_Slots_n a1_Slots_c a1_Incs_o a1_Incs_n a1_Incs_c a1_Changes_o a1_Changes_n a1_Changes_c a1_Info.Les a1_Info.Head.Epoch a1_Info.Head.N a1_Info.Tail.Epoch a1_Info.Tail.N a1_Info.Born a1_State_Les a1_State_Tail.Epoch a1_State_Tail.N a1_State_Log_o a1_State_Log.length a1_State_Log_c a1_State_Lasts_o a1_State_Lasts.length a1_State_Lasts_c a1_State_Items_o a1_State_Items.length a1_State_Items_c a1_Entry.Version.Epoch a1_Entry.Version.N a1_Entry.Remove a1_Entry.Errno a1_Entry.Name a1_Entry.Client a1_Entry.Number a1_Object_Name a1_Object_Version.Epoch a1_Object_Version.N a1_Object_Data_o a1_Object_Data.length a1_Object_Data_c a1_Op_Kind a1_Op_Name a1_Op_Data_o a1_Op_Data.length a1_Op_Data_c a1_Op_Expect.Epoch a1_Op_Expect.N a1_Items_o a1_Items.length a1_Items_c a1_Names_o a1_Names.length a1_Names_c a1_Errno)), (9, .cells ((fr1 1).x) 68 (kc3))]) (RunsTo.mkd [] [0, 3, 4, 32] [1, 2, 3, 4, 5, 6, 7, 8, 9] (fun _ => []) (by kernel_rfl) (by kernel_rfl) (fun _ => by kernel_rfl) (fun _ => trivial)) ?_
  intro _
  refine GS.cond (t := true) rfl rfl (fun _ => ?_) (fun hf => by cases hf)
  refine GS.seq ?_
  refine GS.region (env' := fun _ => [(4, .pointer (some ⟨(fr1 1).x, 0, none⟩))]) (mem' := fun _ => [(9, .cells ((fr1 1).x) 68 (kc3))]) (RunsTo.mk [(1, { act := .store 0 0 [], key := some 9 })] [4] [9] (fun _ => [(fr1 1).x = (fr1 1).x, ((.agg ((kc3)).toArray) : Value).cells.toList.all Value.oneCell' = true]) (fun _ => by kernel_rfl) (fun _ => ⟨rfl, rfl, trivial⟩)) ?_
  intro _
  have hy := Option.some.inj hm
  subst hy
  refine GS.ret (fn := Tryz.f16) [9] [.agg ((kc3)).toArray] [(fr1 1).x = (fr1 1).x] rfl Tryz.func16 (by kernel_rfl) ⟨rfl, trivial⟩ (fun w' hs => ?_)
  exact ⟨(), rfl, hs.turnedG (ks := []) rfl rfl⟩

theorem w_tholeref02_Int (F : Nat) (a1 : Int) {y : List UInt8} (hm : m_tholeref02_Int F a1 = some y) : CallG Tryz.prog 91 #[.slice none 0 0, .int .i64 a1] (X := Option Addr × Nat) (fun ⟨x0, x1⟩ => .slice x0 y.length x1) [] [] (fun ⟨x0, x1⟩ => [o5 x0 x1 y]) := by
  intro w hg
  rw [m_tholeref02_Int] at hm
  refine GS.start (S := mayT [] []) (mem := []) Tryz.func91 rfl Tryz.ntmps91 (Nat.le_of_ble_eq_true rfl) (hg.start rfl) ?_
  refine GS.conv (env' := [(0, .slice none 0 0), (1, .int .i64 a1)]) rfl rfl ?_
  refine GS.seq ?_
  refine GS.region (env' := fun _ => [(0, .slice none 0 0), (1, .int .i64 a1)]) (mem' := fun _ => []) (RunsTo.mk [] [0, 1] [] (fun _ => []) (fun _ => by kernel_rfl) (fun _ => trivial)) ?_
  intro _
  refine GS.seq ?_
  refine GS.seq ?_
  refine GS.region (env' := fun _ => [(0, .slice none 0 0), (1, .int .i64 a1), (6, .int .i64 0)]) (mem' := fun _ => []) (RunsTo.mk [] [0, 1, 6] [] (fun _ => []) (fun _ => by kernel_rfl) (fun _ => trivial)) ?_
  intro _
  refine GS.block ?_
  refine GS.loop ?_
  refine grd_elim hm (fun g20 hm => ?_)
  refine GS.setMem (mem' := [(20001, o5 none 0 ([] : List UInt8))]) (fun w hw => Sat.addNil hw rfl) ?_
  refine GS.rekey (env' := [(0, .slice none 0 0), (1, .int .i64 a1), (6, .int .i64 0)]) (mem' := [(20000, o5 none 0 ([] : List UInt8))]) [0, 1, 6] [(20000, 20001)] (by kernel_rfl) (by kernel_rfl) rfl ?_
  refine loopC_elim hm (fun st35 fn36 hst37 hfn38 hm => ?_)
  refine GS.loopInv (ι := Nat × Nat × List UInt8 × Option Addr × Nat) (I := fun ⟨rs33, v6_1, l20000_1, o20000_1, k20000_1⟩ => ((8) - ((v6_1 : Nat) : Int) : Int).toNat = rs33 ∧ loopC st35 fn36 rs33 v6_1 l20000_1 = some y) (μ := fun ⟨rs33, v6_1, l20000_1, o20000_1, k20000_1⟩ => rs33) (E := fun ⟨rs33, v6_1, l20000_1, o20000_1, k20000_1⟩ => [(0, .slice o20000_1 l20000_1.length k20000_1), (1, .int .i64 a1), (6, .int .i64 ((v6_1 : Nat) : Int))]) (M := fun ⟨rs33, v6_1, l20000_1, o20000_1, k20000_1⟩ => [(20000, o5 o20000_1 k20000_1 l20000_1)]) ?_ ⟨(Int.toNat (8 - ((0 : Nat) : Int))), 0, ([] : List UInt8), none, 0⟩ ⟨rfl, hm⟩
  rintro ⟨rs33, v6_1, l20000_1, o20000_1, k20000_1⟩ ⟨hd19, hm⟩ ih34
  cases rs33 with
  | zero =>
    replace hm := (hfn38 _ _).symm.trans hm
    try dsimp only at hm
    refine GS.seq ?_
    refine GS.region (env' := fun _ => [(0, .slice o20000_1 l20000_1.length k20000_1), (1, .int .i64 a1), (6, .int .i64 ((v6_1 : Nat) : Int)), (7, .bool (decide (((v6_1 : Nat) : Int) < 8)))]) (mem' := fun _ => [(20000, o5 o20000_1 k20000_1 l20000_1)]) (RunsTo.mk [] [0, 1, 6, 7] [20000] (fun _ => []) (fun _ => by kernel_rfl) (fun _ => trivial)) ?_
    intro _
    refine GS.seq ?_
    refine GS.cond (t := decide (((v6_1 : Nat) : Int) < 8)) rfl rfl (fun h31 => absb h31 (cnt0 hd19)) (fun _ => ?_)
    refine GS.exit rfl ?_
    refine GS.seq ?_
    refine GS.region (env' := fun _ => [(4, .slice o20000_1 l20000_1.length k20000_1)]) (mem' := fun _ => [(20000, o5 o20000_1 k20000_1 l20000_1)]) (RunsTo.mk [] [4] [20000] (fun _ => []) (fun _ => by kernel_rfl) (fun _ => trivial)) ?_
    intro _
    have hy := Option.some.inj hm
    subst hy
    refine GS.ret (fn := Tryz.f91) [0] [.slice o20000_1 l20000_1.length k20000_1] [] rfl Tryz.func91 (by kernel_rfl) trivial (fun w' hs => ?_)
    exact ⟨⟨o20000_1, k20000_1⟩, rfl, hs.turnedG (ks := [20000]) rfl rfl⟩
  | succ rs33 =>
    replace hm := (hst37 _ _ _).symm.trans hm
    try dsimp only at hm
    refine GS.seq ?_
    refine GS.region (env' := fun _ => [(0, .slice o20000_1 l20000_1.length k20000_1), (1, .int .i64 a1), (6, .int .i64 ((v6_1 : Nat) : Int)), (7, .bool (decide (((v6_1 : Nat) : Int) < 8)))]) (mem' := fun _ => [(20000, o5 o20000_1 k20000_1 l20000_1)]) (RunsTo.mk [] [0, 1, 6, 7] [20000] (fun _ => []) (fun _ => by kernel_rfl) (fun _ => trivial)) ?_
    intro _
    refine GS.seq ?_
    refine GS.cond (t := decide (((v6_1 : Nat) : Int) < 8)) rfl rfl (fun _ => ?_) (fun h22 => absb (cnt1 hd19) h22)
    refine GS.skip ?_
    refine GS.seq ?_
    refine GS.block ?_
    refine GS.seq ?_
    refine GS.region (env' := fun _ => [(0, .slice o20000_1 l20000_1.length k20000_1), (1, .int .i64 a1), (5, .int .i64 ((v6_1 : Nat) : Int)), (6, .int .i64 ((v6_1 : Nat) : Int))]) (mem' := fun _ => [(20000, o5 o20000_1 k20000_1 l20000_1)]) (RunsTo.mk [] [0, 1, 5, 6] [20000] (fun _ => []) (fun _ => by kernel_rfl) (fun _ => trivial)) ?_
    intro _
    refine grd_elim hm (fun g25 hm => ?_)
    refine grd_elim hm (fun g26 hm => ?_)
    refine grd_elim hm (fun g27 hm => ?_)
    refine grd_elim hm (fun g28 hm => ?_)
    refine GS.region (env' := fun fr24 => [(0, .slice ((fr24 7).ob) ((l20000_1 ++ [(UInt8.ofNat (Int.toNat (IntKind.u8.wrap (Int.fdiv a1 (2 ^ (min (Int.toNat (8 * ((v6_1 : Nat) : Int))) 64))))))]).length) ((fr24 7).cap)), (1, .int .i64 a1), (6, .int .i64 ((v6_1 : Nat) : Int))]) (mem' := fun fr24 => [(20000, .osl ((fr24 7).ob) ((fr24 7).cap) 5 1 ((List.map rB l20000_1) ++ ([[.int .u8 (IntKind.u8.wrap (Int.fdiv a1 (2 ^ (min (Int.toNat (8 * ((v6_1 : Nat) : Int))) 64))))]] : List (List Value))))]) (RunsTo.mk [(3, { sp := some (.int .i64 (8 * ((v6_1 : Nat) : Int))) }), (4, { act := .shift }), (6, { act := .new (.row 1 1), key := some 20001, spf := some (fun f => .slice (some (Addr.mk f.x 0 none)) ([(UInt8.ofNat (Int.toNat (IntKind.u8.wrap (Int.fdiv a1 (2 ^ (min (Int.toNat (8 * ((v6_1 : Nat) : Int))) 64))))))].length) 1) }), (7, { act := .app (some 20001), key := some 20000, spf := some (fun f => .slice (f.ob) ((l20000_1 ++ [(UInt8.ofNat (Int.toNat (IntKind.u8.wrap (Int.fdiv a1 (2 ^ (min (Int.toNat (8 * ((v6_1 : Nat) : Int))) 64))))))]).length) (f.cap)) })] [0, 1, 6] [20000] (fun fr24 => [((.int .i64 (IntKind.i64.wrap (8 * ((v6_1 : Nat) : Int)))) : Value) = .int .i64 (8 * ((v6_1 : Nat) : Int)), 0 ≤ (8 * ((v6_1 : Nat) : Int)), ((.slice (some (Addr.mk (fr24 6).x 0 none)) 1 1) : Value) = .slice (some (Addr.mk (fr24 6).x 0 none)) ([(UInt8.ofNat (Int.toNat (IntKind.u8.wrap (Int.fdiv a1 (2 ^ (min (Int.toNat (8 * ((v6_1 : Nat) : Int))) 64))))))].length) 1, (some (Addr.mk (fr24 6).x 0 none)) = (some (Addr.mk (fr24 6).x 0 none)), [(UInt8.ofNat (Int.toNat (IntKind.u8.wrap (Int.fdiv a1 (2 ^ (min (Int.toNat (8 * ((v6_1 : Nat) : Int))) 64))))))].length = ([[.int .u8 (IntKind.u8.wrap (Int.fdiv a1 (2 ^ (min (Int.toNat (8 * ((v6_1 : Nat) : Int))) 64))))]] : List (List Value)).length, o20000_1 = o20000_1, k20000_1 = k20000_1, l20000_1.length = (List.map rB l20000_1).length, ((List.map rB l20000_1).length + ([[.int .u8 (IntKind.u8.wrap (Int.fdiv a1 (2 ^ (min (Int.toNat (8 * ((v6_1 : Nat) : Int))) 64))))]] : List (List Value)).length) * (1 + 1) ≤ 70368744177664, ([[.int .u8 (IntKind.u8.wrap (Int.fdiv a1 (2 ^ (min (Int.toNat (8 * ((v6_1 : Nat) : Int))) 64))))]] : List (List Value)).flatten.all Value.oneCell' = true, ((.slice ((fr24 7).ob) (l20000_1.length + ([[.int .u8 (IntKind.u8.wrap (Int.fdiv a1 (2 ^ (min (Int.toNat (8 * ((v6_1 : Nat) : Int))) 64))))]] : List (List Value)).length) ((fr24 7).cap)) : Value) = .slice ((fr24 7).ob) ((l20000_1 ++ [(UInt8.ofNat (Int.toNat (IntKind.u8.wrap (Int.fdiv a1 (2 ^ (min (Int.toNat (8 * ((v6_1 : Nat) : Int))) 64))))))]).length) ((fr24 7).cap)]) (fun fr24 => by kernel_rfl) (fun fr24 => ⟨I64.w g25, g26, rfl, rfl, (by rw [show ([[.int .u8 (IntKind.u8.wrap (Int.fdiv a1 (2 ^ (min (Int.toNat (8 * ((v6_1 : Nat) : Int))) 64))))]] : List (List Value)) = List.map rB [(UInt8.ofNat (Int.toNat (IntKind.u8.wrap (Int.fdiv a1 (2 ^ (min (Int.toNat (8 * ((v6_1 : Nat) : Int))) 64))))))] from (one_u8 g27)]; exact mlen rB [(UInt8.ofNat (Int.toNat (IntKind.u8.wrap (Int.fdiv a1 (2 ^ (min (Int.toNat (8 * ((v6_1 : Nat) : Int))) 64))))))]), rfl, rfl, mlen rB l20000_1, appb g28 (mlen rB l20000_1).symm (by rw [show ([[.int .u8 (IntKind.u8.wrap (Int.fdiv a1 (2 ^ (min (Int.toNat (8 * ((v6_1 : Nat) : Int))) 64))))]] : List (List Value)) = List.map rB [(UInt8.ofNat (Int.toNat (IntKind.u8.wrap (Int.fdiv a1 (2 ^ (min (Int.toNat (8 * ((v6_1 : Nat) : Int))) 64))))))] from (one_u8 g27)]; exact (mlen rB [(UInt8.ofNat (Int.toNat (IntKind.u8.wrap (Int.fdiv a1 (2 ^ (min (Int.toNat (8 * ((v6_1 : Nat) : Int))) 64))))))]).symm), (by rw [show ([[.int .u8 (IntKind.u8.wrap (Int.fdiv a1 (2 ^ (min (Int.toNat (8 * ((v6_1 : Nat) : Int))) 64))))]] : List (List Value)) = List.map rB [(UInt8.ofNat (Int.toNat (IntKind.u8.wrap (Int.fdiv a1 (2 ^ (min (Int.toNat (8 * ((v6_1 : Nat) : Int))) 64))))))] from (show ([[.int .u8 (IntKind.u8.wrap (Int.fdiv a1 (2 ^ (min (Int.toNat (8 * ((v6_1 : Nat) : Int))) 64))))]] : List (List Value)) = List.map rB [(UInt8.ofNat (Int.toNat (IntKind.u8.wrap (Int.fdiv a1 (2 ^ (min (Int.toNat (8 * ((v6_1 : Nat) : Int))) 64))))))] from (one_u8 g27))]; exact all_one rB _ (fun _ => rfl)), slen (by simp), trivial⟩)) ?_
    intro fr24
    refine GS.conv (mem' := [(20000, o5 ((fr24 7).ob) ((fr24 7).cap) (l20000_1 ++ [(UInt8.ofNat (Int.toNat (IntKind.u8.wrap (Int.fdiv a1 (2 ^ (min (Int.toNat (8 * ((v6_1 : Nat) : Int))) 64))))))]))]) rfl (congrArg (fun rr : List (List Value) => ([(20000, .osl ((fr24 7).ob) ((fr24 7).cap) 5 1 rr)] : List (Nat × Ent))) (show (List.map rB l20000_1) ++ ([[.int .u8 (IntKind.u8.wrap (Int.fdiv a1 (2 ^ (min (Int.toNat (8 * ((v6_1 : Nat) : Int))) 64))))]] : List (List Value)) = List.map rB (l20000_1 ++ [(UInt8.ofNat (Int.toNat (IntKind.u8.wrap (Int.fdiv a1 (2 ^ (min (Int.toNat (8 * ((v6_1 : Nat) : Int))) 64))))))]) from (by rw [show List.map rB l20000_1 = List.map rB l20000_1 from rfl, show ([[.int .u8 (IntKind.u8.wrap (Int.fdiv a1 (2 ^ (min (Int.toNat (8 * ((v6_1 : Nat) : Int))) 64))))]] : List (List Value)) = List.map rB [(UInt8.ofNat (Int.toNat (IntKind.u8.wrap (Int.fdiv a1 (2 ^ (min (Int.toNat (8 * ((v6_1 : Nat) : Int))) 64))))))] from (show ([[.int .u8 (IntKind.u8.wrap (Int.fdiv a1 (2 ^ (min (Int.toNat (8 * ((v6_1 : Nat) : Int))) 64))))]] : List (List Value)) = List.map rB [(UInt8.ofNat (Int.toNat (IntKind.u8.wrap (Int.fdiv a1 (2 ^ (min (Int.toNat (8 * ((v6_1 : Nat) : Int))) 64))))))] from (one_u8 g27))]; exact mapp rB _ _))) ?_
    refine GS.inBlock ?_
    refine GS.region (env' := fun _ => [(0, .slice ((fr24 7).ob) ((l20000_1 ++ [(UInt8.ofNat (Int.toNat (IntKind.u8.wrap (Int.fdiv a1 (2 ^ (min (Int.toNat (8 * ((v6_1 : Nat) : Int))) 64))))))]).length) ((fr24 7).cap)), (1, .int .i64 a1), (6, .int .i64 ((v6_1 + 1 : Nat) : Int))]) (mem' := fun _ => [(20000, o5 ((fr24 7).ob) ((fr24 7).cap) (l20000_1 ++ [(UInt8.ofNat (Int.toNat (IntKind.u8.wrap (Int.fdiv a1 (2 ^ (min (Int.toNat (8 * ((v6_1 : Nat) : Int))) 64))))))]))]) (RunsTo.mk [(0, { sp := some (.int .i64 ((v6_1 + 1 : Nat) : Int)) })] [0, 1, 6] [20000] (fun _ => [((.int .i64 (IntKind.i64.wrap (((v6_1 : Nat) : Int) + 1))) : Value) = .int .i64 ((v6_1 + 1 : Nat) : Int)]) (fun _ => by kernel_rfl) (fun _ => ⟨natwB (cnt1 hd19) g20, trivial⟩)) ?_
    intro _
    refine GS.inLoop ?_
    refine GS.rekey (env' := [(0, .slice ((fr24 7).ob) ((l20000_1 ++ [(UInt8.ofNat (Int.toNat (IntKind.u8.wrap (Int.fdiv a1 (2 ^ (min (Int.toNat (8 * ((v6_1 : Nat) : Int))) 64))))))]).length) ((fr24 7).cap)), (1, .int .i64 a1), (6, .int .i64 ((v6_1 + 1 : Nat) : Int))]) (mem' := [(20000, o5 ((fr24 7).ob) ((fr24 7).cap) (l20000_1 ++ [(UInt8.ofNat (Int.toNat (IntKind.u8.wrap (Int.fdiv a1 (2 ^ (min (Int.toNat (8 * ((v6_1 : Nat) : Int))) 64))))))]))]) [0, 1, 6] [(20000, 20000)] (by kernel_rfl) (by kernel_rfl) rfl ?_
    exact ih34 ⟨rs33, v6_1 + 1, (l20000_1 ++ [(UInt8.ofNat (Int.toNat (IntKind.u8.wrap (Int.fdiv a1 (2 ^ (min (Int.toNat (8 * ((v6_1 : Nat) : Int))) 64))))))]), (fr24 7).ob, (fr24 7).cap⟩ ⟨cntN hd19, hm⟩ (Nat.lt_succ_self _)

theorem w_tholeref02_Int_2 (F : Nat) (a0_o : Option Addr) (a0_c : Nat) (a0 : List UInt8) (a1 : Int) {y : List UInt8} (hm : m_tholeref02_Int_2 F a0 a1 = some y) : CallG Tryz.prog 91 #[.slice a0_o a0.length a0_c, .int .i64 a1] (X := Option Addr × Nat) (fun ⟨x0, x1⟩ => .slice x0 y.length x1) [o5 a0_o a0_c a0] [] (fun ⟨x0, x1⟩ => [o5 x0 x1 y]) := by
  intro w hg
  rw [m_tholeref02_Int_2] at hm
  refine GS.start (S := mayT [o5 a0_o a0_c a0] []) (mem := [(1, o5 a0_o a0_c a0)]) Tryz.func91 rfl Tryz.ntmps91 (Nat.le_of_ble_eq_true rfl) (hg.start rfl) ?_
  refine GS.conv (env' := [(0, .slice a0_o a0.length a0_c), (1, .int .i64 a1)]) rfl rfl ?_
  refine GS.seq ?_
  refine GS.region (env' := fun _ => [(0, .slice a0_o a0.length a0_c), (1, .int .i64 a1)]) (mem' := fun _ => [(1, o5 a0_o a0_c a0)]) (RunsTo.mk [] [0, 1] [1] (fun _ => []) (fun _ => by kernel_rfl) (fun _ => trivial)) ?_
  intro _
  refine GS.seq ?_
  refine GS.seq ?_
  refine GS.region (env' := fun _ => [(0, .slice a0_o a0.length a0_c), (1, .int .i64 a1), (6, .int .i64 0)]) (mem' := fun _ => [(1, o5 a0_o a0_c a0)]) (RunsTo.mk [] [0, 1, 6] [1] (fun _ => []) (fun _ => by kernel_rfl) (fun _ => trivial)) ?_
  intro _
  refine GS.block ?_
  refine GS.loop ?_
  refine grd_elim hm (fun g20 hm => ?_)
  refine GS.rekey (env' := [(0, .slice a0_o a0.length a0_c), (1, .int .i64 a1), (6, .int .i64 0)]) (mem' := [(1, o5 a0_o a0_c a0)]) [0, 1, 6] [(1, 1)] (by kernel_rfl) (by kernel_rfl) rfl ?_
  refine loopC_elim hm (fun st35 fn36 hst37 hfn38 hm => ?_)
  refine GS.loopInv (ι := Nat × Nat × List UInt8 × Option Addr × Nat) (I := fun ⟨rs33, v6_1, l1_1, o1_1, k1_1⟩ => ((8) - ((v6_1 : Nat) : Int) : Int).toNat = rs33 ∧ loopC st35 fn36 rs33 v6_1 l1_1 = some y) (μ := fun ⟨rs33, v6_1, l1_1, o1_1, k1_1⟩ => rs33) (E := fun ⟨rs33, v6_1, l1_1, o1_1, k1_1⟩ => [(0, .slice o1_1 l1_1.length k1_1), (1, .int .i64 a1), (6, .int .i64 ((v6_1 : Nat) : Int))]) (M := fun ⟨rs33, v6_1, l1_1, o1_1, k1_1⟩ => [(1, o5 o1_1 k1_1 l1_1)]) ?_ ⟨(Int.toNat (8 - ((0 : Nat) : Int))), 0, a0, a0_o, a0_c⟩ ⟨rfl, hm⟩
  rintro ⟨rs33, v6_1, l1_1, o1_1, k1_1⟩ ⟨hd19, hm⟩ ih34
  cases rs33 with
  | zero =>
    replace hm := (hfn38 _ _).symm.trans hm
    try dsimp only at hm
    refine GS.seq ?_
    refine GS.region (env' := fun _ => [(0, .slice o1_1 l1_1.length k1_1), (1, .int .i64 a1), (6, .int .i64 ((v6_1 : Nat) : Int)), (7, .bool (decide (((v6_1 : Nat) : Int) < 8)))]) (mem' := fun _ => [(1, o5 o1_1 k1_1 l1_1)]) (RunsTo.mk [] [0, 1, 6, 7] [1] (fun _ => []) (fun _ => by kernel_rfl) (fun _ => trivial)) ?_
    intro _
    refine GS.seq ?_
    refine GS.cond (t := decide (((v6_1 : Nat) : Int) < 8)) rfl rfl (fun h31 => absb h31 (cnt0 hd19)) (fun _ => ?_)
    refine GS.exit rfl ?_
    refine GS.seq ?_
    refine GS.region (env' := fun _ => [(4, .slice o1_1 l1_1.length k1_1)]) (mem' := fun _ => [(1, o5 o1_1 k1_1 l1_1)]) (RunsTo.mk [] [4] [1] (fun _ => []) (fun _ => by kernel_rfl) (fun _ => trivial)) ?_
    intro _
    have hy := Option.some.inj hm
    subst hy
    refine GS.ret (fn := Tryz.f91) [0] [.slice o1_1 l1_1.length k1_1] [] rfl Tryz.func91 (by kernel_rfl) trivial (fun w' hs => ?_)
    exact ⟨⟨o1_1, k1_1⟩, rfl, hs.turnedG (ks := [1]) rfl rfl⟩
  | succ rs33 =>
    replace hm := (hst37 _ _ _).symm.trans hm
    try dsimp only at hm
    refine GS.seq ?_
    refine GS.region (env' := fun _ => [(0, .slice o1_1 l1_1.length k1_1), (1, .int .i64 a1), (6, .int .i64 ((v6_1 : Nat) : Int)), (7, .bool (decide (((v6_1 : Nat) : Int) < 8)))]) (mem' := fun _ => [(1, o5 o1_1 k1_1 l1_1)]) (RunsTo.mk [] [0, 1, 6, 7] [1] (fun _ => []) (fun _ => by kernel_rfl) (fun _ => trivial)) ?_
    intro _
    refine GS.seq ?_
    refine GS.cond (t := decide (((v6_1 : Nat) : Int) < 8)) rfl rfl (fun _ => ?_) (fun h22 => absb (cnt1 hd19) h22)
    refine GS.skip ?_
    refine GS.seq ?_
    refine GS.block ?_
    refine GS.seq ?_
    refine GS.region (env' := fun _ => [(0, .slice o1_1 l1_1.length k1_1), (1, .int .i64 a1), (5, .int .i64 ((v6_1 : Nat) : Int)), (6, .int .i64 ((v6_1 : Nat) : Int))]) (mem' := fun _ => [(1, o5 o1_1 k1_1 l1_1)]) (RunsTo.mk [] [0, 1, 5, 6] [1] (fun _ => []) (fun _ => by kernel_rfl) (fun _ => trivial)) ?_
    intro _
    refine grd_elim hm (fun g25 hm => ?_)
    refine grd_elim hm (fun g26 hm => ?_)
    refine grd_elim hm (fun g27 hm => ?_)
    refine grd_elim hm (fun g28 hm => ?_)
    refine GS.region (env' := fun fr24 => [(0, .slice ((fr24 7).ob) ((l1_1 ++ [(UInt8.ofNat (Int.toNat (IntKind.u8.wrap (Int.fdiv a1 (2 ^ (min (Int.toNat (8 * ((v6_1 : Nat) : Int))) 64))))))]).length) ((fr24 7).cap)), (1, .int .i64 a1), (6, .int .i64 ((v6_1 : Nat) : Int))]) (mem' := fun fr24 => [(1, .osl ((fr24 7).ob) ((fr24 7).cap) 5 1 ((List.map rB l1_1) ++ ([[.int .u8 (IntKind.u8.wrap (Int.fdiv a1 (2 ^ (min (Int.toNat (8 * ((v6_1 : Nat) : Int))) 64))))]] : List (List Value))))]) (RunsTo.mk [(3, { sp := some (.int .i64 (8 * ((v6_1 : Nat) : Int))) }), (4, { act := .shift }), (6, { act := .new (.row 1 1), key := some 2, spf := some (fun f => .slice (some (Addr.mk f.x 0 none)) ([(UInt8.ofNat (Int.toNat (IntKind.u8.wrap (Int.fdiv a1 (2 ^ (min (Int.toNat (8 * ((v6_1 : Nat) : Int))) 64))))))].length) 1) }), (7, { act := .app (some 2), key := some 1, spf := some (fun f => .slice (f.ob) ((l1_1 ++ [(UInt8.ofNat (Int.toNat (IntKind.u8.wrap (Int.fdiv a1 (2 ^ (min (Int.toNat (8 * ((v6_1 : Nat) : Int))) 64))))))]).length) (f.cap)) })] [0, 1, 6] [1] (fun fr24 => [((.int .i64 (IntKind.i64.wrap (8 * ((v6_1 : Nat) : Int)))) : Value) = .int .i64 (8 * ((v6_1 : Nat) : Int)), 0 ≤ (8 * ((v6_1 : Nat) : Int)), ((.slice (some (Addr.mk (fr24 6).x 0 none)) 1 1) : Value) = .slice (some (Addr.mk (fr24 6).x 0 none)) ([(UInt8.ofNat (Int.toNat (IntKind.u8.wrap (Int.fdiv a1 (2 ^ (min (Int.toNat (8 * ((v6_1 : Nat) : Int))) 64))))))].length) 1, (some (Addr.mk (fr24 6).x 0 none)) = (some (Addr.mk (fr24 6).x 0 none)), [(UInt8.ofNat (Int.toNat (IntKind.u8.wrap (Int.fdiv a1 (2 ^ (min (Int.toNat (8 * ((v6_1 : Nat) : Int))) 64))))))].length = ([[.int .u8 (IntKind.u8.wrap (Int.fdiv a1 (2 ^ (min (Int.toNat (8 * ((v6_1 : Nat) : Int))) 64))))]] : List (List Value)).length, o1_1 = o1_1, k1_1 = k1_1, l1_1.length = (List.map rB l1_1).length, ((List.map rB l1_1).length + ([[.int .u8 (IntKind.u8.wrap (Int.fdiv a1 (2 ^ (min (Int.toNat (8 * ((v6_1 : Nat) : Int))) 64))))]] : List (List Value)).length) * (1 + 1) ≤ 70368744177664, ([[.int .u8 (IntKind.u8.wrap (Int.fdiv a1 (2 ^ (min (Int.toNat (8 * ((v6_1 : Nat) : Int))) 64))))]] : List (List Value)).flatten.all Value.oneCell' = true, ((.slice ((fr24 7).ob) (l1_1.length + ([[.int .u8 (IntKind.u8.wrap (Int.fdiv a1 (2 ^ (min (Int.toNat (8 * ((v6_1 : Nat) : Int))) 64))))]] : List (List Value)).length) ((fr24 7).cap)) : Value) = .slice ((fr24 7).ob) ((l1_1 ++ [(UInt8.ofNat (Int.toNat (IntKind.u8.wrap (Int.fdiv a1 (2 ^ (min (Int.toNat (8 * ((v6_1 : Nat) : Int))) 64))))))]).length) ((fr24 7).cap)]) (fun fr24 => by kernel_rfl) (fun fr24 => ⟨I64.w g25, g26, rfl, rfl, (by rw [show ([[.int .u8 (IntKind.u8.wrap (Int.fdiv a1 (2 ^ (min (Int.toNat (8 * ((v6_1 : Nat) : Int))) 64))))]] : List (List Value)) = List.map rB [(UInt8.ofNat (Int.toNat (IntKind.u8.wrap (Int.fdiv a1 (2 ^ (min (Int.toNat (8 * ((v6_1 : Nat) : Int))) 64))))))] from (one_u8 g27)]; exact mlen rB [(UInt8.ofNat (Int.toNat (IntKind.u8.wrap (Int.fdiv a1 (2 ^ (min (Int.toNat (8 * ((v6_1 : Nat) : Int))) 64))))))]), rfl, rfl, mlen rB l1_1, appb g28 (mlen rB l1_1).symm (by rw [show ([[.int .u8 (IntKind.u8.wrap (Int.fdiv a1 (2 ^ (min (Int.toNat (8 * ((v6_1 : Nat) : Int))) 64))))]] : List (List Value)) = List.map rB [(UInt8.ofNat (Int.toNat (IntKind.u8.wrap (Int.fdiv a1 (2 ^ (min (Int.toNat (8 * ((v6_1 : Nat) : Int))) 64))))))] from (one_u8 g27)]; exact (mlen rB [(UInt8.ofNat (Int.toNat (IntKind.u8.wrap (Int.fdiv a1 (2 ^ (min (Int.toNat (8 * ((v6_1 : Nat) : Int))) 64))))))]).symm), (by rw [show ([[.int .u8 (IntKind.u8.wrap (Int.fdiv a1 (2 ^ (min (Int.toNat (8 * ((v6_1 : Nat) : Int))) 64))))]] : List (List Value)) = List.map rB [(UInt8.ofNat (Int.toNat (IntKind.u8.wrap (Int.fdiv a1 (2 ^ (min (Int.toNat (8 * ((v6_1 : Nat) : Int))) 64))))))] from (show ([[.int .u8 (IntKind.u8.wrap (Int.fdiv a1 (2 ^ (min (Int.toNat (8 * ((v6_1 : Nat) : Int))) 64))))]] : List (List Value)) = List.map rB [(UInt8.ofNat (Int.toNat (IntKind.u8.wrap (Int.fdiv a1 (2 ^ (min (Int.toNat (8 * ((v6_1 : Nat) : Int))) 64))))))] from (one_u8 g27))]; exact all_one rB _ (fun _ => rfl)), slen (by simp), trivial⟩)) ?_
    intro fr24
    refine GS.conv (mem' := [(1, o5 ((fr24 7).ob) ((fr24 7).cap) (l1_1 ++ [(UInt8.ofNat (Int.toNat (IntKind.u8.wrap (Int.fdiv a1 (2 ^ (min (Int.toNat (8 * ((v6_1 : Nat) : Int))) 64))))))]))]) rfl (congrArg (fun rr : List (List Value) => ([(1, .osl ((fr24 7).ob) ((fr24 7).cap) 5 1 rr)] : List (Nat × Ent))) (show (List.map rB l1_1) ++ ([[.int .u8 (IntKind.u8.wrap (Int.fdiv a1 (2 ^ (min (Int.toNat (8 * ((v6_1 : Nat) : Int))) 64))))]] : List (List Value)) = List.map rB (l1_1 ++ [(UInt8.ofNat (Int.toNat (IntKind.u8.wrap (Int.fdiv a1 (2 ^ (min (Int.toNat (8 * ((v6_1 : Nat) : Int))) 64))))))]) from (by rw [show List.map rB l1_1 = List.map rB l1_1 from rfl, show ([[.int .u8 (IntKind.u8.wrap (Int.fdiv a1 (2 ^ (min (Int.toNat (8 * ((v6_1 : Nat) : Int))) 64))))]] : List (List Value)) = List.map rB [(UInt8.ofNat (Int.toNat (IntKind.u8.wrap (Int.fdiv a1 (2 ^ (min (Int.toNat (8 * ((v6_1 : Nat) : Int))) 64))))))] from (show ([[.int .u8 (IntKind.u8.wrap (Int.fdiv a1 (2 ^ (min (Int.toNat (8 * ((v6_1 : Nat) : Int))) 64))))]] : List (List Value)) = List.map rB [(UInt8.ofNat (Int.toNat (IntKind.u8.wrap (Int.fdiv a1 (2 ^ (min (Int.toNat (8 * ((v6_1 : Nat) : Int))) 64))))))] from (one_u8 g27))]; exact mapp rB _ _))) ?_
    refine GS.inBlock ?_
    refine GS.region (env' := fun _ => [(0, .slice ((fr24 7).ob) ((l1_1 ++ [(UInt8.ofNat (Int.toNat (IntKind.u8.wrap (Int.fdiv a1 (2 ^ (min (Int.toNat (8 * ((v6_1 : Nat) : Int))) 64))))))]).length) ((fr24 7).cap)), (1, .int .i64 a1), (6, .int .i64 ((v6_1 + 1 : Nat) : Int))]) (mem' := fun _ => [(1, o5 ((fr24 7).ob) ((fr24 7).cap) (l1_1 ++ [(UInt8.ofNat (Int.toNat (IntKind.u8.wrap (Int.fdiv a1 (2 ^ (min (Int.toNat (8 * ((v6_1 : Nat) : Int))) 64))))))]))]) (RunsTo.mk [(0, { sp := some (.int .i64 ((v6_1 + 1 : Nat) : Int)) })] [0, 1, 6] [1] (fun _ => [((.int .i64 (IntKind.i64.wrap (((v6_1 : Nat) : Int) + 1))) : Value) = .int .i64 ((v6_1 + 1 : Nat) : Int)]) (fun _ => by kernel_rfl) (fun _ => ⟨natwB (cnt1 hd19) g20, trivial⟩)) ?_
    intro _
    refine GS.inLoop ?_
    refine GS.rekey (env' := [(0, .slice ((fr24 7).ob) ((l1_1 ++ [(UInt8.ofNat (Int.toNat (IntKind.u8.wrap (Int.fdiv a1 (2 ^ (min (Int.toNat (8 * ((v6_1 : Nat) : Int))) 64))))))]).length) ((fr24 7).cap)), (1, .int .i64 a1), (6, .int .i64 ((v6_1 + 1 : Nat) : Int))]) (mem' := [(1, o5 ((fr24 7).ob) ((fr24 7).cap) (l1_1 ++ [(UInt8.ofNat (Int.toNat (IntKind.u8.wrap (Int.fdiv a1 (2 ^ (min (Int.toNat (8 * ((v6_1 : Nat) : Int))) 64))))))]))]) [0, 1, 6] [(1, 1)] (by kernel_rfl) (by kernel_rfl) rfl ?_
    exact ih34 ⟨rs33, v6_1 + 1, (l1_1 ++ [(UInt8.ofNat (Int.toNat (IntKind.u8.wrap (Int.fdiv a1 (2 ^ (min (Int.toNat (8 * ((v6_1 : Nat) : Int))) 64))))))]), (fr24 7).ob, (fr24 7).cap⟩ ⟨cntN hd19, hm⟩ (Nat.lt_succ_self _)

theorem w_tholeref02_PutVersion (F : Nat) (a0_o : Option Addr) (a0_c : Nat) (a0 : List UInt8) (a1 : S_api_Version) {y : List UInt8} (hm : m_tholeref02_PutVersion F a0 a1 = some y) : CallG Tryz.prog 92 #[.slice a0_o a0.length a0_c, .agg #[.int .i64 a1.Epoch, .int .i64 a1.N]] (X := Option Addr × Nat) (fun ⟨x0, x1⟩ => .slice x0 y.length x1) [o5 a0_o a0_c a0] [] (fun ⟨x0, x1⟩ => [o5 x0 x1 y]) := by
  intro w hg
  rw [m_tholeref02_PutVersion] at hm
  refine GS.start (S := mayT [o5 a0_o a0_c a0] []) (mem := [(1, o5 a0_o a0_c a0)]) Tryz.func92 rfl Tryz.ntmps92 (Nat.le_of_ble_eq_true rfl) (hg.start rfl) ?_
  refine GS.conv (env' := [(0, .slice a0_o a0.length a0_c), (1, .agg #[.int .i64 a1.Epoch, .int .i64 a1.N])]) rfl rfl ?_
  refine GS.seq ?_
  refine GS.region (env' := fun fr1 => [(0, .slice a0_o a0.length a0_c), (3, .pointer (some ⟨(fr1 0).x, 0, none⟩))]) (mem' := fun fr1 => [(1, o5 a0_o a0_c a0), (2, .cells ((fr1 0).x) 23 [.int .i64 a1.Epoch, .int .i64 a1.N])]) (RunsTo.mk [(0, { act := .new .var, key := some 2 })] [0, 3] [1, 2] (fun fr1 => []) (fun fr1 => by kernel_rfl) (fun fr1 => trivial)) ?_
  intro fr1
  refine GS.seq ?_
  refine bnd_elim hm (fun y3 e4 hm => ?_)
  refine GS.open_ ?_
  refine GR.run (i := 0) 3 (env' := fun _ => [(0, .slice a0_o a0.length a0_c), (3, .pointer (some ⟨(fr1 0).x, 0, none⟩)), (5, .slice a0_o a0.length a0_c), (7, .int .i64 a1.Epoch)]) (mem' := fun _ => [(1, o5 a0_o a0_c a0), (2, .cells ((fr1 0).x) 23 [.int .i64 a1.Epoch, .int .i64 a1.N])]) (Nat.le_of_ble_eq_true (by kernel_rfl)) (RunsTo.mk [(2, { act := .load 2 0 0 [] })] [0, 3, 5, 7] [1, 2] (fun _ => [(fr1 0).x = (fr1 0).x]) (fun _ => by kernel_rfl) (fun _ => ⟨rfl, trivial⟩)) ?_
  intro _
  refine GR.callG (X := Option Addr × Nat) (i := 3) (g := 91) (args := #[.slice a0_o a0.length a0_c, .int .i64 a1.Epoch]) (v := fun ⟨x5, x6⟩ => .slice x5 y3.length x6) (own := [o5 a0_o a0_c a0]) (ro := []) (es' := fun ⟨x5, x6⟩ => [o5 x5 x6 y3]) (mem' := fun ⟨x5, x6⟩ => [(2, .cells ((fr1 0).x) 23 [.int .i64 a1.Epoch, .int .i64 a1.N]), (3, o5 x5 x6 y3)]) (env' := fun ⟨x5, x6⟩ => [(0, .slice a0_o a0.length a0_c), (3, .pointer (some ⟨(fr1 0).x, 0, none⟩)), (8, .slice x5 y3.length x6)]) [1] [3] [0, 3, 8] [2, 3] false (by kernel_rfl) (by kernel_rfl) (by kernel_rfl) (by kernel_rfl) (by kernel_rfl) (fun _ => rfl) (fun _ _ => rfl) trivial (by rintro ⟨x5, x6⟩; kernel_rfl) (by rintro ⟨x5, x6⟩; kernel_rfl) ((by have h1 := w_tholeref02_Int_2 F a0_o a0_c a0 a1.Epoch e4; exact h1)) ?_
  rintro ⟨x5, x6⟩
  refine GR.run (i := 4) 1 (env' := fun _ => [(0, .slice x5 y3.length x6), (3, .pointer (some ⟨(fr1 0).x, 0, none⟩))]) (mem' := fun _ => [(2, .cells ((fr1 0).x) 23 [.int .i64 a1.Epoch, .int .i64 a1.N]), (3, o5 x5 x6 y3)]) (Nat.le_of_ble_eq_true (by kernel_rfl)) (RunsTo.mk [] [0, 3] [2, 3] (fun _ => []) (fun _ => by kernel_rfl) (fun _ => trivial)) ?_
  intro _
  refine GR.done (Nat.le_of_ble_eq_true (by kernel_rfl)) ?_
  refine GS.seq ?_
  refine bnd_elim hm (fun y9 e10 hm => ?_)
  refine GS.open_ ?_
  refine GR.run (i := 0) 3 (env' := fun _ => [(0, .slice x5 y3.length x6), (9, .slice x5 y3.length x6), (11, .int .i64 a1.N)]) (mem' := fun _ => [(3, o5 x5 x6 y3)]) (Nat.le_of_ble_eq_true (by kernel_rfl)) (RunsTo.mk [(2, { act := .load 2 0 0 [] })] [0, 9, 11] [3] (fun _ => [(fr1 0).x = (fr1 0).x]) (fun _ => by kernel_rfl) (fun _ => ⟨rfl, trivial⟩)) ?_
  intro _
  refine GR.callG (X := Option Addr × Nat) (i := 3) (g := 91) (args := #[.slice x5 y3.length x6, .int .i64 a1.N]) (v := fun ⟨x11, x12⟩ => .slice x11 y9.length x12) (own := [o5 x5 x6 y3]) (ro := []) (es' := fun ⟨x11, x12⟩ => [o5 x11 x12 y9]) (mem' := fun ⟨x11, x12⟩ => [(4, o5 x11 x12 y9)]) (env' := fun ⟨x11, x12⟩ => [(0, .slice x5 y3.length x6), (12, .slice x11 y9.length x12)]) [3] [4] [0, 12] [4] false (by kernel_rfl) (by kernel_rfl) (by kernel_rfl) (by kernel_rfl) (by kernel_rfl) (fun _ => rfl) (fun _ _ => rfl) trivial (by rintro ⟨x11, x12⟩; kernel_rfl) (by rintro ⟨x11, x12⟩; kernel_rfl) ((by have h1 := w_tholeref02_Int_2 F x5 x6 y3 a1.N e10; exact h1)) ?_
  rintro ⟨x11, x12⟩
  refine GR.run (i := 4) 1 (env' := fun _ => [(0, .slice x11 y9.length x12)]) (mem' := fun _ => [(4, o5 x11 x12 y9)]) (Nat.le_of_ble_eq_true (by kernel_rfl)) (RunsTo.mk [] [0] [4] (fun _ => []) (fun _ => by kernel_rfl) (fun _ => trivial)) ?_
  intro _
  refine GR.done (Nat.le_of_ble_eq_true (by kernel_rfl)) ?_
  refine GS.seq ?_
  refine GS.region (env' := fun _ => [(4, .slice x11 y9.length x12)]) (mem' := fun _ => [(4, o5 x11 x12 y9)]) (RunsTo.mk [] [4] [4] (fun _ => []) (fun _ => by kernel_rfl) (fun _ => trivial)) ?_
  intro _
  have hy := Option.some.inj hm
  subst hy
  refine GS.ret (fn := Tryz.f92) [0] [.slice x11 y9.length x12] [] rfl Tryz.func92 (by kernel_rfl) trivial (fun w' hs => ?_)
  exact ⟨⟨x11, x12⟩, rfl, hs.turnedG (ks := [4]) rfl rfl⟩

theorem w_tholeref02_Word (F : Nat) (a0_o : Option Addr) (a0_c : Nat) (a0 : List UInt8) (a1 : Int) {y : List UInt8} (hm : m_tholeref02_Word F a0 a1 = some y) : CallG Tryz.prog 112 #[.slice a0_o a0.length a0_c, .int .u32 a1] (X := Option Addr × Nat) (fun ⟨x0, x1⟩ => .slice x0 y.length x1) [o5 a0_o a0_c a0] [] (fun ⟨x0, x1⟩ => [o5 x0 x1 y]) := by
  intro w hg
  rw [m_tholeref02_Word] at hm
  refine GS.start (S := mayT [o5 a0_o a0_c a0] []) (mem := [(1, o5 a0_o a0_c a0)]) Tryz.func112 rfl Tryz.ntmps112 (Nat.le_of_ble_eq_true rfl) (hg.start rfl) ?_
  refine GS.conv (env' := [(0, .slice a0_o a0.length a0_c), (1, .int .u32 a1)]) rfl rfl ?_
  refine GS.seq ?_
  refine GS.region (env' := fun _ => [(0, .slice a0_o a0.length a0_c), (1, .int .u32 a1)]) (mem' := fun _ => [(1, o5 a0_o a0_c a0)]) (RunsTo.mk [] [0, 1] [1] (fun _ => []) (fun _ => by kernel_rfl) (fun _ => trivial)) ?_
  intro _
  refine GS.seq ?_
  refine GS.seq ?_
  refine GS.region (env' := fun _ => [(0, .slice a0_o a0.length a0_c), (1, .int .u32 a1), (6, .int .i64 0)]) (mem' := fun _ => [(1, o5 a0_o a0_c a0)]) (RunsTo.mk [] [0, 1, 6] [1] (fun _ => []) (fun _ => by kernel_rfl) (fun _ => trivial)) ?_
  intro _
  refine GS.block ?_
  refine GS.loop ?_
  refine GS.seq ?_
  refine GS.region (env' := fun _ => [(0, .slice a0_o a0.length a0_c), (1, .int .u32 a1), (6, .int .i64 0), (7, .bool true)]) (mem' := fun _ => [(1, o5 a0_o a0_c a0)]) (RunsTo.mk [] [0, 1, 6, 7] [1] (fun _ => []) (fun _ => by kernel_rfl) (fun _ => trivial)) ?_
  intro _
  refine GS.seq ?_
  refine GS.cond (t := true) rfl rfl (fun _ => ?_) (fun hf => by cases hf)
  refine GS.skip ?_
  refine GS.seq ?_
  refine GS.block ?_
  refine GS.seq ?_
  refine GS.region (env' := fun _ => [(0, .slice a0_o a0.length a0_c), (1, .int .u32 a1), (5, .int .i64 0), (6, .int .i64 0)]) (mem' := fun _ => [(1, o5 a0_o a0_c a0)]) (RunsTo.mk [] [0, 1, 5, 6] [1] (fun _ => []) (fun _ => by kernel_rfl) (fun _ => trivial)) ?_
  intro _
  refine grd_elim hm (fun g6 hm => ?_)
  refine grd_elim hm (fun g7 hm => ?_)
  refine GS.region (env' := fun fr5 => [(0, .slice ((fr5 7).ob) ((a0 ++ [(UInt8.ofNat (Int.toNat (IntKind.u8.wrap (Int.fdiv a1 (2 ^ 0)))))]).length) ((fr5 7).cap)), (1, .int .u32 a1), (6, .int .i64 0)]) (mem' := fun fr5 => [(1, .osl ((fr5 7).ob) ((fr5 7).cap) 5 1 ((List.map rB a0) ++ ([[.int .u8 (IntKind.u8.wrap (Int.fdiv a1 (2 ^ 0)))]] : List (List Value))))]) (RunsTo.mk [(6, { act := .new (.row 1 1), key := some 2, spf := some (fun f => .slice (some (Addr.mk f.x 0 none)) ([(UInt8.ofNat (Int.toNat (IntKind.u8.wrap (Int.fdiv a1 (2 ^ 0)))))].length) 1) }), (7, { act := .app (some 2), key := some 1, spf := some (fun f => .slice (f.ob) ((a0 ++ [(UInt8.ofNat (Int.toNat (IntKind.u8.wrap (Int.fdiv a1 (2 ^ 0)))))]).length) (f.cap)) })] [0, 1, 6] [1] (fun fr5 => [((.slice (some (Addr.mk (fr5 6).x 0 none)) 1 1) : Value) = .slice (some (Addr.mk (fr5 6).x 0 none)) ([(UInt8.ofNat (Int.toNat (IntKind.u8.wrap (Int.fdiv a1 (2 ^ 0)))))].length) 1, (some (Addr.mk (fr5 6).x 0 none)) = (some (Addr.mk (fr5 6).x 0 none)), [(UInt8.ofNat (Int.toNat (IntKind.u8.wrap (Int.fdiv a1 (2 ^ 0)))))].length = ([[.int .u8 (IntKind.u8.wrap (Int.fdiv a1 (2 ^ 0)))]] : List (List Value)).length, a0_o = a0_o, a0_c = a0_c, a0.length = (List.map rB a0).length, ((List.map rB a0).length + ([[.int .u8 (IntKind.u8.wrap (Int.fdiv a1 (2 ^ 0)))]] : List (List Value)).length) * (1 + 1) ≤ 70368744177664, ([[.int .u8 (IntKind.u8.wrap (Int.fdiv a1 (2 ^ 0)))]] : List (List Value)).flatten.all Value.oneCell' = true, ((.slice ((fr5 7).ob) (a0.length + ([[.int .u8 (IntKind.u8.wrap (Int.fdiv a1 (2 ^ 0)))]] : List (List Value)).length) ((fr5 7).cap)) : Value) = .slice ((fr5 7).ob) ((a0 ++ [(UInt8.ofNat (Int.toNat (IntKind.u8.wrap (Int.fdiv a1 (2 ^ 0)))))]).length) ((fr5 7).cap)]) (fun fr5 => by kernel_rfl) (fun fr5 => ⟨rfl, rfl, (by rw [show ([[.int .u8 (IntKind.u8.wrap (Int.fdiv a1 (2 ^ 0)))]] : List (List Value)) = List.map rB [(UInt8.ofNat (Int.toNat (IntKind.u8.wrap (Int.fdiv a1 (2 ^ 0)))))] from (one_u8 g6)]; exact mlen rB [(UInt8.ofNat (Int.toNat (IntKind.u8.wrap (Int.fdiv a1 (2 ^ 0)))))]), rfl, rfl, mlen rB a0, appb g7 (mlen rB a0).symm (by rw [show ([[.int .u8 (IntKind.u8.wrap (Int.fdiv a1 (2 ^ 0)))]] : List (List Value)) = List.map rB [(UInt8.ofNat (Int.toNat (IntKind.u8.wrap (Int.fdiv a1 (2 ^ 0)))))] from (one_u8 g6)]; exact (mlen rB [(UInt8.ofNat (Int.toNat (IntKind.u8.wrap (Int.fdiv a1 (2 ^ 0)))))]).symm), (by rw [show ([[.int .u8 (IntKind.u8.wrap (Int.fdiv a1 (2 ^ 0)))]] : List (List Value)) = List.map rB [(UInt8.ofNat (Int.toNat (IntKind.u8.wrap (Int.fdiv a1 (2 ^ 0)))))] from (show ([[.int .u8 (IntKind.u8.wrap (Int.fdiv a1 (2 ^ 0)))]] : List (List Value)) = List.map rB [(UInt8.ofNat (Int.toNat (IntKind.u8.wrap (Int.fdiv a1 (2 ^ 0)))))] from (one_u8 g6))]; exact all_one rB _ (fun _ => rfl)), slen (by simp), trivial⟩)) ?_
  intro fr5
  refine GS.conv (mem' := [(1, o5 ((fr5 7).ob) ((fr5 7).cap) (a0 ++ [(UInt8.ofNat (Int.toNat (IntKind.u8.wrap (Int.fdiv a1 (2 ^ 0)))))]))]) rfl (congrArg (fun rr : List (List Value) => ([(1, .osl ((fr5 7).ob) ((fr5 7).cap) 5 1 rr)] : List (Nat × Ent))) (show (List.map rB a0) ++ ([[.int .u8 (IntKind.u8.wrap (Int.fdiv a1 (2 ^ 0)))]] : List (List Value)) = List.map rB (a0 ++ [(UInt8.ofNat (Int.toNat (IntKind.u8.wrap (Int.fdiv a1 (2 ^ 0)))))]) from (by rw [show List.map rB a0 = List.map rB a0 from rfl, show ([[.int .u8 (IntKind.u8.wrap (Int.fdiv a1 (2 ^ 0)))]] : List (List Value)) = List.map rB [(UInt8.ofNat (Int.toNat (IntKind.u8.wrap (Int.fdiv a1 (2 ^ 0)))))] from (show ([[.int .u8 (IntKind.u8.wrap (Int.fdiv a1 (2 ^ 0)))]] : List (List Value)) = List.map rB [(UInt8.ofNat (Int.toNat (IntKind.u8.wrap (Int.fdiv a1 (2 ^ 0)))))] from (one_u8 g6))]; exact mapp rB _ _))) ?_
  refine GS.inBlock ?_
  refine GS.region (env' := fun _ => [(0, .slice ((fr5 7).ob) ((a0 ++ [(UInt8.ofNat (Int.toNat (IntKind.u8.wrap (Int.fdiv a1 (2 ^ 0)))))]).length) ((fr5 7).cap)), (1, .int .u32 a1), (6, .int .i64 1)]) (mem' := fun _ => [(1, o5 ((fr5 7).ob) ((fr5 7).cap) (a0 ++ [(UInt8.ofNat (Int.toNat (IntKind.u8.wrap (Int.fdiv a1 (2 ^ 0)))))]))]) (RunsTo.mk [] [0, 1, 6] [1] (fun _ => []) (fun _ => by kernel_rfl) (fun _ => trivial)) ?_
  intro _
  refine GS.inLoop ?_
  refine GS.seq ?_
  refine GS.region (env' := fun _ => [(0, .slice ((fr5 7).ob) ((a0 ++ [(UInt8.ofNat (Int.toNat (IntKind.u8.wrap (Int.fdiv a1 (2 ^ 0)))))]).length) ((fr5 7).cap)), (1, .int .u32 a1), (6, .int .i64 1), (7, .bool true)]) (mem' := fun _ => [(1, o5 ((fr5 7).ob) ((fr5 7).cap) (a0 ++ [(UInt8.ofNat (Int.toNat (IntKind.u8.wrap (Int.fdiv a1 (2 ^ 0)))))]))]) (RunsTo.mk [] [0, 1, 6, 7] [1] (fun _ => []) (fun _ => by kernel_rfl) (fun _ => trivial)) ?_
  intro _
  refine GS.seq ?_
  refine GS.cond (t := true) rfl rfl (fun _ => ?_) (fun hf => by cases hf)
  refine GS.skip ?_
  refine GS.seq ?_
  refine GS.block ?_
  refine GS.seq ?_
  refine GS.region (env' := fun _ => [(0, .slice ((fr5 7).ob) ((a0 ++ [(UInt8.ofNat (Int.toNat (IntKind.u8.wrap (Int.fdiv a1 (2 ^ 0)))))]).length) ((fr5 7).cap)), (1, .int .u32 a1), (5, .int .i64 1), (6, .int .i64 1)]) (mem' := fun _ => [(1, o5 ((fr5 7).ob) ((fr5 7).cap) (a0 ++ [(UInt8.ofNat (Int.toNat (IntKind.u8.wrap (Int.fdiv a1 (2 ^ 0)))))]))]) (RunsTo.mk [] [0, 1, 5, 6] [1] (fun _ => []) (fun _ => by kernel_rfl) (fun _ => trivial)) ?_
  intro _
  refine grd_elim hm (fun g12 hm => ?_)
  refine grd_elim hm (fun g13 hm => ?_)
  refine GS.region (env' := fun fr11 => [(0, .slice ((fr11 7).ob) (((a0 ++ [(UInt8.ofNat (Int.toNat (IntKind.u8.wrap (Int.fdiv a1 (2 ^ 0)))))]) ++ [(UInt8.ofNat (Int.toNat (IntKind.u8.wrap (Int.fdiv a1 (2 ^ 8)))))]).length) ((fr11 7).cap)), (1, .int .u32 a1), (6, .int .i64 1)]) (mem' := fun fr11 => [(1, .osl ((fr11 7).ob) ((fr11 7).cap) 5 1 ((List.map rB (a0 ++ [(UInt8.ofNat (Int.toNat (IntKind.u8.wrap (Int.fdiv a1 (2 ^ 0)))))])) ++ ([[.int .u8 (IntKind.u8.wrap (Int.fdiv a1 (2 ^ 8)))]] : List (List Value))))]) (RunsTo.mk [(6, { act := .new (.row 1 1), key := some 3, spf := some (fun f => .slice (some (Addr.mk f.x 0 none)) ([(UInt8.ofNat (Int.toNat (IntKind.u8.wrap (Int.fdiv a1 (2 ^ 8)))))].length) 1) }), (7, { act := .app (some 3), key := some 1, spf := some (fun f => .slice (f.ob) (((a0 ++ [(UInt8.ofNat (Int.toNat (IntKind.u8.wrap (Int.fdiv a1 (2 ^ 0)))))]) ++ [(UInt8.ofNat (Int.toNat (IntKind.u8.wrap (Int.fdiv a1 (2 ^ 8)))))]).length) (f.cap)) })] [0, 1, 6] [1] (fun fr11 => [((.slice (some (Addr.mk (fr11 6).x 0 none)) 1 1) : Value) = .slice (some (Addr.mk (fr11 6).x 0 none)) ([(UInt8.ofNat (Int.toNat (IntKind.u8.wrap (Int.fdiv a1 (2 ^ 8)))))].length) 1, (some (Addr.mk (fr11 6).x 0 none)) = (some (Addr.mk (fr11 6).x 0 none)), [(UInt8.ofNat (Int.toNat (IntKind.u8.wrap (Int.fdiv a1 (2 ^ 8)))))].length = ([[.int .u8 (IntKind.u8.wrap (Int.fdiv a1 (2 ^ 8)))]] : List (List Value)).length, ((fr5 7).ob) = ((fr5 7).ob), (fr5 7).cap = ((fr5 7).cap), (a0 ++ [(UInt8.ofNat (Int.toNat (IntKind.u8.wrap (Int.fdiv a1 (2 ^ 0)))))]).length = (List.map rB (a0 ++ [(UInt8.ofNat (Int.toNat (IntKind.u8.wrap (Int.fdiv a1 (2 ^ 0)))))])).length, ((List.map rB (a0 ++ [(UInt8.ofNat (Int.toNat (IntKind.u8.wrap (Int.fdiv a1 (2 ^ 0)))))])).length + ([[.int .u8 (IntKind.u8.wrap (Int.fdiv a1 (2 ^ 8)))]] : List (List Value)).length) * (1 + 1) ≤ 70368744177664, ([[.int .u8 (IntKind.u8.wrap (Int.fdiv a1 (2 ^ 8)))]] : List (List Value)).flatten.all Value.oneCell' = true, ((.slice ((fr11 7).ob) (((a0 ++ [(UInt8.ofNat (Int.toNat (IntKind.u8.wrap (Int.fdiv a1 (2 ^ 0)))))]).length) + ([[.int .u8 (IntKind.u8.wrap (Int.fdiv a1 (2 ^ 8)))]] : List (List Value)).length) ((fr11 7).cap)) : Value) = .slice ((fr11 7).ob) (((a0 ++ [(UInt8.ofNat (Int.toNat (IntKind.u8.wrap (Int.fdiv a1 (2 ^ 0)))))]) ++ [(UInt8.ofNat (Int.toNat (IntKind.u8.wrap (Int.fdiv a1 (2 ^ 8)))))]).length) ((fr11 7).cap)]) (fun fr11 => by kernel_rfl) (fun fr11 => ⟨rfl, rfl, (by rw [show ([[.int .u8 (IntKind.u8.wrap (Int.fdiv a1 (2 ^ 8)))]] : List (List Value)) = List.map rB [(UInt8.ofNat (Int.toNat (IntKind.u8.wrap (Int.fdiv a1 (2 ^ 8)))))] from (one_u8 g12)]; exact mlen rB [(UInt8.ofNat (Int.toNat (IntKind.u8.wrap (Int.fdiv a1 (2 ^ 8)))))]), rfl, rfl, mlen rB (a0 ++ [(UInt8.ofNat (Int.toNat (IntKind.u8.wrap (Int.fdiv a1 (2 ^ 0)))))]), appb g13 (mlen rB (a0 ++ [(UInt8.ofNat (Int.toNat (IntKind.u8.wrap (Int.fdiv a1 (2 ^ 0)))))])).symm (by rw [show ([[.int .u8 (IntKind.u8.wrap (Int.fdiv a1 (2 ^ 8)))]] : List (List Value)) = List.map rB [(UInt8.ofNat (Int.toNat (IntKind.u8.wrap (Int.fdiv a1 (2 ^ 8)))))] from (one_u8 g12)]; exact (mlen rB [(UInt8.ofNat (Int.toNat (IntKind.u8.wrap (Int.fdiv a1 (2 ^ 8)))))]).symm), (by rw [show ([[.int .u8 (IntKind.u8.wrap (Int.fdiv a1 (2 ^ 8)))]] : List (List Value)) = List.map rB [(UInt8.ofNat (Int.toNat (IntKind.u8.wrap (Int.fdiv a1 (2 ^ 8)))))] from (show ([[.int .u8 (IntKind.u8.wrap (Int.fdiv a1 (2 ^ 8)))]] : List (List Value)) = List.map rB [(UInt8.ofNat (Int.toNat (IntKind.u8.wrap (Int.fdiv a1 (2 ^ 8)))))] from (one_u8 g12))]; exact all_one rB _ (fun _ => rfl)), slen (by simp), trivial⟩)) ?_
  intro fr11
  refine GS.conv (mem' := [(1, o5 ((fr11 7).ob) ((fr11 7).cap) ((a0 ++ [(UInt8.ofNat (Int.toNat (IntKind.u8.wrap (Int.fdiv a1 (2 ^ 0)))))]) ++ [(UInt8.ofNat (Int.toNat (IntKind.u8.wrap (Int.fdiv a1 (2 ^ 8)))))]))]) rfl (congrArg (fun rr : List (List Value) => ([(1, .osl ((fr11 7).ob) ((fr11 7).cap) 5 1 rr)] : List (Nat × Ent))) (show (List.map rB (a0 ++ [(UInt8.ofNat (Int.toNat (IntKind.u8.wrap (Int.fdiv a1 (2 ^ 0)))))])) ++ ([[.int .u8 (IntKind.u8.wrap (Int.fdiv a1 (2 ^ 8)))]] : List (List Value)) = List.map rB ((a0 ++ [(UInt8.ofNat (Int.toNat (IntKind.u8.wrap (Int.fdiv a1 (2 ^ 0)))))]) ++ [(UInt8.ofNat (Int.toNat (IntKind.u8.wrap (Int.fdiv a1 (2 ^ 8)))))]) from (by rw [show List.map rB (a0 ++ [(UInt8.ofNat (Int.toNat (IntKind.u8.wrap (Int.fdiv a1 (2 ^ 0)))))]) = List.map rB (a0 ++ [(UInt8.ofNat (Int.toNat (IntKind.u8.wrap (Int.fdiv a1 (2 ^ 0)))))]) from rfl, show ([[.int .u8 (IntKind.u8.wrap (Int.fdiv a1 (2 ^ 8)))]] : List (List Value)) = List.map rB [(UInt8.ofNat (Int.toNat (IntKind.u8.wrap (Int.fdiv a1 (2 ^ 8)))))] from (show ([[.int .u8 (IntKind.u8.wrap (Int.fdiv a1 (2 ^ 8)))]] : List (List Value)) = List.map rB [(UInt8.ofNat (Int.toNat (IntKind.u8.wrap (Int.fdiv a1 (2 ^ 8)))))] from (one_u8 g12))]; exact mapp rB _ _))) ?_
  refine GS.inBlock ?_
  refine GS.region (env' := fun _ => [(0, .slice ((fr11 7).ob) (((a0 ++ [(UInt8.ofNat (Int.toNat (IntKind.u8.wrap (Int.fdiv a1 (2 ^ 0)))))]) ++ [(UInt8.ofNat (Int.toNat (IntKind.u8.wrap (Int.fdiv a1 (2 ^ 8)))))]).length) ((fr11 7).cap)), (1, .int .u32 a1), (6, .int .i64 2)]) (mem' := fun _ => [(1, o5 ((fr11 7).ob) ((fr11 7).cap) ((a0 ++ [(UInt8.ofNat (Int.toNat (IntKind.u8.wrap (Int.fdiv a1 (2 ^ 0)))))]) ++ [(UInt8.ofNat (Int.toNat (IntKind.u8.wrap (Int.fdiv a1 (2 ^ 8)))))]))]) (RunsTo.mk [] [0, 1, 6] [1] (fun _ => []) (fun _ => by kernel_rfl) (fun _ => trivial)) ?_
  intro _
  refine GS.inLoop ?_
  refine GS.seq ?_
  refine GS.region (env' := fun _ => [(0, .slice ((fr11 7).ob) (((a0 ++ [(UInt8.ofNat (Int.toNat (IntKind.u8.wrap (Int.fdiv a1 (2 ^ 0)))))]) ++ [(UInt8.ofNat (Int.toNat (IntKind.u8.wrap (Int.fdiv a1 (2 ^ 8)))))]).length) ((fr11 7).cap)), (1, .int .u32 a1), (6, .int .i64 2), (7, .bool true)]) (mem' := fun _ => [(1, o5 ((fr11 7).ob) ((fr11 7).cap) ((a0 ++ [(UInt8.ofNat (Int.toNat (IntKind.u8.wrap (Int.fdiv a1 (2 ^ 0)))))]) ++ [(UInt8.ofNat (Int.toNat (IntKind.u8.wrap (Int.fdiv a1 (2 ^ 8)))))]))]) (RunsTo.mk [] [0, 1, 6, 7] [1] (fun _ => []) (fun _ => by kernel_rfl) (fun _ => trivial)) ?_
  intro _
  refine GS.seq ?_
  refine GS.cond (t := true) rfl rfl (fun _ => ?_) (fun hf => by cases hf)
  refine GS.skip ?_
  refine GS.seq ?_
  refine GS.block ?_
  refine GS.seq ?_
  refine GS.region (env' := fun _ => [(0, .slice ((fr11 7).ob) (((a0 ++ [(UInt8.ofNat (Int.toNat (IntKind.u8.wrap (Int.fdiv a1 (2 ^ 0)))))]) ++ [(UInt8.ofNat (Int.toNat (IntKind.u8.wrap (Int.fdiv a1 (2 ^ 8)))))]).length) ((fr11 7).cap)), (1, .int .u32 a1), (5, .int .i64 2), (6, .int .i64 2)]) (mem' := fun _ => [(1, o5 ((fr11 7).ob) ((fr11 7).cap) ((a0 ++ [(UInt8.ofNat (Int.toNat (IntKind.u8.wrap (Int.fdiv a1 (2 ^ 0)))))]) ++ [(UInt8.ofNat (Int.toNat (IntKind.u8.wrap (Int.fdiv a1 (2 ^ 8)))))]))]) (RunsTo.mk [] [0, 1, 5, 6] [1] (fun _ => []) (fun _ => by kernel_rfl) (fun _ => trivial)) ?_
  intro _
  refine grd_elim hm (fun g18 hm => ?_)
  refine grd_elim hm (fun g19 hm => ?_)
  refine GS.region (env' := fun fr17 => [(0, .slice ((fr17 7).ob) ((((a0 ++ [(UInt8.ofNat (Int.toNat (IntKind.u8.wrap (Int.fdiv a1 (2 ^ 0)))))]) ++ [(UInt8.ofNat (Int.toNat (IntKind.u8.wrap (Int.fdiv a1 (2 ^ 8)))))]) ++ [(UInt8.ofNat (Int.toNat (IntKind.u8.wrap (Int.fdiv a1 (2 ^ 16)))))]).length) ((fr17 7).cap)), (1, .int .u32 a1), (6, .int .i64 2)]) (mem' := fun fr17 => [(1, .osl ((fr17 7).ob) ((fr17 7).cap) 5 1 ((List.map rB ((a0 ++ [(UInt8.ofNat (Int.toNat (IntKind.u8.wrap (Int.fdiv a1 (2 ^ 0)))))]) ++ [(UInt8.ofNat (Int.toNat (IntKind.u8.wrap (Int.fdiv a1 (2 ^ 8)))))])) ++ ([[.int .u8 (IntKind.u8.wrap (Int.fdiv a1 (2 ^ 16)))]] : List (List Value))))]) (RunsTo.mk [(6, { act := .new (.row 1 1), key := some 4, spf := some (fun f => .slice (some (Addr.mk f.x 0 none)) ([(UInt8.ofNat (Int.toNat (IntKind.u8.wrap (Int.fdiv a1 (2 ^ 16)))))].length) 1) }), (7, { act := .app (some 4), key := some 1, spf := some (fun f => .slice (f.ob) ((((a0 ++ [(UInt8.ofNat (Int.toNat (IntKind.u8.wrap (Int.fdiv a1 (2 ^ 0)))))]) ++ [(UInt8.ofNat (Int.toNat (IntKind.u8.wrap (Int.fdiv a1 (2 ^ 8)))))]) ++ [(UInt8.ofNat (Int.toNat (IntKind.u8.wrap (Int.fdiv a1 (2 ^ 16)))))]).length) (f.cap)) })] [0, 1, 6] [1] (fun fr17 => [((.slice (some (Addr.mk (fr17 6).x 0 none)) 1 1) : Value) = .slice (some (Addr.mk (fr17 6).x 0 none)) ([(UInt8.ofNat (Int.toNat (IntKind.u8.wrap (Int.fdiv a1 (2 ^ 16)))))].length) 1, (some (Addr.mk (fr17 6).x 0 none)) = (some (Addr.mk (fr17 6).x 0 none)), [(UInt8.ofNat (Int.toNat (IntKind.u8.wrap (Int.fdiv a1 (2 ^ 16)))))].length = ([[.int .u8 (IntKind.u8.wrap (Int.fdiv a1 (2 ^ 16)))]] : List (List Value)).length, ((fr11 7).ob) = ((fr11 7).ob), (fr11 7).cap = ((fr11 7).cap), ((a0 ++ [(UInt8.ofNat (Int.toNat (IntKind.u8.wrap (Int.fdiv a1 (2 ^ 0)))))]) ++ [(UInt8.ofNat (Int.toNat (IntKind.u8.wrap (Int.fdiv a1 (2 ^ 8)))))]).length = (List.map rB ((a0 ++ [(UInt8.ofNat (Int.toNat (IntKind.u8.wrap (Int.fdiv a1 (2 ^ 0)))))]) ++ [(UInt8.ofNat (Int.toNat (IntKind.u8.wrap (Int.fdiv a1 (2 ^ 8)))))])).length, ((List.map rB ((a0 ++ [(UInt8.ofNat (Int.toNat (IntKind.u8.wrap (Int.fdiv a1 (2 ^ 0)))))]) ++ [(UInt8.ofNat (Int.toNat (IntKind.u8.wrap (Int.fdiv a1 (2 ^ 8)))))])).length + ([[.int .u8 (IntKind.u8.wrap (Int.fdiv a1 (2 ^ 16)))]] : List (List Value)).length) * (1 + 1) ≤ 70368744177664, ([[.int .u8 (IntKind.u8.wrap (Int.fdiv a1 (2 ^ 16)))]] : List (List Value)).flatten.all Value.oneCell' = true, ((.slice ((fr17 7).ob) ((((a0 ++ [(UInt8.ofNat (Int.toNat (IntKind.u8.wrap (Int.fdiv a1 (2 ^ 0)))))]) ++ [(UInt8.ofNat (Int.toNat (IntKind.u8.wrap (Int.fdiv a1 (2 ^ 8)))))]).length) + ([[.int .u8 (IntKind.u8.wrap (Int.fdiv a1 (2 ^ 16)))]] : List (List Value)).length) ((fr17 7).cap)) : Value) = .slice ((fr17 7).ob) ((((a0 ++ [(UInt8.ofNat (Int.toNat (IntKind.u8.wrap (Int.fdiv a1 (2 ^ 0)))))]) ++ [(UInt8.ofNat (Int.toNat (IntKind.u8.wrap (Int.fdiv a1 (2 ^ 8)))))]) ++ [(UInt8.ofNat (Int.toNat (IntKind.u8.wrap (Int.fdiv a1 (2 ^ 16)))))]).length) ((fr17 7).cap)]) (fun fr17 => by kernel_rfl) (fun fr17 => ⟨rfl, rfl, (by rw [show ([[.int .u8 (IntKind.u8.wrap (Int.fdiv a1 (2 ^ 16)))]] : List (List Value)) = List.map rB [(UInt8.ofNat (Int.toNat (IntKind.u8.wrap (Int.fdiv a1 (2 ^ 16)))))] from (one_u8 g18)]; exact mlen rB [(UInt8.ofNat (Int.toNat (IntKind.u8.wrap (Int.fdiv a1 (2 ^ 16)))))]), rfl, rfl, mlen rB ((a0 ++ [(UInt8.ofNat (Int.toNat (IntKind.u8.wrap (Int.fdiv a1 (2 ^ 0)))))]) ++ [(UInt8.ofNat (Int.toNat (IntKind.u8.wrap (Int.fdiv a1 (2 ^ 8)))))]), appb g19 (mlen rB ((a0 ++ [(UInt8.ofNat (Int.toNat (IntKind.u8.wrap (Int.fdiv a1 (2 ^ 0)))))]) ++ [(UInt8.ofNat (Int.toNat (IntKind.u8.wrap (Int.fdiv a1 (2 ^ 8)))))])).symm (by rw [show ([[.int .u8 (IntKind.u8.wrap (Int.fdiv a1 (2 ^ 16)))]] : List (List Value)) = List.map rB [(UInt8.ofNat (Int.toNat (IntKind.u8.wrap (Int.fdiv a1 (2 ^ 16)))))] from (one_u8 g18)]; exact (mlen rB [(UInt8.ofNat (Int.toNat (IntKind.u8.wrap (Int.fdiv a1 (2 ^ 16)))))]).symm), (by rw [show ([[.int .u8 (IntKind.u8.wrap (Int.fdiv a1 (2 ^ 16)))]] : List (List Value)) = List.map rB [(UInt8.ofNat (Int.toNat (IntKind.u8.wrap (Int.fdiv a1 (2 ^ 16)))))] from (show ([[.int .u8 (IntKind.u8.wrap (Int.fdiv a1 (2 ^ 16)))]] : List (List Value)) = List.map rB [(UInt8.ofNat (Int.toNat (IntKind.u8.wrap (Int.fdiv a1 (2 ^ 16)))))] from (one_u8 g18))]; exact all_one rB _ (fun _ => rfl)), slen (by simp), trivial⟩)) ?_
  intro fr17
  refine GS.conv (mem' := [(1, o5 ((fr17 7).ob) ((fr17 7).cap) (((a0 ++ [(UInt8.ofNat (Int.toNat (IntKind.u8.wrap (Int.fdiv a1 (2 ^ 0)))))]) ++ [(UInt8.ofNat (Int.toNat (IntKind.u8.wrap (Int.fdiv a1 (2 ^ 8)))))]) ++ [(UInt8.ofNat (Int.toNat (IntKind.u8.wrap (Int.fdiv a1 (2 ^ 16)))))]))]) rfl (congrArg (fun rr : List (List Value) => ([(1, .osl ((fr17 7).ob) ((fr17 7).cap) 5 1 rr)] : List (Nat × Ent))) (show (List.map rB ((a0 ++ [(UInt8.ofNat (Int.toNat (IntKind.u8.wrap (Int.fdiv a1 (2 ^ 0)))))]) ++ [(UInt8.ofNat (Int.toNat (IntKind.u8.wrap (Int.fdiv a1 (2 ^ 8)))))])) ++ ([[.int .u8 (IntKind.u8.wrap (Int.fdiv a1 (2 ^ 16)))]] : List (List Value)) = List.map rB (((a0 ++ [(UInt8.ofNat (Int.toNat (IntKind.u8.wrap (Int.fdiv a1 (2 ^ 0)))))]) ++ [(UInt8.ofNat (Int.toNat (IntKind.u8.wrap (Int.fdiv a1 (2 ^ 8)))))]) ++ [(UInt8.ofNat (Int.toNat (IntKind.u8.wrap (Int.fdiv a1 (2 ^ 16)))))]) from (by rw [show List.map rB ((a0 ++ [(UInt8.ofNat (Int.toNat (IntKind.u8.wrap (Int.fdiv a1 (2 ^ 0)))))]) ++ [(UInt8.ofNat (Int.toNat (IntKind.u8.wrap (Int.fdiv a1 (2 ^ 8)))))]) = List.map rB ((a0 ++ [(UInt8.ofNat (Int.toNat (IntKind.u8.wrap (Int.fdiv a1 (2 ^ 0)))))]) ++ [(UInt8.ofNat (Int.toNat (IntKind.u8.wrap (Int.fdiv a1 (2 ^ 8)))))]) from rfl, show ([[.int .u8 (IntKind.u8.wrap (Int.fdiv a1 (2 ^ 16)))]] : List (List Value)) = List.map rB [(UInt8.ofNat (Int.toNat (IntKind.u8.wrap (Int.fdiv a1 (2 ^ 16)))))] from (show ([[.int .u8 (IntKind.u8.wrap (Int.fdiv a1 (2 ^ 16)))]] : List (List Value)) = List.map rB [(UInt8.ofNat (Int.toNat (IntKind.u8.wrap (Int.fdiv a1 (2 ^ 16)))))] from (one_u8 g18))]; exact mapp rB _ _))) ?_
  refine GS.inBlock ?_
  refine GS.region (env' := fun _ => [(0, .slice ((fr17 7).ob) ((((a0 ++ [(UInt8.ofNat (Int.toNat (IntKind.u8.wrap (Int.fdiv a1 (2 ^ 0)))))]) ++ [(UInt8.ofNat (Int.toNat (IntKind.u8.wrap (Int.fdiv a1 (2 ^ 8)))))]) ++ [(UInt8.ofNat (Int.toNat (IntKind.u8.wrap (Int.fdiv a1 (2 ^ 16)))))]).length) ((fr17 7).cap)), (1, .int .u32 a1), (6, .int .i64 3)]) (mem' := fun _ => [(1, o5 ((fr17 7).ob) ((fr17 7).cap) (((a0 ++ [(UInt8.ofNat (Int.toNat (IntKind.u8.wrap (Int.fdiv a1 (2 ^ 0)))))]) ++ [(UInt8.ofNat (Int.toNat (IntKind.u8.wrap (Int.fdiv a1 (2 ^ 8)))))]) ++ [(UInt8.ofNat (Int.toNat (IntKind.u8.wrap (Int.fdiv a1 (2 ^ 16)))))]))]) (RunsTo.mk [] [0, 1, 6] [1] (fun _ => []) (fun _ => by kernel_rfl) (fun _ => trivial)) ?_
  intro _
  refine GS.inLoop ?_
  refine GS.seq ?_
  refine GS.region (env' := fun _ => [(0, .slice ((fr17 7).ob) ((((a0 ++ [(UInt8.ofNat (Int.toNat (IntKind.u8.wrap (Int.fdiv a1 (2 ^ 0)))))]) ++ [(UInt8.ofNat (Int.toNat (IntKind.u8.wrap (Int.fdiv a1 (2 ^ 8)))))]) ++ [(UInt8.ofNat (Int.toNat (IntKind.u8.wrap (Int.fdiv a1 (2 ^ 16)))))]).length) ((fr17 7).cap)), (1, .int .u32 a1), (6, .int .i64 3), (7, .bool true)]) (mem' := fun _ => [(1, o5 ((fr17 7).ob) ((fr17 7).cap) (((a0 ++ [(UInt8.ofNat (Int.toNat (IntKind.u8.wrap (Int.fdiv a1 (2 ^ 0)))))]) ++ [(UInt8.ofNat (Int.toNat (IntKind.u8.wrap (Int.fdiv a1 (2 ^ 8)))))]) ++ [(UInt8.ofNat (Int.toNat (IntKind.u8.wrap (Int.fdiv a1 (2 ^ 16)))))]))]) (RunsTo.mk [] [0, 1, 6, 7] [1] (fun _ => []) (fun _ => by kernel_rfl) (fun _ => trivial)) ?_
  intro _
  refine GS.seq ?_
  refine GS.cond (t := true) rfl rfl (fun _ => ?_) (fun hf => by cases hf)
  refine GS.skip ?_
  refine GS.seq ?_
  refine GS.block ?_
  refine GS.seq ?_
  refine GS.region (env' := fun _ => [(0, .slice ((fr17 7).ob) ((((a0 ++ [(UInt8.ofNat (Int.toNat (IntKind.u8.wrap (Int.fdiv a1 (2 ^ 0)))))]) ++ [(UInt8.ofNat (Int.toNat (IntKind.u8.wrap (Int.fdiv a1 (2 ^ 8)))))]) ++ [(UInt8.ofNat (Int.toNat (IntKind.u8.wrap (Int.fdiv a1 (2 ^ 16)))))]).length) ((fr17 7).cap)), (1, .int .u32 a1), (5, .int .i64 3), (6, .int .i64 3)]) (mem' := fun _ => [(1, o5 ((fr17 7).ob) ((fr17 7).cap) (((a0 ++ [(UInt8.ofNat (Int.toNat (IntKind.u8.wrap (Int.fdiv a1 (2 ^ 0)))))]) ++ [(UInt8.ofNat (Int.toNat (IntKind.u8.wrap (Int.fdiv a1 (2 ^ 8)))))]) ++ [(UInt8.ofNat (Int.toNat (IntKind.u8.wrap (Int.fdiv a1 (2 ^ 16)))))]))]) (RunsTo.mk [] [0, 1, 5, 6] [1] (fun _ => []) (fun _ => by kernel_rfl) (fun _ => trivial)) ?_
  intro _
  refine grd_elim hm (fun g24 hm => ?_)
  refine grd_elim hm (fun g25 hm => ?_)
  refine GS.region (env' := fun fr23 => [(0, .slice ((fr23 7).ob) (((((a0 ++ [(UInt8.ofNat (Int.toNat (IntKind.u8.wrap (Int.fdiv a1 (2 ^ 0)))))]) ++ [(UInt8.ofNat (Int.toNat (IntKind.u8.wrap (Int.fdiv a1 (2 ^ 8)))))]) ++ [(UInt8.ofNat (Int.toNat (IntKind.u8.wrap (Int.fdiv a1 (2 ^ 16)))))]) ++ [(UInt8.ofNat (Int.toNat (IntKind.u8.wrap (Int.fdiv a1 (2 ^ 24)))))]).length) ((fr23 7).cap)), (1, .int .u32 a1), (6, .int .i64 3)]) (mem' := fun fr23 => [(1, .osl ((fr23 7).ob) ((fr23 7).cap) 5 1 ((List.map rB (((a0 ++ [(UInt8.ofNat (Int.toNat (IntKind.u8.wrap (Int.fdiv a1 (2 ^ 0)))))]) ++ [(UInt8.ofNat (Int.toNat (IntKind.u8.wrap (Int.fdiv a1 (2 ^ 8)))))]) ++ [(UInt8.ofNat (Int.toNat (IntKind.u8.wrap (Int.fdiv a1 (2 ^ 16)))))])) ++ ([[.int .u8 (IntKind.u8.wrap (Int.fdiv a1 (2 ^ 24)))]] : List (List Value))))]) (RunsTo.mk [(6, { act := .new (.row 1 1), key := some 5, spf := some (fun f => .slice (some (Addr.mk f.x 0 none)) ([(UInt8.ofNat (Int.toNat (IntKind.u8.wrap (Int.fdiv a1 (2 ^ 24)))))].length) 1) }), (7, { act := .app (some 5), key := some 1, spf := some (fun f => .slice (f.ob) (((((a0 ++ [(UInt8.ofNat (Int.toNat (IntKind.u8.wrap (Int.fdiv a1 (2 ^ 0)))))]) ++ [(UInt8.ofNat (Int.toNat (IntKind.u8.wrap (Int.fdiv a1 (2 ^ 8)))))]) ++ [(UInt8.ofNat (Int.toNat (IntKind.u8.wrap (Int.fdiv a1 (2 ^ 16)))))]) ++ [(UInt8.ofNat (Int.toNat (IntKind.u8.wrap (Int.fdiv a1 (2 ^ 24)))))]).length) (f.cap)) })] [0, 1, 6] [1] (fun fr23 => [((.slice (some (Addr.mk (fr23 6).x 0 none)) 1 1) : Value) = .slice (some (Addr.mk (fr23 6).x 0 none)) ([(UInt8.ofNat (Int.toNat (IntKind.u8.wrap (Int.fdiv a1 (2 ^ 24)))))].length) 1, (some (Addr.mk (fr23 6).x 0 none)) = (some (Addr.mk (fr23 6).x 0 none)), [(UInt8.ofNat (Int.toNat (IntKind.u8.wrap (Int.fdiv a1 (2 ^ 24)))))].length = ([[.int .u8 (IntKind.u8.wrap (Int.fdiv a1 (2 ^ 24)))]] : List (List Value)).length, ((fr17 7).ob) = ((fr17 7).ob), (fr17 7).cap = ((fr17 7).cap), (((a0 ++ [(UInt8.ofNat (Int.toNat (IntKind.u8.wrap (Int.fdiv a1 (2 ^ 0)))))]) ++ [(UInt8.ofNat (Int.toNat (IntKind.u8.wrap (Int.fdiv a1 (2 ^ 8)))))]) ++ [(UInt8.ofNat (Int.toNat (IntKind.u8.wrap (Int.fdiv a1 (2 ^ 16)))))]).length = (List.map rB (((a0 ++ [(UInt8.ofNat (Int.toNat (IntKind.u8.wrap (Int.fdiv a1 (2 ^ 0)))))]) ++ [(UInt8.ofNat (Int.toNat (IntKind.u8.wrap (Int.fdiv a1 (2 ^ 8)))))]) ++ [(UInt8.ofNat (Int.toNat (IntKind.u8.wrap (Int.fdiv a1 (2 ^ 16)))))])).length, ((List.map rB (((a0 ++ [(UInt8.ofNat (Int.toNat (IntKind.u8.wrap (Int.fdiv a1 (2 ^ 0)))))]) ++ [(UInt8.ofNat (Int.toNat (IntKind.u8.wrap (Int.fdiv a1 (2 ^ 8)))))]) ++ [(UInt8.ofNat (Int.toNat (IntKind.u8.wrap (Int.fdiv a1 (2 ^ 16)))))])).length + ([[.int .u8 (IntKind.u8.wrap (Int.fdiv a1 (2 ^ 24)))]] : List (List Value)).length) * (1 + 1) ≤ 70368744177664, ([[.int .u8 (IntKind.u8.wrap (Int.fdiv a1 (2 ^ 24)))]] : List (List Value)).flatten.all Value.oneCell' = true, ((.slice ((fr23 7).ob) (((((a0 ++ [(UInt8.ofNat (Int.toNat (IntKind.u8.wrap (Int.fdiv a1 (2 ^ 0)))))]) ++ [(UInt8.ofNat (Int.toNat (IntKind.u8.wrap (Int.fdiv a1 (2 ^ 8)))))]) ++ [(UInt8.ofNat (Int.toNat (IntKind.u8.wrap (Int.fdiv a1 (2 ^ 16)))))]).length) + ([[.int .u8 (IntKind.u8.wrap (Int.fdiv a1 (2 ^ 24)))]] : List (List Value)).length) ((fr23 7).cap)) : Value) = .slice ((fr23 7).ob) (((((a0 ++ [(UInt8.ofNat (Int.toNat (IntKind.u8.wrap (Int.fdiv a1 (2 ^ 0)))))]) ++ [(UInt8.ofNat (Int.toNat (IntKind.u8.wrap (Int.fdiv a1 (2 ^ 8)))))]) ++ [(UInt8.ofNat (Int.toNat (IntKind.u8.wrap (Int.fdiv a1 (2 ^ 16)))))]) ++ [(UInt8.ofNat (Int.toNat (IntKind.u8.wrap (Int.fdiv a1 (2 ^ 24)))))]).length) ((fr23 7).cap)]) (fun fr23 => by kernel_rfl) (fun fr23 => ⟨rfl, rfl, (by rw [show ([[.int .u8 (IntKind.u8.wrap (Int.fdiv a1 (2 ^ 24)))]] : List (List Value)) = List.map rB [(UInt8.ofNat (Int.toNat (IntKind.u8.wrap (Int.fdiv a1 (2 ^ 24)))))] from (one_u8 g24)]; exact mlen rB [(UInt8.ofNat (Int.toNat (IntKind.u8.wrap (Int.fdiv a1 (2 ^ 24)))))]), rfl, rfl, mlen rB (((a0 ++ [(UInt8.ofNat (Int.toNat (IntKind.u8.wrap (Int.fdiv a1 (2 ^ 0)))))]) ++ [(UInt8.ofNat (Int.toNat (IntKind.u8.wrap (Int.fdiv a1 (2 ^ 8)))))]) ++ [(UInt8.ofNat (Int.toNat (IntKind.u8.wrap (Int.fdiv a1 (2 ^ 16)))))]), appb g25 (mlen rB (((a0 ++ [(UInt8.ofNat (Int.toNat (IntKind.u8.wrap (Int.fdiv a1 (2 ^ 0)))))]) ++ [(UInt8.ofNat (Int.toNat (IntKind.u8.wrap (Int.fdiv a1 (2 ^ 8)))))]) ++ [(UInt8.ofNat (Int.toNat (IntKind.u8.wrap (Int.fdiv a1 (2 ^ 16)))))])).symm (by rw [show ([[.int .u8 (IntKind.u8.wrap (Int.fdiv a1 (2 ^ 24)))]] : List (List Value)) = List.map rB [(UInt8.ofNat (Int.toNat (IntKind.u8.wrap (Int.fdiv a1 (2 ^ 24)))))] from (one_u8 g24)]; exact (mlen rB [(UInt8.ofNat (Int.toNat (IntKind.u8.wrap (Int.fdiv a1 (2 ^ 24)))))]).symm), (by rw [show ([[.int .u8 (IntKind.u8.wrap (Int.fdiv a1 (2 ^ 24)))]] : List (List Value)) = List.map rB [(UInt8.ofNat (Int.toNat (IntKind.u8.wrap (Int.fdiv a1 (2 ^ 24)))))] from (show ([[.int .u8 (IntKind.u8.wrap (Int.fdiv a1 (2 ^ 24)))]] : List (List Value)) = List.map rB [(UInt8.ofNat (Int.toNat (IntKind.u8.wrap (Int.fdiv a1 (2 ^ 24)))))] from (one_u8 g24))]; exact all_one rB _ (fun _ => rfl)), slen (by simp), trivial⟩)) ?_
  intro fr23
  refine GS.conv (mem' := [(1, o5 ((fr23 7).ob) ((fr23 7).cap) ((((a0 ++ [(UInt8.ofNat (Int.toNat (IntKind.u8.wrap (Int.fdiv a1 (2 ^ 0)))))]) ++ [(UInt8.ofNat (Int.toNat (IntKind.u8.wrap (Int.fdiv a1 (2 ^ 8)))))]) ++ [(UInt8.ofNat (Int.toNat (IntKind.u8.wrap (Int.fdiv a1 (2 ^ 16)))))]) ++ [(UInt8.ofNat (Int.toNat (IntKind.u8.wrap (Int.fdiv a1 (2 ^ 24)))))]))]) rfl (congrArg (fun rr : List (List Value) => ([(1, .osl ((fr23 7).ob) ((fr23 7).cap) 5 1 rr)] : List (Nat × Ent))) (show (List.map rB (((a0 ++ [(UInt8.ofNat (Int.toNat (IntKind.u8.wrap (Int.fdiv a1 (2 ^ 0)))))]) ++ [(UInt8.ofNat (Int.toNat (IntKind.u8.wrap (Int.fdiv a1 (2 ^ 8)))))]) ++ [(UInt8.ofNat (Int.toNat (IntKind.u8.wrap (Int.fdiv a1 (2 ^ 16)))))])) ++ ([[.int .u8 (IntKind.u8.wrap (Int.fdiv a1 (2 ^ 24)))]] : List (List Value)) = List.map rB ((((a0 ++ [(UInt8.ofNat (Int.toNat (IntKind.u8.wrap (Int.fdiv a1 (2 ^ 0)))))]) ++ [(UInt8.ofNat (Int.toNat (IntKind.u8.wrap (Int.fdiv a1 (2 ^ 8)))))]) ++ [(UInt8.ofNat (Int.toNat (IntKind.u8.wrap (Int.fdiv a1 (2 ^ 16)))))]) ++ [(UInt8.ofNat (Int.toNat (IntKind.u8.wrap (Int.fdiv a1 (2 ^ 24)))))]) from (by rw [show List.map rB (((a0 ++ [(UInt8.ofNat (Int.toNat (IntKind.u8.wrap (Int.fdiv a1 (2 ^ 0)))))]) ++ [(UInt8.ofNat (Int.toNat (IntKind.u8.wrap (Int.fdiv a1 (2 ^ 8)))))]) ++ [(UInt8.ofNat (Int.toNat (IntKind.u8.wrap (Int.fdiv a1 (2 ^ 16)))))]) = List.map rB (((a0 ++ [(UInt8.ofNat (Int.toNat (IntKind.u8.wrap (Int.fdiv a1 (2 ^ 0)))))]) ++ [(UInt8.ofNat (Int.toNat (IntKind.u8.wrap (Int.fdiv a1 (2 ^ 8)))))]) ++ [(UInt8.ofNat (Int.toNat (IntKind.u8.wrap (Int.fdiv a1 (2 ^ 16)))))]) from rfl, show ([[.int .u8 (IntKind.u8.wrap (Int.fdiv a1 (2 ^ 24)))]] : List (List Value)) = List.map rB [(UInt8.ofNat (Int.toNat (IntKind.u8.wrap (Int.fdiv a1 (2 ^ 24)))))] from (show ([[.int .u8 (IntKind.u8.wrap (Int.fdiv a1 (2 ^ 24)))]] : List (List Value)) = List.map rB [(UInt8.ofNat (Int.toNat (IntKind.u8.wrap (Int.fdiv a1 (2 ^ 24)))))] from (one_u8 g24))]; exact mapp rB _ _))) ?_
  refine GS.inBlock ?_
  refine GS.region (env' := fun _ => [(0, .slice ((fr23 7).ob) (((((a0 ++ [(UInt8.ofNat (Int.toNat (IntKind.u8.wrap (Int.fdiv a1 (2 ^ 0)))))]) ++ [(UInt8.ofNat (Int.toNat (IntKind.u8.wrap (Int.fdiv a1 (2 ^ 8)))))]) ++ [(UInt8.ofNat (Int.toNat (IntKind.u8.wrap (Int.fdiv a1 (2 ^ 16)))))]) ++ [(UInt8.ofNat (Int.toNat (IntKind.u8.wrap (Int.fdiv a1 (2 ^ 24)))))]).length) ((fr23 7).cap)), (1, .int .u32 a1), (6, .int .i64 4)]) (mem' := fun _ => [(1, o5 ((fr23 7).ob) ((fr23 7).cap) ((((a0 ++ [(UInt8.ofNat (Int.toNat (IntKind.u8.wrap (Int.fdiv a1 (2 ^ 0)))))]) ++ [(UInt8.ofNat (Int.toNat (IntKind.u8.wrap (Int.fdiv a1 (2 ^ 8)))))]) ++ [(UInt8.ofNat (Int.toNat (IntKind.u8.wrap (Int.fdiv a1 (2 ^ 16)))))]) ++ [(UInt8.ofNat (Int.toNat (IntKind.u8.wrap (Int.fdiv a1 (2 ^ 24)))))]))]) (RunsTo.mk [] [0, 1, 6] [1] (fun _ => []) (fun _ => by kernel_rfl) (fun _ => trivial)) ?_
  intro _
  refine GS.inLoop ?_
  refine GS.seq ?_
  refine GS.region (env' := fun _ => [(0, .slice ((fr23 7).ob) (((((a0 ++ [(UInt8.ofNat (Int.toNat (IntKind.u8.wrap (Int.fdiv a1 (2 ^ 0)))))]) ++ [(UInt8.ofNat (Int.toNat (IntKind.u8.wrap (Int.fdiv a1 (2 ^ 8)))))]) ++ [(UInt8.ofNat (Int.toNat (IntKind.u8.wrap (Int.fdiv a1 (2 ^ 16)))))]) ++ [(UInt8.ofNat (Int.toNat (IntKind.u8.wrap (Int.fdiv a1 (2 ^ 24)))))]).length) ((fr23 7).cap)), (1, .int .u32 a1), (6, .int .i64 4), (7, .bool false)]) (mem' := fun _ => [(1, o5 ((fr23 7).ob) ((fr23 7).cap) ((((a0 ++ [(UInt8.ofNat (Int.toNat (IntKind.u8.wrap (Int.fdiv a1 (2 ^ 0)))))]) ++ [(UInt8.ofNat (Int.toNat (IntKind.u8.wrap (Int.fdiv a1 (2 ^ 8)))))]) ++ [(UInt8.ofNat (Int.toNat (IntKind.u8.wrap (Int.fdiv a1 (2 ^ 16)))))]) ++ [(UInt8.ofNat (Int.toNat (IntKind.u8.wrap (Int.fdiv a1 (2 ^ 24)))))]))]) (RunsTo.mk [] [0, 1, 6, 7] [1] (fun _ => []) (fun _ => by kernel_rfl) (fun _ => trivial)) ?_
  intro _
  refine GS.seq ?_
  refine GS.cond (t := false) rfl rfl (fun hf => by cases hf) (fun _ => ?_)
  refine GS.exit rfl ?_
  refine GS.seq ?_
  refine GS.region (env' := fun _ => [(4, .slice ((fr23 7).ob) (((((a0 ++ [(UInt8.ofNat (Int.toNat (IntKind.u8.wrap (Int.fdiv a1 (2 ^ 0)))))]) ++ [(UInt8.ofNat (Int.toNat (IntKind.u8.wrap (Int.fdiv a1 (2 ^ 8)))))]) ++ [(UInt8.ofNat (Int.toNat (IntKind.u8.wrap (Int.fdiv a1 (2 ^ 16)))))]) ++ [(UInt8.ofNat (Int.toNat (IntKind.u8.wrap (Int.fdiv a1 (2 ^ 24)))))]).length) ((fr23 7).cap))]) (mem' := fun _ => [(1, o5 ((fr23 7).ob) ((fr23 7).cap) ((((a0 ++ [(UInt8.ofNat (Int.toNat (IntKind.u8.wrap (Int.fdiv a1 (2 ^ 0)))))]) ++ [(UInt8.ofNat (Int.toNat (IntKind.u8.wrap (Int.fdiv a1 (2 ^ 8)))))]) ++ [(UInt8.ofNat (Int.toNat (IntKind.u8.wrap (Int.fdiv a1 (2 ^ 16)))))]) ++ [(UInt8.ofNat (Int.toNat (IntKind.u8.wrap (Int.fdiv a1 (2 ^ 24)))))]))]) (RunsTo.mk [] [4] [1] (fun _ => []) (fun _ => by kernel_rfl) (fun _ => trivial)) ?_
  intro _
  have hy := Option.some.inj hm
  subst hy
  refine GS.ret (fn := Tryz.f112) [0] [.slice ((fr23 7).ob) (((((a0 ++ [(UInt8.ofNat (Int.toNat (IntKind.u8.wrap (Int.fdiv a1 (2 ^ 0)))))]) ++ [(UInt8.ofNat (Int.toNat (IntKind.u8.wrap (Int.fdiv a1 (2 ^ 8)))))]) ++ [(UInt8.ofNat (Int.toNat (IntKind.u8.wrap (Int.fdiv a1 (2 ^ 16)))))]) ++ [(UInt8.ofNat (Int.toNat (IntKind.u8.wrap (Int.fdiv a1 (2 ^ 24)))))]).length) ((fr23 7).cap)] [] rfl Tryz.func112 (by kernel_rfl) trivial (fun w' hs => ?_)
  exact ⟨⟨(fr23 7).ob, (fr23 7).cap⟩, rfl, hs.turnedG (ks := [1]) rfl rfl⟩

theorem w_tholeref02_Count (F : Nat) (a0_o : Option Addr) (a0_c : Nat) (a0 : List UInt8) (a1 : Int) {y : List UInt8} (hm : m_tholeref02_Count F a0 a1 = some y) : CallG Tryz.prog 93 #[.slice a0_o a0.length a0_c, .int .i64 a1] (X := Option Addr × Nat) (fun ⟨x0, x1⟩ => .slice x0 y.length x1) [o5 a0_o a0_c a0] [] (fun ⟨x0, x1⟩ => [o5 x0 x1 y]) := by
  intro w hg
  rw [m_tholeref02_Count] at hm
  refine GS.start (S := mayT [o5 a0_o a0_c a0] []) (mem := [(1, o5 a0_o a0_c a0)]) Tryz.func93 rfl Tryz.ntmps93 (Nat.le_of_ble_eq_true rfl) (hg.start rfl) ?_
  refine GS.conv (env' := [(0, .slice a0_o a0.length a0_c), (1, .int .i64 a1)]) rfl rfl ?_
  refine GS.seq ?_
  refine GS.region (env' := fun _ => [(0, .slice a0_o a0.length a0_c), (1, .int .i64 a1)]) (mem' := fun _ => [(1, o5 a0_o a0_c a0)]) (RunsTo.mk [] [0, 1] [1] (fun _ => []) (fun _ => by kernel_rfl) (fun _ => trivial)) ?_
  intro _
  refine GS.seq ?_
  refine bnd_elim hm (fun y3 e4 hm => ?_)
  refine GS.open_ ?_
  refine GR.run (i := 0) 3 (env' := fun _ => [(5, .slice a0_o a0.length a0_c), (7, .int .u32 (IntKind.u32.wrap a1))]) (mem' := fun _ => [(1, o5 a0_o a0_c a0)]) (Nat.le_of_ble_eq_true (by kernel_rfl)) (RunsTo.mk [] [5, 7] [1] (fun _ => []) (fun _ => by kernel_rfl) (fun _ => trivial)) ?_
  intro _
  refine GR.callG (X := Option Addr × Nat) (i := 3) (g := 112) (args := #[.slice a0_o a0.length a0_c, .int .u32 (IntKind.u32.wrap a1)]) (v := fun ⟨x5, x6⟩ => .slice x5 y3.length x6) (own := [o5 a0_o a0_c a0]) (ro := []) (es' := fun ⟨x5, x6⟩ => [o5 x5 x6 y3]) (mem' := fun ⟨x5, x6⟩ => [(2, o5 x5 x6 y3)]) (env' := fun ⟨x5, x6⟩ => [(8, .slice x5 y3.length x6)]) [1] [2] [8] [2] false (by kernel_rfl) (by kernel_rfl) (by kernel_rfl) (by kernel_rfl) (by kernel_rfl) (fun _ => rfl) (fun _ _ => rfl) trivial (by rintro ⟨x5, x6⟩; kernel_rfl) (by rintro ⟨x5, x6⟩; kernel_rfl) ((by have h1 := w_tholeref02_Word F a0_o a0_c a0 (IntKind.u32.wrap a1) e4; exact h1)) ?_
  rintro ⟨x5, x6⟩
  refine GR.run (i := 4) 1 (env' := fun _ => [(4, .slice x5 y3.length x6)]) (mem' := fun _ => [(2, o5 x5 x6 y3)]) (Nat.le_of_ble_eq_true (by kernel_rfl)) (RunsTo.mk [] [4] [2] (fun _ => []) (fun _ => by kernel_rfl) (fun _ => trivial)) ?_
  intro _
  refine GR.done (Nat.le_of_ble_eq_true (by kernel_rfl)) ?_
  have hy := Option.some.inj hm
  subst hy
  refine GS.ret (fn := Tryz.f93) [0] [.slice x5 y3.length x6] [] rfl Tryz.func93 (by kernel_rfl) trivial (fun w' hs => ?_)
  exact ⟨⟨x5, x6⟩, rfl, hs.turnedG (ks := [2]) rfl rfl⟩

theorem w_tholeref02_PutState (F : Nat) (a1_Les : Int) (a1_Tail : S_api_Version) {y : List UInt8} (hm : m_tholeref02_PutState F a1_Les a1_Tail = some y) : CallG Tryz.prog 73 #[.slice none 0 0, .agg ((kc6 a1_Les a1_Tail.Epoch a1_Tail.N)).toArray] (X := Option Addr × Nat) (fun ⟨x0, x1⟩ => .slice x0 y.length x1) [] [] (fun ⟨x0, x1⟩ => [o5 x0 x1 y]) := by
  intro w hg
  rw [m_tholeref02_PutState] at hm
  refine GS.start (S := mayT [] []) (mem := []) Tryz.func73 rfl Tryz.ntmps73 (Nat.le_of_ble_eq_true rfl) (hg.start rfl) ?_
  refine GS.conv (env' := [(0, .slice none 0 0), (1, .agg ((kc6 a1_Les a1_Tail.Epoch a1_Tail.N)).toArray)]) rfl rfl ?_
  refine GS.seq ?_
  refine GS.region (env' := fun fr1 => [(0, .slice none 0 0), (3, .pointer (some ⟨(fr1 0).x, 0, none⟩))]) (mem' := fun fr1 => [(1, .cells ((fr1 0).x) 28 (kc6 a1_Les a1_Tail.Epoch a1_Tail.N))]) (RunsTo.mk [(0, { act := .new .var, key := some 1 })] [0, 3] [1] (fun fr1 => []) (fun fr1 => by kernel_rfl) (fun fr1 => trivial)) ?_
  intro fr1
  refine GS.seq ?_
  refine bnd_elim hm (fun y3 e4 hm => ?_)
  refine GS.open_ ?_
  refine GR.run (i := 0) 3 (env' := fun _ => [(0, .slice none 0 0), (3, .pointer (some ⟨(fr1 0).x, 0, none⟩)), (11, .slice none 0 0), (13, .int .i64 a1_Les)]) (mem' := fun _ => [(1, .cells ((fr1 0).x) 28 (kc6 a1_Les a1_Tail.Epoch a1_Tail.N))]) (Nat.le_of_ble_eq_true (by kernel_rfl)) (RunsTo.mk [(2, { act := .load 1 0 0 [] })] [0, 3, 11, 13] [1] (fun _ => [(fr1 0).x = (fr1 0).x]) (fun _ => by kernel_rfl) (fun _ => ⟨rfl, trivial⟩)) ?_
  intro _
  refine GR.callG (X := Option Addr × Nat) (i := 3) (g := 91) (args := #[.slice none 0 0, .int .i64 a1_Les]) (v := fun ⟨x5, x6⟩ => .slice x5 y3.length x6) (own := []) (ro := []) (es' := fun ⟨x5, x6⟩ => [o5 x5 x6 y3]) (mem' := fun ⟨x5, x6⟩ => [(1, .cells ((fr1 0).x) 28 (kc6 a1_Les a1_Tail.Epoch a1_Tail.N)), (2, o5 x5 x6 y3)]) (env' := fun ⟨x5, x6⟩ => [(0, .slice none 0 0), (3, .pointer (some ⟨(fr1 0).x, 0, none⟩)), (14, .slice x5 y3.length x6)]) [] [2] [0, 3, 14] [1, 2] false (by kernel_rfl) (by kernel_rfl) (by kernel_rfl) (by kernel_rfl) (by kernel_rfl) (fun _ => rfl) (fun _ _ => rfl) trivial (by rintro ⟨x5, x6⟩; kernel_rfl) (by rintro ⟨x5, x6⟩; kernel_rfl) ((by have h1 := w_tholeref02_Int F a1_Les e4; exact h1)) ?_
  rintro ⟨x5, x6⟩
  refine GR.run (i := 4) 1 (env' := fun _ => [(0, .slice x5 y3.length x6), (3, .pointer (some ⟨(fr1 0).x, 0, none⟩))]) (mem' := fun _ => [(1, .cells ((fr1 0).x) 28 (kc6 a1_Les a1_Tail.Epoch a1_Tail.N)), (2, o5 x5 x6 y3)]) (Nat.le_of_ble_eq_true (by kernel_rfl)) (RunsTo.mk [] [0, 3] [1, 2] (fun _ => []) (fun _ => by kernel_rfl) (fun _ => trivial)) ?_
  intro _
  refine GR.done (Nat.le_of_ble_eq_true (by kernel_rfl)) ?_
  refine GS.seq ?_
  refine bnd_elim hm (fun y9 e10 hm => ?_)
  refine GS.open_ ?_
  refine GR.run (i := 0) 3 (env' := fun _ => [(0, .slice x5 y3.length x6), (3, .pointer (some ⟨(fr1 0).x, 0, none⟩)), (15, .slice x5 y3.length x6), (17, .agg #[.int .i64 a1_Tail.Epoch, .int .i64 a1_Tail.N])]) (mem' := fun _ => [(1, .cells ((fr1 0).x) 28 (kc6 a1_Les a1_Tail.Epoch a1_Tail.N)), (2, o5 x5 x6 y3)]) (Nat.le_of_ble_eq_true (by kernel_rfl)) (RunsTo.mk [(2, { act := .load 1 0 0 [] })] [0, 3, 15, 17] [1, 2] (fun _ => [(fr1 0).x = (fr1 0).x]) (fun _ => by kernel_rfl) (fun _ => ⟨rfl, trivial⟩)) ?_
  intro _
  refine GR.callG (X := Option Addr × Nat) (i := 3) (g := 92) (args := #[.slice x5 y3.length x6, .agg #[.int .i64 a1_Tail.Epoch, .int .i64 a1_Tail.N]]) (v := fun ⟨x11, x12⟩ => .slice x11 y9.length x12) (own := [o5 x5 x6 y3]) (ro := []) (es' := fun ⟨x11, x12⟩ => [o5 x11 x12 y9]) (mem' := fun ⟨x11, x12⟩ => [(1, .cells ((fr1 0).x) 28 (kc6 a1_Les a1_Tail.Epoch a1_Tail.N)), (3, o5 x11 x12 y9)]) (env' := fun ⟨x11, x12⟩ => [(0, .slice x5 y3.length x6), (3, .pointer (some ⟨(fr1 0).x, 0, none⟩)), (18, .slice x11 y9.length x12)]) [2] [3] [0, 3, 18] [1, 3] false (by kernel_rfl) (by kernel_rfl) (by kernel_rfl) (by kernel_rfl) (by kernel_rfl) (fun _ => rfl) (fun _ _ => rfl) trivial (by rintro ⟨x11, x12⟩; kernel_rfl) (by rintro ⟨x11, x12⟩; kernel_rfl) ((by have h1 := w_tholeref02_PutVersion F x5 x6 y3 (S_api_Version.mk a1_Tail.Epoch a1_Tail.N) e10; exact h1)) ?_
  rintro ⟨x11, x12⟩
  refine GR.run (i := 4) 1 (env' := fun _ => [(0, .slice x11 y9.length x12), (3, .pointer (some ⟨(fr1 0).x, 0, none⟩))]) (mem' := fun _ => [(1, .cells ((fr1 0).x) 28 (kc6 a1_Les a1_Tail.Epoch a1_Tail.N)), (3, o5 x11 x12 y9)]) (Nat.le_of_ble_eq_true (by kernel_rfl)) (RunsTo.mk [] [0, 3] [1, 3] (fun _ => []) (fun _ => by kernel_rfl) (fun _ => trivial)) ?_
  intro _
  refine GR.done (Nat.le_of_ble_eq_true (by kernel_rfl)) ?_
  refine GS.seq ?_
  refine bnd_elim hm (fun y15 e16 hm => ?_)
  refine GS.open_ ?_
  refine GR.run (i := 0) 4 (env' := fun _ => [(0, .slice x11 y9.length x12), (3, .pointer (some ⟨(fr1 0).x, 0, none⟩)), (19, .slice x11 y9.length x12), (22, .int .i64 0)]) (mem' := fun _ => [(1, .cells ((fr1 0).x) 28 (kc6 a1_Les a1_Tail.Epoch a1_Tail.N)), (3, o5 x11 x12 y9)]) (Nat.le_of_ble_eq_true (by kernel_rfl)) (RunsTo.mk [(2, { act := .load 1 0 0 [] })] [0, 3, 19, 22] [1, 3] (fun _ => [(fr1 0).x = (fr1 0).x]) (fun _ => by kernel_rfl) (fun _ => ⟨rfl, trivial⟩)) ?_
  intro _
  refine GR.callG (X := Option Addr × Nat) (i := 4) (g := 93) (args := #[.slice x11 y9.length x12, .int .i64 0]) (v := fun ⟨x17, x18⟩ => .slice x17 y15.length x18) (own := [o5 x11 x12 y9]) (ro := []) (es' := fun ⟨x17, x18⟩ => [o5 x17 x18 y15]) (mem' := fun ⟨x17, x18⟩ => [(1, .cells ((fr1 0).x) 28 (kc6 a1_Les a1_Tail.Epoch a1_Tail.N)), (4, o5 x17 x18 y15)]) (env' := fun ⟨x17, x18⟩ => [(0, .slice x11 y9.length x12), (3, .pointer (some ⟨(fr1 0).x, 0, none⟩)), (23, .slice x17 y15.length x18)]) [3] [4] [0, 3, 23] [1, 4] false (by kernel_rfl) (by kernel_rfl) (by kernel_rfl) (by kernel_rfl) (by kernel_rfl) (fun _ => rfl) (fun _ _ => rfl) trivial (by rintro ⟨x17, x18⟩; kernel_rfl) (by rintro ⟨x17, x18⟩; kernel_rfl) ((by have h1 := w_tholeref02_Count F x11 x12 y9 0 e16; exact h1)) ?_
  rintro ⟨x17, x18⟩
  refine GR.run (i := 5) 1 (env' := fun _ => [(0, .slice x17 y15.length x18), (3, .pointer (some ⟨(fr1 0).x, 0, none⟩))]) (mem' := fun _ => [(1, .cells ((fr1 0).x) 28 (kc6 a1_Les a1_Tail.Epoch a1_Tail.N)), (4, o5 x17 x18 y15)]) (Nat.le_of_ble_eq_true (by kernel_rfl)) (RunsTo.mk [] [0, 3] [1, 4] (fun _ => []) (fun _ => by kernel_rfl) (fun _ => trivial)) ?_
  intro _
  refine GR.done (Nat.le_of_ble_eq_true (by kernel_rfl)) ?_
  refine GS.seq ?_
  refine GS.seq ?_
  refine GS.region (env' := fun _ => [(0, .slice x17 y15.length x18), (3, .pointer (some ⟨(fr1 0).x, 0, none⟩)), (25, .slice none 0 0), (26, .int .i64 0), (27, .int .i64 0)]) (mem' := fun _ => [(1, .cells ((fr1 0).x) 28 (kc6 a1_Les a1_Tail.Epoch a1_Tail.N)), (4, o5 x17 x18 y15)]) (RunsTo.mk [(1, { act := .load 1 0 0 [] })] [0, 3, 25, 26, 27] [1, 4] (fun _ => [(fr1 0).x = (fr1 0).x]) (fun _ => by kernel_rfl) (fun _ => ⟨rfl, trivial⟩)) ?_
  intro _
  refine GS.block ?_
  refine GS.loop ?_
  refine GS.know (p := y15.length ≤ x18) (fun w hw => by first | (have h := (hw.ok 4 _ rfl).1.1; rw [List.length_map] at h; exact h) | simpa using (hw.ok 4 _ rfl).1.1) (fun k21 => ?_)
  refine GS.seq ?_
  refine GS.region (env' := fun _ => [(0, .slice x17 y15.length x18), (3, .pointer (some ⟨(fr1 0).x, 0, none⟩)), (25, .slice none 0 0), (26, .int .i64 0), (27, .int .i64 0), (28, .bool false)]) (mem' := fun _ => [(1, .cells ((fr1 0).x) 28 (kc6 a1_Les a1_Tail.Epoch a1_Tail.N)), (4, o5 x17 x18 y15)]) (RunsTo.mk [] [0, 3, 25, 26, 27, 28] [1, 4] (fun _ => []) (fun _ => by kernel_rfl) (fun _ => trivial)) ?_
  intro _
  refine GS.seq ?_
  refine GS.cond (t := false) rfl rfl (fun hf => by cases hf) (fun _ => ?_)
  refine GS.exit rfl ?_
  refine GS.seq ?_
  refine bnd_elim hm (fun y24 e25 hm => ?_)
  refine GS.open_ ?_
  refine GR.run (i := 0) 4 (env' := fun _ => [(0, .slice x17 y15.length x18), (3, .pointer (some ⟨(fr1 0).x, 0, none⟩)), (35, .slice x17 y15.length x18), (38, .int .i64 0)]) (mem' := fun _ => [(1, .cells ((fr1 0).x) 28 (kc6 a1_Les a1_Tail.Epoch a1_Tail.N)), (4, o5 x17 x18 y15)]) (Nat.le_of_ble_eq_true (by kernel_rfl)) (RunsTo.mk [(2, { act := .load 1 0 0 [] })] [0, 3, 35, 38] [1, 4] (fun _ => [(fr1 0).x = (fr1 0).x]) (fun _ => by kernel_rfl) (fun _ => ⟨rfl, trivial⟩)) ?_
  intro _
  refine GR.callG (X := Option Addr × Nat) (i := 4) (g := 93) (args := #[.slice x17 y15.length x18, .int .i64 0]) (v := fun ⟨x26, x27⟩ => .slice x26 y24.length x27) (own := [o5 x17 x18 y15]) (ro := []) (es' := fun ⟨x26, x27⟩ => [o5 x26 x27 y24]) (mem' := fun ⟨x26, x27⟩ => [(1, .cells ((fr1 0).x) 28 (kc6 a1_Les a1_Tail.Epoch a1_Tail.N)), (5, o5 x26 x27 y24)]) (env' := fun ⟨x26, x27⟩ => [(0, .slice x17 y15.length x18), (3, .pointer (some ⟨(fr1 0).x, 0, none⟩)), (39, .slice x26 y24.length x27)]) [4] [5] [0, 3, 39] [1, 5] false (by kernel_rfl) (by kernel_rfl) (by kernel_rfl) (by kernel_rfl) (by kernel_rfl) (fun _ => rfl) (fun _ _ => rfl) trivial (by rintro ⟨x26, x27⟩; kernel_rfl) (by rintro ⟨x26, x27⟩; kernel_rfl) ((by have h1 := w_tholeref02_Count F x17 x18 y15 0 e25; exact h1)) ?_
  rintro ⟨x26, x27⟩
  refine GR.run (i := 5) 1 (env' := fun _ => [(0, .slice x26 y24.length x27), (3, .pointer (some ⟨(fr1 0).x, 0, none⟩))]) (mem' := fun _ => [(1, .cells ((fr1 0).x) 28 (kc6 a1_Les a1_Tail.Epoch a1_Tail.N)), (5, o5 x26 x27 y24)]) (Nat.le_of_ble_eq_true (by kernel_rfl)) (RunsTo.mk [] [0, 3] [1, 5] (fun _ => []) (fun _ => by kernel_rfl) (fun _ => trivial)) ?_
  intro _
  refine GR.done (Nat.le_of_ble_eq_true (by kernel_rfl)) ?_
  refine GS.seq ?_
  refine GS.seq ?_
  refine GS.region (env' := fun _ => [(0, .slice x26 y24.length x27), (3, .pointer (some ⟨(fr1 0).x, 0, none⟩)), (41, .slice none 0 0), (42, .int .i64 0), (43, .int .i64 0)]) (mem' := fun _ => [(1, .cells ((fr1 0).x) 28 (kc6 a1_Les a1_Tail.Epoch a1_Tail.N)), (5, o5 x26 x27 y24)]) (RunsTo.mk [(1, { act := .load 1 0 0 [] })] [0, 3, 41, 42, 43] [1, 5] (fun _ => [(fr1 0).x = (fr1 0).x]) (fun _ => by kernel_rfl) (fun _ => ⟨rfl, trivial⟩)) ?_
  intro _
  refine GS.block ?_
  refine GS.loop ?_
  refine GS.know (p := y24.length ≤ x27) (fun w hw => by first | (have h := (hw.ok 5 _ rfl).1.1; rw [List.length_map] at h; exact h) | simpa using (hw.ok 5 _ rfl).1.1) (fun k30 => ?_)
  refine GS.seq ?_
  refine GS.region (env' := fun _ => [(0, .slice x26 y24.length x27), (3, .pointer (some ⟨(fr1 0).x, 0, none⟩)), (41, .slice none 0 0), (42, .int .i64 0), (43, .int .i64 0), (44, .bool false)]) (mem' := fun _ => [(1, .cells ((fr1 0).x) 28 (kc6 a1_Les a1_Tail.Epoch a1_Tail.N)), (5, o5 x26 x27 y24)]) (RunsTo.mk [] [0, 3, 41, 42, 43, 44] [1, 5] (fun _ => []) (fun _ => by kernel_rfl) (fun _ => trivial)) ?_
  intro _
  refine GS.seq ?_
  refine GS.cond (t := false) rfl rfl (fun hf => by cases hf) (fun _ => ?_)
  refine GS.exit rfl ?_
  refine GS.seq ?_
  refine bnd_elim hm (fun y33 e34 hm => ?_)
  refine GS.open_ ?_
  refine GR.run (i := 0) 4 (env' := fun _ => [(0, .slice x26 y24.length x27), (3, .pointer (some ⟨(fr1 0).x, 0, none⟩)), (51, .slice x26 y24.length x27), (54, .int .i64 0)]) (mem' := fun _ => [(1, .cells ((fr1 0).x) 28 (kc6 a1_Les a1_Tail.Epoch a1_Tail.N)), (5, o5 x26 x27 y24)]) (Nat.le_of_ble_eq_true (by kernel_rfl)) (RunsTo.mk [(2, { act := .load 1 0 0 [] })] [0, 3, 51, 54] [1, 5] (fun _ => [(fr1 0).x = (fr1 0).x]) (fun _ => by kernel_rfl) (fun _ => ⟨rfl, trivial⟩)) ?_
  intro _
  refine GR.callG (X := Option Addr × Nat) (i := 4) (g := 93) (args := #[.slice x26 y24.length x27, .int .i64 0]) (v := fun ⟨x35, x36⟩ => .slice x35 y33.length x36) (own := [o5 x26 x27 y24]) (ro := []) (es' := fun ⟨x35, x36⟩ => [o5 x35 x36 y33]) (mem' := fun ⟨x35, x36⟩ => [(1, .cells ((fr1 0).x) 28 (kc6 a1_Les a1_Tail.Epoch a1_Tail.N)), (6, o5 x35 x36 y33)]) (env' := fun ⟨x35, x36⟩ => [(0, .slice x26 y24.length x27), (3, .pointer (some ⟨(fr1 0).x, 0, none⟩)), (55, .slice x35 y33.length x36)]) [5] [6] [0, 3, 55] [1, 6] false (by kernel_rfl) (by kernel_rfl) (by kernel_rfl) (by kernel_rfl) (by kernel_rfl) (fun _ => rfl) (fun _ _ => rfl) trivial (by rintro ⟨x35, x36⟩; kernel_rfl) (by rintro ⟨x35, x36⟩; kernel_rfl) ((by have h1 := w_tholeref02_Count F x26 x27 y24 0 e34; exact h1)) ?_
  rintro ⟨x35, x36⟩
  refine GR.run (i := 5) 1 (env' := fun _ => [(0, .slice x35 y33.length x36), (3, .pointer (some ⟨(fr1 0).x, 0, none⟩))]) (mem' := fun _ => [(1, .cells ((fr1 0).x) 28 (kc6 a1_Les a1_Tail.Epoch a1_Tail.N)), (6, o5 x35 x36 y33)]) (Nat.le_of_ble_eq_true (by kernel_rfl)) (RunsTo.mk [] [0, 3] [1, 6] (fun _ => []) (fun _ => by kernel_rfl) (fun _ => trivial)) ?_
  intro _
  refine GR.done (Nat.le_of_ble_eq_true (by kernel_rfl)) ?_
  refine GS.seq ?_
  refine GS.seq ?_
  refine GS.region (env' := fun _ => [(0, .slice x35 y33.length x36), (57, .slice none 0 0), (58, .int .i64 0), (59, .int .i64 0)]) (mem' := fun _ => [(6, o5 x35 x36 y33)]) (RunsTo.mk [(1, { act := .load 1 0 0 [] })] [0, 57, 58, 59] [6] (fun _ => [(fr1 0).x = (fr1 0).x]) (fun _ => by kernel_rfl) (fun _ => ⟨rfl, trivial⟩)) ?_
  intro _
  refine GS.block ?_
  refine GS.loop ?_
  refine GS.know (p := y33.length ≤ x36) (fun w hw => by first | (have h := (hw.ok 6 _ rfl).1.1; rw [List.length_map] at h; exact h) | simpa using (hw.ok 6 _ rfl).1.1) (fun k39 => ?_)
  refine GS.seq ?_
  refine GS.region (env' := fun _ => [(0, .slice x35 y33.length x36), (57, .slice none 0 0), (58, .int .i64 0), (59, .int .i64 0), (60, .bool false)]) (mem' := fun _ => [(6, o5 x35 x36 y33)]) (RunsTo.mk [] [0, 57, 58, 59, 60] [6] (fun _ => []) (fun _ => by kernel_rfl) (fun _ => trivial)) ?_
  intro _
  refine GS.seq ?_
  refine GS.cond (t := false) rfl rfl (fun hf => by cases hf) (fun _ => ?_)
  refine GS.exit rfl ?_
  refine GS.seq ?_
  refine GS.region (env' := fun _ => [(4, .slice x35 y33.length x36)]) (mem' := fun _ => [(6, o5 x35 x36 y33)]) (RunsTo.mk [] [4] [6] (fun _ => []) (fun _ => by kernel_rfl) (fun _ => trivial)) ?_
  intro _
  have hy := Option.some.inj hm
  subst hy
  refine GS.ret (fn := Tryz.f73) [0] [.slice x35 y33.length x36] [] rfl Tryz.func73 (by kernel_rfl) trivial (fun w' hs => ?_)
  exact ⟨⟨x35, x36⟩, rfl, hs.turnedG (ks := [6]) rfl rfl⟩

theorem w_tholeref02_State (F : Nat) (a0_Les : Int) (a0_Tail : S_api_Version) {y : List UInt8} (hm : m_tholeref02_State F a0_Les a0_Tail = some y) : CallG Tryz.prog 47 #[.agg ((kc6 a0_Les a0_Tail.Epoch a0_Tail.N)).toArray] (X := Option Addr × Nat) (fun ⟨x0, x1⟩ => .slice x0 y.length x1) [] [] (fun ⟨x0, x1⟩ => [o5 x0 x1 y]) := by
  intro w hg
  rw [m_tholeref02_State] at hm
  refine GS.start (S := mayT [] []) (mem := []) Tryz.func47 rfl Tryz.ntmps47 (Nat.le_of_ble_eq_true rfl) (hg.start rfl) ?_
  refine GS.conv (env' := [(0, .agg ((kc6 a0_Les a0_Tail.Epoch a0_Tail.N)).toArray)]) rfl rfl ?_
  refine GS.seq ?_
  refine GS.region (env' := fun fr1 => [(1, .pointer (some ⟨(fr1 0).x, 0, none⟩))]) (mem' := fun fr1 => [(1, .cells ((fr1 0).x) 28 (kc6 a0_Les a0_Tail.Epoch a0_Tail.N))]) (RunsTo.mk [(0, { act := .new .var, key := some 1 })] [1] [1] (fun fr1 => []) (fun fr1 => by kernel_rfl) (fun fr1 => trivial)) ?_
  intro fr1
  refine GS.seq ?_
  refine bnd_elim hm (fun y3 e4 hm => ?_)
  refine GS.open_ ?_
  refine GR.run (i := 0) 1 (env' := fun _ => [(3, .agg ((kc6 a0_Les a0_Tail.Epoch a0_Tail.N)).toArray)]) (mem' := fun _ => []) (Nat.le_of_ble_eq_true (by kernel_rfl)) (RunsTo.mk [(0, { act := .load 1 0 0 [] })] [3] [] (fun _ => [(fr1 0).x = (fr1 0).x]) (fun _ => by kernel_rfl) (fun _ => ⟨rfl, trivial⟩)) ?_
  intro _
  refine GR.callG (X := Option Addr × Nat) (i := 1) (g := 73) (args := #[.slice none 0 0, .agg ((kc6 a0_Les a0_Tail.Epoch a0_Tail.N)).toArray]) (v := fun ⟨x5, x6⟩ => .slice x5 y3.length x6) (own := []) (ro := []) (es' := fun ⟨x5, x6⟩ => [o5 x5 x6 y3]) (mem' := fun ⟨x5, x6⟩ => [(2, o5 x5 x6 y3)]) (env' := fun ⟨x5, x6⟩ => [(4, .slice x5 y3.length x6)]) [] [2] [4] [2] false (by kernel_rfl) (by kernel_rfl) (by kernel_rfl) (by kernel_rfl) (by kernel_rfl) (fun _ => rfl) (fun _ _ => rfl) trivial (by rintro ⟨x5, x6⟩; kernel_rfl) (by rintro ⟨x5, x6⟩; kernel_rfl) ((by have h1 := w_tholeref02_PutState F a0_Les a0_Tail e4; exact h1)) ?_
  rintro ⟨x5, x6⟩
  refine GR.run (i := 2) 1 (env' := fun _ => [(2, .slice x5 y3.length x6)]) (mem' := fun _ => [(2, o5 x5 x6 y3)]) (Nat.le_of_ble_eq_true (by kernel_rfl)) (RunsTo.mk [] [2] [2] (fun _ => []) (fun _ => by kernel_rfl) (fun _ => trivial)) ?_
  intro _
  refine GR.done (Nat.le_of_ble_eq_true (by kernel_rfl)) ?_
  have hy := Option.some.inj hm
  subst hy
  refine GS.ret (fn := Tryz.f47) [0] [.slice x5 y3.length x6] [] rfl Tryz.func47 (by kernel_rfl) trivial (fun w' hs => ?_)
  exact ⟨⟨x5, x6⟩, rfl, hs.turnedG (ks := [2]) rfl rfl⟩

end Go.Proofs.YtjnbkhnebmlilaaGreat
