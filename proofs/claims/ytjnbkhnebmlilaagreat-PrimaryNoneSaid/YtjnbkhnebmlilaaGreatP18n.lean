/-
  CHAPTER 18, PrimaryNone: the law on its model.
-/
import Derived.Test.YtjnbkhnebmlilaaGreatM18n
set_option linter.unusedVariables false
set_option linter.unusedSimpArgs false
set_option maxRecDepth 100000
namespace Go.Proofs.YtjnbkhnebmlilaaGreat
open Go Go.RowKit Sx

theorem law_none {a0_Kind : Int} {a0_Msg_Kind : Int} {a0_Msg_From : S_api_Node} {a0_Msg_To : S_api_Node} {a0_Msg_Boot : Int} {a0_Msg_Epoch : Int} {a0_Msg_Pg : S_api_Pg} {a0_Msg_Client : Int} {a0_Msg_Number : Int} {a0_Msg_Ballot : Int} {a0_Msg_Slots_n : Nat} {a0_Msg_Incs_n : Nat} {a0_Msg_Changes_n : Nat} {a0_Msg_Info : S_api_Info} {a0_Msg_State_Les : Int} {a0_Msg_State_Tail : S_api_Version} {a0_Msg_State_Log : List S_api_Entry} {a0_Msg_State_Lasts : List S_api_Last} {a0_Msg_State_Items : List S_api_Item} {a0_Msg_Entry : S_api_Entry} {a0_Msg_Object_Name : ByteArray} {a0_Msg_Object_Version : S_api_Version} {a0_Msg_Object_Data : List UInt8} {a0_Msg_Op_Kind : Int} {a0_Msg_Op_Name : ByteArray} {a0_Msg_Op_Data : List UInt8} {a0_Msg_Op_Expect : S_api_Version} {a0_Msg_Items : List S_api_Item} {a0_Msg_Names : List ByteArray} {a0_Msg_Errno : Int} {a0_Object_Name : ByteArray} {a0_Object_Version : S_api_Version} {a0_Object_Data : List UInt8} {a0_Errno : Int} {a0_On : Bool} : m_tholelaw18_PrimaryNone 64 a0_Kind a0_Msg_Kind a0_Msg_From a0_Msg_To a0_Msg_Boot a0_Msg_Epoch a0_Msg_Pg a0_Msg_Client a0_Msg_Number a0_Msg_Ballot a0_Msg_Slots_n a0_Msg_Incs_n a0_Msg_Changes_n a0_Msg_Info a0_Msg_State_Les a0_Msg_State_Tail a0_Msg_State_Log a0_Msg_State_Lasts a0_Msg_State_Items a0_Msg_Entry a0_Msg_Object_Name a0_Msg_Object_Version a0_Msg_Object_Data a0_Msg_Op_Kind a0_Msg_Op_Name a0_Msg_Op_Data a0_Msg_Op_Expect a0_Msg_Items a0_Msg_Names a0_Msg_Errno a0_Object_Name a0_Object_Version a0_Object_Data a0_Errno a0_On = some true := by kernel_rfl
end Go.Proofs.YtjnbkhnebmlilaaGreat
