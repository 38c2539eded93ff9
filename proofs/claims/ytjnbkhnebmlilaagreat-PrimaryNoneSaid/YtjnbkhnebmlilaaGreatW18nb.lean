/-
  CHAPTER 18n: the functions do what their models say (2).
-/
import Derived.Test.YtjnbkhnebmlilaaGreatE18n
import Derived.Test.YtjnbkhnebmlilaaGreatW18na
set_option linter.unusedVariables false
set_option linter.unusedSimpArgs false
set_option maxRecDepth 100000
set_option maxHeartbeats 8000000
namespace Go.Proofs.YtjnbkhnebmlilaaGreat
open Go Go.RowKit Sx

theorem w_tholelaw18_same (F : Nat) (a0_Store : Bool) (a0_State_Les : Int) (a0_State_Tail : S_api_Version) (a0_Put : Bool) (a0_Object_Name : ByteArray) (a0_Object_Version : S_api_Version) (a0_Drop : Bool) (a0_Read : Bool) (a0_Name : ByteArray) (a1_State_Les : Int) (a1_State_Tail : S_api_Version) (a1_Object_Name : ByteArray) (a1_Object_Version : S_api_Version) (a1_Name : ByteArray) {y : Bool} (hm : m_tholelaw18_same F a0_Store a0_State_Les a0_State_Tail a0_Put a0_Object_Name a0_Object_Version a0_Drop a0_Read a0_Name a1_State_Les a1_State_Tail a1_Object_Name a1_Object_Version a1_Name = some y) : CallG Tryz.prog 23 #[.agg ((kc4 a0_Store a0_State_Les a0_State_Tail.Epoch a0_State_Tail.N a0_Put a0_Object_Name a0_Object_Version.Epoch a0_Object_Version.N a0_Drop a0_Read a0_Name)).toArray, .agg ((kc5 a1_State_Les a1_State_Tail.Epoch a1_State_Tail.N a1_Object_Name a1_Object_Version.Epoch a1_Object_Version.N a1_Name)).toArray] (X := Unit) (fun (_ : Unit) => .bool y) [] [] (fun (_ : Unit) => []) := by
  intro w hg
  rw [m_tholelaw18_same] at hm
  refine GS.start (S := mayT [] []) (mem := []) Tryz.func23 rfl Tryz.ntmps23 (Nat.le_of_ble_eq_true rfl) (hg.start rfl) ?_
  refine GS.conv (env' := [(0, .agg ((kc4 a0_Store a0_State_Les a0_State_Tail.Epoch a0_State_Tail.N a0_Put a0_Object_Name a0_Object_Version.Epoch a0_Object_Version.N a0_Drop a0_Read a0_Name)).toArray), (1, .agg ((kc5 a1_State_Les a1_State_Tail.Epoch a1_State_Tail.N a1_Object_Name a1_Object_Version.Epoch a1_Object_Version.N a1_Name)).toArray)]) rfl rfl ?_
  refine GS.seq ?_
  refine GS.region (env' := fun fr1 => [(2, .pointer (some ⟨(fr1 0).x, 0, none⟩)), (3, .pointer (some ⟨(fr1 1).x, 0, none⟩))]) (mem' := fun fr1 => [(1, .cells ((fr1 0).x) 68 (kc4 a0_Store a0_State_Les a0_State_Tail.Epoch a0_State_Tail.N a0_Put a0_Object_Name a0_Object_Version.Epoch a0_Object_Version.N a0_Drop a0_Read a0_Name)), (2, .cells ((fr1 1).x) 83 (kc5 a1_State_Les a1_State_Tail.Epoch a1_State_Tail.N a1_Object_Name a1_Object_Version.Epoch a1_Object_Version.N a1_Name))]) (RunsTo.mk [(0, { act := .new .var, key := some 1 }), (1, { act := .new .var, key := some 2 })] [2, 3] [1, 2] (fun fr1 => []) (fun fr1 => by kernel_rfl) (fun fr1 => trivial)) ?_
  intro fr1
  refine GS.seq ?_
  refine GS.seq ?_
  refine jn_elim hm (fun J16 hJ18 hm => ?_)
  refine GS.cut (ι := Bool) (I := fun (v58_1 : Bool) => J16 v58_1 = some y) (E := fun (v58_1 : Bool) => [(2, .pointer (some ⟨(fr1 0).x, 0, none⟩)), (3, .pointer (some ⟨(fr1 1).x, 0, none⟩)), (58, .bool v58_1)]) (M := fun (v58_1 : Bool) => [(1, .cells ((fr1 0).x) 68 (kc4 a0_Store a0_State_Les a0_State_Tail.Epoch a0_State_Tail.N a0_Put a0_Object_Name a0_Object_Version.Epoch a0_Object_Version.N a0_Drop a0_Read a0_Name)), (2, .cells ((fr1 1).x) 83 (kc5 a1_State_Les a1_State_Tail.Epoch a1_State_Tail.N a1_Object_Name a1_Object_Version.Epoch a1_Object_Version.N a1_Name))]) ?_ ?_
  rotate_left
  · intro H17
    refine br_elim hm (fun h3 hm => ?_) (fun h3 hm => ?_)
    · skip
      refine GS.region (env' := fun _ => [(2, .pointer (some ⟨(fr1 0).x, 0, none⟩)), (3, .pointer (some ⟨(fr1 1).x, 0, none⟩)), (58, .bool true)]) (mem' := fun _ => [(1, .cells ((fr1 0).x) 68 (kc4 a0_Store a0_State_Les a0_State_Tail.Epoch a0_State_Tail.N a0_Put a0_Object_Name a0_Object_Version.Epoch a0_Object_Version.N a0_Drop a0_Read a0_Name)), (2, .cells ((fr1 1).x) 83 (kc5 a1_State_Les a1_State_Tail.Epoch a1_State_Tail.N a1_Object_Name a1_Object_Version.Epoch a1_Object_Version.N a1_Name))]) (RunsTo.mkd [(1, { act := .load 1 0 0 [] }), (3, { act := .load 2 0 0 [] }), (5, { sp := some (.bool true) })] [2, 3, 58] [1, 2] (fun _ => [(fr1 0).x = (fr1 0).x, (fr1 1).x = (fr1 1).x, ((.bool (!(a0_Store == false))) : Value) = .bool true]) (by kernel_rfl) (by kernel_rfl) (fun _ => by kernel_rfl) (fun _ => ⟨rfl, rfl, bool_eq h3, trivial⟩)) ?_
      intro _
      refine GS.rekey (env' := [(2, .pointer (some ⟨(fr1 0).x, 0, none⟩)), (3, .pointer (some ⟨(fr1 1).x, 0, none⟩)), (58, .bool true)]) (mem' := [(1, .cells ((fr1 0).x) 68 (kc4 a0_Store a0_State_Les a0_State_Tail.Epoch a0_State_Tail.N a0_Put a0_Object_Name a0_Object_Version.Epoch a0_Object_Version.N a0_Drop a0_Read a0_Name)), (2, .cells ((fr1 1).x) 83 (kc5 a1_State_Les a1_State_Tail.Epoch a1_State_Tail.N a1_Object_Name a1_Object_Version.Epoch a1_Object_Version.N a1_Name))]) [2, 3, 58] [(1, 1), (2, 2)] (by kernel_rfl) (by kernel_rfl) rfl ?_
      exact H17 true hm
    · skip
      refine br_elim hm (fun h4 hm => ?_) (fun h4 hm => ?_)
      · skip
        refine GS.region (env' := fun _ => [(2, .pointer (some ⟨(fr1 0).x, 0, none⟩)), (3, .pointer (some ⟨(fr1 1).x, 0, none⟩)), (58, .bool true)]) (mem' := fun _ => [(1, .cells ((fr1 0).x) 68 (kc4 a0_Store a0_State_Les a0_State_Tail.Epoch a0_State_Tail.N a0_Put a0_Object_Name a0_Object_Version.Epoch a0_Object_Version.N a0_Drop a0_Read a0_Name)), (2, .cells ((fr1 1).x) 83 (kc5 a1_State_Les a1_State_Tail.Epoch a1_State_Tail.N a1_Object_Name a1_Object_Version.Epoch a1_Object_Version.N a1_Name))]) (RunsTo.mkd [(1, { act := .load 1 0 0 [] }), (3, { act := .load 2 0 0 [] }), (5, { sp := some (.bool false) }), (7, { act := .load 1 0 0 [] }), (9, { act := .load 2 0 0 [] }), (12, { sp := some (.bool true) })] [2, 3, 58] [1, 2] (fun _ => [(fr1 0).x = (fr1 0).x, (fr1 1).x = (fr1 1).x, ((.bool (!(a0_Store == false))) : Value) = .bool false, (fr1 0).x = (fr1 0).x, (fr1 1).x = (fr1 1).x, ((.bool (!(a0_Put == false))) : Value) = .bool true]) (by kernel_rfl) (by kernel_rfl) (fun _ => by kernel_rfl) (fun _ => ⟨rfl, rfl, bool_eq h3, rfl, rfl, bool_eq h4, trivial⟩)) ?_
        intro _
        refine GS.rekey (env' := [(2, .pointer (some ⟨(fr1 0).x, 0, none⟩)), (3, .pointer (some ⟨(fr1 1).x, 0, none⟩)), (58, .bool true)]) (mem' := [(1, .cells ((fr1 0).x) 68 (kc4 a0_Store a0_State_Les a0_State_Tail.Epoch a0_State_Tail.N a0_Put a0_Object_Name a0_Object_Version.Epoch a0_Object_Version.N a0_Drop a0_Read a0_Name)), (2, .cells ((fr1 1).x) 83 (kc5 a1_State_Les a1_State_Tail.Epoch a1_State_Tail.N a1_Object_Name a1_Object_Version.Epoch a1_Object_Version.N a1_Name))]) [2, 3, 58] [(1, 1), (2, 2)] (by kernel_rfl) (by kernel_rfl) rfl ?_
        exact H17 true hm
      · skip
        refine br_elim hm (fun h5 hm => ?_) (fun h5 hm => ?_)
        · skip
          refine GS.region (env' := fun _ => [(2, .pointer (some ⟨(fr1 0).x, 0, none⟩)), (3, .pointer (some ⟨(fr1 1).x, 0, none⟩)), (58, .bool true)]) (mem' := fun _ => [(1, .cells ((fr1 0).x) 68 (kc4 a0_Store a0_State_Les a0_State_Tail.Epoch a0_State_Tail.N a0_Put a0_Object_Name a0_Object_Version.Epoch a0_Object_Version.N a0_Drop a0_Read a0_Name)), (2, .cells ((fr1 1).x) 83 (kc5 a1_State_Les a1_State_Tail.Epoch a1_State_Tail.N a1_Object_Name a1_Object_Version.Epoch a1_Object_Version.N a1_Name))]) (RunsTo.mkd [(1, { act := .load 1 0 0 [] }), (3, { act := .load 2 0 0 [] }), (5, { sp := some (.bool false) }), (7, { act := .load 1 0 0 [] }), (9, { act := .load 2 0 0 [] }), (12, { sp := some (.bool false) }), (14, { act := .load 1 0 0 [] }), (16, { act := .load 2 0 0 [] }), (19, { sp := some (.bool true) })] [2, 3, 58] [1, 2] (fun _ => [(fr1 0).x = (fr1 0).x, (fr1 1).x = (fr1 1).x, ((.bool (!(a0_Store == false))) : Value) = .bool false, (fr1 0).x = (fr1 0).x, (fr1 1).x = (fr1 1).x, ((.bool (!(a0_Put == false))) : Value) = .bool false, (fr1 0).x = (fr1 0).x, (fr1 1).x = (fr1 1).x, ((.bool (!(a0_Drop == false))) : Value) = .bool true]) (by kernel_rfl) (by kernel_rfl) (fun _ => by kernel_rfl) (fun _ => ⟨rfl, rfl, bool_eq h3, rfl, rfl, bool_eq h4, rfl, rfl, bool_eq h5, trivial⟩)) ?_
          intro _
          refine GS.rekey (env' := [(2, .pointer (some ⟨(fr1 0).x, 0, none⟩)), (3, .pointer (some ⟨(fr1 1).x, 0, none⟩)), (58, .bool true)]) (mem' := [(1, .cells ((fr1 0).x) 68 (kc4 a0_Store a0_State_Les a0_State_Tail.Epoch a0_State_Tail.N a0_Put a0_Object_Name a0_Object_Version.Epoch a0_Object_Version.N a0_Drop a0_Read a0_Name)), (2, .cells ((fr1 1).x) 83 (kc5 a1_State_Les a1_State_Tail.Epoch a1_State_Tail.N a1_Object_Name a1_Object_Version.Epoch a1_Object_Version.N a1_Name))]) [2, 3, 58] [(1, 1), (2, 2)] (by kernel_rfl) (by kernel_rfl) rfl ?_
          exact H17 true hm
        · skip
          refine br_elim hm (fun h6 hm => ?_) (fun h6 hm => ?_)
          · skip
            refine GS.region (env' := fun _ => [(2, .pointer (some ⟨(fr1 0).x, 0, none⟩)), (3, .pointer (some ⟨(fr1 1).x, 0, none⟩)), (58, .bool true)]) (mem' := fun _ => [(1, .cells ((fr1 0).x) 68 (kc4 a0_Store a0_State_Les a0_State_Tail.Epoch a0_State_Tail.N a0_Put a0_Object_Name a0_Object_Version.Epoch a0_Object_Version.N a0_Drop a0_Read a0_Name)), (2, .cells ((fr1 1).x) 83 (kc5 a1_State_Les a1_State_Tail.Epoch a1_State_Tail.N a1_Object_Name a1_Object_Version.Epoch a1_Object_Version.N a1_Name))]) (RunsTo.mkd [(1, { act := .load 1 0 0 [] }), (3, { act := .load 2 0 0 [] }), (5, { sp := some (.bool false) }), (7, { act := .load 1 0 0 [] }), (9, { act := .load 2 0 0 [] }), (12, { sp := some (.bool false) }), (14, { act := .load 1 0 0 [] }), (16, { act := .load 2 0 0 [] }), (19, { sp := some (.bool false) }), (21, { act := .load 1 0 0 [] }), (23, { act := .load 2 0 0 [] }), (26, { sp := some (.bool true) })] [2, 3, 58] [1, 2] (fun _ => [(fr1 0).x = (fr1 0).x, (fr1 1).x = (fr1 1).x, ((.bool (!(a0_Store == false))) : Value) = .bool false, (fr1 0).x = (fr1 0).x, (fr1 1).x = (fr1 1).x, ((.bool (!(a0_Put == false))) : Value) = .bool false, (fr1 0).x = (fr1 0).x, (fr1 1).x = (fr1 1).x, ((.bool (!(a0_Drop == false))) : Value) = .bool false, (fr1 0).x = (fr1 0).x, (fr1 1).x = (fr1 1).x, ((.bool (!(a0_Read == false))) : Value) = .bool true]) (by kernel_rfl) (by kernel_rfl) (fun _ => by kernel_rfl) (fun _ => ⟨rfl, rfl, bool_eq h3, rfl, rfl, bool_eq h4, rfl, rfl, bool_eq h5, rfl, rfl, bool_eq h6, trivial⟩)) ?_
            intro _
            refine GS.rekey (env' := [(2, .pointer (some ⟨(fr1 0).x, 0, none⟩)), (3, .pointer (some ⟨(fr1 1).x, 0, none⟩)), (58, .bool true)]) (mem' := [(1, .cells ((fr1 0).x) 68 (kc4 a0_Store a0_State_Les a0_State_Tail.Epoch a0_State_Tail.N a0_Put a0_Object_Name a0_Object_Version.Epoch a0_Object_Version.N a0_Drop a0_Read a0_Name)), (2, .cells ((fr1 1).x) 83 (kc5 a1_State_Les a1_State_Tail.Epoch a1_State_Tail.N a1_Object_Name a1_Object_Version.Epoch a1_Object_Version.N a1_Name))]) [2, 3, 58] [(1, 1), (2, 2)] (by kernel_rfl) (by kernel_rfl) rfl ?_
            exact H17 true hm
          · skip
            refine br_elim hm (fun h7 hm => ?_) (fun h7 hm => ?_)
            · skip
              refine GS.region (env' := fun _ => [(2, .pointer (some ⟨(fr1 0).x, 0, none⟩)), (3, .pointer (some ⟨(fr1 1).x, 0, none⟩)), (58, .bool true)]) (mem' := fun _ => [(1, .cells ((fr1 0).x) 68 (kc4 a0_Store a0_State_Les a0_State_Tail.Epoch a0_State_Tail.N a0_Put a0_Object_Name a0_Object_Version.Epoch a0_Object_Version.N a0_Drop a0_Read a0_Name)), (2, .cells ((fr1 1).x) 83 (kc5 a1_State_Les a1_State_Tail.Epoch a1_State_Tail.N a1_Object_Name a1_Object_Version.Epoch a1_Object_Version.N a1_Name))]) (RunsTo.mkd [(1, { act := .load 1 0 0 [] }), (3, { act := .load 2 0 0 [] }), (5, { sp := some (.bool false) }), (7, { act := .load 1 0 0 [] }), (9, { act := .load 2 0 0 [] }), (12, { sp := some (.bool false) }), (14, { act := .load 1 0 0 [] }), (16, { act := .load 2 0 0 [] }), (19, { sp := some (.bool false) }), (21, { act := .load 1 0 0 [] }), (23, { act := .load 2 0 0 [] }), (26, { sp := some (.bool false) }), (28, { act := .load 1 0 0 [] }), (30, { act := .load 2 0 0 [] }), (33, { sp := some (.bool true) })] [2, 3, 58] [1, 2] (fun _ => [(fr1 0).x = (fr1 0).x, (fr1 1).x = (fr1 1).x, ((.bool (!(a0_Store == false))) : Value) = .bool false, (fr1 0).x = (fr1 0).x, (fr1 1).x = (fr1 1).x, ((.bool (!(a0_Put == false))) : Value) = .bool false, (fr1 0).x = (fr1 0).x, (fr1 1).x = (fr1 1).x, ((.bool (!(a0_Drop == false))) : Value) = .bool false, (fr1 0).x = (fr1 0).x, (fr1 1).x = (fr1 1).x, ((.bool (!(a0_Read == false))) : Value) = .bool false, (fr1 0).x = (fr1 0).x, (fr1 1).x = (fr1 1).x, ((.bool (!(a0_Name.toList == a1_Name.toList))) : Value) = .bool true]) (by kernel_rfl) (by kernel_rfl) (fun _ => by kernel_rfl) (fun _ => ⟨rfl, rfl, bool_eq h3, rfl, rfl, bool_eq h4, rfl, rfl, bool_eq h5, rfl, rfl, bool_eq h6, rfl, rfl, bool_eq h7, trivial⟩)) ?_
              intro _
              refine GS.rekey (env' := [(2, .pointer (some ⟨(fr1 0).x, 0, none⟩)), (3, .pointer (some ⟨(fr1 1).x, 0, none⟩)), (58, .bool true)]) (mem' := [(1, .cells ((fr1 0).x) 68 (kc4 a0_Store a0_State_Les a0_State_Tail.Epoch a0_State_Tail.N a0_Put a0_Object_Name a0_Object_Version.Epoch a0_Object_Version.N a0_Drop a0_Read a0_Name)), (2, .cells ((fr1 1).x) 83 (kc5 a1_State_Les a1_State_Tail.Epoch a1_State_Tail.N a1_Object_Name a1_Object_Version.Epoch a1_Object_Version.N a1_Name))]) [2, 3, 58] [(1, 1), (2, 2)] (by kernel_rfl) (by kernel_rfl) rfl ?_
              exact H17 true hm
            · skip
              refine bnd_elim hm (fun y8 e9 hm => ?_)
              refine bnd_elim hm (fun y12 e13 hm => ?_)
              refine GS.region (env' := fun fr2 => [(2, .pointer (some ⟨(fr1 0).x, 0, none⟩)), (3, .pointer (some ⟨(fr1 1).x, 0, none⟩)), (58, .bool (!((ByteArray.mk y8.toArray).toList == (ByteArray.mk y12.toArray).toList)))]) (mem' := fun fr2 => [(1, .cells ((fr1 0).x) 68 (kc4 a0_Store a0_State_Les a0_State_Tail.Epoch a0_State_Tail.N a0_Put a0_Object_Name a0_Object_Version.Epoch a0_Object_Version.N a0_Drop a0_Read a0_Name)), (2, .cells ((fr1 1).x) 83 (kc5 a1_State_Les a1_State_Tail.Epoch a1_State_Tail.N a1_Object_Name a1_Object_Version.Epoch a1_Object_Version.N a1_Name))]) (RunsTo.mkd [(1, { act := .load 1 0 0 [] }), (3, { act := .load 2 0 0 [] }), (5, { sp := some (.bool false) }), (7, { act := .load 1 0 0 [] }), (9, { act := .load 2 0 0 [] }), (12, { sp := some (.bool false) }), (14, { act := .load 1 0 0 [] }), (16, { act := .load 2 0 0 [] }), (19, { sp := some (.bool false) }), (21, { act := .load 1 0 0 [] }), (23, { act := .load 2 0 0 [] }), (26, { sp := some (.bool false) }), (28, { act := .load 1 0 0 [] }), (30, { act := .load 2 0 0 [] }), (33, { sp := some (.bool false) }), (35, { act := .load 1 0 0 [] }), (38, { act := .load 2 0 0 [] }), (44, { act := .load 1 0 0 [] }), (45, { act := .calln [] (fun f => .slice f.ob y8.length f.cap) (fun f => o5 f.ob f.cap y8), key := some 3 }), (46, { act := .text 3 y8 }), (48, { act := .load 2 0 0 [] }), (49, { act := .calln [] (fun f => .slice f.ob y12.length f.cap) (fun f => o5 f.ob f.cap y12), key := some 4 }), (50, { act := .text 4 y12 })] [2, 3, 58] [1, 2] (fun fr2 => [(fr1 0).x = (fr1 0).x, (fr1 1).x = (fr1 1).x, ((.bool (!(a0_Store == false))) : Value) = .bool false, (fr1 0).x = (fr1 0).x, (fr1 1).x = (fr1 1).x, ((.bool (!(a0_Put == false))) : Value) = .bool false, (fr1 0).x = (fr1 0).x, (fr1 1).x = (fr1 1).x, ((.bool (!(a0_Drop == false))) : Value) = .bool false, (fr1 0).x = (fr1 0).x, (fr1 1).x = (fr1 1).x, ((.bool (!(a0_Read == false))) : Value) = .bool false, (fr1 0).x = (fr1 0).x, (fr1 1).x = (fr1 1).x, ((.bool (!(a0_Name.toList == a1_Name.toList))) : Value) = .bool false, (fr1 0).x = (fr1 0).x, (fr1 1).x = (fr1 1).x, (fr1 0).x = (fr1 0).x, CallN Tryz.prog 47 #[.agg ((kc6 a0_State_Les a0_State_Tail.Epoch a0_State_Tail.N)).toArray] (fun f => .slice f.ob y8.length f.cap) (fun f => o5 f.ob f.cap y8) [], ((fr2 45).ob) = ((fr2 45).ob), y8.length = (List.map rB y8).length, List.map rB y8 = encB y8, (fr1 1).x = (fr1 1).x, CallN Tryz.prog 47 #[.agg ((kc6 a1_State_Les a1_State_Tail.Epoch a1_State_Tail.N)).toArray] (fun f => .slice f.ob y12.length f.cap) (fun f => o5 f.ob f.cap y12) [], ((fr2 49).ob) = ((fr2 49).ob), y12.length = (List.map rB y12).length, List.map rB y12 = encB y12]) (by kernel_rfl) (by kernel_rfl) (fun fr2 => by kernel_rfl) (fun fr2 => ⟨rfl, rfl, bool_eq h3, rfl, rfl, bool_eq h4, rfl, rfl, bool_eq h5, rfl, rfl, bool_eq h6, rfl, rfl, bool_eq h7, rfl, rfl, rfl, (by have h1 := w_tholeref02_State F a0_State_Les a0_State_Tail e9; exact CallG.toN h1 trivial), rfl, mlen rB y8, rfl, rfl, (by have h1 := w_tholeref02_State F a1_State_Les a1_State_Tail e13; exact CallG.toN h1 trivial), rfl, mlen rB y12, rfl, trivial⟩)) ?_
              intro fr2
              refine GS.rekey (env' := [(2, .pointer (some ⟨(fr1 0).x, 0, none⟩)), (3, .pointer (some ⟨(fr1 1).x, 0, none⟩)), (58, .bool (!((ByteArray.mk y8.toArray).toList == (ByteArray.mk y12.toArray).toList)))]) (mem' := [(1, .cells ((fr1 0).x) 68 (kc4 a0_Store a0_State_Les a0_State_Tail.Epoch a0_State_Tail.N a0_Put a0_Object_Name a0_Object_Version.Epoch a0_Object_Version.N a0_Drop a0_Read a0_Name)), (2, .cells ((fr1 1).x) 83 (kc5 a1_State_Les a1_State_Tail.Epoch a1_State_Tail.N a1_Object_Name a1_Object_Version.Epoch a1_Object_Version.N a1_Name))]) [2, 3, 58] [(1, 1), (2, 2)] (by kernel_rfl) (by kernel_rfl) rfl ?_
              exact H17 (!((ByteArray.mk y8.toArray).toList == (ByteArray.mk y12.toArray).toList)) hm
  · rintro v58_1 hm
    replace hm := (hJ18 _).symm.trans hm
    try dsimp only at hm
    refine GS.cond (t := v58_1) rfl rfl (fun h19 => ?_) (fun h19 => ?_)
    · replace hm := br_t h19 hm
      refine GS.seq ?_
      refine GS.region (env' := fun _ => [(4, .bool false)]) (mem' := fun _ => []) (RunsTo.mk [] [4] [] (fun _ => []) (fun _ => by kernel_rfl) (fun _ => trivial)) ?_
      intro _
      have hy := Option.some.inj hm
      subst hy
      refine GS.ret (fn := Tryz.f23) [0] [.bool false] [] rfl Tryz.func23 (by kernel_rfl) trivial (fun w' hs => ?_)
      exact ⟨(), rfl, hs.turnedG (ks := []) rfl rfl⟩
    · replace hm := br_f h19 hm
      refine GS.skip ?_
      refine GS.seq ?_
      refine GS.seq ?_
      refine jn_elim hm (fun J24 hJ26 hm => ?_)
      refine GS.cut (ι := Bool) (I := fun (v85_2 : Bool) => J24 v85_2 = some y) (E := fun (v85_2 : Bool) => [(2, .pointer (some ⟨(fr1 0).x, 0, none⟩)), (3, .pointer (some ⟨(fr1 1).x, 0, none⟩)), (85, .bool v85_2)]) (M := fun (v85_2 : Bool) => [(1, .cells ((fr1 0).x) 68 (kc4 a0_Store a0_State_Les a0_State_Tail.Epoch a0_State_Tail.N a0_Put a0_Object_Name a0_Object_Version.Epoch a0_Object_Version.N a0_Drop a0_Read a0_Name)), (2, .cells ((fr1 1).x) 83 (kc5 a1_State_Les a1_State_Tail.Epoch a1_State_Tail.N a1_Object_Name a1_Object_Version.Epoch a1_Object_Version.N a1_Name))]) ?_ ?_
      rotate_left
      · intro H25
        refine br_elim hm (fun h22 hm => ?_) (fun h22 hm => ?_)
        · skip
          refine GS.region (env' := fun _ => [(2, .pointer (some ⟨(fr1 0).x, 0, none⟩)), (3, .pointer (some ⟨(fr1 1).x, 0, none⟩)), (85, .bool true)]) (mem' := fun _ => [(1, .cells ((fr1 0).x) 68 (kc4 a0_Store a0_State_Les a0_State_Tail.Epoch a0_State_Tail.N a0_Put a0_Object_Name a0_Object_Version.Epoch a0_Object_Version.N a0_Drop a0_Read a0_Name)), (2, .cells ((fr1 1).x) 83 (kc5 a1_State_Les a1_State_Tail.Epoch a1_State_Tail.N a1_Object_Name a1_Object_Version.Epoch a1_Object_Version.N a1_Name))]) (RunsTo.mk [(2, { act := .load 1 0 0 [] }), (5, { act := .load 2 0 0 [] }), (7, { sp := some (.bool true) })] [2, 3, 85] [1, 2] (fun _ => [(fr1 0).x = (fr1 0).x, (fr1 1).x = (fr1 1).x, ((.bool (!(a0_Object_Name.toList == a1_Object_Name.toList))) : Value) = .bool true]) (fun _ => by kernel_rfl) (fun _ => ⟨rfl, rfl, bool_eq h22, trivial⟩)) ?_
          intro _
          refine GS.rekey (env' := [(2, .pointer (some ⟨(fr1 0).x, 0, none⟩)), (3, .pointer (some ⟨(fr1 1).x, 0, none⟩)), (85, .bool true)]) (mem' := [(1, .cells ((fr1 0).x) 68 (kc4 a0_Store a0_State_Les a0_State_Tail.Epoch a0_State_Tail.N a0_Put a0_Object_Name a0_Object_Version.Epoch a0_Object_Version.N a0_Drop a0_Read a0_Name)), (2, .cells ((fr1 1).x) 83 (kc5 a1_State_Les a1_State_Tail.Epoch a1_State_Tail.N a1_Object_Name a1_Object_Version.Epoch a1_Object_Version.N a1_Name))]) [2, 3, 85] [(1, 1), (2, 2)] (by kernel_rfl) (by kernel_rfl) rfl ?_
          exact H25 true hm
        · skip
          refine br_elim hm (fun h23 hm => ?_) (fun h23 hm => ?_)
          · skip
            refine GS.region (env' := fun _ => [(2, .pointer (some ⟨(fr1 0).x, 0, none⟩)), (3, .pointer (some ⟨(fr1 1).x, 0, none⟩)), (85, .bool true)]) (mem' := fun _ => [(1, .cells ((fr1 0).x) 68 (kc4 a0_Store a0_State_Les a0_State_Tail.Epoch a0_State_Tail.N a0_Put a0_Object_Name a0_Object_Version.Epoch a0_Object_Version.N a0_Drop a0_Read a0_Name)), (2, .cells ((fr1 1).x) 83 (kc5 a1_State_Les a1_State_Tail.Epoch a1_State_Tail.N a1_Object_Name a1_Object_Version.Epoch a1_Object_Version.N a1_Name))]) (RunsTo.mk [(2, { act := .load 1 0 0 [] }), (5, { act := .load 2 0 0 [] }), (7, { sp := some (.bool false) }), (10, { act := .load 1 0 0 [] }), (13, { act := .load 2 0 0 [] }), (14, { act := .eq }), (16, { sp := some (.bool true) })] [2, 3, 85] [1, 2] (fun _ => [(fr1 0).x = (fr1 0).x, (fr1 1).x = (fr1 1).x, ((.bool (!(a0_Object_Name.toList == a1_Object_Name.toList))) : Value) = .bool false, (fr1 0).x = (fr1 0).x, (fr1 1).x = (fr1 1).x, ((.bool (!(S_api_Version.beq a0_Object_Version a1_Object_Version))) : Value) = .bool true]) (fun _ => by kernel_rfl) (fun _ => ⟨rfl, rfl, bool_eq h22, rfl, rfl, bool_eq h23, trivial⟩)) ?_
            intro _
            refine GS.rekey (env' := [(2, .pointer (some ⟨(fr1 0).x, 0, none⟩)), (3, .pointer (some ⟨(fr1 1).x, 0, none⟩)), (85, .bool true)]) (mem' := [(1, .cells ((fr1 0).x) 68 (kc4 a0_Store a0_State_Les a0_State_Tail.Epoch a0_State_Tail.N a0_Put a0_Object_Name a0_Object_Version.Epoch a0_Object_Version.N a0_Drop a0_Read a0_Name)), (2, .cells ((fr1 1).x) 83 (kc5 a1_State_Les a1_State_Tail.Epoch a1_State_Tail.N a1_Object_Name a1_Object_Version.Epoch a1_Object_Version.N a1_Name))]) [2, 3, 85] [(1, 1), (2, 2)] (by kernel_rfl) (by kernel_rfl) rfl ?_
            exact H25 true hm
          · skip
            refine GS.setMem (mem' := [(1, .cells ((fr1 0).x) 68 (kc4 a0_Store a0_State_Les a0_State_Tail.Epoch a0_State_Tail.N a0_Put a0_Object_Name a0_Object_Version.Epoch a0_Object_Version.N a0_Drop a0_Read a0_Name)), (2, .cells ((fr1 1).x) 83 (kc5 a1_State_Les a1_State_Tail.Epoch a1_State_Tail.N a1_Object_Name a1_Object_Version.Epoch a1_Object_Version.N a1_Name)), (5, o5 none 0 ([] : List UInt8))]) (fun w hw => Sat.addNil hw rfl) ?_
            refine GS.setMem (mem' := [(1, .cells ((fr1 0).x) 68 (kc4 a0_Store a0_State_Les a0_State_Tail.Epoch a0_State_Tail.N a0_Put a0_Object_Name a0_Object_Version.Epoch a0_Object_Version.N a0_Drop a0_Read a0_Name)), (2, .cells ((fr1 1).x) 83 (kc5 a1_State_Les a1_State_Tail.Epoch a1_State_Tail.N a1_Object_Name a1_Object_Version.Epoch a1_Object_Version.N a1_Name)), (5, o5 none 0 ([] : List UInt8)), (6, o5 none 0 ([] : List UInt8))]) (fun w hw => Sat.addNil hw rfl) ?_
            refine GS.region (env' := fun _ => [(2, .pointer (some ⟨(fr1 0).x, 0, none⟩)), (3, .pointer (some ⟨(fr1 1).x, 0, none⟩)), (85, .bool (!((ByteArray.mk ([] : List UInt8).toArray).toList == (ByteArray.mk ([] : List UInt8).toArray).toList)))]) (mem' := fun _ => [(1, .cells ((fr1 0).x) 68 (kc4 a0_Store a0_State_Les a0_State_Tail.Epoch a0_State_Tail.N a0_Put a0_Object_Name a0_Object_Version.Epoch a0_Object_Version.N a0_Drop a0_Read a0_Name)), (2, .cells ((fr1 1).x) 83 (kc5 a1_State_Les a1_State_Tail.Epoch a1_State_Tail.N a1_Object_Name a1_Object_Version.Epoch a1_Object_Version.N a1_Name)), (5, o5 none 0 ([] : List UInt8)), (6, o5 none 0 ([] : List UInt8))]) (RunsTo.mk [(2, { act := .load 1 0 0 [] }), (5, { act := .load 2 0 0 [] }), (7, { sp := some (.bool false) }), (10, { act := .load 1 0 0 [] }), (13, { act := .load 2 0 0 [] }), (14, { act := .eq }), (16, { sp := some (.bool false) }), (19, { act := .load 1 0 0 [] }), (20, { act := .text 5 ([] : List UInt8) }), (23, { act := .load 2 0 0 [] }), (24, { act := .text 6 ([] : List UInt8) })] [2, 3, 85] [1, 2, 5, 6] (fun _ => [(fr1 0).x = (fr1 0).x, (fr1 1).x = (fr1 1).x, ((.bool (!(a0_Object_Name.toList == a1_Object_Name.toList))) : Value) = .bool false, (fr1 0).x = (fr1 0).x, (fr1 1).x = (fr1 1).x, ((.bool (!(S_api_Version.beq a0_Object_Version a1_Object_Version))) : Value) = .bool false, (fr1 0).x = (fr1 0).x, (none : Option Addr) = none, 0 = (List.map rB ([] : List UInt8)).length, List.map rB ([] : List UInt8) = encB ([] : List UInt8), (fr1 1).x = (fr1 1).x, (none : Option Addr) = none, 0 = (List.map rB ([] : List UInt8)).length, List.map rB ([] : List UInt8) = encB ([] : List UInt8)]) (fun _ => by kernel_rfl) (fun _ => ⟨rfl, rfl, bool_eq h22, rfl, rfl, bool_eq h23, rfl, rfl, rfl, rfl, rfl, rfl, rfl, rfl, trivial⟩)) ?_
            intro _
            refine GS.rekey (env' := [(2, .pointer (some ⟨(fr1 0).x, 0, none⟩)), (3, .pointer (some ⟨(fr1 1).x, 0, none⟩)), (85, .bool (!((ByteArray.mk ([] : List UInt8).toArray).toList == (ByteArray.mk ([] : List UInt8).toArray).toList)))]) (mem' := [(1, .cells ((fr1 0).x) 68 (kc4 a0_Store a0_State_Les a0_State_Tail.Epoch a0_State_Tail.N a0_Put a0_Object_Name a0_Object_Version.Epoch a0_Object_Version.N a0_Drop a0_Read a0_Name)), (2, .cells ((fr1 1).x) 83 (kc5 a1_State_Les a1_State_Tail.Epoch a1_State_Tail.N a1_Object_Name a1_Object_Version.Epoch a1_Object_Version.N a1_Name))]) [2, 3, 85] [(1, 1), (2, 2)] (by kernel_rfl) (by kernel_rfl) rfl ?_
            exact H25 (!((ByteArray.mk ([] : List UInt8).toArray).toList == (ByteArray.mk ([] : List UInt8).toArray).toList)) hm
      · rintro v85_2 hm
        replace hm := (hJ26 _).symm.trans hm
        try dsimp only at hm
        refine GS.cond (t := v85_2) rfl rfl (fun h27 => ?_) (fun h27 => ?_)
        · replace hm := br_t h27 hm
          refine GS.seq ?_
          refine GS.region (env' := fun _ => [(4, .bool false)]) (mem' := fun _ => []) (RunsTo.mk [] [4] [] (fun _ => []) (fun _ => by kernel_rfl) (fun _ => trivial)) ?_
          intro _
          have hy := Option.some.inj hm
          subst hy
          refine GS.ret (fn := Tryz.f23) [0] [.bool false] [] rfl Tryz.func23 (by kernel_rfl) trivial (fun w' hs => ?_)
          exact ⟨(), rfl, hs.turnedG (ks := []) rfl rfl⟩
        · replace hm := br_f h27 hm
          refine GS.skip ?_
          refine GS.seq ?_
          refine GS.seq ?_
          refine GS.region (env' := fun _ => [(2, .pointer (some ⟨(fr1 0).x, 0, none⟩)), (3, .pointer (some ⟨(fr1 1).x, 0, none⟩)), (88, .int .i64 0), (89, .int .i64 0)]) (mem' := fun _ => [(1, .cells ((fr1 0).x) 68 (kc4 a0_Store a0_State_Les a0_State_Tail.Epoch a0_State_Tail.N a0_Put a0_Object_Name a0_Object_Version.Epoch a0_Object_Version.N a0_Drop a0_Read a0_Name)), (2, .cells ((fr1 1).x) 83 (kc5 a1_State_Les a1_State_Tail.Epoch a1_State_Tail.N a1_Object_Name a1_Object_Version.Epoch a1_Object_Version.N a1_Name))]) (RunsTo.mk [(1, { act := .load 1 0 0 [] })] [2, 3, 88, 89] [1, 2] (fun _ => [(fr1 0).x = (fr1 0).x]) (fun _ => by kernel_rfl) (fun _ => ⟨rfl, trivial⟩)) ?_
          intro _
          refine GS.block ?_
          refine GS.loop ?_
          refine GS.seq ?_
          refine GS.region (env' := fun _ => [(2, .pointer (some ⟨(fr1 0).x, 0, none⟩)), (3, .pointer (some ⟨(fr1 1).x, 0, none⟩)), (88, .int .i64 0), (89, .int .i64 0), (90, .bool false)]) (mem' := fun _ => [(1, .cells ((fr1 0).x) 68 (kc4 a0_Store a0_State_Les a0_State_Tail.Epoch a0_State_Tail.N a0_Put a0_Object_Name a0_Object_Version.Epoch a0_Object_Version.N a0_Drop a0_Read a0_Name)), (2, .cells ((fr1 1).x) 83 (kc5 a1_State_Les a1_State_Tail.Epoch a1_State_Tail.N a1_Object_Name a1_Object_Version.Epoch a1_Object_Version.N a1_Name))]) (RunsTo.mk [] [2, 3, 88, 89, 90] [1, 2] (fun _ => []) (fun _ => by kernel_rfl) (fun _ => trivial)) ?_
          intro _
          refine GS.seq ?_
          refine GS.cond (t := false) rfl rfl (fun hf => by cases hf) (fun _ => ?_)
          refine GS.exit rfl ?_
          refine GS.seq ?_
          refine GS.region (env' := fun _ => [(4, .bool true)]) (mem' := fun _ => []) (RunsTo.mk [] [4] [] (fun _ => []) (fun _ => by kernel_rfl) (fun _ => trivial)) ?_
          intro _
          have hy := Option.some.inj hm
          subst hy
          refine GS.ret (fn := Tryz.f23) [0] [.bool true] [] rfl Tryz.func23 (by kernel_rfl) trivial (fun w' hs => ?_)
          exact ⟨(), rfl, hs.turnedG (ks := []) rfl rfl⟩

theorem w___primary_Machine__Silent (F : Nat) {y : Unit} (hm : m___primary_Machine__Silent F = some y) : CallG Tryz.prog 26 #[.pointer none] (X := Unit) (fun (_ : Unit) => .slice none 0 0) [] [] (fun (_ : Unit) => []) := by
  intro w hg
  rw [m___primary_Machine__Silent] at hm
  refine GS.start (S := mayT [] []) (mem := []) Tryz.func26 rfl Tryz.ntmps26 (Nat.le_of_ble_eq_true rfl) (hg.start rfl) ?_
  refine GS.conv (env' := [(0, .pointer none)]) rfl rfl ?_
  refine GS.seq ?_
  refine GS.region (env' := fun _ => [(0, .pointer none)]) (mem' := fun _ => []) (RunsTo.mk [] [0] [] (fun _ => []) (fun _ => by kernel_rfl) (fun _ => trivial)) ?_
  intro _
  refine GS.seq ?_
  refine GS.seq ?_
  refine GS.region (env' := fun _ => [(0, .pointer none), (11, .bool true)]) (mem' := fun _ => []) (RunsTo.mk [] [0, 11] [] (fun _ => []) (fun _ => by kernel_rfl) (fun _ => trivial)) ?_
  intro _
  refine GS.cond (t := true) rfl rfl (fun _ => ?_) (fun hf => by cases hf)
  refine GS.seq ?_
  refine GS.region (env' := fun _ => [(2, .slice none 0 0)]) (mem' := fun _ => []) (RunsTo.mk [] [2] [] (fun _ => []) (fun _ => by kernel_rfl) (fun _ => trivial)) ?_
  intro _
  have hy := Option.some.inj hm
  subst hy
  refine GS.ret (fn := Tryz.f26) [0] [.slice none 0 0] [] rfl Tryz.func26 (by kernel_rfl) trivial (fun w' hs => ?_)
  exact ⟨(), rfl, hs.turnedG (ks := []) rfl rfl⟩

theorem w___primary_Machine__Tick (F : Nat) {y : Bool × Int × S_api_Version × Bool × ByteArray × S_api_Version × Bool × Bool × ByteArray} (hm : m___primary_Machine__Tick F = some y) : CallG Tryz.prog 24 #[.pointer none] (X := Unit) (fun (_ : Unit) => .agg ((kc4 y.1 y.2.1 y.2.2.1.Epoch y.2.2.1.N y.2.2.2.1 y.2.2.2.2.1 y.2.2.2.2.2.1.Epoch y.2.2.2.2.2.1.N y.2.2.2.2.2.2.1 y.2.2.2.2.2.2.2.1 y.2.2.2.2.2.2.2.2)).toArray) [] [] (fun (_ : Unit) => []) := by
  intro w hg
  rw [m___primary_Machine__Tick] at hm
  refine GS.start (S := mayT [] []) (mem := []) Tryz.func24 rfl Tryz.ntmps24 (Nat.le_of_ble_eq_true rfl) (hg.start rfl) ?_
  refine GS.conv (env' := [(0, .pointer none)]) rfl rfl ?_
  refine GS.seq ?_
  refine GS.region (env' := fun fr1 => [(0, .pointer none), (2, .pointer (some ⟨(fr1 0).x, 0, none⟩))]) (mem' := fun fr1 => [(1, .cells ((fr1 0).x) 68 (kc3))]) (RunsTo.mk [(0, { act := .new .var, key := some 1 })] [0, 2] [1] (fun fr1 => []) (fun fr1 => by kernel_rfl) (fun fr1 => trivial)) ?_
  intro fr1
  refine GS.seq ?_
  refine GS.region (env' := fun fr2 => [(0, .pointer none), (2, .pointer (some ⟨(fr1 0).x, 0, none⟩)), (3, .pointer (some ⟨(fr2 0).x, 0, none⟩))]) (mem' := fun fr2 => [(1, .cells ((fr1 0).x) 68 (kc3)), (2, .cells ((fr2 0).x) 68 (kc3))]) (RunsTo.mk [(0, { act := .new .var, key := some 2 })] [0, 2, 3] [1, 2] (fun fr2 => []) (fun fr2 => by kernel_rfl) (fun fr2 => trivial)) ?_
  intro fr2
  refine GS.seq ?_
  refine GS.seq ?_
  refine bnd_elim hm (fun y4 e5 hm => ?_)
  refine GS.region (env' := fun _ => [(0, .pointer none), (2, .pointer (some ⟨(fr1 0).x, 0, none⟩)), (3, .pointer (some ⟨(fr2 0).x, 0, none⟩)), (7, .slice none 0 0), (8, .int .i64 0), (9, .int .i64 0)]) (mem' := fun _ => [(1, .cells ((fr1 0).x) 68 (kc3)), (2, .cells ((fr2 0).x) 68 (kc3))]) (RunsTo.mk [(1, { act := .call [] (.slice none 0 0) })] [0, 2, 3, 7, 8, 9] [1, 2] (fun _ => [CallOK Tryz.prog 26 #[.pointer none] (.slice none 0 0) []]) (fun _ => by kernel_rfl) (fun _ => ⟨(by have h1 := w___primary_Machine__Silent F  e5; exact h1.ok trivial), trivial⟩)) ?_
  intro _
  refine GS.block ?_
  refine GS.loop ?_
  refine GS.seq ?_
  refine GS.region (env' := fun _ => [(0, .pointer none), (2, .pointer (some ⟨(fr1 0).x, 0, none⟩)), (3, .pointer (some ⟨(fr2 0).x, 0, none⟩)), (7, .slice none 0 0), (8, .int .i64 0), (9, .int .i64 0), (10, .bool false)]) (mem' := fun _ => [(1, .cells ((fr1 0).x) 68 (kc3)), (2, .cells ((fr2 0).x) 68 (kc3))]) (RunsTo.mk [] [0, 2, 3, 7, 8, 9, 10] [1, 2] (fun _ => []) (fun _ => by kernel_rfl) (fun _ => trivial)) ?_
  intro _
  refine GS.seq ?_
  refine GS.cond (t := false) rfl rfl (fun hf => by cases hf) (fun _ => ?_)
  refine GS.exit rfl ?_
  refine GS.seq ?_
  refine GS.seq ?_
  refine GS.region (env' := fun _ => [(0, .pointer none), (2, .pointer (some ⟨(fr1 0).x, 0, none⟩)), (3, .pointer (some ⟨(fr2 0).x, 0, none⟩)), (30, .bool true)]) (mem' := fun _ => [(1, .cells ((fr1 0).x) 68 (kc3)), (2, .cells ((fr2 0).x) 68 (kc3))]) (RunsTo.mk [] [0, 2, 3, 30] [1, 2] (fun _ => []) (fun _ => by kernel_rfl) (fun _ => trivial)) ?_
  intro _
  refine GS.cond (t := true) rfl rfl (fun _ => ?_) (fun hf => by cases hf)
  refine GS.seq ?_
  refine GS.region (env' := fun _ => [(2, .pointer (some ⟨(fr1 0).x, 0, none⟩))]) (mem' := fun _ => [(1, .cells ((fr1 0).x) 68 (kc3))]) (RunsTo.mk [(0, { act := .load 2 0 0 [] }), (1, { act := .store 0 0 [], key := some 1 })] [2] [1] (fun _ => [(fr2 0).x = (fr2 0).x, (fr1 0).x = (fr1 0).x, ((.agg ((kc3)).toArray) : Value).cells.toList.all Value.oneCell' = true]) (fun _ => by kernel_rfl) (fun _ => ⟨rfl, rfl, rfl, trivial⟩)) ?_
  intro _
  have hy := Option.some.inj hm
  subst hy
  refine GS.ret (fn := Tryz.f24) [1] [.agg ((kc3)).toArray] [(fr1 0).x = (fr1 0).x] rfl Tryz.func24 (by kernel_rfl) ⟨rfl, trivial⟩ (fun w' hs => ?_)
  exact ⟨(), rfl, hs.turnedG (ks := []) rfl rfl⟩

theorem w___primary_Machine__Got (F : Nat) (a1_Name : ByteArray) (a1_Version : S_api_Version) (a1_Data_o : Option Addr) (a1_Data_c : Nat) (a1_Data : List UInt8) (a2 : Int) {y : Bool × Int × S_api_Version × Bool × ByteArray × S_api_Version × Bool × Bool × ByteArray} (hm : m___primary_Machine__Got F a1_Name a1_Version a1_Data a2 = some y) : CallG Tryz.prog 19 #[.pointer none, .agg ((kc7 a1_Name a1_Version.Epoch a1_Version.N a1_Data_o a1_Data.length a1_Data_c)).toArray, .int .i64 a2] (X := Unit) (fun (_ : Unit) => .agg ((kc4 y.1 y.2.1 y.2.2.1.Epoch y.2.2.1.N y.2.2.2.1 y.2.2.2.2.1 y.2.2.2.2.2.1.Epoch y.2.2.2.2.2.1.N y.2.2.2.2.2.2.1 y.2.2.2.2.2.2.2.1 y.2.2.2.2.2.2.2.2)).toArray) [] [r5 a1_Data_o a1_Data] (fun (_ : Unit) => []) := by
  intro w hg
  rw [m___primary_Machine__Got] at hm
  refine GS.start (S := mayT [] [r5 a1_Data_o a1_Data]) (mem := [(1, r5 a1_Data_o a1_Data)]) Tryz.func19 rfl Tryz.ntmps19 (Nat.le_of_ble_eq_true rfl) (hg.start rfl) ?_
  refine GS.conv (env' := [(0, .pointer none), (1, .agg ((kc7 a1_Name a1_Version.Epoch a1_Version.N a1_Data_o a1_Data.length a1_Data_c)).toArray), (2, .int .i64 a2)]) rfl rfl ?_
  refine GS.seq ?_
  refine GS.region (env' := fun fr1 => [(0, .pointer none), (2, .int .i64 a2), (4, .pointer (some ⟨(fr1 0).x, 0, none⟩)), (6, .pointer (some ⟨(fr1 1).x, 0, none⟩))]) (mem' := fun fr1 => [(1, r5 a1_Data_o a1_Data), (2, .cells ((fr1 0).x) 62 (kc7 a1_Name a1_Version.Epoch a1_Version.N a1_Data_o a1_Data.length a1_Data_c)), (3, .cells ((fr1 1).x) 68 (kc3))]) (RunsTo.mk [(0, { act := .new .var, key := some 2 }), (1, { act := .new .var, key := some 3 })] [0, 2, 4, 6] [1, 2, 3] (fun fr1 => []) (fun fr1 => by kernel_rfl) (fun fr1 => trivial)) ?_
  intro fr1
  refine GS.seq ?_
  refine GS.seq ?_
  refine GS.region (env' := fun _ => [(0, .pointer none), (2, .int .i64 a2), (4, .pointer (some ⟨(fr1 0).x, 0, none⟩)), (6, .pointer (some ⟨(fr1 1).x, 0, none⟩)), (34, .bool true)]) (mem' := fun _ => [(1, r5 a1_Data_o a1_Data), (2, .cells ((fr1 0).x) 62 (kc7 a1_Name a1_Version.Epoch a1_Version.N a1_Data_o a1_Data.length a1_Data_c)), (3, .cells ((fr1 1).x) 68 (kc3))]) (RunsTo.mk [] [0, 2, 4, 6, 34] [1, 2, 3] (fun _ => []) (fun _ => by kernel_rfl) (fun _ => trivial)) ?_
  intro _
  refine GS.cond (t := true) rfl rfl (fun _ => ?_) (fun hf => by cases hf)
  refine GS.seq ?_
  refine GS.region (env' := fun _ => [(6, .pointer (some ⟨(fr1 1).x, 0, none⟩))]) (mem' := fun _ => [(3, .cells ((fr1 1).x) 68 (kc3))]) (RunsTo.mk [(1, { act := .store 0 0 [], key := some 3 })] [6] [3] (fun _ => [(fr1 1).x = (fr1 1).x, ((.agg ((kc3)).toArray) : Value).cells.toList.all Value.oneCell' = true]) (fun _ => by kernel_rfl) (fun _ => ⟨rfl, rfl, trivial⟩)) ?_
  intro _
  have hy := Option.some.inj hm
  subst hy
  refine GS.ret (fn := Tryz.f19) [3] [.agg ((kc3)).toArray] [(fr1 1).x = (fr1 1).x] rfl Tryz.func19 (by kernel_rfl) ⟨rfl, trivial⟩ (fun w' hs => ?_)
  exact ⟨(), rfl, hs.turnedG (ks := []) rfl rfl⟩

theorem w___primary_Machine__Hold (F : Nat) (a1 : Bool) {y : Bool × Int × S_api_Version × Bool × ByteArray × S_api_Version × Bool × Bool × ByteArray} (hm : m___primary_Machine__Hold F a1 = some y) : CallG Tryz.prog 25 #[.pointer none, .bool a1] (X := Unit) (fun (_ : Unit) => .agg ((kc4 y.1 y.2.1 y.2.2.1.Epoch y.2.2.1.N y.2.2.2.1 y.2.2.2.2.1 y.2.2.2.2.2.1.Epoch y.2.2.2.2.2.1.N y.2.2.2.2.2.2.1 y.2.2.2.2.2.2.2.1 y.2.2.2.2.2.2.2.2)).toArray) [] [] (fun (_ : Unit) => []) := by
  intro w hg
  rw [m___primary_Machine__Hold] at hm
  refine GS.start (S := mayT [] []) (mem := []) Tryz.func25 rfl Tryz.ntmps25 (Nat.le_of_ble_eq_true rfl) (hg.start rfl) ?_
  refine GS.conv (env' := [(0, .pointer none), (1, .bool a1)]) rfl rfl ?_
  refine GS.seq ?_
  refine GS.region (env' := fun fr1 => [(0, .pointer none), (1, .bool a1), (4, .pointer (some ⟨(fr1 0).x, 0, none⟩))]) (mem' := fun fr1 => [(1, .cells ((fr1 0).x) 68 (kc3))]) (RunsTo.mk [(0, { act := .new .var, key := some 1 })] [0, 1, 4] [1] (fun fr1 => []) (fun fr1 => by kernel_rfl) (fun fr1 => trivial)) ?_
  intro fr1
  refine GS.seq ?_
  refine GS.seq ?_
  refine GS.region (env' := fun _ => [(0, .pointer none), (1, .bool a1), (4, .pointer (some ⟨(fr1 0).x, 0, none⟩)), (13, .bool true)]) (mem' := fun _ => [(1, .cells ((fr1 0).x) 68 (kc3))]) (RunsTo.mk [] [0, 1, 4, 13] [1] (fun _ => []) (fun _ => by kernel_rfl) (fun _ => trivial)) ?_
  intro _
  refine GS.cond (t := true) rfl rfl (fun _ => ?_) (fun hf => by cases hf)
  refine GS.seq ?_
  refine GS.region (env' := fun _ => [(4, .pointer (some ⟨(fr1 0).x, 0, none⟩))]) (mem' := fun _ => [(1, .cells ((fr1 0).x) 68 (kc3))]) (RunsTo.mk [(1, { act := .store 0 0 [], key := some 1 })] [4] [1] (fun _ => [(fr1 0).x = (fr1 0).x, ((.agg ((kc3)).toArray) : Value).cells.toList.all Value.oneCell' = true]) (fun _ => by kernel_rfl) (fun _ => ⟨rfl, rfl, trivial⟩)) ?_
  intro _
  have hy := Option.some.inj hm
  subst hy
  refine GS.ret (fn := Tryz.f25) [1] [.agg ((kc3)).toArray] [(fr1 0).x = (fr1 0).x] rfl Tryz.func25 (by kernel_rfl) ⟨rfl, trivial⟩ (fun w' hs => ?_)
  exact ⟨(), rfl, hs.turnedG (ks := []) rfl rfl⟩

theorem w___primary_Machine__Idle (F : Nat) {y : Unit} (hm : m___primary_Machine__Idle F = some y) : CallG Tryz.prog 20 #[.pointer none] (X := Unit) (fun (_ : Unit) => .bool false) [] [] (fun (_ : Unit) => []) := by
  intro w hg
  rw [m___primary_Machine__Idle] at hm
  refine GS.start (S := mayT [] []) (mem := []) Tryz.func20 rfl Tryz.ntmps20 (Nat.le_of_ble_eq_true rfl) (hg.start rfl) ?_
  refine GS.conv (env' := [(0, .pointer none)]) rfl rfl ?_
  refine GS.seq ?_
  refine GS.region (env' := fun _ => [(0, .pointer none)]) (mem' := fun _ => []) (RunsTo.mk [] [0] [] (fun _ => []) (fun _ => by kernel_rfl) (fun _ => trivial)) ?_
  intro _
  refine GS.seq ?_
  refine GS.region (env' := fun _ => [(2, .bool false)]) (mem' := fun _ => []) (RunsTo.mk [] [2] [] (fun _ => []) (fun _ => by kernel_rfl) (fun _ => trivial)) ?_
  intro _
  have hy := Option.some.inj hm
  subst hy
  refine GS.ret (fn := Tryz.f20) [0] [.bool false] [] rfl Tryz.func20 (by kernel_rfl) trivial (fun w' hs => ?_)
  exact ⟨(), rfl, hs.turnedG (ks := []) rfl rfl⟩

theorem w___primary_Machine__Waiting (F : Nat) {y : Int} (hm : m___primary_Machine__Waiting F = some y) : CallG Tryz.prog 21 #[.pointer none] (X := Unit) (fun (_ : Unit) => .int .i64 y) [] [] (fun (_ : Unit) => []) := by
  intro w hg
  rw [m___primary_Machine__Waiting] at hm
  refine GS.start (S := mayT [] []) (mem := []) Tryz.func21 rfl Tryz.ntmps21 (Nat.le_of_ble_eq_true rfl) (hg.start rfl) ?_
  refine GS.conv (env' := [(0, .pointer none)]) rfl rfl ?_
  refine GS.seq ?_
  refine GS.region (env' := fun _ => [(0, .pointer none)]) (mem' := fun _ => []) (RunsTo.mk [] [0] [] (fun _ => []) (fun _ => by kernel_rfl) (fun _ => trivial)) ?_
  intro _
  refine GS.seq ?_
  refine GS.seq ?_
  refine GS.region (env' := fun _ => [(0, .pointer none), (4, .bool true)]) (mem' := fun _ => []) (RunsTo.mk [] [0, 4] [] (fun _ => []) (fun _ => by kernel_rfl) (fun _ => trivial)) ?_
  intro _
  refine GS.cond (t := true) rfl rfl (fun _ => ?_) (fun hf => by cases hf)
  refine GS.seq ?_
  refine GS.region (env' := fun _ => [(2, .int .i64 0)]) (mem' := fun _ => []) (RunsTo.mk [] [2] [] (fun _ => []) (fun _ => by kernel_rfl) (fun _ => trivial)) ?_
  intro _
  have hy := Option.some.inj hm
  subst hy
  refine GS.ret (fn := Tryz.f21) [0] [.int .i64 0] [] rfl Tryz.func21 (by kernel_rfl) trivial (fun w' hs => ?_)
  exact ⟨(), rfl, hs.turnedG (ks := []) rfl rfl⟩

theorem w___primary_Machine__State (F : Nat) {y : Int × S_api_Version} (hm : m___primary_Machine__State F = some y) : CallG Tryz.prog 22 #[.pointer none] (X := Unit) (fun (_ : Unit) => .agg ((kc6 y.1 y.2.Epoch y.2.N)).toArray) [] [] (fun (_ : Unit) => []) := by
  intro w hg
  rw [m___primary_Machine__State] at hm
  refine GS.start (S := mayT [] []) (mem := []) Tryz.func22 rfl Tryz.ntmps22 (Nat.le_of_ble_eq_true rfl) (hg.start rfl) ?_
  refine GS.conv (env' := [(0, .pointer none)]) rfl rfl ?_
  refine GS.seq ?_
  refine GS.region (env' := fun fr1 => [(0, .pointer none), (2, .pointer (some ⟨(fr1 0).x, 0, none⟩))]) (mem' := fun fr1 => [(1, .cells ((fr1 0).x) 28 (kc8))]) (RunsTo.mk [(0, { act := .new .var, key := some 1 })] [0, 2] [1] (fun fr1 => []) (fun fr1 => by kernel_rfl) (fun fr1 => trivial)) ?_
  intro fr1
  refine GS.seq ?_
  refine GS.seq ?_
  refine GS.region (env' := fun _ => [(0, .pointer none), (2, .pointer (some ⟨(fr1 0).x, 0, none⟩)), (4, .bool true)]) (mem' := fun _ => [(1, .cells ((fr1 0).x) 28 (kc8))]) (RunsTo.mk [] [0, 2, 4] [1] (fun _ => []) (fun _ => by kernel_rfl) (fun _ => trivial)) ?_
  intro _
  refine GS.cond (t := true) rfl rfl (fun _ => ?_) (fun hf => by cases hf)
  refine GS.seq ?_
  refine GS.region (env' := fun _ => [(2, .pointer (some ⟨(fr1 0).x, 0, none⟩))]) (mem' := fun _ => [(1, .cells ((fr1 0).x) 28 (kc8))]) (RunsTo.mk [(1, { act := .store 0 0 [], key := some 1 })] [2] [1] (fun _ => [(fr1 0).x = (fr1 0).x, ((.agg ((kc8)).toArray) : Value).cells.toList.all Value.oneCell' = true]) (fun _ => by kernel_rfl) (fun _ => ⟨rfl, rfl, trivial⟩)) ?_
  intro _
  have hy := Option.some.inj hm
  subst hy
  refine GS.ret (fn := Tryz.f22) [1] [.agg ((kc8)).toArray] [(fr1 0).x = (fr1 0).x] rfl Tryz.func22 (by kernel_rfl) ⟨rfl, trivial⟩ (fun w' hs => ?_)
  exact ⟨(), rfl, hs.turnedG (ks := []) rfl rfl⟩

theorem w___primary_Machine__Step_2 (F : Nat) (a0b : Nat) (a0_pg_ : S_api_Pg) (a0_epoch : Int) (a0_self : Int) (a0_boot : Int) (a0_s_Les : Int) (a0_s_Tail : S_api_Version) (a0_checks : Int) (a1_Kind : Int) (a1_From : S_api_Node) (a1_To : S_api_Node) (a1_Boot : Int) (a1_Epoch : Int) (a1_Pg : S_api_Pg) (a1_Client : Int) (a1_Number : Int) (a1_Ballot : Int) (a1_Slots_o : Option Addr) (a1_Slots_n : Nat) (a1_Slots_c : Nat) (a1_Incs_o : Option Addr) (a1_Incs_n : Nat) (a1_Incs_c : Nat) (a1_Changes_o : Option Addr) (a1_Changes_n : Nat) (a1_Changes_c : Nat) (a1_Info : S_api_Info) (a1_State_Les : Int) (a1_State_Tail : S_api_Version) (a1_State_Log_o : Option Addr) (a1_State_Log_c : Nat) (a1_State_Log : List S_api_Entry) (a1_State_Lasts_o : Option Addr) (a1_State_Lasts_c : Nat) (a1_State_Lasts : List S_api_Last) (a1_State_Items_o : Option Addr) (a1_State_Items_c : Nat) (a1_State_Items : List S_api_Item) (a1_Entry : S_api_Entry) (a1_Object_Name : ByteArray) (a1_Object_Version : S_api_Version) (a1_Object_Data_o : Option Addr) (a1_Object_Data_c : Nat) (a1_Object_Data : List UInt8) (a1_Op_Kind : Int) (a1_Op_Name : ByteArray) (a1_Op_Data_o : Option Addr) (a1_Op_Data_c : Nat) (a1_Op_Data : List UInt8) (a1_Op_Expect : S_api_Version) (a1_Items_o : Option Addr) (a1_Items_c : Nat) (a1_Items : List S_api_Item) (a1_Names_o : Option Addr) (a1_Names_c : Nat) (a1_Names : List ByteArray) (a1_Errno : Int) {y : Bool × Int × S_api_Version × Bool × ByteArray × S_api_Version × Bool × Bool × ByteArray} (hm : m___primary_Machine__Step_2 F a0_pg_ a0_epoch a0_self a0_boot a0_s_Les a0_s_Tail a0_checks a1_Kind a1_From a1_To a1_Boot a1_Epoch a1_Pg a1_Client a1_Number a1_Ballot a1_Slots_n a1_Incs_n a1_Changes_n a1_Info a1_State_Les a1_State_Tail a1_State_Log a1_State_Lasts a1_State_Items a1_Entry a1_Object_Name a1_Object_Version a1_Object_Data a1_Op_Kind a1_Op_Name a1_Op_Data a1_Op_Expect a1_Items a1_Names a1_Errno = some y) : CallG Tryz.prog 16 #[.pointer (some ⟨a0b, 0, none⟩), .agg ((kc2 a1_Kind a1_From.Kind a1_From.Id a1_To.Kind a1_To.Id a1_Boot a1_Epoch a1_Pg.Pool a1_Pg.Seed a1_Client a1_Number a1_Ballot a1_Slots_o a1_Slots_n a1_Slots_c a1_Incs_o a1_Incs_n a1_Incs_c a1_Changes_o a1_Changes_n a1_Changes_c a1_Info.Les a1_Info.Head.Epoch a1_Info.Head.N a1_Info.Tail.Epoch a1_Info.Tail.N a1_Info.Born a1_State_Les a1_State_Tail.Epoch a1_State_Tail.N a1_State_Log_o a1_State_Log.length a1_State_Log_c a1_State_Lasts_o a1_State_Lasts.length a1_State_Lasts_c a1_State_Items_o a1_State_Items.length a1_State_Items_c a1_Entry.Version.Epoch a1_Entry.Version.N a1_Entry.Remove a1_Entry.Errno a1_Entry.Name a1_Entry.Client a1_Entry.Number a1_Object_Name a1_Object_Version.Epoch a1_Object_Version.N a1_Object_Data_o a1_Object_Data.length a1_Object_Data_c a1_Op_Kind a1_Op_Name a1_Op_Data_o a1_Op_Data.length a1_Op_Data_c a1_Op_Expect.Epoch a1_Op_Expect.N a1_Items_o a1_Items.length a1_Items_c a1_Names_o a1_Names.length a1_Names_c a1_Errno)).toArray] (X := Unit) (fun (_ : Unit) => .agg ((kc4 y.1 y.2.1 y.2.2.1.Epoch y.2.2.1.N y.2.2.2.1 y.2.2.2.2.1 y.2.2.2.2.2.1.Epoch y.2.2.2.2.2.1.N y.2.2.2.2.2.2.1 y.2.2.2.2.2.2.2.1 y.2.2.2.2.2.2.2.2)).toArray) [] [.rd (some ⟨a0b, 0, none⟩) 17 [(kc9 a0_pg_.Pool a0_pg_.Seed a0_epoch a0_self a0_boot a0_s_Les a0_s_Tail.Epoch a0_s_Tail.N a0_checks)], r31 a1_State_Log_o a1_State_Log, r94 a1_State_Lasts_o a1_State_Lasts, r91 a1_State_Items_o a1_State_Items, r5 a1_Object_Data_o a1_Object_Data, r5 a1_Op_Data_o a1_Op_Data, r91 a1_Items_o a1_Items, r9 a1_Names_o a1_Names] (fun (_ : Unit) => []) := by
  intro w hg
  rw [m___primary_Machine__Step_2] at hm
  refine GS.start (S := mayT [] [.rd (some ⟨a0b, 0, none⟩) 17 [(kc9 a0_pg_.Pool a0_pg_.Seed a0_epoch a0_self a0_boot a0_s_Les a0_s_Tail.Epoch a0_s_Tail.N a0_checks)], r31 a1_State_Log_o a1_State_Log, r94 a1_State_Lasts_o a1_State_Lasts, r91 a1_State_Items_o a1_State_Items, r5 a1_Object_Data_o a1_Object_Data, r5 a1_Op_Data_o a1_Op_Data, r91 a1_Items_o a1_Items, r9 a1_Names_o a1_Names]) (mem := [(1, .rd (some ⟨a0b, 0, none⟩) 17 [(kc9 a0_pg_.Pool a0_pg_.Seed a0_epoch a0_self a0_boot a0_s_Les a0_s_Tail.Epoch a0_s_Tail.N a0_checks)]), (2, r31 a1_State_Log_o a1_State_Log), (3, r94 a1_State_Lasts_o a1_State_Lasts), (4, r91 a1_State_Items_o a1_State_Items), (5, r5 a1_Object_Data_o a1_Object_Data), (6, r5 a1_Op_Data_o a1_Op_Data), (7, r91 a1_Items_o a1_Items), (8, r9 a1_Names_o a1_Names)]) Tryz.func16 rfl Tryz.ntmps16 (Nat.le_of_ble_eq_true rfl) (hg.start rfl) ?_
  refine GS.conv (env' := [(0, .pointer (some ⟨a0b, 0, none⟩)), (1, .agg ((kc2 a1_Kind a1_From.Kind a1_From.Id a1_To.Kind a1_To.Id a1_Boot a1_Epoch a1_Pg.Pool a1_Pg.Seed a1_Client a1_Number a1_Ballot a1_Slots_o a1_Slots_n a1_Slots_c a1_Incs_o a1_Incs_n a1_Incs_c a1_Changes_o a1_Changes_n a1_Changes_c a1_Info.Les a1_Info.Head.Epoch a1_Info.Head.N a1_Info.Tail.Epoch a1_Info.Tail.N a1_Info.Born a1_State_Les a1_State_Tail.Epoch a1_State_Tail.N a1_State_Log_o a1_State_Log.length a1_State_Log_c a1_State_Lasts_o a1_State_Lasts.length a1_State_Lasts_c a1_State_Items_o a1_State_Items.length a1_State_Items_c a1_Entry.Version.Epoch a1_Entry.Version.N a1_Entry.Remove a1_Entry.Errno a1_Entry.Name a1_Entry.Client a1_Entry.Number a1_Object_Name a1_Object_Version.Epoch a1_Object_Version.N a1_Object_Data_o a1_Object_Data.length a1_Object_Data_c a1_Op_Kind a1_Op_Name a1_Op_Data_o a1_Op_Data.length a1_Op_Data_c a1_Op_Expect.Epoch a1_Op_Expect.N a1_Items_o a1_Items.length a1_Items_c a1_Names_o a1_Names.length a1_Names_c a1_Errno)).toArray)]) rfl rfl ?_
  refine GS.seq ?_
  refine GS.region (env' := fun fr1 => [(0, .pointer (some ⟨a0b, 0, none⟩)), (3, .pointer (some ⟨(fr1 0).x, 0, none⟩)), (4, .pointer (some ⟨(fr1 1).x, 0, none⟩))]) (mem' := fun fr1 => [(1, .rd (some ⟨a0b, 0, none⟩) 17 [(kc9 a0_pg_.Pool a0_pg_.Seed a0_epoch a0_self a0_boot a0_s_Les a0_s_Tail.Epoch a0_s_Tail.N a0_checks)]), (2, r31 a1_State_Log_o a1_State_Log), (3, r94 a1_State_Lasts_o a1_State_Lasts), (4, r91 a1_State_Items_o a1_State_Items), (5, r5 a1_Object_Data_o a1_Object_Data), (6, r5 a1_Op_Data_o a1_Op_Data), (7, r91 a1_Items_o a1_Items), (8, r9 a1_Names_o a1_Names), (9, .cells ((fr1 0).x) 65 (kc2 a1_Kind a1_From.Kind a1_From.Id a1_To.Kind a1_To.Id a1_Boot a1_Epoch a1_Pg.Pool a1_Pg.Seed a1_Client a1_Number a1_Ballot a1_Slots_o a1_Slots_n a1_Slots_c a1_Incs_o a1_Incs_n a1_Incs_c a1_Changes_o a1_Changes_n a1_Changes_c a1_Info.Les a1_Info.Head.Epoch a1_Info.Head.N a1_Info.Tail.Epoch a1_Info.Tail.N a1_Info.Born a1_State_Les a1_State_Tail.Epoch a1_State_Tail.N a1_State_Log_o a1_State_Log.length a1_State_Log_c a1_State_Lasts_o a1_State_Lasts.length a1_State_Lasts_c a1_State_Items_o a1_State_Items.length a1_State_Items_c a1_Entry.Version.Epoch a1_Entry.Version.N a1_Entry.Remove a1_Entry.Errno a1_Entry.Name a1_Entry.Client a1_Entry.Number a1_Object_Name a1_Object_Version.Epoch a1_Object_Version.N a1_Object_Data_o a1_Object_Data.length a1_Object_Data_c a1_Op_Kind a1_Op_Name a1_Op_Data_o a1_Op_Data.length a1_Op_Data_c a1_Op_Expect.Epoch a1_Op_Expect.N a1_Items_o a1_Items.length a1_Items_c a1_Names_o a1_Names.length a1_Names_c a1_Errno)), (10, .cells ((fr1 1).x) 68 (kc3))]) (RunsTo.mk [(0, { act := .new .var, key := some 9 }), (1, { act := .new .var, key := some 10 })] [0, 3, 4] [1, 2, 3, 4, 5, 6, 7, 8, 9, 10] (fun fr1 => []) (fun fr1 => by kernel_rfl) (fun fr1 => trivial)) ?_
  intro fr1
  refine GS.seq ?_
  refine GS.seq ?_
  refine GS.region (env' := fun _ => [(0, .pointer (some ⟨a0b, 0, none⟩)), (3, .pointer (some ⟨(fr1 0).x, 0, none⟩)), (4, .pointer (some ⟨(fr1 1).x, 0, none⟩)), (32, .bool true)]) (mem' := fun _ => [(1, .rd (some ⟨a0b, 0, none⟩) 17 [(kc9 a0_pg_.Pool a0_pg_.Seed a0_epoch a0_self a0_boot a0_s_Les a0_s_Tail.Epoch a0_s_Tail.N a0_checks)]), (2, r31 a1_State_Log_o a1_State_Log), (3, r94 a1_State_Lasts_o a1_State_Lasts), (4, r91 a1_State_Items_o a1_State_Items), (5, r5 a1_Object_Data_o a1_Object_Data), (6, r5 a1_Op_Data_o a1_Op_Data), (7, r91 a1_Items_o a1_Items), (8, r9 a1_Names_o a1_Names), (9, .cells ((fr1 0).x) 65 (kc2 a1_Kind a1_From.Kind a1_From.Id a1_To.Kind a1_To.Id a1_Boot a1_Epoch a1_Pg.Pool a1_Pg.Seed a1_Client a1_Number a1_Ballot a1_Slots_o a1_Slots_n a1_Slots_c a1_Incs_o a1_Incs_n a1_Incs_c a1_Changes_o a1_Changes_n a1_Changes_c a1_Info.Les a1_Info.Head.Epoch a1_Info.Head.N a1_Info.Tail.Epoch a1_Info.Tail.N a1_Info.Born a1_State_Les a1_State_Tail.Epoch a1_State_Tail.N a1_State_Log_o a1_State_Log.length a1_State_Log_c a1_State_Lasts_o a1_State_Lasts.length a1_State_Lasts_c a1_State_Items_o a1_State_Items.length a1_State_Items_c a1_Entry.Version.Epoch a1_Entry.Version.N a1_Entry.Remove a1_Entry.Errno a1_Entry.Name a1_Entry.Client a1_Entry.Number a1_Object_Name a1_Object_Version.Epoch a1_Object_Version.N a1_Object_Data_o a1_Object_Data.length a1_Object_Data_c a1_Op_Kind a1_Op_Name a1_Op_Data_o a1_Op_Data.length a1_Op_Data_c a1_Op_Expect.Epoch a1_Op_Expect.N a1_Items_o a1_Items.length a1_Items_c a1_Names_o a1_Names.length a1_Names_c a1_Errno)), (10, .cells ((fr1 1).x) 68 (kc3))]) (RunsTo.mkd [(6, { act := .load 1 0 16 [.int .i64 a0_pg_.Pool, .int .i64 a0_pg_.Seed, .int .i64 a0_epoch, .int .i64 a0_self, .int .i64 a0_boot, .slice none 0 0, .int .i64 a0_s_Les, .int .i64 a0_s_Tail.Epoch, .int .i64 a0_s_Tail.N, .slice none 0 0, .slice none 0 0, .slice none 0 0, .slice none 0 0, .pointer none, .bool false, .int .i64 a0_checks, .bool false] })] [0, 3, 4, 32] [1, 2, 3, 4, 5, 6, 7, 8, 9, 10] (fun _ => [a0b = blk (some ⟨a0b, 0, none⟩), 16 = offs (some ⟨a0b, 0, none⟩) + (0 * 17 + 16), ([(kc9 a0_pg_.Pool a0_pg_.Seed a0_epoch a0_self a0_boot a0_s_Les a0_s_Tail.Epoch a0_s_Tail.N a0_checks)] : List (List Value))[0]? = some [.int .i64 a0_pg_.Pool, .int .i64 a0_pg_.Seed, .int .i64 a0_epoch, .int .i64 a0_self, .int .i64 a0_boot, .slice none 0 0, .int .i64 a0_s_Les, .int .i64 a0_s_Tail.Epoch, .int .i64 a0_s_Tail.N, .slice none 0 0, .slice none 0 0, .slice none 0 0, .slice none 0 0, .pointer none, .bool false, .int .i64 a0_checks, .bool false]]) (by kernel_rfl) (by kernel_rfl) (fun _ => by kernel_rfl) (fun _ => ⟨rfl, rfl, rfl, trivial⟩)) ?_
  intro _
  refine GS.cond (t := true) rfl rfl (fun _ => ?_) (fun hf => by cases hf)
  refine GS.seq ?_
  refine GS.region (env' := fun _ => [(4, .pointer (some ⟨(fr1 1).x, 0, none⟩))]) (mem' := fun _ => [(10, .cells ((fr1 1).x) 68 (kc3))]) (RunsTo.mk [(1, { act := .store 0 0 [], key := some 10 })] [4] [10] (fun _ => [(fr1 1).x = (fr1 1).x, ((.agg ((kc3)).toArray) : Value).cells.toList.all Value.oneCell' = true]) (fun _ => by kernel_rfl) (fun _ => ⟨rfl, rfl, trivial⟩)) ?_
  intro _
  have hy := Option.some.inj hm
  subst hy
  refine GS.ret (fn := Tryz.f16) [10] [.agg ((kc3)).toArray] [(fr1 1).x = (fr1 1).x] rfl Tryz.func16 (by kernel_rfl) ⟨rfl, trivial⟩ (fun w' hs => ?_)
  exact ⟨(), rfl, hs.turnedG (ks := []) rfl rfl⟩

theorem w___primary_Machine__Silent_2 (F : Nat) (a0b : Nat) (a0_pg_ : S_api_Pg) (a0_epoch : Int) (a0_self : Int) (a0_boot : Int) (a0_s_Les : Int) (a0_s_Tail : S_api_Version) (a0_checks : Int) {y : Unit} (hm : m___primary_Machine__Silent_2 F a0_pg_ a0_epoch a0_self a0_boot a0_s_Les a0_s_Tail a0_checks = some y) : CallG Tryz.prog 26 #[.pointer (some ⟨a0b, 0, none⟩)] (X := Unit) (fun (_ : Unit) => .slice none 0 0) [] [.rd (some ⟨a0b, 0, none⟩) 17 [(kc9 a0_pg_.Pool a0_pg_.Seed a0_epoch a0_self a0_boot a0_s_Les a0_s_Tail.Epoch a0_s_Tail.N a0_checks)]] (fun (_ : Unit) => []) := by
  intro w hg
  rw [m___primary_Machine__Silent_2] at hm
  refine GS.start (S := mayT [] [.rd (some ⟨a0b, 0, none⟩) 17 [(kc9 a0_pg_.Pool a0_pg_.Seed a0_epoch a0_self a0_boot a0_s_Les a0_s_Tail.Epoch a0_s_Tail.N a0_checks)]]) (mem := [(1, .rd (some ⟨a0b, 0, none⟩) 17 [(kc9 a0_pg_.Pool a0_pg_.Seed a0_epoch a0_self a0_boot a0_s_Les a0_s_Tail.Epoch a0_s_Tail.N a0_checks)])]) Tryz.func26 rfl Tryz.ntmps26 (Nat.le_of_ble_eq_true rfl) (hg.start rfl) ?_
  refine GS.conv (env' := [(0, .pointer (some ⟨a0b, 0, none⟩))]) rfl rfl ?_
  refine GS.seq ?_
  refine GS.region (env' := fun _ => [(0, .pointer (some ⟨a0b, 0, none⟩))]) (mem' := fun _ => [(1, .rd (some ⟨a0b, 0, none⟩) 17 [(kc9 a0_pg_.Pool a0_pg_.Seed a0_epoch a0_self a0_boot a0_s_Les a0_s_Tail.Epoch a0_s_Tail.N a0_checks)])]) (RunsTo.mk [] [0] [1] (fun _ => []) (fun _ => by kernel_rfl) (fun _ => trivial)) ?_
  intro _
  refine GS.seq ?_
  refine GS.seq ?_
  refine GS.region (env' := fun _ => [(0, .pointer (some ⟨a0b, 0, none⟩)), (11, .bool true)]) (mem' := fun _ => [(1, .rd (some ⟨a0b, 0, none⟩) 17 [(kc9 a0_pg_.Pool a0_pg_.Seed a0_epoch a0_self a0_boot a0_s_Les a0_s_Tail.Epoch a0_s_Tail.N a0_checks)])]) (RunsTo.mk [(6, { act := .load 1 0 13 [.int .i64 a0_pg_.Pool, .int .i64 a0_pg_.Seed, .int .i64 a0_epoch, .int .i64 a0_self, .int .i64 a0_boot, .slice none 0 0, .int .i64 a0_s_Les, .int .i64 a0_s_Tail.Epoch, .int .i64 a0_s_Tail.N, .slice none 0 0, .slice none 0 0, .slice none 0 0, .slice none 0 0, .pointer none, .bool false, .int .i64 a0_checks, .bool false] })] [0, 11] [1] (fun _ => [a0b = blk (some ⟨a0b, 0, none⟩), 13 = offs (some ⟨a0b, 0, none⟩) + (0 * 17 + 13), ([(kc9 a0_pg_.Pool a0_pg_.Seed a0_epoch a0_self a0_boot a0_s_Les a0_s_Tail.Epoch a0_s_Tail.N a0_checks)] : List (List Value))[0]? = some [.int .i64 a0_pg_.Pool, .int .i64 a0_pg_.Seed, .int .i64 a0_epoch, .int .i64 a0_self, .int .i64 a0_boot, .slice none 0 0, .int .i64 a0_s_Les, .int .i64 a0_s_Tail.Epoch, .int .i64 a0_s_Tail.N, .slice none 0 0, .slice none 0 0, .slice none 0 0, .slice none 0 0, .pointer none, .bool false, .int .i64 a0_checks, .bool false]]) (fun _ => by kernel_rfl) (fun _ => ⟨rfl, rfl, rfl, trivial⟩)) ?_
  intro _
  refine GS.cond (t := true) rfl rfl (fun _ => ?_) (fun hf => by cases hf)
  refine GS.seq ?_
  refine GS.region (env' := fun _ => [(2, .slice none 0 0)]) (mem' := fun _ => []) (RunsTo.mk [] [2] [] (fun _ => []) (fun _ => by kernel_rfl) (fun _ => trivial)) ?_
  intro _
  have hy := Option.some.inj hm
  subst hy
  refine GS.ret (fn := Tryz.f26) [0] [.slice none 0 0] [] rfl Tryz.func26 (by kernel_rfl) trivial (fun w' hs => ?_)
  exact ⟨(), rfl, hs.turnedG (ks := []) rfl rfl⟩

theorem w___primary_Machine__Tick_2 (F : Nat) (a0b : Nat) (a0_pg_ : S_api_Pg) (a0_epoch : Int) (a0_self : Int) (a0_boot : Int) (a0_s_Les : Int) (a0_s_Tail : S_api_Version) (a0_checks : Int) {y : Bool × Int × S_api_Version × Bool × ByteArray × S_api_Version × Bool × Bool × ByteArray} (hm : m___primary_Machine__Tick_2 F a0_pg_ a0_epoch a0_self a0_boot a0_s_Les a0_s_Tail a0_checks = some y) : CallG Tryz.prog 24 #[.pointer (some ⟨a0b, 0, none⟩)] (X := Unit) (fun (_ : Unit) => .agg ((kc4 y.1 y.2.1 y.2.2.1.Epoch y.2.2.1.N y.2.2.2.1 y.2.2.2.2.1 y.2.2.2.2.2.1.Epoch y.2.2.2.2.2.1.N y.2.2.2.2.2.2.1 y.2.2.2.2.2.2.2.1 y.2.2.2.2.2.2.2.2)).toArray) [] [.rd (some ⟨a0b, 0, none⟩) 17 [(kc9 a0_pg_.Pool a0_pg_.Seed a0_epoch a0_self a0_boot a0_s_Les a0_s_Tail.Epoch a0_s_Tail.N a0_checks)]] (fun (_ : Unit) => []) := by
  intro w hg
  rw [m___primary_Machine__Tick_2] at hm
  refine GS.start (S := mayT [] [.rd (some ⟨a0b, 0, none⟩) 17 [(kc9 a0_pg_.Pool a0_pg_.Seed a0_epoch a0_self a0_boot a0_s_Les a0_s_Tail.Epoch a0_s_Tail.N a0_checks)]]) (mem := [(1, .rd (some ⟨a0b, 0, none⟩) 17 [(kc9 a0_pg_.Pool a0_pg_.Seed a0_epoch a0_self a0_boot a0_s_Les a0_s_Tail.Epoch a0_s_Tail.N a0_checks)])]) Tryz.func24 rfl Tryz.ntmps24 (Nat.le_of_ble_eq_true rfl) (hg.start rfl) ?_
  refine GS.conv (env' := [(0, .pointer (some ⟨a0b, 0, none⟩))]) rfl rfl ?_
  refine GS.seq ?_
  refine GS.region (env' := fun fr1 => [(0, .pointer (some ⟨a0b, 0, none⟩)), (2, .pointer (some ⟨(fr1 0).x, 0, none⟩))]) (mem' := fun fr1 => [(1, .rd (some ⟨a0b, 0, none⟩) 17 [(kc9 a0_pg_.Pool a0_pg_.Seed a0_epoch a0_self a0_boot a0_s_Les a0_s_Tail.Epoch a0_s_Tail.N a0_checks)]), (2, .cells ((fr1 0).x) 68 (kc3))]) (RunsTo.mk [(0, { act := .new .var, key := some 2 })] [0, 2] [1, 2] (fun fr1 => []) (fun fr1 => by kernel_rfl) (fun fr1 => trivial)) ?_
  intro fr1
  refine GS.seq ?_
  refine GS.region (env' := fun fr2 => [(0, .pointer (some ⟨a0b, 0, none⟩)), (2, .pointer (some ⟨(fr1 0).x, 0, none⟩)), (3, .pointer (some ⟨(fr2 0).x, 0, none⟩))]) (mem' := fun fr2 => [(1, .rd (some ⟨a0b, 0, none⟩) 17 [(kc9 a0_pg_.Pool a0_pg_.Seed a0_epoch a0_self a0_boot a0_s_Les a0_s_Tail.Epoch a0_s_Tail.N a0_checks)]), (2, .cells ((fr1 0).x) 68 (kc3)), (3, .cells ((fr2 0).x) 68 (kc3))]) (RunsTo.mk [(0, { act := .new .var, key := some 3 })] [0, 2, 3] [1, 2, 3] (fun fr2 => []) (fun fr2 => by kernel_rfl) (fun fr2 => trivial)) ?_
  intro fr2
  refine GS.seq ?_
  refine GS.seq ?_
  refine bnd_elim hm (fun y4 e5 hm => ?_)
  refine GS.region (env' := fun _ => [(0, .pointer (some ⟨a0b, 0, none⟩)), (2, .pointer (some ⟨(fr1 0).x, 0, none⟩)), (3, .pointer (some ⟨(fr2 0).x, 0, none⟩)), (7, .slice none 0 0), (8, .int .i64 0), (9, .int .i64 0)]) (mem' := fun _ => [(1, .rd (some ⟨a0b, 0, none⟩) 17 [(kc9 a0_pg_.Pool a0_pg_.Seed a0_epoch a0_self a0_boot a0_s_Les a0_s_Tail.Epoch a0_s_Tail.N a0_checks)]), (2, .cells ((fr1 0).x) 68 (kc3)), (3, .cells ((fr2 0).x) 68 (kc3))]) (RunsTo.mk [(1, { act := .call [1] (.slice none 0 0) })] [0, 2, 3, 7, 8, 9] [1, 2, 3] (fun _ => [CallOK Tryz.prog 26 #[.pointer (some ⟨a0b, 0, none⟩)] (.slice none 0 0) [some (.rd (some ⟨a0b, 0, none⟩) 17 [(kc9 a0_pg_.Pool a0_pg_.Seed a0_epoch a0_self a0_boot a0_s_Les a0_s_Tail.Epoch a0_s_Tail.N a0_checks)])]]) (fun _ => by kernel_rfl) (fun _ => ⟨(by have h1 := w___primary_Machine__Silent_2 F a0b a0_pg_ a0_epoch a0_self a0_boot a0_s_Les a0_s_Tail a0_checks e5; exact h1.ok ⟨(.inl ⟨.rd (some ⟨a0b, 0, none⟩) 17 [(kc9 a0_pg_.Pool a0_pg_.Seed a0_epoch a0_self a0_boot a0_s_Les a0_s_Tail.Epoch a0_s_Tail.N a0_checks)], .head _, Cov.refl _⟩), trivial⟩), trivial⟩)) ?_
  intro _
  refine GS.block ?_
  refine GS.loop ?_
  refine GS.seq ?_
  refine GS.region (env' := fun _ => [(0, .pointer (some ⟨a0b, 0, none⟩)), (2, .pointer (some ⟨(fr1 0).x, 0, none⟩)), (3, .pointer (some ⟨(fr2 0).x, 0, none⟩)), (7, .slice none 0 0), (8, .int .i64 0), (9, .int .i64 0), (10, .bool false)]) (mem' := fun _ => [(1, .rd (some ⟨a0b, 0, none⟩) 17 [(kc9 a0_pg_.Pool a0_pg_.Seed a0_epoch a0_self a0_boot a0_s_Les a0_s_Tail.Epoch a0_s_Tail.N a0_checks)]), (2, .cells ((fr1 0).x) 68 (kc3)), (3, .cells ((fr2 0).x) 68 (kc3))]) (RunsTo.mk [] [0, 2, 3, 7, 8, 9, 10] [1, 2, 3] (fun _ => []) (fun _ => by kernel_rfl) (fun _ => trivial)) ?_
  intro _
  refine GS.seq ?_
  refine GS.cond (t := false) rfl rfl (fun hf => by cases hf) (fun _ => ?_)
  refine GS.exit rfl ?_
  refine GS.seq ?_
  refine GS.seq ?_
  refine GS.region (env' := fun _ => [(0, .pointer (some ⟨a0b, 0, none⟩)), (2, .pointer (some ⟨(fr1 0).x, 0, none⟩)), (3, .pointer (some ⟨(fr2 0).x, 0, none⟩)), (30, .bool true)]) (mem' := fun _ => [(1, .rd (some ⟨a0b, 0, none⟩) 17 [(kc9 a0_pg_.Pool a0_pg_.Seed a0_epoch a0_self a0_boot a0_s_Les a0_s_Tail.Epoch a0_s_Tail.N a0_checks)]), (2, .cells ((fr1 0).x) 68 (kc3)), (3, .cells ((fr2 0).x) 68 (kc3))]) (RunsTo.mk [(6, { act := .load 1 0 16 [.int .i64 a0_pg_.Pool, .int .i64 a0_pg_.Seed, .int .i64 a0_epoch, .int .i64 a0_self, .int .i64 a0_boot, .slice none 0 0, .int .i64 a0_s_Les, .int .i64 a0_s_Tail.Epoch, .int .i64 a0_s_Tail.N, .slice none 0 0, .slice none 0 0, .slice none 0 0, .slice none 0 0, .pointer none, .bool false, .int .i64 a0_checks, .bool false] })] [0, 2, 3, 30] [1, 2, 3] (fun _ => [a0b = blk (some ⟨a0b, 0, none⟩), 16 = offs (some ⟨a0b, 0, none⟩) + (0 * 17 + 16), ([(kc9 a0_pg_.Pool a0_pg_.Seed a0_epoch a0_self a0_boot a0_s_Les a0_s_Tail.Epoch a0_s_Tail.N a0_checks)] : List (List Value))[0]? = some [.int .i64 a0_pg_.Pool, .int .i64 a0_pg_.Seed, .int .i64 a0_epoch, .int .i64 a0_self, .int .i64 a0_boot, .slice none 0 0, .int .i64 a0_s_Les, .int .i64 a0_s_Tail.Epoch, .int .i64 a0_s_Tail.N, .slice none 0 0, .slice none 0 0, .slice none 0 0, .slice none 0 0, .pointer none, .bool false, .int .i64 a0_checks, .bool false]]) (fun _ => by kernel_rfl) (fun _ => ⟨rfl, rfl, rfl, trivial⟩)) ?_
  intro _
  refine GS.cond (t := true) rfl rfl (fun _ => ?_) (fun hf => by cases hf)
  refine GS.seq ?_
  refine GS.region (env' := fun _ => [(2, .pointer (some ⟨(fr1 0).x, 0, none⟩))]) (mem' := fun _ => [(2, .cells ((fr1 0).x) 68 (kc3))]) (RunsTo.mk [(0, { act := .load 3 0 0 [] }), (1, { act := .store 0 0 [], key := some 2 })] [2] [2] (fun _ => [(fr2 0).x = (fr2 0).x, (fr1 0).x = (fr1 0).x, ((.agg ((kc3)).toArray) : Value).cells.toList.all Value.oneCell' = true]) (fun _ => by kernel_rfl) (fun _ => ⟨rfl, rfl, rfl, trivial⟩)) ?_
  intro _
  have hy := Option.some.inj hm
  subst hy
  refine GS.ret (fn := Tryz.f24) [2] [.agg ((kc3)).toArray] [(fr1 0).x = (fr1 0).x] rfl Tryz.func24 (by kernel_rfl) ⟨rfl, trivial⟩ (fun w' hs => ?_)
  exact ⟨(), rfl, hs.turnedG (ks := []) rfl rfl⟩

theorem w___primary_Machine__Got_2 (F : Nat) (a0b : Nat) (a0_pg_ : S_api_Pg) (a0_epoch : Int) (a0_self : Int) (a0_boot : Int) (a0_s_Les : Int) (a0_s_Tail : S_api_Version) (a0_checks : Int) (a1_Name : ByteArray) (a1_Version : S_api_Version) (a1_Data_o : Option Addr) (a1_Data_c : Nat) (a1_Data : List UInt8) (a2 : Int) {y : Bool × Int × S_api_Version × Bool × ByteArray × S_api_Version × Bool × Bool × ByteArray} (hm : m___primary_Machine__Got_2 F a0_pg_ a0_epoch a0_self a0_boot a0_s_Les a0_s_Tail a0_checks a1_Name a1_Version a1_Data a2 = some y) : CallG Tryz.prog 19 #[.pointer (some ⟨a0b, 0, none⟩), .agg ((kc7 a1_Name a1_Version.Epoch a1_Version.N a1_Data_o a1_Data.length a1_Data_c)).toArray, .int .i64 a2] (X := Unit) (fun (_ : Unit) => .agg ((kc4 y.1 y.2.1 y.2.2.1.Epoch y.2.2.1.N y.2.2.2.1 y.2.2.2.2.1 y.2.2.2.2.2.1.Epoch y.2.2.2.2.2.1.N y.2.2.2.2.2.2.1 y.2.2.2.2.2.2.2.1 y.2.2.2.2.2.2.2.2)).toArray) [] [.rd (some ⟨a0b, 0, none⟩) 17 [(kc9 a0_pg_.Pool a0_pg_.Seed a0_epoch a0_self a0_boot a0_s_Les a0_s_Tail.Epoch a0_s_Tail.N a0_checks)], r5 a1_Data_o a1_Data] (fun (_ : Unit) => []) := by
  intro w hg
  rw [m___primary_Machine__Got_2] at hm
  refine GS.start (S := mayT [] [.rd (some ⟨a0b, 0, none⟩) 17 [(kc9 a0_pg_.Pool a0_pg_.Seed a0_epoch a0_self a0_boot a0_s_Les a0_s_Tail.Epoch a0_s_Tail.N a0_checks)], r5 a1_Data_o a1_Data]) (mem := [(1, .rd (some ⟨a0b, 0, none⟩) 17 [(kc9 a0_pg_.Pool a0_pg_.Seed a0_epoch a0_self a0_boot a0_s_Les a0_s_Tail.Epoch a0_s_Tail.N a0_checks)]), (2, r5 a1_Data_o a1_Data)]) Tryz.func19 rfl Tryz.ntmps19 (Nat.le_of_ble_eq_true rfl) (hg.start rfl) ?_
  refine GS.conv (env' := [(0, .pointer (some ⟨a0b, 0, none⟩)), (1, .agg ((kc7 a1_Name a1_Version.Epoch a1_Version.N a1_Data_o a1_Data.length a1_Data_c)).toArray), (2, .int .i64 a2)]) rfl rfl ?_
  refine GS.seq ?_
  refine GS.region (env' := fun fr1 => [(0, .pointer (some ⟨a0b, 0, none⟩)), (2, .int .i64 a2), (4, .pointer (some ⟨(fr1 0).x, 0, none⟩)), (6, .pointer (some ⟨(fr1 1).x, 0, none⟩))]) (mem' := fun fr1 => [(1, .rd (some ⟨a0b, 0, none⟩) 17 [(kc9 a0_pg_.Pool a0_pg_.Seed a0_epoch a0_self a0_boot a0_s_Les a0_s_Tail.Epoch a0_s_Tail.N a0_checks)]), (2, r5 a1_Data_o a1_Data), (3, .cells ((fr1 0).x) 62 (kc7 a1_Name a1_Version.Epoch a1_Version.N a1_Data_o a1_Data.length a1_Data_c)), (4, .cells ((fr1 1).x) 68 (kc3))]) (RunsTo.mk [(0, { act := .new .var, key := some 3 }), (1, { act := .new .var, key := some 4 })] [0, 2, 4, 6] [1, 2, 3, 4] (fun fr1 => []) (fun fr1 => by kernel_rfl) (fun fr1 => trivial)) ?_
  intro fr1
  refine GS.seq ?_
  refine GS.seq ?_
  refine GS.region (env' := fun _ => [(0, .pointer (some ⟨a0b, 0, none⟩)), (2, .int .i64 a2), (4, .pointer (some ⟨(fr1 0).x, 0, none⟩)), (6, .pointer (some ⟨(fr1 1).x, 0, none⟩)), (34, .bool true)]) (mem' := fun _ => [(1, .rd (some ⟨a0b, 0, none⟩) 17 [(kc9 a0_pg_.Pool a0_pg_.Seed a0_epoch a0_self a0_boot a0_s_Les a0_s_Tail.Epoch a0_s_Tail.N a0_checks)]), (2, r5 a1_Data_o a1_Data), (3, .cells ((fr1 0).x) 62 (kc7 a1_Name a1_Version.Epoch a1_Version.N a1_Data_o a1_Data.length a1_Data_c)), (4, .cells ((fr1 1).x) 68 (kc3))]) (RunsTo.mk [(6, { act := .load 1 0 16 [.int .i64 a0_pg_.Pool, .int .i64 a0_pg_.Seed, .int .i64 a0_epoch, .int .i64 a0_self, .int .i64 a0_boot, .slice none 0 0, .int .i64 a0_s_Les, .int .i64 a0_s_Tail.Epoch, .int .i64 a0_s_Tail.N, .slice none 0 0, .slice none 0 0, .slice none 0 0, .slice none 0 0, .pointer none, .bool false, .int .i64 a0_checks, .bool false] })] [0, 2, 4, 6, 34] [1, 2, 3, 4] (fun _ => [a0b = blk (some ⟨a0b, 0, none⟩), 16 = offs (some ⟨a0b, 0, none⟩) + (0 * 17 + 16), ([(kc9 a0_pg_.Pool a0_pg_.Seed a0_epoch a0_self a0_boot a0_s_Les a0_s_Tail.Epoch a0_s_Tail.N a0_checks)] : List (List Value))[0]? = some [.int .i64 a0_pg_.Pool, .int .i64 a0_pg_.Seed, .int .i64 a0_epoch, .int .i64 a0_self, .int .i64 a0_boot, .slice none 0 0, .int .i64 a0_s_Les, .int .i64 a0_s_Tail.Epoch, .int .i64 a0_s_Tail.N, .slice none 0 0, .slice none 0 0, .slice none 0 0, .slice none 0 0, .pointer none, .bool false, .int .i64 a0_checks, .bool false]]) (fun _ => by kernel_rfl) (fun _ => ⟨rfl, rfl, rfl, trivial⟩)) ?_
  intro _
  refine GS.cond (t := true) rfl rfl (fun _ => ?_) (fun hf => by cases hf)
  refine GS.seq ?_
  refine GS.region (env' := fun _ => [(6, .pointer (some ⟨(fr1 1).x, 0, none⟩))]) (mem' := fun _ => [(4, .cells ((fr1 1).x) 68 (kc3))]) (RunsTo.mk [(1, { act := .store 0 0 [], key := some 4 })] [6] [4] (fun _ => [(fr1 1).x = (fr1 1).x, ((.agg ((kc3)).toArray) : Value).cells.toList.all Value.oneCell' = true]) (fun _ => by kernel_rfl) (fun _ => ⟨rfl, rfl, trivial⟩)) ?_
  intro _
  have hy := Option.some.inj hm
  subst hy
  refine GS.ret (fn := Tryz.f19) [4] [.agg ((kc3)).toArray] [(fr1 1).x = (fr1 1).x] rfl Tryz.func19 (by kernel_rfl) ⟨rfl, trivial⟩ (fun w' hs => ?_)
  exact ⟨(), rfl, hs.turnedG (ks := []) rfl rfl⟩

theorem w___primary_Machine__Hold_2 (F : Nat) (a0b : Nat) (a0_pg_ : S_api_Pg) (a0_epoch : Int) (a0_self : Int) (a0_boot : Int) (a0_s_Les : Int) (a0_s_Tail : S_api_Version) (a0_checks : Int) (a1 : Bool) {y : Bool × Int × S_api_Version × Bool × ByteArray × S_api_Version × Bool × Bool × ByteArray} (hm : m___primary_Machine__Hold_2 F a0_pg_ a0_epoch a0_self a0_boot a0_s_Les a0_s_Tail a0_checks a1 = some y) : CallG Tryz.prog 25 #[.pointer (some ⟨a0b, 0, none⟩), .bool a1] (X := Unit) (fun (_ : Unit) => .agg ((kc4 y.1 y.2.1 y.2.2.1.Epoch y.2.2.1.N y.2.2.2.1 y.2.2.2.2.1 y.2.2.2.2.2.1.Epoch y.2.2.2.2.2.1.N y.2.2.2.2.2.2.1 y.2.2.2.2.2.2.2.1 y.2.2.2.2.2.2.2.2)).toArray) [] [.rd (some ⟨a0b, 0, none⟩) 17 [(kc9 a0_pg_.Pool a0_pg_.Seed a0_epoch a0_self a0_boot a0_s_Les a0_s_Tail.Epoch a0_s_Tail.N a0_checks)]] (fun (_ : Unit) => []) := by
  intro w hg
  rw [m___primary_Machine__Hold_2] at hm
  refine GS.start (S := mayT [] [.rd (some ⟨a0b, 0, none⟩) 17 [(kc9 a0_pg_.Pool a0_pg_.Seed a0_epoch a0_self a0_boot a0_s_Les a0_s_Tail.Epoch a0_s_Tail.N a0_checks)]]) (mem := [(1, .rd (some ⟨a0b, 0, none⟩) 17 [(kc9 a0_pg_.Pool a0_pg_.Seed a0_epoch a0_self a0_boot a0_s_Les a0_s_Tail.Epoch a0_s_Tail.N a0_checks)])]) Tryz.func25 rfl Tryz.ntmps25 (Nat.le_of_ble_eq_true rfl) (hg.start rfl) ?_
  refine GS.conv (env' := [(0, .pointer (some ⟨a0b, 0, none⟩)), (1, .bool a1)]) rfl rfl ?_
  refine GS.seq ?_
  refine GS.region (env' := fun fr1 => [(0, .pointer (some ⟨a0b, 0, none⟩)), (1, .bool a1), (4, .pointer (some ⟨(fr1 0).x, 0, none⟩))]) (mem' := fun fr1 => [(1, .rd (some ⟨a0b, 0, none⟩) 17 [(kc9 a0_pg_.Pool a0_pg_.Seed a0_epoch a0_self a0_boot a0_s_Les a0_s_Tail.Epoch a0_s_Tail.N a0_checks)]), (2, .cells ((fr1 0).x) 68 (kc3))]) (RunsTo.mk [(0, { act := .new .var, key := some 2 })] [0, 1, 4] [1, 2] (fun fr1 => []) (fun fr1 => by kernel_rfl) (fun fr1 => trivial)) ?_
  intro fr1
  refine GS.seq ?_
  refine GS.seq ?_
  refine GS.region (env' := fun _ => [(0, .pointer (some ⟨a0b, 0, none⟩)), (1, .bool a1), (4, .pointer (some ⟨(fr1 0).x, 0, none⟩)), (13, .bool true)]) (mem' := fun _ => [(1, .rd (some ⟨a0b, 0, none⟩) 17 [(kc9 a0_pg_.Pool a0_pg_.Seed a0_epoch a0_self a0_boot a0_s_Les a0_s_Tail.Epoch a0_s_Tail.N a0_checks)]), (2, .cells ((fr1 0).x) 68 (kc3))]) (RunsTo.mk [(6, { act := .load 1 0 16 [.int .i64 a0_pg_.Pool, .int .i64 a0_pg_.Seed, .int .i64 a0_epoch, .int .i64 a0_self, .int .i64 a0_boot, .slice none 0 0, .int .i64 a0_s_Les, .int .i64 a0_s_Tail.Epoch, .int .i64 a0_s_Tail.N, .slice none 0 0, .slice none 0 0, .slice none 0 0, .slice none 0 0, .pointer none, .bool false, .int .i64 a0_checks, .bool false] })] [0, 1, 4, 13] [1, 2] (fun _ => [a0b = blk (some ⟨a0b, 0, none⟩), 16 = offs (some ⟨a0b, 0, none⟩) + (0 * 17 + 16), ([(kc9 a0_pg_.Pool a0_pg_.Seed a0_epoch a0_self a0_boot a0_s_Les a0_s_Tail.Epoch a0_s_Tail.N a0_checks)] : List (List Value))[0]? = some [.int .i64 a0_pg_.Pool, .int .i64 a0_pg_.Seed, .int .i64 a0_epoch, .int .i64 a0_self, .int .i64 a0_boot, .slice none 0 0, .int .i64 a0_s_Les, .int .i64 a0_s_Tail.Epoch, .int .i64 a0_s_Tail.N, .slice none 0 0, .slice none 0 0, .slice none 0 0, .slice none 0 0, .pointer none, .bool false, .int .i64 a0_checks, .bool false]]) (fun _ => by kernel_rfl) (fun _ => ⟨rfl, rfl, rfl, trivial⟩)) ?_
  intro _
  refine GS.cond (t := true) rfl rfl (fun _ => ?_) (fun hf => by cases hf)
  refine GS.seq ?_
  refine GS.region (env' := fun _ => [(4, .pointer (some ⟨(fr1 0).x, 0, none⟩))]) (mem' := fun _ => [(2, .cells ((fr1 0).x) 68 (kc3))]) (RunsTo.mk [(1, { act := .store 0 0 [], key := some 2 })] [4] [2] (fun _ => [(fr1 0).x = (fr1 0).x, ((.agg ((kc3)).toArray) : Value).cells.toList.all Value.oneCell' = true]) (fun _ => by kernel_rfl) (fun _ => ⟨rfl, rfl, trivial⟩)) ?_
  intro _
  have hy := Option.some.inj hm
  subst hy
  refine GS.ret (fn := Tryz.f25) [2] [.agg ((kc3)).toArray] [(fr1 0).x = (fr1 0).x] rfl Tryz.func25 (by kernel_rfl) ⟨rfl, trivial⟩ (fun w' hs => ?_)
  exact ⟨(), rfl, hs.turnedG (ks := []) rfl rfl⟩

theorem w___primary_Machine__Idle_2 (F : Nat) (a0b : Nat) (a0_pg_ : S_api_Pg) (a0_epoch : Int) (a0_self : Int) (a0_boot : Int) (a0_s_Les : Int) (a0_s_Tail : S_api_Version) (a0_checks : Int) {y : Unit} (hm : m___primary_Machine__Idle_2 F a0_pg_ a0_epoch a0_self a0_boot a0_s_Les a0_s_Tail a0_checks = some y) : CallG Tryz.prog 20 #[.pointer (some ⟨a0b, 0, none⟩)] (X := Unit) (fun (_ : Unit) => .bool false) [] [.rd (some ⟨a0b, 0, none⟩) 17 [(kc9 a0_pg_.Pool a0_pg_.Seed a0_epoch a0_self a0_boot a0_s_Les a0_s_Tail.Epoch a0_s_Tail.N a0_checks)]] (fun (_ : Unit) => []) := by
  intro w hg
  rw [m___primary_Machine__Idle_2] at hm
  refine GS.start (S := mayT [] [.rd (some ⟨a0b, 0, none⟩) 17 [(kc9 a0_pg_.Pool a0_pg_.Seed a0_epoch a0_self a0_boot a0_s_Les a0_s_Tail.Epoch a0_s_Tail.N a0_checks)]]) (mem := [(1, .rd (some ⟨a0b, 0, none⟩) 17 [(kc9 a0_pg_.Pool a0_pg_.Seed a0_epoch a0_self a0_boot a0_s_Les a0_s_Tail.Epoch a0_s_Tail.N a0_checks)])]) Tryz.func20 rfl Tryz.ntmps20 (Nat.le_of_ble_eq_true rfl) (hg.start rfl) ?_
  refine GS.conv (env' := [(0, .pointer (some ⟨a0b, 0, none⟩))]) rfl rfl ?_
  refine GS.seq ?_
  refine GS.region (env' := fun _ => [(0, .pointer (some ⟨a0b, 0, none⟩))]) (mem' := fun _ => [(1, .rd (some ⟨a0b, 0, none⟩) 17 [(kc9 a0_pg_.Pool a0_pg_.Seed a0_epoch a0_self a0_boot a0_s_Les a0_s_Tail.Epoch a0_s_Tail.N a0_checks)])]) (RunsTo.mk [] [0] [1] (fun _ => []) (fun _ => by kernel_rfl) (fun _ => trivial)) ?_
  intro _
  refine GS.seq ?_
  refine GS.region (env' := fun _ => [(2, .bool false)]) (mem' := fun _ => []) (RunsTo.mk [(6, { act := .load 1 0 16 [.int .i64 a0_pg_.Pool, .int .i64 a0_pg_.Seed, .int .i64 a0_epoch, .int .i64 a0_self, .int .i64 a0_boot, .slice none 0 0, .int .i64 a0_s_Les, .int .i64 a0_s_Tail.Epoch, .int .i64 a0_s_Tail.N, .slice none 0 0, .slice none 0 0, .slice none 0 0, .slice none 0 0, .pointer none, .bool false, .int .i64 a0_checks, .bool false] })] [2] [] (fun _ => [a0b = blk (some ⟨a0b, 0, none⟩), 16 = offs (some ⟨a0b, 0, none⟩) + (0 * 17 + 16), ([(kc9 a0_pg_.Pool a0_pg_.Seed a0_epoch a0_self a0_boot a0_s_Les a0_s_Tail.Epoch a0_s_Tail.N a0_checks)] : List (List Value))[0]? = some [.int .i64 a0_pg_.Pool, .int .i64 a0_pg_.Seed, .int .i64 a0_epoch, .int .i64 a0_self, .int .i64 a0_boot, .slice none 0 0, .int .i64 a0_s_Les, .int .i64 a0_s_Tail.Epoch, .int .i64 a0_s_Tail.N, .slice none 0 0, .slice none 0 0, .slice none 0 0, .slice none 0 0, .pointer none, .bool false, .int .i64 a0_checks, .bool false]]) (fun _ => by kernel_rfl) (fun _ => ⟨rfl, rfl, rfl, trivial⟩)) ?_
  intro _
  have hy := Option.some.inj hm
  subst hy
  refine GS.ret (fn := Tryz.f20) [0] [.bool false] [] rfl Tryz.func20 (by kernel_rfl) trivial (fun w' hs => ?_)
  exact ⟨(), rfl, hs.turnedG (ks := []) rfl rfl⟩

theorem w___primary_Machine__Waiting_2 (F : Nat) (a0b : Nat) (a0_pg_ : S_api_Pg) (a0_epoch : Int) (a0_self : Int) (a0_boot : Int) (a0_s_Les : Int) (a0_s_Tail : S_api_Version) (a0_checks : Int) {y : Int} (hm : m___primary_Machine__Waiting_2 F a0_pg_ a0_epoch a0_self a0_boot a0_s_Les a0_s_Tail a0_checks = some y) : CallG Tryz.prog 21 #[.pointer (some ⟨a0b, 0, none⟩)] (X := Unit) (fun (_ : Unit) => .int .i64 y) [] [.rd (some ⟨a0b, 0, none⟩) 17 [(kc9 a0_pg_.Pool a0_pg_.Seed a0_epoch a0_self a0_boot a0_s_Les a0_s_Tail.Epoch a0_s_Tail.N a0_checks)]] (fun (_ : Unit) => []) := by
  intro w hg
  rw [m___primary_Machine__Waiting_2] at hm
  refine GS.start (S := mayT [] [.rd (some ⟨a0b, 0, none⟩) 17 [(kc9 a0_pg_.Pool a0_pg_.Seed a0_epoch a0_self a0_boot a0_s_Les a0_s_Tail.Epoch a0_s_Tail.N a0_checks)]]) (mem := [(1, .rd (some ⟨a0b, 0, none⟩) 17 [(kc9 a0_pg_.Pool a0_pg_.Seed a0_epoch a0_self a0_boot a0_s_Les a0_s_Tail.Epoch a0_s_Tail.N a0_checks)])]) Tryz.func21 rfl Tryz.ntmps21 (Nat.le_of_ble_eq_true rfl) (hg.start rfl) ?_
  refine GS.conv (env' := [(0, .pointer (some ⟨a0b, 0, none⟩))]) rfl rfl ?_
  refine GS.seq ?_
  refine GS.region (env' := fun _ => [(0, .pointer (some ⟨a0b, 0, none⟩))]) (mem' := fun _ => [(1, .rd (some ⟨a0b, 0, none⟩) 17 [(kc9 a0_pg_.Pool a0_pg_.Seed a0_epoch a0_self a0_boot a0_s_Les a0_s_Tail.Epoch a0_s_Tail.N a0_checks)])]) (RunsTo.mk [] [0] [1] (fun _ => []) (fun _ => by kernel_rfl) (fun _ => trivial)) ?_
  intro _
  refine GS.seq ?_
  refine GS.seq ?_
  refine GS.region (env' := fun _ => [(0, .pointer (some ⟨a0b, 0, none⟩)), (4, .bool false)]) (mem' := fun _ => [(1, .rd (some ⟨a0b, 0, none⟩) 17 [(kc9 a0_pg_.Pool a0_pg_.Seed a0_epoch a0_self a0_boot a0_s_Les a0_s_Tail.Epoch a0_s_Tail.N a0_checks)])]) (RunsTo.mk [] [0, 4] [1] (fun _ => []) (fun _ => by kernel_rfl) (fun _ => trivial)) ?_
  intro _
  refine GS.cond (t := false) rfl rfl (fun hf => by cases hf) (fun _ => ?_)
  refine GS.skip ?_
  refine GS.seq ?_
  refine GS.region (env' := fun _ => [(2, .int .i64 0)]) (mem' := fun _ => []) (RunsTo.mk [(3, { act := .load 1 0 12 [.int .i64 a0_pg_.Pool, .int .i64 a0_pg_.Seed, .int .i64 a0_epoch, .int .i64 a0_self, .int .i64 a0_boot, .slice none 0 0, .int .i64 a0_s_Les, .int .i64 a0_s_Tail.Epoch, .int .i64 a0_s_Tail.N, .slice none 0 0, .slice none 0 0, .slice none 0 0, .slice none 0 0, .pointer none, .bool false, .int .i64 a0_checks, .bool false] })] [2] [] (fun _ => [a0b = blk (some ⟨a0b, 0, none⟩), 12 = offs (some ⟨a0b, 0, none⟩) + (0 * 17 + 12), ([(kc9 a0_pg_.Pool a0_pg_.Seed a0_epoch a0_self a0_boot a0_s_Les a0_s_Tail.Epoch a0_s_Tail.N a0_checks)] : List (List Value))[0]? = some [.int .i64 a0_pg_.Pool, .int .i64 a0_pg_.Seed, .int .i64 a0_epoch, .int .i64 a0_self, .int .i64 a0_boot, .slice none 0 0, .int .i64 a0_s_Les, .int .i64 a0_s_Tail.Epoch, .int .i64 a0_s_Tail.N, .slice none 0 0, .slice none 0 0, .slice none 0 0, .slice none 0 0, .pointer none, .bool false, .int .i64 a0_checks, .bool false]]) (fun _ => by kernel_rfl) (fun _ => ⟨rfl, rfl, rfl, trivial⟩)) ?_
  intro _
  have hy := Option.some.inj hm
  subst hy
  refine GS.ret (fn := Tryz.f21) [0] [.int .i64 0] [] rfl Tryz.func21 (by kernel_rfl) trivial (fun w' hs => ?_)
  exact ⟨(), rfl, hs.turnedG (ks := []) rfl rfl⟩

theorem w_pglog_Copy (F : Nat) (a0_Les : Int) (a0_Tail : S_api_Version) {y : Int × S_api_Version × List S_api_Entry × List S_api_Last × List S_api_Item} (hm : m_pglog_Copy F a0_Les a0_Tail = some y) : CallG Tryz.prog 32 #[.agg ((kc6 a0_Les a0_Tail.Epoch a0_Tail.N)).toArray] (X := Option Addr × Nat × Option Addr × Nat × Option Addr × Nat) (fun ⟨x0, x1, x2, x3, x4, x5⟩ => .agg ((kc12 y.1 y.2.1.Epoch y.2.1.N x0 y.2.2.1.length x1 x2 y.2.2.2.1.length x3 x4 y.2.2.2.2.length x5)).toArray) [] [] (fun ⟨x0, x1, x2, x3, x4, x5⟩ => [o31 x0 x1 y.2.2.1, o94 x2 x3 y.2.2.2.1, o91 x4 x5 y.2.2.2.2]) := by
  intro w hg
  rw [m_pglog_Copy] at hm
  refine GS.start (S := mayT [] []) (mem := []) Tryz.func32 rfl Tryz.ntmps32 (Nat.le_of_ble_eq_true rfl) (hg.start rfl) ?_
  refine GS.conv (env' := [(0, .agg ((kc6 a0_Les a0_Tail.Epoch a0_Tail.N)).toArray)]) rfl rfl ?_
  refine GS.seq ?_
  refine GS.region (env' := fun fr1 => [(1, .pointer (some ⟨(fr1 0).x, 0, none⟩)), (2, .pointer (some ⟨(fr1 1).x, 0, none⟩))]) (mem' := fun fr1 => [(1, .cells ((fr1 0).x) 28 (kc6 a0_Les a0_Tail.Epoch a0_Tail.N)), (2, .cells ((fr1 1).x) 28 (kc8))]) (RunsTo.mk [(0, { act := .new .var, key := some 1 }), (1, { act := .new .var, key := some 2 })] [1, 2] [1, 2] (fun fr1 => []) (fun fr1 => by kernel_rfl) (fun fr1 => trivial)) ?_
  intro fr1
  refine GS.seq ?_
  refine grd_elim hm (fun g3 hm => ?_)
  refine GS.region (env' := fun fr2 => [(1, .pointer (some ⟨(fr1 0).x, 0, none⟩)), (2, .pointer (some ⟨(fr1 1).x, 0, none⟩))]) (mem' := fun fr2 => [(1, .cells ((fr1 0).x) 28 (kc10 a0_Les a0_Tail.Epoch a0_Tail.N ((fr2 2).ob) (([] : List S_api_Entry).length) ((fr2 2).cap))), (2, .cells ((fr1 1).x) 28 (kc8)), (3, .osl ((fr2 2).ob) ((fr2 2).cap) 31 7 ([] : List (List Value)))]) (RunsTo.mk [(1, { act := .load 1 0 0 [] }), (2, { act := .app none, key := some 3, spf := some (fun f => .slice (f.ob) (([] : List S_api_Entry).length) (f.cap)) }), (4, { act := .store 0 0 [], key := some 1 })] [1, 2] [1, 2, 3] (fun fr2 => [(fr1 0).x = (fr1 0).x, (none : Option Addr) = none, 0 = 0, 0 = 0, 0 = 0, ([] : List (List Value)).length * (64 + 1) ≤ 70368744177664, ((.slice ((fr2 2).ob) (0 + ([] : List (List Value)).length) ((fr2 2).cap)) : Value) = .slice ((fr2 2).ob) (([] : List S_api_Entry).length) ((fr2 2).cap), (fr1 0).x = (fr1 0).x, ((.slice ((fr2 2).ob) (([] : List S_api_Entry).length) ((fr2 2).cap)) : Value).cells.toList.all Value.oneCell' = true]) (fun fr2 => by kernel_rfl) (fun fr2 => ⟨rfl, rfl, rfl, rfl, rfl, appb0 g3 rfl, rfl, rfl, rfl, trivial⟩)) ?_
  intro fr2
  refine GS.conv (mem' := [(1, .cells ((fr1 0).x) 28 (kc10 a0_Les a0_Tail.Epoch a0_Tail.N ((fr2 2).ob) (([] : List S_api_Entry).length) ((fr2 2).cap))), (2, .cells ((fr1 1).x) 28 (kc8)), (3, o31 ((fr2 2).ob) ((fr2 2).cap) ([] : List S_api_Entry))]) rfl (congrArg (fun rr : List (List Value) => ([(1, .cells ((fr1 0).x) 28 (kc10 a0_Les a0_Tail.Epoch a0_Tail.N ((fr2 2).ob) (([] : List S_api_Entry).length) ((fr2 2).cap))), (2, .cells ((fr1 1).x) 28 (kc8)), (3, .osl ((fr2 2).ob) ((fr2 2).cap) 31 7 rr)] : List (Nat × Ent))) (show ([] : List (List Value)) = List.map S_api_Entry.row ([] : List S_api_Entry) from rfl)) ?_
  refine GS.seq ?_
  refine grd_elim hm (fun g5 hm => ?_)
  refine GS.region (env' := fun fr4 => [(1, .pointer (some ⟨(fr1 0).x, 0, none⟩)), (2, .pointer (some ⟨(fr1 1).x, 0, none⟩))]) (mem' := fun fr4 => [(1, .cells ((fr1 0).x) 28 (kc11 a0_Les a0_Tail.Epoch a0_Tail.N ((fr2 2).ob) (([] : List S_api_Entry).length) ((fr2 2).cap) ((fr4 2).ob) (([] : List S_api_Last).length) ((fr4 2).cap))), (2, .cells ((fr1 1).x) 28 (kc8)), (3, o31 ((fr2 2).ob) ((fr2 2).cap) ([] : List S_api_Entry)), (4, .osl ((fr4 2).ob) ((fr4 2).cap) 94 5 ([] : List (List Value)))]) (RunsTo.mk [(1, { act := .load 1 0 0 [] }), (2, { act := .app none, key := some 4, spf := some (fun f => .slice (f.ob) (([] : List S_api_Last).length) (f.cap)) }), (4, { act := .store 0 0 [], key := some 1 })] [1, 2] [1, 2, 3, 4] (fun fr4 => [(fr1 0).x = (fr1 0).x, (none : Option Addr) = none, 0 = 0, 0 = 0, 0 = 0, ([] : List (List Value)).length * (40 + 1) ≤ 70368744177664, ((.slice ((fr4 2).ob) (0 + ([] : List (List Value)).length) ((fr4 2).cap)) : Value) = .slice ((fr4 2).ob) (([] : List S_api_Last).length) ((fr4 2).cap), (fr1 0).x = (fr1 0).x, ((.slice ((fr4 2).ob) (([] : List S_api_Last).length) ((fr4 2).cap)) : Value).cells.toList.all Value.oneCell' = true]) (fun fr4 => by kernel_rfl) (fun fr4 => ⟨rfl, rfl, rfl, rfl, rfl, appb0 g5 rfl, rfl, rfl, rfl, trivial⟩)) ?_
  intro fr4
  refine GS.conv (mem' := [(1, .cells ((fr1 0).x) 28 (kc11 a0_Les a0_Tail.Epoch a0_Tail.N ((fr2 2).ob) (([] : List S_api_Entry).length) ((fr2 2).cap) ((fr4 2).ob) (([] : List S_api_Last).length) ((fr4 2).cap))), (2, .cells ((fr1 1).x) 28 (kc8)), (3, o31 ((fr2 2).ob) ((fr2 2).cap) ([] : List S_api_Entry)), (4, o94 ((fr4 2).ob) ((fr4 2).cap) ([] : List S_api_Last))]) rfl (congrArg (fun rr : List (List Value) => ([(1, .cells ((fr1 0).x) 28 (kc11 a0_Les a0_Tail.Epoch a0_Tail.N ((fr2 2).ob) (([] : List S_api_Entry).length) ((fr2 2).cap) ((fr4 2).ob) (([] : List S_api_Last).length) ((fr4 2).cap))), (2, .cells ((fr1 1).x) 28 (kc8)), (3, o31 ((fr2 2).ob) ((fr2 2).cap) ([] : List S_api_Entry)), (4, .osl ((fr4 2).ob) ((fr4 2).cap) 94 5 rr)] : List (Nat × Ent))) (show ([] : List (List Value)) = List.map S_api_Last.row ([] : List S_api_Last) from rfl)) ?_
  refine GS.seq ?_
  refine grd_elim hm (fun g7 hm => ?_)
  refine GS.region (env' := fun fr6 => [(1, .pointer (some ⟨(fr1 0).x, 0, none⟩)), (2, .pointer (some ⟨(fr1 1).x, 0, none⟩))]) (mem' := fun fr6 => [(1, .cells ((fr1 0).x) 28 (kc12 a0_Les a0_Tail.Epoch a0_Tail.N ((fr2 2).ob) (([] : List S_api_Entry).length) ((fr2 2).cap) ((fr4 2).ob) (([] : List S_api_Last).length) ((fr4 2).cap) ((fr6 2).ob) (([] : List S_api_Item).length) ((fr6 2).cap))), (2, .cells ((fr1 1).x) 28 (kc8)), (3, o31 ((fr2 2).ob) ((fr2 2).cap) ([] : List S_api_Entry)), (4, o94 ((fr4 2).ob) ((fr4 2).cap) ([] : List S_api_Last)), (5, .osl ((fr6 2).ob) ((fr6 2).cap) 91 4 ([] : List (List Value)))]) (RunsTo.mk [(1, { act := .load 1 0 0 [] }), (2, { act := .app none, key := some 5, spf := some (fun f => .slice (f.ob) (([] : List S_api_Item).length) (f.cap)) }), (4, { act := .store 0 0 [], key := some 1 })] [1, 2] [1, 2, 3, 4, 5] (fun fr6 => [(fr1 0).x = (fr1 0).x, (none : Option Addr) = none, 0 = 0, 0 = 0, 0 = 0, ([] : List (List Value)).length * (40 + 1) ≤ 70368744177664, ((.slice ((fr6 2).ob) (0 + ([] : List (List Value)).length) ((fr6 2).cap)) : Value) = .slice ((fr6 2).ob) (([] : List S_api_Item).length) ((fr6 2).cap), (fr1 0).x = (fr1 0).x, ((.slice ((fr6 2).ob) (([] : List S_api_Item).length) ((fr6 2).cap)) : Value).cells.toList.all Value.oneCell' = true]) (fun fr6 => by kernel_rfl) (fun fr6 => ⟨rfl, rfl, rfl, rfl, rfl, appb0 g7 rfl, rfl, rfl, rfl, trivial⟩)) ?_
  intro fr6
  refine GS.conv (mem' := [(1, .cells ((fr1 0).x) 28 (kc12 a0_Les a0_Tail.Epoch a0_Tail.N ((fr2 2).ob) (([] : List S_api_Entry).length) ((fr2 2).cap) ((fr4 2).ob) (([] : List S_api_Last).length) ((fr4 2).cap) ((fr6 2).ob) (([] : List S_api_Item).length) ((fr6 2).cap))), (2, .cells ((fr1 1).x) 28 (kc8)), (3, o31 ((fr2 2).ob) ((fr2 2).cap) ([] : List S_api_Entry)), (4, o94 ((fr4 2).ob) ((fr4 2).cap) ([] : List S_api_Last)), (5, o91 ((fr6 2).ob) ((fr6 2).cap) ([] : List S_api_Item))]) rfl (congrArg (fun rr : List (List Value) => ([(1, .cells ((fr1 0).x) 28 (kc12 a0_Les a0_Tail.Epoch a0_Tail.N ((fr2 2).ob) (([] : List S_api_Entry).length) ((fr2 2).cap) ((fr4 2).ob) (([] : List S_api_Last).length) ((fr4 2).cap) ((fr6 2).ob) (([] : List S_api_Item).length) ((fr6 2).cap))), (2, .cells ((fr1 1).x) 28 (kc8)), (3, o31 ((fr2 2).ob) ((fr2 2).cap) ([] : List S_api_Entry)), (4, o94 ((fr4 2).ob) ((fr4 2).cap) ([] : List S_api_Last)), (5, .osl ((fr6 2).ob) ((fr6 2).cap) 91 4 rr)] : List (Nat × Ent))) (show ([] : List (List Value)) = List.map S_api_Item.row ([] : List S_api_Item) from rfl)) ?_
  refine GS.seq ?_
  refine GS.region (env' := fun _ => [(2, .pointer (some ⟨(fr1 1).x, 0, none⟩))]) (mem' := fun _ => [(2, .cells ((fr1 1).x) 28 (kc12 a0_Les a0_Tail.Epoch a0_Tail.N ((fr2 2).ob) (([] : List S_api_Entry).length) ((fr2 2).cap) ((fr4 2).ob) (([] : List S_api_Last).length) ((fr4 2).cap) ((fr6 2).ob) (([] : List S_api_Item).length) ((fr6 2).cap))), (3, o31 ((fr2 2).ob) ((fr2 2).cap) ([] : List S_api_Entry)), (4, o94 ((fr4 2).ob) ((fr4 2).cap) ([] : List S_api_Last)), (5, o91 ((fr6 2).ob) ((fr6 2).cap) ([] : List S_api_Item))]) (RunsTo.mk [(0, { act := .load 1 0 0 [] }), (1, { act := .store 0 0 [], key := some 2 })] [2] [2, 3, 4, 5] (fun _ => [(fr1 0).x = (fr1 0).x, (fr1 1).x = (fr1 1).x, ((.agg ((kc12 a0_Les a0_Tail.Epoch a0_Tail.N ((fr2 2).ob) (([] : List S_api_Entry).length) ((fr2 2).cap) ((fr4 2).ob) (([] : List S_api_Last).length) ((fr4 2).cap) ((fr6 2).ob) (([] : List S_api_Item).length) ((fr6 2).cap))).toArray) : Value).cells.toList.all Value.oneCell' = true]) (fun _ => by kernel_rfl) (fun _ => ⟨rfl, rfl, rfl, trivial⟩)) ?_
  intro _
  have hy := Option.some.inj hm
  subst hy
  refine GS.ret (fn := Tryz.f32) [2] [.agg ((kc12 a0_Les a0_Tail.Epoch a0_Tail.N ((fr2 2).ob) (([] : List S_api_Entry).length) ((fr2 2).cap) ((fr4 2).ob) (([] : List S_api_Last).length) ((fr4 2).cap) ((fr6 2).ob) (([] : List S_api_Item).length) ((fr6 2).cap))).toArray] [(fr1 1).x = (fr1 1).x] rfl Tryz.func32 (by kernel_rfl) ⟨rfl, trivial⟩ (fun w' hs => ?_)
  exact ⟨⟨(fr2 2).ob, (fr2 2).cap, (fr4 2).ob, (fr4 2).cap, (fr6 2).ob, (fr6 2).cap⟩, rfl, hs.turnedG (ks := [3, 4, 5]) rfl rfl⟩

theorem w___primary_Machine__State_2 (F : Nat) (a0b : Nat) (a0_pg_ : S_api_Pg) (a0_epoch : Int) (a0_self : Int) (a0_boot : Int) (a0_s_Les : Int) (a0_s_Tail : S_api_Version) (a0_checks : Int) {y : Int × S_api_Version × List S_api_Entry × List S_api_Last × List S_api_Item} (hm : m___primary_Machine__State_2 F a0_pg_ a0_epoch a0_self a0_boot a0_s_Les a0_s_Tail a0_checks = some y) : CallG Tryz.prog 22 #[.pointer (some ⟨a0b, 0, none⟩)] (X := Option Addr × Nat × Option Addr × Nat × Option Addr × Nat) (fun ⟨x0, x1, x2, x3, x4, x5⟩ => .agg ((kc12 y.1 y.2.1.Epoch y.2.1.N x0 y.2.2.1.length x1 x2 y.2.2.2.1.length x3 x4 y.2.2.2.2.length x5)).toArray) [] [.rd (some ⟨a0b, 0, none⟩) 17 [(kc9 a0_pg_.Pool a0_pg_.Seed a0_epoch a0_self a0_boot a0_s_Les a0_s_Tail.Epoch a0_s_Tail.N a0_checks)]] (fun ⟨x0, x1, x2, x3, x4, x5⟩ => [o31 x0 x1 y.2.2.1, o94 x2 x3 y.2.2.2.1, o91 x4 x5 y.2.2.2.2]) := by
  intro w hg
  rw [m___primary_Machine__State_2] at hm
  refine GS.start (S := mayT [] [.rd (some ⟨a0b, 0, none⟩) 17 [(kc9 a0_pg_.Pool a0_pg_.Seed a0_epoch a0_self a0_boot a0_s_Les a0_s_Tail.Epoch a0_s_Tail.N a0_checks)]]) (mem := [(1, .rd (some ⟨a0b, 0, none⟩) 17 [(kc9 a0_pg_.Pool a0_pg_.Seed a0_epoch a0_self a0_boot a0_s_Les a0_s_Tail.Epoch a0_s_Tail.N a0_checks)])]) Tryz.func22 rfl Tryz.ntmps22 (Nat.le_of_ble_eq_true rfl) (hg.start rfl) ?_
  refine GS.conv (env' := [(0, .pointer (some ⟨a0b, 0, none⟩))]) rfl rfl ?_
  refine GS.seq ?_
  refine GS.region (env' := fun fr1 => [(0, .pointer (some ⟨a0b, 0, none⟩)), (2, .pointer (some ⟨(fr1 0).x, 0, none⟩))]) (mem' := fun fr1 => [(1, .rd (some ⟨a0b, 0, none⟩) 17 [(kc9 a0_pg_.Pool a0_pg_.Seed a0_epoch a0_self a0_boot a0_s_Les a0_s_Tail.Epoch a0_s_Tail.N a0_checks)]), (2, .cells ((fr1 0).x) 28 (kc8))]) (RunsTo.mk [(0, { act := .new .var, key := some 2 })] [0, 2] [1, 2] (fun fr1 => []) (fun fr1 => by kernel_rfl) (fun fr1 => trivial)) ?_
  intro fr1
  refine GS.seq ?_
  refine GS.seq ?_
  refine GS.region (env' := fun _ => [(0, .pointer (some ⟨a0b, 0, none⟩)), (2, .pointer (some ⟨(fr1 0).x, 0, none⟩)), (4, .bool false)]) (mem' := fun _ => [(1, .rd (some ⟨a0b, 0, none⟩) 17 [(kc9 a0_pg_.Pool a0_pg_.Seed a0_epoch a0_self a0_boot a0_s_Les a0_s_Tail.Epoch a0_s_Tail.N a0_checks)]), (2, .cells ((fr1 0).x) 28 (kc8))]) (RunsTo.mk [] [0, 2, 4] [1, 2] (fun _ => []) (fun _ => by kernel_rfl) (fun _ => trivial)) ?_
  intro _
  refine GS.cond (t := false) rfl rfl (fun hf => by cases hf) (fun _ => ?_)
  refine GS.skip ?_
  refine GS.seq ?_
  refine bnd_elim hm (fun y4 e5 hm => ?_)
  refine GS.open_ ?_
  refine GR.run (i := 0) 4 (env' := fun _ => [(2, .pointer (some ⟨(fr1 0).x, 0, none⟩)), (9, .agg ((kc6 a0_s_Les a0_s_Tail.Epoch a0_s_Tail.N)).toArray)]) (mem' := fun _ => [(2, .cells ((fr1 0).x) 28 (kc8))]) (Nat.le_of_ble_eq_true (by kernel_rfl)) (RunsTo.mk [(3, { act := .load 1 0 6 [.int .i64 a0_pg_.Pool, .int .i64 a0_pg_.Seed, .int .i64 a0_epoch, .int .i64 a0_self, .int .i64 a0_boot, .slice none 0 0, .int .i64 a0_s_Les, .int .i64 a0_s_Tail.Epoch, .int .i64 a0_s_Tail.N, .slice none 0 0, .slice none 0 0, .slice none 0 0, .slice none 0 0, .pointer none, .bool false, .int .i64 a0_checks, .bool false] })] [2, 9] [2] (fun _ => [a0b = blk (some ⟨a0b, 0, none⟩), 6 = offs (some ⟨a0b, 0, none⟩) + (0 * 17 + 6), ([(kc9 a0_pg_.Pool a0_pg_.Seed a0_epoch a0_self a0_boot a0_s_Les a0_s_Tail.Epoch a0_s_Tail.N a0_checks)] : List (List Value))[0]? = some [.int .i64 a0_pg_.Pool, .int .i64 a0_pg_.Seed, .int .i64 a0_epoch, .int .i64 a0_self, .int .i64 a0_boot, .slice none 0 0, .int .i64 a0_s_Les, .int .i64 a0_s_Tail.Epoch, .int .i64 a0_s_Tail.N, .slice none 0 0, .slice none 0 0, .slice none 0 0, .slice none 0 0, .pointer none, .bool false, .int .i64 a0_checks, .bool false]]) (fun _ => by kernel_rfl) (fun _ => ⟨rfl, rfl, rfl, trivial⟩)) ?_
  intro _
  refine GR.callG (X := Option Addr × Nat × Option Addr × Nat × Option Addr × Nat) (i := 4) (g := 32) (args := #[.agg ((kc6 a0_s_Les a0_s_Tail.Epoch a0_s_Tail.N)).toArray]) (v := fun ⟨x6, x7, x8, x9, x10, x11⟩ => .agg ((kc12 y4.1 y4.2.1.Epoch y4.2.1.N x6 y4.2.2.1.length x7 x8 y4.2.2.2.1.length x9 x10 y4.2.2.2.2.length x11)).toArray) (own := []) (ro := []) (es' := fun ⟨x6, x7, x8, x9, x10, x11⟩ => [o31 x6 x7 y4.2.2.1, o94 x8 x9 y4.2.2.2.1, o91 x10 x11 y4.2.2.2.2]) (mem' := fun ⟨x6, x7, x8, x9, x10, x11⟩ => [(2, .cells ((fr1 0).x) 28 (kc8)), (3, o31 x6 x7 y4.2.2.1), (4, o94 x8 x9 y4.2.2.2.1), (5, o91 x10 x11 y4.2.2.2.2)]) (env' := fun ⟨x6, x7, x8, x9, x10, x11⟩ => [(2, .pointer (some ⟨(fr1 0).x, 0, none⟩)), (10, .agg ((kc12 y4.1 y4.2.1.Epoch y4.2.1.N x6 y4.2.2.1.length x7 x8 y4.2.2.2.1.length x9 x10 y4.2.2.2.2.length x11)).toArray)]) [] [3, 4, 5] [2, 10] [2, 3, 4, 5] false (by kernel_rfl) (by kernel_rfl) (by kernel_rfl) (by kernel_rfl) (by kernel_rfl) (fun _ => rfl) (fun _ _ => rfl) trivial (by rintro ⟨x6, x7, x8, x9, x10, x11⟩; kernel_rfl) (by rintro ⟨x6, x7, x8, x9, x10, x11⟩; kernel_rfl) ((by have h1 := w_pglog_Copy F a0_s_Les a0_s_Tail e5; exact h1)) ?_
  rintro ⟨x6, x7, x8, x9, x10, x11⟩
  refine GR.run (i := 5) 1 (env' := fun _ => [(2, .pointer (some ⟨(fr1 0).x, 0, none⟩))]) (mem' := fun _ => [(2, .cells ((fr1 0).x) 28 (kc12 y4.1 y4.2.1.Epoch y4.2.1.N x6 y4.2.2.1.length x7 x8 y4.2.2.2.1.length x9 x10 y4.2.2.2.2.length x11)), (3, o31 x6 x7 y4.2.2.1), (4, o94 x8 x9 y4.2.2.2.1), (5, o91 x10 x11 y4.2.2.2.2)]) (Nat.le_of_ble_eq_true (by kernel_rfl)) (RunsTo.mk [(5, { act := .store 0 0 [], key := some 2 })] [2] [2, 3, 4, 5] (fun _ => [(fr1 0).x = (fr1 0).x, ((.agg ((kc12 y4.1 y4.2.1.Epoch y4.2.1.N x6 y4.2.2.1.length x7 x8 y4.2.2.2.1.length x9 x10 y4.2.2.2.2.length x11)).toArray) : Value).cells.toList.all Value.oneCell' = true]) (fun _ => by kernel_rfl) (fun _ => ⟨rfl, rfl, trivial⟩)) ?_
  intro _
  refine GR.done (Nat.le_of_ble_eq_true (by kernel_rfl)) ?_
  have hy := Option.some.inj hm
  subst hy
  refine GS.ret (fn := Tryz.f22) [2] [.agg ((kc12 y4.1 y4.2.1.Epoch y4.2.1.N x6 y4.2.2.1.length x7 x8 y4.2.2.2.1.length x9 x10 y4.2.2.2.2.length x11)).toArray] [(fr1 0).x = (fr1 0).x] rfl Tryz.func22 (by kernel_rfl) ⟨rfl, trivial⟩ (fun w' hs => ?_)
  exact ⟨⟨x6, x7, x8, x9, x10, x11⟩, rfl, hs.turnedG (ks := [3, 4, 5]) rfl rfl⟩

theorem w_slices_Index___int_int_ (F : Nat) (a0_o : Option Addr) (a0_c : Nat) {y : Unit} (hm : m_slices_Index___int_int_ F = some y) : CallG Tryz.prog 60 #[.slice a0_o 2 a0_c, .int .i64 0] (X := Unit) (fun (_ : Unit) => .int .i64 0) [] [.rd a0_o 1 [[.int .i64 0], [.int .i64 1]]] (fun (_ : Unit) => []) := by
  intro w hg
  rw [m_slices_Index___int_int_] at hm
  refine GS.start (S := mayT [] [.rd a0_o 1 [[.int .i64 0], [.int .i64 1]]]) (mem := [(1, .rd a0_o 1 [[.int .i64 0], [.int .i64 1]])]) Tryz.func60 rfl Tryz.ntmps60 (Nat.le_of_ble_eq_true rfl) (hg.start rfl) ?_
  refine GS.conv (env' := [(0, .slice a0_o 2 a0_c), (1, .int .i64 0)]) rfl rfl ?_
  refine GS.seq ?_
  refine GS.region (env' := fun _ => [(0, .slice a0_o 2 a0_c), (1, .int .i64 0)]) (mem' := fun _ => [(1, .rd a0_o 1 [[.int .i64 0], [.int .i64 1]])]) (RunsTo.mk [] [0, 1] [1] (fun _ => []) (fun _ => by kernel_rfl) (fun _ => trivial)) ?_
  intro _
  refine GS.seq ?_
  refine GS.seq ?_
  refine GS.region (env' := fun _ => [(0, .slice a0_o 2 a0_c), (1, .int .i64 0), (7, .int .i64 2), (8, .int .i64 0)]) (mem' := fun _ => [(1, .rd a0_o 1 [[.int .i64 0], [.int .i64 1]])]) (RunsTo.mk [] [0, 1, 7, 8] [1] (fun _ => []) (fun _ => by kernel_rfl) (fun _ => trivial)) ?_
  intro _
  refine GS.block ?_
  refine GS.loop ?_
  refine GS.seq ?_
  refine GS.region (env' := fun _ => [(0, .slice a0_o 2 a0_c), (1, .int .i64 0), (7, .int .i64 2), (8, .int .i64 0), (9, .bool true)]) (mem' := fun _ => [(1, .rd a0_o 1 [[.int .i64 0], [.int .i64 1]])]) (RunsTo.mk [] [0, 1, 7, 8, 9] [1] (fun _ => []) (fun _ => by kernel_rfl) (fun _ => trivial)) ?_
  intro _
  refine GS.seq ?_
  refine GS.cond (t := true) rfl rfl (fun _ => ?_) (fun hf => by cases hf)
  refine GS.skip ?_
  refine GS.seq ?_
  refine GS.block ?_
  refine GS.seq ?_
  refine GS.region (env' := fun _ => [(0, .slice a0_o 2 a0_c), (1, .int .i64 0), (5, .int .i64 0), (7, .int .i64 2), (8, .int .i64 0)]) (mem' := fun _ => [(1, .rd a0_o 1 [[.int .i64 0], [.int .i64 1]])]) (RunsTo.mk [] [0, 1, 5, 7, 8] [1] (fun _ => []) (fun _ => by kernel_rfl) (fun _ => trivial)) ?_
  intro _
  refine GS.seq ?_
  refine GS.region (env' := fun _ => [(0, .slice a0_o 2 a0_c), (1, .int .i64 0), (5, .int .i64 0), (7, .int .i64 2), (8, .int .i64 0), (16, .bool true)]) (mem' := fun _ => [(1, .rd a0_o 1 [[.int .i64 0], [.int .i64 1]])]) (RunsTo.mk [(3, { act := .idx 1 0 }), (4, { act := .load 1 0 0 [.int .i64 0] })] [0, 1, 5, 7, 8, 16] [1] (fun _ => [a0_o = a0_o, 2 = ([[.int .i64 0], [.int .i64 1]] : List (List Value)).length, (0 : Int) = ((0 : Nat) : Int), 0 < 2, blk a0_o = blk a0_o, offs a0_o + 0 * 1 = offs a0_o + (0 * 1 + 0), ([[.int .i64 0], [.int .i64 1]] : List (List Value))[0]? = some [.int .i64 0]]) (fun _ => by kernel_rfl) (fun _ => ⟨rfl, rfl, rfl, (Nat.le_of_ble_eq_true rfl), rfl, rfl, rfl, trivial⟩)) ?_
  intro _
  refine GS.cond (t := true) rfl rfl (fun _ => ?_) (fun hf => by cases hf)
  refine GS.seq ?_
  refine GS.region (env' := fun _ => [(4, .int .i64 0)]) (mem' := fun _ => []) (RunsTo.mk [] [4] [] (fun _ => []) (fun _ => by kernel_rfl) (fun _ => trivial)) ?_
  intro _
  have hy := Option.some.inj hm
  subst hy
  refine GS.ret (fn := Tryz.f60) [0] [.int .i64 0] [] rfl Tryz.func60 (by kernel_rfl) trivial (fun w' hs => ?_)
  exact ⟨(), rfl, hs.turnedG (ks := []) rfl rfl⟩

theorem w_slices_Contains___int_int_ (F : Nat) (a0_o : Option Addr) (a0_c : Nat) {y : Unit} (hm : m_slices_Contains___int_int_ F = some y) : CallG Tryz.prog 40 #[.slice a0_o 2 a0_c, .int .i64 0] (X := Unit) (fun (_ : Unit) => .bool true) [] [.rd a0_o 1 [[.int .i64 0], [.int .i64 1]]] (fun (_ : Unit) => []) := by
  intro w hg
  rw [m_slices_Contains___int_int_] at hm
  refine GS.start (S := mayT [] [.rd a0_o 1 [[.int .i64 0], [.int .i64 1]]]) (mem := [(1, .rd a0_o 1 [[.int .i64 0], [.int .i64 1]])]) Tryz.func40 rfl Tryz.ntmps40 (Nat.le_of_ble_eq_true rfl) (hg.start rfl) ?_
  refine GS.conv (env' := [(0, .slice a0_o 2 a0_c), (1, .int .i64 0)]) rfl rfl ?_
  refine GS.seq ?_
  refine GS.region (env' := fun _ => [(0, .slice a0_o 2 a0_c), (1, .int .i64 0)]) (mem' := fun _ => [(1, .rd a0_o 1 [[.int .i64 0], [.int .i64 1]])]) (RunsTo.mk [] [0, 1] [1] (fun _ => []) (fun _ => by kernel_rfl) (fun _ => trivial)) ?_
  intro _
  refine GS.seq ?_
  refine bnd_elim hm (fun y3 e4 hm => ?_)
  refine GS.region (env' := fun _ => [(4, .bool true)]) (mem' := fun _ => []) (RunsTo.mk [(2, { act := .call [1] (.int .i64 0) })] [4] [] (fun _ => [CallOK Tryz.prog 60 #[.slice a0_o 2 a0_c, .int .i64 0] (.int .i64 0) [some (.rd a0_o 1 [[.int .i64 0], [.int .i64 1]])]]) (fun _ => by kernel_rfl) (fun _ => ⟨(by have h1 := w_slices_Index___int_int_ F a0_o a0_c e4; exact h1.ok ⟨(.inl ⟨.rd a0_o 1 [[.int .i64 0], [.int .i64 1]], .head _, Cov.refl _⟩), trivial⟩), trivial⟩)) ?_
  intro _
  have hy := Option.some.inj hm
  subst hy
  refine GS.ret (fn := Tryz.f40) [0] [.bool true] [] rfl Tryz.func40 (by kernel_rfl) trivial (fun w' hs => ?_)
  exact ⟨(), rfl, hs.turnedG (ks := []) rfl rfl⟩

theorem w_pglog_below (F : Nat) {y : Unit} (hm : m_pglog_below F = some y) : CallG Tryz.prog 61 #[.agg #[.int .i64 0, .int .i64 0]] (X := Unit) (fun (_ : Unit) => .bool false) [] [] (fun (_ : Unit) => []) := by
  intro w hg
  rw [m_pglog_below] at hm
  refine GS.start (S := mayT [] []) (mem := []) Tryz.func61 rfl Tryz.ntmps61 (Nat.le_of_ble_eq_true rfl) (hg.start rfl) ?_
  refine GS.conv (env' := [(0, .agg #[.int .i64 0, .int .i64 0])]) rfl rfl ?_
  refine GS.seq ?_
  refine GS.region (env' := fun fr1 => [(1, .pointer (some ⟨(fr1 0).x, 0, none⟩))]) (mem' := fun fr1 => [(1, .cells ((fr1 0).x) 23 [.int .i64 0, .int .i64 0])]) (RunsTo.mk [(0, { act := .new .var, key := some 1 })] [1] [1] (fun fr1 => []) (fun fr1 => by kernel_rfl) (fun fr1 => trivial)) ?_
  intro fr1
  refine GS.seq ?_
  refine GS.region (env' := fun _ => [(2, .bool false)]) (mem' := fun _ => []) (RunsTo.mk [(1, { act := .load 1 0 0 [] }), (5, { act := .load 1 0 0 [] })] [2] [] (fun _ => [(fr1 0).x = (fr1 0).x, (fr1 0).x = (fr1 0).x]) (fun _ => by kernel_rfl) (fun _ => ⟨rfl, rfl, trivial⟩)) ?_
  intro _
  have hy := Option.some.inj hm
  subst hy
  refine GS.ret (fn := Tryz.f61) [0] [.bool false] [] rfl Tryz.func61 (by kernel_rfl) trivial (fun w' hs => ?_)
  exact ⟨(), rfl, hs.turnedG (ks := []) rfl rfl⟩

theorem w_pglog_rising_api_Item_string_ (F : Nat) {y : Unit} (hm : m_pglog_rising_api_Item_string_ F = some y) : CallG Tryz.prog 62 #[.slice none 0 0, .func (.func 56) #[] #[]] (X := Unit) (fun (_ : Unit) => .bool true) [] [] (fun (_ : Unit) => []) := by
  intro w hg
  rw [m_pglog_rising_api_Item_string_] at hm
  refine GS.start (S := mayT [] []) (mem := []) Tryz.func62 rfl Tryz.ntmps62 (Nat.le_of_ble_eq_true rfl) (hg.start rfl) ?_
  refine GS.conv (env' := [(0, .slice none 0 0), (1, .func (.func 56) #[] #[])]) rfl rfl ?_
  refine GS.seq ?_
  refine GS.region (env' := fun _ => [(0, .slice none 0 0), (1, .func (.func 56) #[] #[])]) (mem' := fun _ => []) (RunsTo.mk [] [0, 1] [] (fun _ => []) (fun _ => by kernel_rfl) (fun _ => trivial)) ?_
  intro _
  refine GS.seq ?_
  refine GS.seq ?_
  refine GS.region (env' := fun _ => [(0, .slice none 0 0), (1, .func (.func 56) #[] #[]), (5, .int .i64 1)]) (mem' := fun _ => []) (RunsTo.mk [] [0, 1, 5] [] (fun _ => []) (fun _ => by kernel_rfl) (fun _ => trivial)) ?_
  intro _
  refine GS.block ?_
  refine GS.loop ?_
  refine GS.seq ?_
  refine GS.seq ?_
  refine GS.region (env' := fun _ => [(0, .slice none 0 0), (1, .func (.func 56) #[] #[]), (5, .int .i64 1), (9, .bool false)]) (mem' := fun _ => []) (RunsTo.mk [] [0, 1, 5, 9] [] (fun _ => []) (fun _ => by kernel_rfl) (fun _ => trivial)) ?_
  intro _
  refine GS.cond (t := false) rfl rfl (fun hf => by cases hf) (fun _ => ?_)
  refine GS.exit rfl ?_
  refine GS.seq ?_
  refine GS.region (env' := fun _ => [(4, .bool true)]) (mem' := fun _ => []) (RunsTo.mk [] [4] [] (fun _ => []) (fun _ => by kernel_rfl) (fun _ => trivial)) ?_
  intro _
  have hy := Option.some.inj hm
  subst hy
  refine GS.ret (fn := Tryz.f62) [0] [.bool true] [] rfl Tryz.func62 (by kernel_rfl) trivial (fun w' hs => ?_)
  exact ⟨(), rfl, hs.turnedG (ks := []) rfl rfl⟩

theorem w_pglog_rising_api_Last_int_ (F : Nat) {y : Unit} (hm : m_pglog_rising_api_Last_int_ F = some y) : CallG Tryz.prog 63 #[.slice none 0 0, .func (.func 53) #[] #[]] (X := Unit) (fun (_ : Unit) => .bool true) [] [] (fun (_ : Unit) => []) := by
  intro w hg
  rw [m_pglog_rising_api_Last_int_] at hm
  refine GS.start (S := mayT [] []) (mem := []) Tryz.func63 rfl Tryz.ntmps63 (Nat.le_of_ble_eq_true rfl) (hg.start rfl) ?_
  refine GS.conv (env' := [(0, .slice none 0 0), (1, .func (.func 53) #[] #[])]) rfl rfl ?_
  refine GS.seq ?_
  refine GS.region (env' := fun _ => [(0, .slice none 0 0), (1, .func (.func 53) #[] #[])]) (mem' := fun _ => []) (RunsTo.mk [] [0, 1] [] (fun _ => []) (fun _ => by kernel_rfl) (fun _ => trivial)) ?_
  intro _
  refine GS.seq ?_
  refine GS.seq ?_
  refine GS.region (env' := fun _ => [(0, .slice none 0 0), (1, .func (.func 53) #[] #[]), (5, .int .i64 1)]) (mem' := fun _ => []) (RunsTo.mk [] [0, 1, 5] [] (fun _ => []) (fun _ => by kernel_rfl) (fun _ => trivial)) ?_
  intro _
  refine GS.block ?_
  refine GS.loop ?_
  refine GS.seq ?_
  refine GS.seq ?_
  refine GS.region (env' := fun _ => [(0, .slice none 0 0), (1, .func (.func 53) #[] #[]), (5, .int .i64 1), (9, .bool false)]) (mem' := fun _ => []) (RunsTo.mk [] [0, 1, 5, 9] [] (fun _ => []) (fun _ => by kernel_rfl) (fun _ => trivial)) ?_
  intro _
  refine GS.cond (t := false) rfl rfl (fun hf => by cases hf) (fun _ => ?_)
  refine GS.exit rfl ?_
  refine GS.seq ?_
  refine GS.region (env' := fun _ => [(4, .bool true)]) (mem' := fun _ => []) (RunsTo.mk [] [4] [] (fun _ => []) (fun _ => by kernel_rfl) (fun _ => trivial)) ?_
  intro _
  have hy := Option.some.inj hm
  subst hy
  refine GS.ret (fn := Tryz.f63) [0] [.bool true] [] rfl Tryz.func63 (by kernel_rfl) trivial (fun w' hs => ?_)
  exact ⟨(), rfl, hs.turnedG (ks := []) rfl rfl⟩

end Go.Proofs.YtjnbkhnebmlilaaGreat
