/-
  CHAPTER 19, RecoveryNone: the law on its model.
-/
import Derived.Test.YtmhejmkelhflmaaM19
set_option linter.unusedVariables false
set_option linter.unusedSimpArgs false
set_option maxRecDepth 100000
namespace Go.Proofs.Ytmhejmkelhflmaa
open Go Go.RowKit Sx

theorem lives19 : m_tholelaw19_lives 64 = some () := by kernel_rfl

theorem law_none (a1 : Int) (a2 a3 : S_api_Node) (a4 a5 : Int) (a6 : S_api_Pg) (a7 a8 a9 : Int) (a10 a11 a12 : Nat) (a13 : S_api_Info) (a14 : Int) (a15 : S_api_Version) (a16 : List S_api_Entry) (a17 : List S_api_Last) (a18 : List S_api_Item) (a19 : S_api_Entry) (a20 : ByteArray) (a21 : S_api_Version) (a22 : List UInt8) (a23 : Int) (a24 : ByteArray) (a25 : List UInt8) (a26 : S_api_Version) (a27 : List S_api_Item) (a28 : List ByteArray) (a29 : Int) :
    m_tholelaw19_RecoveryNone 64 a1 a2 a3 a4 a5 a6 a7 a8 a9 a10 a11 a12 a13 a14 a15 a16 a17 a18 a19 a20 a21 a22 a23 a24 a25 a26 a27 a28 a29 = some true := by
  kernel_rfl
end Go.Proofs.Ytmhejmkelhflmaa
