/-
  CHAPTER 01: plain facts on the models: what is closed.
-/
import Derived.Test.YtmjlfdllpnkgoaaM01
set_option linter.unusedVariables false
set_option linter.unusedSimpArgs false
set_option maxRecDepth 1000000
namespace Go.Proofs.Ytmjlfdllpnkgoaa
open Go Go.RowKit Sx

theorem lives01 : m_tholelaw01_lives 1000 = some true := by kernel_rfl
theorem known01 : m_tholelaw01_DigestKnown 1000 = some true := by kernel_rfl

theorem law_none (b : List UInt8) : m_tholelaw01_DigestNone 1000 b = some true := by
  have h1 : m___digest_Engine__Crc_2 1000 b = some 0 := rfl
  have h2 : m___digest_Engine__Sha_2 1000 b = some (List.replicate 32 0) := rfl
  simp only [m_tholelaw01_DigestNone]
  rw [h1, Option.bind_some, h2, Option.bind_some, grd_pos _ (by simp)]
  have h3 : m___digest_Engine__Hash1_2 1000 1 = some 0 := rfl
  have h4 : m___digest_Engine__Hash2_2 1000 1 2 = some 0 := rfl
  have h5 : m___digest_Engine__Hash3_2 1000 1 2 3 = some 0 := rfl
  have h6 : m___digest_Engine__Name_2 1000 (ByteArray.mk #[97]) = some 0 := rfl
  have h7 : m___digest_Engine__Calls_2 1000 = some 0 := rfl
  rw [h3, Option.bind_some, h4, Option.bind_some, h5, Option.bind_some, h6, Option.bind_some, h7, Option.bind_some, lives01, Option.bind_some]
  simp

end Go.Proofs.Ytmjlfdllpnkgoaa
