/-
  CHAPTER 18, PrimaryOnce: plain facts: an entry at the log's end, by the code and by the document.
-/
import Derived.Test.YtjnbkhnebmlilaaGreatP18oc
set_option linter.unusedVariables false
set_option linter.unusedSimpArgs false
set_option maxRecDepth 100000
namespace Go.Proofs.YtjnbkhnebmlilaaGreat
open Go Go.RowKit Sx

def lastOf (e : Ent13) : Lst := S_api_Last.mk e.Client e.Number e.Errno e.Version
def itemOf (e : Ent13) (crc : Int) : Itm := S_api_Item.mk e.Name e.Version crc
def bad1 (s : Stt) (e : Ent13) : Bool := decide (vcmp e.Version (headF s.tail s.log) ≤ 0) || (decide (e.Client < 0) || decide (e.Number < 0))
def bad3 (s : Stt) (e : Ent13) : Bool := (e.Errno == 0) && (!e.Remove && (!(findF s.items e.Name).2 && decide (((s.items.length : Nat) : Int) ≥ 32)))
def itemsF (s : Stt) (e : Ent13) (crc : Int) : List Itm := bif e.Errno != 0 then s.items else putG oS kI (itemOf e crc) e.Remove s.items
def appF (s : Stt) (e : Ent13) (crc : Int) : Int × Ver × List Ent13 × List Lst × List Itm × Int :=
  bif bad1 s e then (0, S_api_Version.mk 0 0, [], [], [], 22) else bif !goodB e.Name then (0, S_api_Version.mk 0 0, [], [], [], 36) else bif bad3 s e then (0, S_api_Version.mk 0 0, [], [], [], 28)
  else (s.les, s.tail, s.log ++ [e], putG oZ kC (lastOf e) false s.lasts, itemsF s e crc, 0)

theorem m_append (F : Nat) (s : Stt) (e : Ent13) (crc : Int) (hs : s.Small 2000000) (hn : e.Name.size ≤ 9223372036854775807) (hL : Ris oZ kC s.lasts) (hI : Ris oS kI s.items) :
    m_pglog_Append (F + 64) s.les s.tail s.log s.lasts s.items e crc = some (appF s e crc) := by
  have hl := hs.log
  have hla := hs.lasts
  have hi := hs.items
  have hs2 : s.Small 33554432 := ⟨by omega, by omega, by omega⟩
  unfold appF
  rw [m_pglog_Append, m_find _ s _ (by omega), Option.bind_some]
  rw [jn_to (bad1 s e) (fun J => by
    rw [m_head _ s (by omega), Option.bind_some, m_cmp, Option.bind_some, bad1]
    cases decide (vcmp e.Version (headF s.tail s.log) ≤ 0) <;> cases decide (e.Client < 0) <;> rfl)]
  cases bad1 s e with
  | true => rfl
  | false =>
  rw [cond_false, cond_false, m_good _ _ hn, Option.bind_some]
  cases goodB e.Name with
  | false => rfl
  | true =>
  rw [Bool.not_true, cond_false, cond_false]
  rw [jn_to (bad3 s e) (fun J => by
    rw [bad3]
    cases e.Errno == 0 <;> cases e.Remove <;> cases (findF s.items e.Name).2 <;> rfl)]
  cases bad3 s e with
  | true => rfl
  | false =>
  rw [cond_false, cond_false, m_copy _ s hs2, Option.bind_some]
  dsimp only
  rw [grd_pos _ (App64 (by simp only [List.length_append, List.length_cons, List.length_nil]; omega)), m_lookL F s.lasts e.Client (by omega) hL, Option.bind_some]
  have ha := atK_le oZ kC e.Client s.lasts
  rw [jn_to (putG oZ kC (lastOf e) false s.lasts) (fun J => by
    rw [putG_put oZ kC (lastOf e) s.lasts hL]
    dsimp only
    rw [show kC (lastOf e) = e.Client from rfl]
    cases hh : hasK oZ kC e.Client s.lasts with
    | true =>
      have := hasK_lt oZ kC e.Client s.lasts hh
      rw [cond_true, cond_true, grd_pos _ (by unfold Ix; simp; omega), Int.toNat_natCast]; rfl
    | false =>
      rw [cond_false, cond_false, grd_pos _ List.length_singleton, grd_pos _ (by omega), Int.toNat_natCast, grd_pos _ ha, grd_pos _ (App40 (by omega))]; rfl)]
  rw [itemsF]
  cases e.Errno != 0 with
  | true => rfl
  | false =>
  rw [cond_false, cond_false, m_lookI F s.items e.Name (by omega) hI, Option.bind_some]
  have hb := atK_le oS kI e.Name.toList s.items
  have hkk : kI (itemOf e crc) = e.Name.toList := rfl
  cases hr : e.Remove with
  | true =>
    rw [putG_del oS kI (itemOf e crc) s.items hI, hkk]
    rw [jn_to (hasK oS kI e.Name.toList s.items) (fun J => by rw [cond_true])]
    cases hh : hasK oS kI e.Name.toList s.items with
    | false => rfl
    | true =>
      have hlt := hasK_lt oS kI e.Name.toList s.items hh
      dsimp only
      rw [cond_true, cond_true, grd_pos _ (by unfold I64; omega), m_slices_Delete___api_Item_api_Item_]
      have e1 : Int.toNat (((atK oS kI e.Name.toList s.items : Nat) : Int) + 1) = atK oS kI e.Name.toList s.items + 1 := by omega
      rw [grd_pos _ (by unfold Bd; omega), grd_pos _ (by unfold Bd; omega)]
      rw [show ((((atK oS kI e.Name.toList s.items : Nat) : Int)) == (((atK oS kI e.Name.toList s.items : Nat) : Int) + 1)) = false from by simp; omega, cond_false]
      rw [e1, Int.toNat_natCast, grd_pos _ (by unfold Bd; simp; omega), grd_pos _ (App40 (by omega)), grd_pos _ (by omega), grd_pos _ (by simp; omega)]
      rfl
  | false =>
    rw [putG_put oS kI (itemOf e crc) s.items hI, hkk]
    rw [jn_to false (fun J => by rw [cond_false])]
    dsimp only
    rw [cond_false, cond_false]
    cases hh : hasK oS kI e.Name.toList s.items with
    | true =>
      have := hasK_lt oS kI e.Name.toList s.items hh
      rw [cond_true, cond_true, grd_pos _ (by unfold Ix; simp; omega), Int.toNat_natCast]; rfl
    | false =>
      rw [cond_false, cond_false, grd_pos _ List.length_singleton, grd_pos _ (by omega), Int.toNat_natCast, grd_pos _ hb, grd_pos _ (App40 (by omega))]; rfl

end Go.Proofs.YtjnbkhnebmlilaaGreat
