/-
 CHAPTER 18r: the functions do what their models say (12).
-/
import Derived.Test.YtjnbkhnebmlilaaE18r
set_option linter.unusedVariables false
set_option linter.unusedSimpArgs false
set_option maxRecDepth 100000
set_option maxHeartbeats 8000000
namespace Go.Proofs.Ytjnbkhnebmlilaa
open Go Go.RowKit Sx

theorem w___primary_Machine__Idle_5 (F u : Nat) (m n o p q r s t : Int) (d : Option Addr) (j : Nat) (l : List S_api_Entry) (a : Option Addr) (e : Nat) (h : List S_api_Last) (b : Option Addr) (f : Nat) (i : List S_api_Item) (c : Option Addr) (g : Nat) (k : Int) {y : Unit} (hm : m___primary_Machine__Idle_5 F m n o p q r s t l h i k = some y) : CallG Try.prog 8 #[pA u 0] (X := Unit) (fun (_ : Unit) => .bool true) [] [r52 d l,r80 a h,r76 b i,.rd c 46 [],.rd (some ⟨u,0,none⟩) 17 [(kc81 m n o p q r s t d l.length j a h.length e b i.length f c g k)]] (fun (_ : Unit) => []) := by
 intro w hg
 rw [m___primary_Machine__Idle_5] at hm
 refine GS.start (S := mayT [] [r52 d l,r80 a h,r76 b i,.rd c 46 [],.rd (some ⟨u,0,none⟩) 17 [(kc81 m n o p q r s t d l.length j a h.length e b i.length f c g k)]]) (mem := [(1,r52 d l),(2,r80 a h),(3,r76 b i),(4,.rd c 46 []),(5,.rd (some ⟨u,0,none⟩) 17 [(kc81 m n o p q r s t d l.length j a h.length e b i.length f c g k)])]) Try.func8 rfl Try.ntmps8 (Nat.le_of_ble_eq_true rfl) (hg.start rfl) ?_
 refine GS.conv (env' := [(0,pA u 0)]) rfl rfl ?_
 refine GS.seq ?_
 refine GS.tzM (fun _ => [(0,pA u 0)]) [] ?_
 intro _
 refine GS.seq ?_
 refine GS.tg (fun _ => [(2,.bool true)]) (fun _ => []) [(6,{ act := .load 5 0 16 [vI m,vI n,vI o,vI p,vI q,.slice none 0 0,vI r,vI s,vI t,.slice d l.length j,.slice a h.length e,.slice b i.length f,.slice c 0 g,.pointer none,.bool false,vI k,.bool true] }),(12,{ act := .load 5 0 13 [vI m,vI n,vI o,vI p,vI q,.slice none 0 0,vI r,vI s,vI t,.slice d l.length j,.slice a h.length e,.slice b i.length f,.slice c 0 g,.pointer none,.bool false,vI k,.bool true] })] (fun _ => [u = blk (some ⟨u,0,none⟩),16 = offs (some ⟨u,0,none⟩) + (0 * 17 + 16),([(kc81 m n o p q r s t d l.length j a h.length e b i.length f c g k)] : List (List Value))[0]? = some [vI m,vI n,vI o,vI p,vI q,.slice none 0 0,vI r,vI s,vI t,.slice d l.length j,.slice a h.length e,.slice b i.length f,.slice c 0 g,.pointer none,.bool false,vI k,.bool true],u = blk (some ⟨u,0,none⟩),13 = offs (some ⟨u,0,none⟩) + (0 * 17 + 13),([(kc81 m n o p q r s t d l.length j a h.length e b i.length f c g k)] : List (List Value))[0]? = some [vI m,vI n,vI o,vI p,vI q,.slice none 0 0,vI r,vI s,vI t,.slice d l.length j,.slice a h.length e,.slice b i.length f,.slice c 0 g,.pointer none,.bool false,vI k,.bool true]]) (fun _ => ⟨rfl,rfl,rfl,rfl,rfl,rfl,trivial⟩) ?_
 intro _
 have hy := Option.some.inj hm
 subst hy
 refine GS.ret (fn := Try.f8) [0] [.bool true] [] rfl Try.func8 (by kernel_rfl) trivial (fun w' hs => ?_)
 exact ⟨(),rfl,hs.turnedG (ks := []) rfl rfl⟩

end Go.Proofs.Ytjnbkhnebmlilaa
