/- mac.Check. -/
import Derived.Test.YtgkhglnfbhdkeaaSam
import Derived.Test.YtgkhglnfbhdkeaaMcQ
namespace Go.Proofs.Ytgkhglnfbhdkeaa
open Go.RowKit

set_option maxHeartbeats 1000000 in
theorem check_any (A : Option Addr) (n c : Nat) (k : List UInt8) (T : Option Addr) (nt ct : Nat) (tag : List UInt8) (A2 : Option Addr) (n2 c2 : Nat) (ls : List (List UInt8)) (w : World)
    (HS : Calls Try.prog 48 #[.slice A n c, .slice A2 n2 c2] w fun e w' => ∃ A' c', e = .returned (.slice A' 16 c') ∧ Rd w' A' 16 (u8s ((Mc.tag k ls.flatten).take 16)) ∧ Below w.heap.size w w') (ht : Rd w T nt (u8s tag)) :
    Calls Try.prog 49 #[.slice A n c, .slice T nt ct, .slice A2 n2 c2] w fun e w' => e = .returned (.bool (decide ((Mc.tag k ls.flatten).take 16 = tag))) ∧ Below w.heap.size w w' := by
  have HSH := Lib.hid HS
  have HT := Lib.hid ht
  clear HS ht
  go_enter Try.func49, Try.ntmps49
  go_wp2_with (first
    | (go_at_call 48; (with_reducible refine HSH.out.mono ?_); rintro e w1 ⟨A1, c1, rfl, hr1, hB1⟩
       have HE1 := Lib.hid hB1
       have HR1 := Lib.hid hr1
       have HT1 := Lib.hid (HT.out.below hB1)
       clear hr1 hB1)
    | (go_at_call 71; (with_reducible refine (csame_any A1 T 16 nt c1 ct _ tag _ (by exact HR1.out) (by exact HT1.out) (by omega)).mono ?_); rintro e w2 ⟨rfl, q2, rfl⟩))
  go_ret
  exact ⟨rfl, below_drewN HE1.out q2⟩
theorem mcheck_any (A : Option Addr) (n c : Nat) (k : List UInt8) (T : Option Addr) (nt ct : Nat) (tag : List UInt8) (A2 : Option Addr) (n2 c2 : Nat) (ls : List (List UInt8)) (w : World)
    (h : Rd w A n (u8s k)) (hc : n ≤ c) (hn : n ≤ 1000000000) (h2 : RdB w A2 n2 ls) (hn2 : n2 ≤ 1000000) (hl : ls.flatten.length ≤ 100000000) (ht : Rd w T nt (u8s tag)) :
    Calls Try.prog 49 #[.slice A n c, .slice T nt ct, .slice A2 n2 c2] w fun e w' => e = .returned (.bool (decide ((Mc.tag k ls.flatten).take 16 = tag))) ∧ Below w.heap.size w w' := by
  refine check_any A n c k T nt ct tag A2 n2 c2 ls w ((short_any A n c k A2 n2 c2 ls w h hc hn h2 hn2 hl).mono ?_) ht
  rintro e w' ⟨g, rfl, _, hb, hB⟩
  have h6 := hb.rdAll
  rw [List.length_take, Mc.tag_len] at h6
  exact ⟨_, _, rfl, h6, hB⟩
end Go.Proofs.Ytgkhglnfbhdkeaa
