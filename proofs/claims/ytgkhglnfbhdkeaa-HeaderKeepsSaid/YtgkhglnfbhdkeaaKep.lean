/- shallotref01.Kept of what was kept. -/
import Derived.Test.YtgkhglnfbhdkeaaSpa
namespace Go.Proofs.Ytgkhglnfbhdkeaa
open Go.RowKit

set_option maxRecDepth 100000 in
set_option maxHeartbeats 4000000 in
theorem kept_any (A B : Option Addr) (n c d : Nat) (l : List UInt8) (w : World) (h : Rd w A (n + 40) (u8s (l ++ spr n 40))) (h2 : Rd w B n (u8s l)) (hn : n ≤ 140737488351232) :
    Calls Try.prog 31 #[.slice A (n + 40) c, .slice B n d] w fun e w' => e = .returned (.bool true) ∧ ∃ q, w' = w.drewN q := by
  have hl := h2.len
  have HR := Lib.hid h
  have HB := Lib.hid h2
  have HL := Lib.hid hl
  clear h h2 hl
  go_enter Try.func31, Try.ntmps31
  go_wp2_with fail
  go_loopg [5] (n + 40) (fun kk q wr => ∃ i qq : Nat, i ≤ n + 40 ∧ kk = n + 40 - i ∧ q = .int .i64 (i : Int) ∧ wr = w.drewN qq)
  case atStart => exact ⟨0, 0, by omega, rfl, rfl, rfl⟩
  case round =>
    obtain ⟨i, qq, hi, hgk, rfl, rfl⟩ := hrel
    have HGK := Lib.hid hgk
    clear hgk
    by_cases hlt : i < n + 40
    · have hlt2 : (i : Int) < (n : Int) + 40 := by omega
      have hi0 : (0 : Int) ≤ (i : Int) := by omega
      obtain ⟨b1, o1, x, rfl, hb1, HX, cx⟩ := HR.out.u8 hlt
      by_cases hin : i < n
      · have hin2 : (i : Int) < (n : Int) := by omega
        obtain ⟨b2, o2, y, rfl, hb2, HY, cy⟩ := HB.out.u8 hin
        have hxy : y = x := by
          have h5 := HX.out
          rw [List.getElem?_append_left (by rw [HL.out]; exact hin), HY.out] at h5
          injection h5
        subst hxy
        have e1 : ((y.toNat : Int) != (y.toNat : Int)) = false := by simp
        have hge : ¬ (n : Int) ≤ (i : Int) := by omega
        have hdg : decide (n ≤ i) = false := decide_eq_false (by omega)
        have cx' : (w.drewN qq).cell? ⟨b1, o1 + i, none⟩ = some (.int .u8 y.toNat) := cx
        have cy' : (w.drewN qq).cell? ⟨b2, o2 + i, none⟩ = some (.int .u8 y.toNat) := cy
        go_wp2_with fail
        go_quiet (fail)
        go_wp2_with fail
        go_roundg (n + 40 - (i + 1))
        case measure => have := HGK.out; omega
        case rel => exact ⟨i + 1, qq + nq, by omega, rfl, by go_num, by first | rfl | rw [World.drewN_drewN]⟩
      · have hin2 : ¬ (i : Int) < (n : Int) := by omega
        have hge : (n : Int) ≤ (i : Int) := by omega
        have hdg : decide (n ≤ i) = true := decide_eq_true (by omega)
        obtain ⟨r, hr⟩ : ∃ r, r = i % 31 := ⟨_, rfl⟩
        have hx : x = UInt8.ofNat (160 + r) := by
          have h5 := HX.out
          rw [List.getElem?_append_right (by rw [HL.out]; omega), HL.out, spr_get n 40 _ (by omega), show n + (i - n) = i by omega] at h5
          injection h5 with h5
          rw [hr]
          exact h5.symm
        have hxn : ((x.toNat : Nat) : Int) = 160 + (r : Int) := by rw [hx, UInt8.toNat_ofNat']; omega
        have hm : (i : Int).tmod 31 = (r : Int) := by rw [Int.tmod_eq_emod_of_nonneg hi0]; omega
        have hw1 : IntKind.i64.wrap ((160 : Int) + (r : Int)) = 160 + (r : Int) := IntWalk.i64_in _ (by omega)
        have hw2 : IntKind.u8.wrap ((160 : Int) + (r : Int)) = 160 + (r : Int) := by rw [IntKind.wrap_u8]; omega
        rw [hxn] at cx
        have cx' : (w.drewN qq).cell? ⟨b1, o1 + i, none⟩ = some (.int .u8 (160 + (r : Int))) := cx
        have e1 : ((160 + (r : Int)) != (160 + (r : Int))) = false := by simp
        clear hx hxn hr
        go_wp2_with fail
        go_quiet (fail)
        clear hm hw1 hw2
        go_wp2_with fail
        go_roundg (n + 40 - (i + 1))
        case measure => have := HGK.out; omega
        case rel => exact ⟨i + 1, qq + nq, by omega, rfl, by go_num, by first | rfl | rw [World.drewN_drewN]⟩
    · obtain rfl : i = n + 40 := by omega
      have hlt2 : ¬ ((n + 40 : Nat) : Int) < (n : Int) + 40 := by omega
      go_wp2_with fail
      go_ret
      exact ⟨rfl, qq, rfl⟩
end Go.Proofs.Ytgkhglnfbhdkeaa
