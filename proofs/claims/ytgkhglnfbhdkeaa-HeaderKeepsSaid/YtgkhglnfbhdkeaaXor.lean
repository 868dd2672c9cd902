/- codec.Xor of two lists of one length. -/
import Derived.Test.YtgkhglnfbhdkeaaR46
namespace Go.Proofs.Ytgkhglnfbhdkeaa
open Go.RowKit

theorem xor_zeros (x : List UInt8) : Ch.xor (Ch.zeros x.length) x = x := by
  unfold Ch.xor Ch.zeros
  induction x with
  | nil => rfl
  | cons a x ih => simp [List.replicate_succ, ih]
theorem u8s_zeros (n : Nat) : u8s (Ch.zeros n) = rep n (.int .u8 0) := by simp [u8s, Ch.zeros, rep, u8]
/-- what stands there when i lists have been taken -/
def acc2 (n : Nat) (x y : List UInt8) : Nat → List UInt8
  | 0 => Ch.zeros n
  | 1 => x
  | _ => Ch.xor x y
theorem acc2_next {n : Nat} {x y l : List UInt8} {i : Nat} (hx : x.length = n) (h : [x, y][i]? = some l) : Ch.xor (acc2 n x y i) l = acc2 n x y (i + 1) := by
  match i with
  | 0 => simp at h; subst h; subst hx; exact xor_zeros _
  | 1 => simp at h; subst h; rfl
  | i + 2 => simp at h
theorem acc2_len {n : Nat} {x y : List UInt8} (hx : x.length = n) (hy : y.length = n) (i : Nat) : (acc2 n x y i).length = n := by
  match i with
  | 0 => simp [acc2, Ch.zeros]
  | 1 => exact hx
  | i + 2 => show (Ch.xor x y).length = n; rw [Ch.xor_len _ _ (by omega), hx]

set_option maxRecDepth 100000 in
set_option maxHeartbeats 4000000 in
theorem pxor_any (A : Option Addr) (c n : Nat) (x y : List UInt8) (w : World) (h : RdB w A 2 [x, y]) (hx : x.length = n) (hy : y.length = n) (hn : n ≤ 1000000) :
    Calls Try.prog 54 #[.slice A 2 c] w fun e w' => ∃ A' c', e = .returned (.tuple #[.slice A' n c', .int .i64 0]) ∧ n ≤ c' ∧ w'.ownsRow w.heap.size 5 1 (.slice A' n c') n (u8s (Ch.xor x y)) ∧ Below w.heap.size w w' := by
  have HX := Lib.hid hx
  have HY := Lib.hid hy
  have HR := Lib.hid h
  have h20 : ((2 : Nat) : Int) = 2 := rfl
  clear h hx hy
  go_enter Try.func54, Try.ntmps54
  go_wp2_with fail
  go_loopg [16] 2 (fun kk q wr => ∃ i : Nat, i ≤ 2 ∧ kk = 2 - i ∧ q = .int .i64 i ∧ w = wr)
  case atStart => exact ⟨0, by omega, rfl, rfl, rfl⟩
  case round =>
    obtain ⟨i, hi, hgk, rfl, rfl⟩ := hrel
    have HGK := Lib.hid hgk
    clear hgk
    obtain ⟨b, off, A1, n1, c1, l, rfl, hb, HL, hcl, hnc, hr1⟩ := HR.out.at_ (k := 0) (by omega)
    have hl : l = x := by have := HL.out; simp at this; exact this.symm
    subst hl
    obtain rfl : n1 = n := by rw [← hr1.len, HX.out]
    rw [Nat.add_zero] at hcl
    obtain rfl | rfl | rfl : i = 0 ∨ i = 1 ∨ i = 2 := by omega
    · have hlt2 : ((0 : Nat) : Int) < ((2 : Nat) : Int) := by omega
      clear HL hr1
      go_wp2_with fail
      go_roundg (2 - (0 + 1))
      case measure => have := HGK.out; omega
      case rel => exact ⟨0 + 1, by omega, rfl, by go_num, rfl⟩
    · have hlt2 : ((1 : Nat) : Int) < ((2 : Nat) : Int) := by omega
      have h1b : ((1 : Nat) : Int) = 1 := rfl
      obtain ⟨b2, off2, A2, n2, c2, l2, e2, _, HL2, hcl2, _, hr2⟩ := HR.out.at_ (k := 1) (by omega)
      injection e2 with e2
      injection e2 with e2 e3
      subst e2
      subst e3
      have hl : l2 = y := by have := HL2.out; simp at this; exact this.symm
      subst hl
      obtain rfl : n2 = n1 := by rw [← hr2.len, HY.out]
      clear HL hr1 HL2 hr2
      go_wp2_with fail
      go_roundg (2 - (1 + 1))
      case measure => have := HGK.out; omega
      case rel => exact ⟨1 + 1, by omega, rfl, by go_num, rfl⟩
    · have hlt2 : ¬ ((2 : Nat) : Int) < ((2 : Nat) : Int) := by omega
      clear HL hr1
      go_wp2_with (refine wpList_make1 rfl (.tmp 31) (.tmp 31) 22 rfl 5 (.int .u8 0) 1 Try.underlying22 iU8 rfl .i64 .i64 (n1 : Int) (n1 : Int) (by rfl) (by rfl) n1 n1 rfl rfl (by omega) (by omega) (by omega) ?_
                   intro w2 hb2 hg2 hs2
                   have HO2 : Hid (w2.ownsRow w.heap.size 5 1 (.slice (some ⟨w.heap.size, 0, none⟩) n1 n1) n1 (u8s (acc2 n1 l y 0))) := (by have h5 := own_of_blk hb2 (Nat.le_refl _) n1 n1 1 (Nat.le_refl _) (by simp [rep_length]) (by omega); rw [List.take_of_length_le (by simp [rep_length])] at h5; rw [show u8s (acc2 n1 l y 0) = rep n1 (.int .u8 0) from u8s_zeros n1]; exact h5)
                   have HB2 : Hid (Below w.heap.size w w2) := grown_below hg2
                   clear hb2 hg2 hs2)
      go_loopg [35] 2 (fun kk q wr => ∃ i : Nat, i ≤ 2 ∧ kk = 2 - i ∧ q = .int .i64 i ∧ wr.ownsRow w.heap.size 5 1 (.slice (some ⟨w.heap.size, 0, none⟩) n1 n1) n1 (u8s (acc2 n1 l y i)) ∧ Below w.heap.size w wr)
      case atStart => exact ⟨0, by omega, rfl, rfl, HO2.out, HB2.out⟩
      case round =>
        clear HO2 HB2
        obtain ⟨i, hi, hgk2, rfl, hown, hB⟩ := hrel
        have HGK2 := Lib.hid hgk2
        clear hgk2
        by_cases hlt : i < 2
        · have hlt3 : (i : Int) < 2 := by omega
          obtain ⟨b2, off2, A2, n2, c2, l2, e2, hb2, HL2, hcl2, _, hr2⟩ := HR.out.at_ (k := i) hlt
          injection e2 with e2
          injection e2 with e2 e3
          subst e2
          subst e3
          have HACC := Lib.hid (acc2_next (n := n1) HX.out HL2.out)
          have hal := acc2_len HX.out HY.out i
          have hl2l : l2.length = n1 := by
            have h6 := HL2.out
            obtain rfl | rfl : i = 0 ∨ i = 1 := by omega
            · simp at h6; rw [← h6]; exact HX.out
            · simp at h6; rw [← h6]; exact HY.out
          obtain rfl : n2 = n1 := by rw [← hr2.len, hl2l]
          obtain ⟨X, hXe⟩ : ∃ X, X = acc2 n2 l y i := ⟨_, rfl⟩
          rw [← hXe] at hown hal HACC
          have HXY : Hid (X.length = l2.length) := by show _ = _; rw [hal, hl2l]
          have HAL := Lib.hid hal
          have HO0 : Hid (wr.ownsRow w.heap.size 5 1 (.slice (some ⟨w.heap.size, 0, none⟩) n2 n2) n2 (u8s (mixed X l2 0))) := by show World.ownsRow _ _ _ _ _ _ _; rw [mixed_0]; exact hown
          have HME : Hid (mixed X l2 n2 = acc2 n2 l y (i + 1)) := by show _ = _; rw [← HACC.out, ← HAL.out]; exact mixed_end X l2 HXY.out
          have hcl4 : wr.cell? ⟨b, off + i, none⟩ = some (.slice A2 n2 c2) := (hB.cell (p := ⟨b, off + i, none⟩) hb2).trans hcl2
          have HBE := Lib.hid hB
          have HR2 := Lib.hid hr2
          clear HL2 hcl2 hr2 hXe hown hal HACC hB hl2l
          go_wp2_with fail
          go_loopg [41] n2 (fun kk q wr => ∃ j : Nat, j ≤ n2 ∧ kk = n2 - j ∧ q = .int .i64 j ∧ wr.ownsRow w.heap.size 5 1 (.slice (some ⟨w.heap.size, 0, none⟩) n2 n2) n2 (u8s (mixed X l2 j)) ∧ Below w.heap.size w wr)
          case atStart => exact ⟨0, by omega, rfl, rfl, HO0.out, HBE.out⟩
          case round =>
            clear HO0 HBE hcl4
            obtain ⟨j, hj, hjk, rfl, hown, hB⟩ := hrel
            have HJK := Lib.hid hjk
            clear hjk
            by_cases hlt4 : j < n2
            · have hlt5 : (j : Int) < (n2 : Int) := by omega
              obtain ⟨g5, o5, v, rfl, hbl, HV, cv⟩ := (HR2.out.below hB).u8 hlt4
              obtain ⟨u, hu⟩ : ∃ u, X[j]? = some u := ⟨_, List.getElem?_eq_getElem (by rw [HAL.out]; exact hlt4)⟩
              have HU := Lib.hid hu
              have hml := mixed_len X l2 j HXY.out
              have cu : wr.cell? ⟨w.heap.size, j, none⟩ = some (.int .u8 u.toNat) := (hown.cellAt j (by omega)).trans (by rw [u8s_getElem?, mixed_get X l2 j HXY.out (by rw [HAL.out]; exact hlt4), hu]; rfl)
              have fu := hown.frozenAt j
              have hst := (hown.stored j (.int .u8 (u ^^^ v).toNat)).1
              rw [u8s_set, mixed_set X l2 j HXY.out hu HV.out] at hst
              have HST := Lib.hid hst
              have HB3 := Lib.hid (hB.setCell (p := ⟨w.heap.size, j, none⟩) (Nat.le_refl _) (.int .u8 (u ^^^ v).toNat))
              have HXR := Lib.hid (w8_xor u v)
              clear hst hown hml hu hB
              go_wp2_with fail
              rw [HXR.out]
              go_roundg (n2 - (j + 1))
              case measure => have := HJK.out; omega
              case rel => exact ⟨j + 1, by omega, rfl, by go_num, HST.out, HB3.out⟩
            · obtain rfl : j = n2 := by omega
              have hlt5 : ¬ (j : Int) < (j : Int) := by omega
              rw [HME.out] at hown
              have HO := Lib.hid hown
              clear hown
              go_wp2_with fail
              go_roundg (2 - (i + 1))
              case measure => have := HGK2.out; omega
              case rel => exact ⟨i + 1, by omega, rfl, by go_num, HO.out, hB⟩
        · obtain rfl : i = 2 := by omega
          have hlt3 : ¬ ((2 : Nat) : Int) < 2 := by omega
          have HO : Hid (wr.ownsRow w.heap.size 5 1 (.slice (some ⟨w.heap.size, 0, none⟩) n1 n1) n1 (u8s (Ch.xor l y))) := hown
          clear hown
          go_wp2_with fail
          go_ret2
          exact ⟨_, _, rfl, Nat.le_refl _, HO.out, hB⟩
end Go.Proofs.Ytgkhglnfbhdkeaa
