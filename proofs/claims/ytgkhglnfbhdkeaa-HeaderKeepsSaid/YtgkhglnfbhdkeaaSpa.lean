/- shallotref01.Spare. -/
import Derived.Test.YtgkhglnfbhdkeaaStp
namespace Go.Proofs.Ytgkhglnfbhdkeaa
open Go.RowKit

/-- the marked room behind n bytes, k of it -/
def spr (n : Nat) : Nat → List UInt8
  | 0 => []
  | k + 1 => spr n k ++ [UInt8.ofNat (160 + (n + k) % 31)]
theorem spr_len (n k : Nat) : (spr n k).length = k := by
  induction k with
  | zero => rfl
  | succ k ih => simp [spr, ih]
theorem spr_get (n k i : Nat) (h : i < k) : (spr n k)[i]? = some (UInt8.ofNat (160 + (n + i) % 31)) := by
  induction k with
  | zero => omega
  | succ k ih =>
    unfold spr
    by_cases hik : i < k
    · rw [List.getElem?_append_left (by rw [spr_len]; exact hik)]
      exact ih hik
    · obtain rfl : i = k := by omega
      rw [List.getElem?_append_right (by rw [spr_len]; exact Nat.le_refl _), spr_len, Nat.sub_self]
      rfl
def spU (l : List UInt8) (n k : Nat) : List UInt8 := l ++ (spr n k ++ List.replicate (40 - k) 0)
theorem spU_len (l : List UInt8) (n k : Nat) (h : k ≤ 40) : (spU l n k).length = l.length + 40 := by simp [spU, spr_len]; omega
theorem spU_set (l : List UInt8) (n k : Nat) (hl : l.length = n) (h : k < 40) : (spU l n k).set (n + k) (UInt8.ofNat (160 + (n + k) % 31)) = spU l n (k + 1) := by
  unfold spU
  rw [List.set_append_right _ _ (by omega), hl, Nat.add_sub_cancel_left, List.set_append_right _ _ (by rw [spr_len]; exact Nat.le_refl _), spr_len, Nat.sub_self,
    show 40 - k = (40 - (k + 1)) + 1 by omega, List.replicate_succ, List.set_cons_zero, spr, List.append_assoc]
  rfl
theorem spU_zero (l : List UInt8) (n : Nat) : spU l n 0 = l ++ List.replicate 40 0 := by simp [spU, spr]
theorem spU_end (l : List UInt8) (n : Nat) : spU l n 40 = l ++ spr n 40 := by simp [spU]

set_option maxRecDepth 100000 in
set_option maxHeartbeats 4000000 in
theorem spare_any (A : Option Addr) (n c : Nat) (l : List UInt8) (w : World) (h : Rd w A n (u8s l)) (hn : n ≤ 140737488351232) :
    Calls Try.prog 29 #[.slice A n c] w fun e w' => e = .returned (.tuple #[.slice (some ⟨w.heap.size, 0, none⟩) n (n + 40), .slice (some ⟨w.heap.size, 0, none⟩) (n + 40) (n + 40)]) ∧ Blk w' w.heap.size 5 (u8s (l ++ spr n 40)) ∧ Below w.heap.size w w' := by
  have hl := h.len
  have HR := Lib.hid h
  have HL := Lib.hid hl
  have HSP : Hid (splice (rep (n + 40) (.int .u8 0)) 0 ((u8s l).take (n + 40)) = u8s (spU l n 0)) := by
    show _ = _
    rw [List.take_of_length_le (by rw [u8s_length]; omega), spU_zero, u8s_append]
    unfold splice rep
    rw [List.take_zero, List.nil_append, Nat.zero_add, u8s_length, hl, List.drop_replicate, show n + 40 - n = 40 by omega]
    simp [u8s, u8]
  clear h hl
  go_enter Try.func29, Try.ntmps29
  go_wp2_with (first
    | (at_make; refine wpList_make1 rfl (.tmp 8) (.tmp 8) 22 rfl 5 (.int .u8 0) 1 Try.underlying22 iU8 rfl .i64 .i64 ((n : Int) + 40) ((n : Int) + 40) (by rfl) (by rfl) (n + 40) (n + 40) rfl rfl (by omega) (by omega) (by omega) ?_
       intro w1 hb1 hg1 hs1
       have HB1 := Lib.hid hb1
       have HE1 := Lib.hid (grown_below hg1)
       have hs1a := Nat.le_of_eq hs1.symm
       clear hb1 hg1 hs1)
    | (refine wpList_copy rfl (.tmp 10) (.tmp 11) 22 rfl 5 Try.underlying22 u8_one1 w.heap.size 0 (n + 40) (n + 40) (by rfl) A n c (by rfl) 5 _ HB1.out (u8s l) (by exact HR.out.below HE1.out) (u8s_one _) (by rw [rep_length]; omega) ?_
       intro w2 hb2 ho2
       rw [HSP.out] at hb2
       have HB2 := Lib.hid hb2
       have HE2 := Lib.hid (ho2.below HE1.out (Nat.le_refl _) HE1.out.size)
       clear hb2 ho2))
  go_loopg [5] 40 (fun kk q wr => ∃ k : Nat, k ≤ 40 ∧ kk = 40 - k ∧ q = .int .i64 ((n + k : Nat) : Int) ∧ Blk wr w.heap.size 5 (u8s (spU l n k)) ∧ Below w.heap.size w wr)
  case atStart => exact ⟨0, by omega, rfl, rfl, HB2.out, HE2.out⟩
  case round =>
    clear HB1 HE1 HB2 HE2
    obtain ⟨k, hk, hgk, rfl, hb, hB⟩ := hrel
    have HGK := Lib.hid hgk
    clear hgk
    by_cases hlt : k < 40
    · obtain ⟨i, hi⟩ : ∃ i, i = n + k := ⟨_, rfl⟩
      rw [← hi]
      have hlt2 : (i : Int) < (n : Int) + 40 := by omega
      obtain ⟨r, hr⟩ : ∃ r, r = i % 31 := ⟨_, rfl⟩
      have hri : (i : Int) % 31 = (r : Int) := by omega
      have hr0 : (0 : Int) ≤ (r : Int) := by omega
      have hr1 : (r : Int) < 31 := by omega
      have hi0 : (0 : Int) ≤ (i : Int) := by omega
      have HST := Lib.hid (spU_set l n k HL.out hlt)
      rw [← hi, ← hr] at HST
      have HVL : Hid ((160 : Int) + (r : Int) = ((UInt8.ofNat (160 + r)).toNat : Int)) := by show _ = _; rw [UInt8.toNat_ofNat']; omega
      obtain ⟨x, hx⟩ : ∃ x, (spU l n k)[i]? = some x := ⟨_, List.getElem?_eq_getElem (by rw [spU_len _ _ _ hk, HL.out]; omega)⟩
      have cx : wr.cell? ⟨w.heap.size, i, none⟩ = some (.int .u8 x.toNat) := by rw [hb.cell, u8s_getElem?, hx]; rfl
      have fx := hb.frozen i
      have hb2 := Lib.hid (hb.set_ i (.int .u8 (UInt8.ofNat (160 + r)).toNat))
      rw [u8s_set, HST.out] at hb2
      have HE2 := Lib.hid (hB.setCell (p := ⟨w.heap.size, i, none⟩) (Nat.le_refl _) (.int .u8 (UInt8.ofNat (160 + r)).toNat))
      have HII := Lib.hid hi
      clear hx hb hB hr hi
      go_wp2_with fail
      rw [HVL.out]
      go_roundg (40 - (k + 1))
      case measure => have := HGK.out; omega
      case rel => exact ⟨k + 1, by omega, rfl, by have := HII.out; first | go_num | (congr 1; omega), hb2.out, HE2.out⟩
    · obtain rfl : k = 40 := by omega
      have hlt2 : ¬ ((n + 40 : Nat) : Int) < (n : Int) + 40 := by omega
      rw [spU_end] at hb
      go_wp2_with fail
      go_ret2
      exact ⟨rfl, hb, hB⟩
end Go.Proofs.Ytgkhglnfbhdkeaa
