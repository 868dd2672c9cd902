/- codec.Put: numbers as bytes, the greatest first. -/
import Derived.Test.YtgkhglnfbhdkeaaGet
import Derived.Test.YtgkhglnfbhdkeaaShR
namespace Go.Proofs.Ytgkhglnfbhdkeaa
open Go.RowKit

theorem beBytes_len (n k : Nat) : (Sh.beBytes n k).length = k := by
  induction k with
  | zero => rfl
  | succ k ih => simp [Sh.beBytes, ih]
theorem shift_byte (n i : Nat) : (n : Int) / 2 ^ (8 * i) % 256 = ((UInt8.ofNat (n / 256 ^ i)).toNat : Int) := by
  have e1 : (n : Int) / 2 ^ (8 * i) = ((n / 256 ^ i : Nat) : Int) := by
    have : ((2 : Int) ^ (8 * i)) = ((256 ^ i : Nat) : Int) := by rw [Int.pow_mul]; simp
    rw [this]; rfl
  rw [e1, UInt8.toNat_ofNat']
  omega
/-- behind i bytes -/
def putI (n k i : Nat) : List UInt8 := List.replicate (k - i) 0 ++ Sh.beBytes n i
theorem putI_len (n k i : Nat) (h : i ≤ k) : (putI n k i).length = k := by simp [putI, beBytes_len]; omega
theorem putI_set (n k i p : Nat) (h : i < k) (hp : p = k - 1 - i) : (putI n k i).set p (UInt8.ofNat (n / 256 ^ i)) = putI n k (i + 1) := by
  subst hp
  unfold putI
  rw [show k - i = (k - (i + 1)) + 1 by omega, List.replicate_succ', List.append_assoc, List.set_append_right _ _ (by simp; omega)]
  simp [Sh.beBytes, show k - 1 - i - (k - (i + 1)) = 0 by omega]

set_option maxRecDepth 100000 in
set_option maxHeartbeats 1000000 in
theorem put_2 (n : Nat) (w : World) (_hn : n < 18446744073709551616) (hf : n < 65536) :
    Calls Try.prog 58 #[.int .i64 2, .int .i64 2, .int .u64 (n : Int)] w fun e w' => e = .returned (.tuple #[.slice (some ⟨w.heap.size, 0, none⟩) 2 2, .int .i64 0]) ∧ Blk w' w.heap.size 5 (u8s (Sh.beBytes n 2)) ∧ Below w.heap.size w w' := by
  have hz : ((n : Int) / 65536 != 0) = false := by rw [bne_eq_false_iff_eq]; omega
  go_enter Try.func58, Try.ntmps58
  go_wp2_with (first
    | (go_at_call 56; go_in)
    | (refine wpList_make1 rfl (.tmp 25) (.tmp 25) 22 rfl 5 (.int .u8 0) 1 Try.underlying22 iU8 rfl .i64 .i64 2 2 (by rfl) (by rfl) 2 2 rfl rfl (by omega) (by omega) (by omega) ?_
       intro w1 hb1 hg1 hs1
       have HB1 : Hid (Blk w1 w.heap.size 5 (u8s (putI n 2 0))) := hb1
       have HE1 : Hid (Below w.heap.size w w1) := grown_below hg1
       clear hb1 hg1 hs1))
  go_loopg [29] 2 (fun kk q wr => ∃ i : Nat, i ≤ 2 ∧ kk = 2 - i ∧ q = .int .i64 i ∧ Blk wr w.heap.size 5 (u8s (putI n 2 i)) ∧ Below w.heap.size w wr)
  case atStart => exact ⟨0, by omega, rfl, rfl, HB1.out, HE1.out⟩
  case round =>
    clear HB1 HE1
    obtain ⟨i, hi, hgk, rfl, hb, hB⟩ := hrel
    have HGK := Lib.hid hgk
    clear hgk
    by_cases hlt : i < 2
    · have hlt2 : (i : Int) < 2 := by omega
      obtain ⟨p, hp⟩ : ∃ p, p = 2 - 1 - i := ⟨_, rfl⟩
      have hpi : (1 : Int) - (i : Int) = (p : Int) := by omega
      have hp0 : (0 : Int) ≤ (p : Int) := by omega
      have hp1 : (p : Int) < 2 := by omega
      have HS := Lib.hid (putI_set n 2 i p hlt hp)
      have hpl := putI_len n 2 i hi
      obtain ⟨x, hx⟩ : ∃ x, (putI n 2 i)[p]? = some x := ⟨_, List.getElem?_eq_getElem (by omega)⟩
      have cx : wr.cell? ⟨w.heap.size, p, none⟩ = some (.int .u8 x.toNat) := by rw [hb.cell, u8s_getElem?, hx]; rfl
      have fx := hb.frozen p
      have HSB := Lib.hid (shift_byte n i)
      have hb2 := Lib.hid (hb.set_ p (.int .u8 (UInt8.ofNat (n / 256 ^ i)).toNat))
      rw [u8s_set, HS.out] at hb2
      have hB2 := Lib.hid (hB.setCell (p := ⟨w.heap.size, p, none⟩) (Nat.le_refl _) (.int .u8 (UInt8.ofNat (n / 256 ^ i)).toNat))
      have hgl := hb.lt
      clear hx hpl hb hp
      go_wp2_with fail
      rw [HSB.out]
      go_roundg (2 - (i + 1))
      case measure => have := HGK.out; omega
      case rel => exact ⟨i + 1, by omega, rfl, by go_num, hb2.out, hB2.out⟩
    · obtain rfl : i = 2 := by omega
      have hlt2 : ¬ ((2 : Nat) : Int) < 2 := by omega
      have HB := Lib.hid hb
      rw [show putI n 2 2 = Sh.beBytes n 2 from rfl] at HB
      clear hb
      go_wp2_with fail
      go_ret2
      exact ⟨rfl, HB.out, hB⟩

set_option maxRecDepth 100000 in
set_option maxHeartbeats 1000000 in
theorem put_4 (n : Nat) (w : World) (_hn : n < 18446744073709551616) (hf : n < 4294967296) :
    Calls Try.prog 58 #[.int .i64 2, .int .i64 4, .int .u64 (n : Int)] w fun e w' => e = .returned (.tuple #[.slice (some ⟨w.heap.size, 0, none⟩) 4 4, .int .i64 0]) ∧ Blk w' w.heap.size 5 (u8s (Sh.beBytes n 4)) ∧ Below w.heap.size w w' := by
  have hz : ((n : Int) / 4294967296 != 0) = false := by rw [bne_eq_false_iff_eq]; omega
  go_enter Try.func58, Try.ntmps58
  go_wp2_with (first
    | (go_at_call 56; go_in)
    | (refine wpList_make1 rfl (.tmp 25) (.tmp 25) 22 rfl 5 (.int .u8 0) 1 Try.underlying22 iU8 rfl .i64 .i64 4 4 (by rfl) (by rfl) 4 4 rfl rfl (by omega) (by omega) (by omega) ?_
       intro w1 hb1 hg1 hs1
       have HB1 : Hid (Blk w1 w.heap.size 5 (u8s (putI n 4 0))) := hb1
       have HE1 : Hid (Below w.heap.size w w1) := grown_below hg1
       clear hb1 hg1 hs1))
  go_loopg [29] 4 (fun kk q wr => ∃ i : Nat, i ≤ 4 ∧ kk = 4 - i ∧ q = .int .i64 i ∧ Blk wr w.heap.size 5 (u8s (putI n 4 i)) ∧ Below w.heap.size w wr)
  case atStart => exact ⟨0, by omega, rfl, rfl, HB1.out, HE1.out⟩
  case round =>
    clear HB1 HE1
    obtain ⟨i, hi, hgk, rfl, hb, hB⟩ := hrel
    have HGK := Lib.hid hgk
    clear hgk
    by_cases hlt : i < 4
    · have hlt2 : (i : Int) < 4 := by omega
      obtain ⟨p, hp⟩ : ∃ p, p = 4 - 1 - i := ⟨_, rfl⟩
      have hpi : (3 : Int) - (i : Int) = (p : Int) := by omega
      have hp0 : (0 : Int) ≤ (p : Int) := by omega
      have hp1 : (p : Int) < 4 := by omega
      have HS := Lib.hid (putI_set n 4 i p hlt hp)
      have hpl := putI_len n 4 i hi
      obtain ⟨x, hx⟩ : ∃ x, (putI n 4 i)[p]? = some x := ⟨_, List.getElem?_eq_getElem (by omega)⟩
      have cx : wr.cell? ⟨w.heap.size, p, none⟩ = some (.int .u8 x.toNat) := by rw [hb.cell, u8s_getElem?, hx]; rfl
      have fx := hb.frozen p
      have HSB := Lib.hid (shift_byte n i)
      have hb2 := Lib.hid (hb.set_ p (.int .u8 (UInt8.ofNat (n / 256 ^ i)).toNat))
      rw [u8s_set, HS.out] at hb2
      have hB2 := Lib.hid (hB.setCell (p := ⟨w.heap.size, p, none⟩) (Nat.le_refl _) (.int .u8 (UInt8.ofNat (n / 256 ^ i)).toNat))
      have hgl := hb.lt
      clear hx hpl hb hp
      go_wp2_with fail
      rw [HSB.out]
      go_roundg (4 - (i + 1))
      case measure => have := HGK.out; omega
      case rel => exact ⟨i + 1, by omega, rfl, by go_num, hb2.out, hB2.out⟩
    · obtain rfl : i = 4 := by omega
      have hlt2 : ¬ ((4 : Nat) : Int) < 4 := by omega
      have HB := Lib.hid hb
      rw [show putI n 4 4 = Sh.beBytes n 4 from rfl] at HB
      clear hb
      go_wp2_with fail
      go_ret2
      exact ⟨rfl, HB.out, hB⟩

set_option maxRecDepth 100000 in
set_option maxHeartbeats 1000000 in
theorem put_8 (n : Nat) (w : World) (_hn : n < 18446744073709551616) :
    Calls Try.prog 58 #[.int .i64 2, .int .i64 8, .int .u64 (n : Int)] w fun e w' => e = .returned (.tuple #[.slice (some ⟨w.heap.size, 0, none⟩) 8 8, .int .i64 0]) ∧ Blk w' w.heap.size 5 (u8s (Sh.beBytes n 8)) ∧ Below w.heap.size w w' := by
  go_enter Try.func58, Try.ntmps58
  go_wp2_with (first
    | (go_at_call 56; go_in)
    | (refine wpList_make1 rfl (.tmp 25) (.tmp 25) 22 rfl 5 (.int .u8 0) 1 Try.underlying22 iU8 rfl .i64 .i64 8 8 (by rfl) (by rfl) 8 8 rfl rfl (by omega) (by omega) (by omega) ?_
       intro w1 hb1 hg1 hs1
       have HB1 : Hid (Blk w1 w.heap.size 5 (u8s (putI n 8 0))) := hb1
       have HE1 : Hid (Below w.heap.size w w1) := grown_below hg1
       clear hb1 hg1 hs1))
  go_loopg [29] 8 (fun kk q wr => ∃ i : Nat, i ≤ 8 ∧ kk = 8 - i ∧ q = .int .i64 i ∧ Blk wr w.heap.size 5 (u8s (putI n 8 i)) ∧ Below w.heap.size w wr)
  case atStart => exact ⟨0, by omega, rfl, rfl, HB1.out, HE1.out⟩
  case round =>
    clear HB1 HE1
    obtain ⟨i, hi, hgk, rfl, hb, hB⟩ := hrel
    have HGK := Lib.hid hgk
    clear hgk
    by_cases hlt : i < 8
    · have hlt2 : (i : Int) < 8 := by omega
      obtain ⟨p, hp⟩ : ∃ p, p = 8 - 1 - i := ⟨_, rfl⟩
      have hpi : (7 : Int) - (i : Int) = (p : Int) := by omega
      have hp0 : (0 : Int) ≤ (p : Int) := by omega
      have hp1 : (p : Int) < 8 := by omega
      have HS := Lib.hid (putI_set n 8 i p hlt hp)
      have hpl := putI_len n 8 i hi
      obtain ⟨x, hx⟩ : ∃ x, (putI n 8 i)[p]? = some x := ⟨_, List.getElem?_eq_getElem (by omega)⟩
      have cx : wr.cell? ⟨w.heap.size, p, none⟩ = some (.int .u8 x.toNat) := by rw [hb.cell, u8s_getElem?, hx]; rfl
      have fx := hb.frozen p
      have HSB := Lib.hid (shift_byte n i)
      have hb2 := Lib.hid (hb.set_ p (.int .u8 (UInt8.ofNat (n / 256 ^ i)).toNat))
      rw [u8s_set, HS.out] at hb2
      have hB2 := Lib.hid (hB.setCell (p := ⟨w.heap.size, p, none⟩) (Nat.le_refl _) (.int .u8 (UInt8.ofNat (n / 256 ^ i)).toNat))
      have hgl := hb.lt
      clear hx hpl hb hp
      go_wp2_with fail
      rw [HSB.out]
      go_roundg (8 - (i + 1))
      case measure => have := HGK.out; omega
      case rel => exact ⟨i + 1, by omega, rfl, by go_num, hb2.out, hB2.out⟩
    · obtain rfl : i = 8 := by omega
      have hlt2 : ¬ ((8 : Nat) : Int) < 8 := by omega
      have HB := Lib.hid hb
      rw [show putI n 8 8 = Sh.beBytes n 8 from rfl] at HB
      clear hb
      go_wp2_with fail
      go_ret2
      exact ⟨rfl, HB.out, hB⟩

end Go.Proofs.Ytgkhglnfbhdkeaa
