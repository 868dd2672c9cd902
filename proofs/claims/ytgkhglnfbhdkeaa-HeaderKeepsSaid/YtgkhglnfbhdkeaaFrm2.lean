/- frame.Check, allZero, copied, shallotref11.Check of any part. -/
import Derived.Test.YtgkhglnfbhdkeaaCodec
namespace Go.Proofs.Ytgkhglnfbhdkeaa
open Go.RowKit

/-- the error of a part of a kind that there is -/
def chk (k i c id n : Nat) : Int :=
  if 450 < n then 2 else if c < 1 ∨ 16 < c ∨ c ≤ i then 3 else if k ≠ 1 ∧ c ≠ 1 then 3 else if k = 2 ∧ (id ≠ 0 ∨ n ≠ 0) then 3 else 0
theorem ret_i64 {a b : Int} (h : a = b) : Ending.returned (Value.int .i64 a) = .returned (.int .i64 b) := by rw [h]

set_option maxRecDepth 100000 in
set_option maxHeartbeats 4000000 in
theorem fcheck_any (A : Option Addr) (n cp k id i c : Nat) (w : World) (h1 : 1 ≤ k) (h3 : k ≤ 3) (hn : n ≤ 450) :
    Calls Try.prog 57 #[.agg #[.int .u8 k, .int .u64 id, .int .i64 i, .int .i64 c, .slice A n cp]] w fun e w' => e = .returned (.int .i64 (chk k i c id n)) ∧ Below w.heap.size w w' := by
  have hn1 : ¬ (450 : Int) < (n : Int) := by omega
  have hk1 : ¬ (k : Int) < 1 := by omega
  have hk3 : ¬ (3 : Int) < (k : Int) := by omega
  go_enter Try.func57, Try.ntmps57
  go_wp2_with fail
  all_goals (go_ret; refine ⟨ret_i64 ?_, (Below.refl _ _).alloc (Nat.le_refl _) _⟩; clear hn1 hk1 hk3; unfold chk)
  all_goals (repeat' split)
  all_goals (first | rfl | omega | (exfalso; simp_all; omega) | (exfalso; simp_all; done))

set_option maxRecDepth 100000 in
set_option maxHeartbeats 4000000 in
theorem rfcheck_any (A : Option Addr) (n cp k id i c : Nat) (w : World) (h1 : 1 ≤ k) (h3 : k ≤ 3) (hn : n ≤ 450) :
    Calls Try.prog 60 #[.agg #[.int .u8 k, .int .u64 id, .int .i64 i, .int .i64 c, .slice A n cp]] w fun e w' => e = .returned (.int .i64 (chk k i c id n)) ∧ Below w.heap.size w w' := by
  have hn1 : ¬ (450 : Int) < (n : Int) := by omega
  have hc0 : (0 : Int) ≤ (i : Int) := by omega
  obtain rfl | rfl | rfl : k = 1 ∨ k = 2 ∨ k = 3 := by omega
  all_goals
    go_enter Try.func60, Try.ntmps60
    go_wp2_with fail
    all_goals (go_ret; refine ⟨ret_i64 ?_, (Below.refl _ _).alloc (Nat.le_refl _) _⟩; clear hn1 hc0; unfold chk)
    all_goals (repeat' split)
    all_goals (first | rfl | omega | (exfalso; simp_all; omega) | (exfalso; simp_all; done))

def allZ (l : List UInt8) : Bool := l.all (· == 0)
theorem allZ_take_succ {l : List UInt8} {k : Nat} {x : UInt8} (h : l[k]? = some x) : allZ (l.take (k + 1)) = (allZ (l.take k) && x == 0) := by
  unfold allZ
  rw [List.take_add_one, h]
  simp
theorem allZ_no {l : List UInt8} {k : Nat} {x : UInt8} (h : l[k]? = some x) (hx : x ≠ 0) : allZ l = false := by
  unfold allZ
  rw [List.all_eq_false]
  exact ⟨x, List.mem_of_getElem? h, by simpa using hx⟩
theorem allZ_zeros {l : List UInt8} (h : allZ l = true) : l = List.replicate l.length 0 := by
  unfold allZ at h
  rw [List.all_eq_true] at h
  exact List.eq_replicate_iff.2 ⟨rfl, fun b hb => by simpa using h b hb⟩
theorem zeros_allZ (n : Nat) : allZ (List.replicate n 0) = true := by unfold allZ; simp

set_option maxHeartbeats 1000000 in
theorem allZero_any (A : Option Addr) (n c : Nat) (l : List UInt8) (w : World) (h : Rd w A n (u8s l)) (hn : n ≤ 140737488355328) :
    Calls Try.prog 63 #[.slice A n c] w fun e w' => e = .returned (.bool (allZ l)) ∧ w = w' := by
  have HL := Lib.hid h.len
  go_enter Try.func63, Try.ntmps63
  go_wp2
  go_loop [7] (fun q => ∃ k : Nat, k ≤ n ∧ q = .int .i64 k ∧ allZ (l.take k) = true) (fun q => n - (intOf q).toNat)
  case atStart => exact ⟨0, Nat.zero_le _, rfl, rfl⟩
  case round =>
    obtain ⟨k, hk, rfl, hz⟩ := hrel
    have HZ := Lib.hid hz
    clear hz
    by_cases hlt : k < n
    · obtain ⟨b, off, x, rfl, hb, HX, hc⟩ := h.u8 hlt
      by_cases hx : x = 0
      · subst hx
        have HS := Lib.hid (allZ_take_succ HX.out)
        have hc0 : w.cell? ⟨b, off + k, none⟩ = some (.int .u8 0) := hc
        clear hc
        go_wp2
        go_round
        case rel => exact ⟨k + 1, by omega, by go_num, by rw [HS.out, HZ.out]; rfl⟩
        case measure => simp [intOf]; omega
      · have HN := Lib.hid (allZ_no HX.out hx)
        have hne : ((x.toNat : Int) != 0) = true := by
          rw [bne_iff_ne]
          intro e
          exact hx (UInt8.toNat_inj.1 (by simpa using e))
        clear hx
        go_wp2
        go_ret
        exact ⟨(by rw [HN.out]; rfl), rfl⟩
    · obtain rfl : k = n := by omega
      have HT : Hid (allZ l = true) := by
        have := HZ.out
        rwa [List.take_of_length_le (Nat.le_of_eq HL.out)] at this
      go_wp2
      go_ret
      exact ⟨(by rw [HT.out]; rfl), rfl⟩

set_option maxHeartbeats 1000000 in
theorem copied_any (A : Option Addr) (n c : Nat) (l : List UInt8) (w : World) (h : Rd w A n (u8s l)) (hn : n ≤ 1000000) :
    Calls Try.prog 64 #[.slice A n c] w fun e w' => e = .returned (.slice (some ⟨w.heap.size, 0, none⟩) n n) ∧ Blk w' w.heap.size 5 (u8s l) ∧ Below w.heap.size w w' := by
  have HR := Lib.hid h
  have HT : Hid ((u8s l).take n = u8s l) := List.take_of_length_le (by rw [u8s_length, h.len]; exact Nat.le_refl _)
  have HL : Hid ((u8s l).length = n) := by show _ = _; rw [u8s_length, h.len]
  clear h
  go_enter Try.func64, Try.ntmps64
  go_wp2_with (first
    | (refine wpList_make1 rfl (.tmp 5) (.tmp 5) 22 rfl 5 (.int .u8 0) 1 Try.underlying22 iU8 rfl .i64 .i64 (n : Int) (n : Int) (by rfl) (by rfl) n n rfl rfl (by omega) (by omega) (by omega) ?_
       intro w1 hb1 hg1 hs1
       have HE1 := Lib.hid (grown_below hg1)
       have HB1 := Lib.hid hb1
       clear hb1 hg1 hs1)
    | (refine wpList_copy rfl (.tmp 7) (.tmp 8) 22 rfl 5 Try.underlying22 (by kernel_rfl) w.heap.size 0 n n (by rfl) A n c (by rfl) 5 _ HB1.out (u8s l) (by exact HR.out.below HE1.out) (u8s_one _) (by rw [rep_length]; omega) ?_
       intro w2 hb2 ho2
       rw [HT.out, splice_whole _ _ (by rw [HL.out, rep_length])] at hb2
       have HB2 := Lib.hid hb2
       have HE2 := Lib.hid (ho2.below HE1.out (Nat.le_refl _) HE1.out.size)
       clear hb2 ho2))
  go_ret
  exact ⟨rfl, HB2.out, HE2.out⟩
end Go.Proofs.Ytgkhglnfbhdkeaa
