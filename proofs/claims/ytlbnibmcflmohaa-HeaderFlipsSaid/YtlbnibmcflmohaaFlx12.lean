/- Part of the proof: Nrm. -/
import Derived.Deep.DeepCutAuto
import Derived.Test.YtlbnibmcflmohaaFlx06
namespace Go.Proofs.Ytlbnibmcflmohaa
open Go.RowKit
attribute [local go_sem ↓] ldq_el
set_option maxRecDepth 100000 in
set_option maxHeartbeats 2000000 in
theorem norm_any (a0 a1 a2 a3 : Nat) (h0 : a0 < 18446744073709551616) (h1 : a1 < 18446744073709551616) (h2 : a2 < 18446744073709551616) (h3 : a3 < 18446744073709551616) (w : World) :
    Calls Try.prog 65 #[.agg (l4 a0 a1 a2 a3).toArray] w fun e w' => ∃ s0 s1 s2 s3 q : Nat, e = .returned (.agg (l4 s0 s1 s2 s3).toArray) ∧ (s0 < 18446744073709551616 ∧ s1 < 18446744073709551616 ∧ s2 < 18446744073709551616 ∧ s3 < 18446744073709551616 ∧ v4 s0 s1 s2 s3 < pr ∧ v4 a0 a1 a2 a3 = v4 s0 s1 s2 s3 + q * pr) ∧ Below w.heap.size w w' := by
  obtain ⟨t, ht⟩ : ∃ t, t = a3 / 9223372036854775808 := ⟨_, rfl⟩
  obtain ⟨b3, hb3⟩ : ∃ b, b = a3 % 9223372036854775808 := ⟨_, rfl⟩
  have e1 : (a3 : Int) / 9223372036854775808 = (t : Int) := by omega
  have e2 : bits .and .u64 (a3 : Int) 9223372036854775807 = (b3 : Int) := by rw [and63 a3 h3, hb3]
  have t0 : (0 : Int) ≤ (t : Int) := by omega
  have t1 : (t : Int) ≤ 1 := by omega
  obtain ⟨n, hn⟩ : ∃ n, n = 19 * t := ⟨_, rfl⟩
  have e3 : (19 : Int) * (t : Int) = (n : Int) := by omega
  have HP1 := Lib.hid (fun W => plus_any a0 a1 a2 b3 n h0 h1 h2 (by omega) (by omega) W)
  have HAV : Hid (b3 < 9223372036854775808 ∧ n = 19 * t ∧ t ≤ 1 ∧ a3 = t * 9223372036854775808 + b3 ∧ a0 < 18446744073709551616 ∧ a1 < 18446744073709551616 ∧ a2 < 18446744073709551616) := ⟨by omega, hn, by omega, by omega, h0, h1, h2⟩
  have c3 : ∀ o, ((w.alloc (.cells (l4 a0 a1 a2 a3).toArray 108)).alloc o).cell? ⟨w.heap.size, 3, none⟩ = some (.int .u64 (a3 : Int)) := fun o => (((Blk.new w _ _).alloc o).cell 3).trans rfl
  have f3 : ∀ o, ((w.alloc (.cells (l4 a0 a1 a2 a3).toArray 108)).alloc o).frozen? ⟨w.heap.size, 3, none⟩ = false := fun o => ((Blk.new w _ _).alloc o).frozen 3
  have hld : ∀ o, (ldAt 108 (.pointer (some ⟨w.heap.size, 0, none⟩))).run Try.prog ((w.alloc (.cells ((l4 a0 a1 a2 a3).set 3 (.int .u64 (b3 : Int))).toArray 108)).alloc o) = .ok (.agg (l4 a0 a1 a2 b3).toArray) ((w.alloc (.cells ((l4 a0 a1 a2 a3).set 3 (.int .u64 (b3 : Int))).toArray 108)).alloc o) := fun o => el_ld ((Blk.new w 108 (l4 a0 a1 a2 b3)).alloc o)
  have HB1 : Hid (∀ o, Blk ((w.alloc (.cells ((l4 a0 a1 a2 a3).set 3 (.int .u64 (b3 : Int))).toArray 108)).alloc o) w.heap.size 108 (l4 a0 a1 a2 b3)) := fun o => (Blk.new w 108 (l4 a0 a1 a2 b3)).alloc o
  have HE1 : Hid (∀ o, Below w.heap.size w ((w.alloc (.cells ((l4 a0 a1 a2 a3).set 3 (.int .u64 (b3 : Int))).toArray 108)).alloc o)) := fun o => ((Below.refl _ w).alloc (Nat.le_refl _) _).alloc (by simp) _
  clear ht hb3 hn h0 h1 h2 h3
  go_enter Try.func65, Try.ntmps65
  have HR1 : Hid (∀ W, W = (w.alloc (.cells ((l4 a0 a1 a2 a3).set 3 (.int .u64 (b3 : Int))).toArray 108)).alloc (.cells (l4 0 0 0 0).toArray 108) → Blk W (w.heap.size + 1) 108 (l4 0 0 0 0)) := fun W hW => hW ▸ Blk.new' (by simp) rfl
  go_upto_region 4 with (first
    | (go_at_call 80; (with_reducible refine (HP1.out _).mono ?_); rintro e w1 ⟨s0, s1, s2, s3, k, rfl, hv, hB1⟩; have HZ1 := Lib.hid ((HB1.out _).below hB1 (by simp <;> omega)); have HQ1 := Lib.hid ((HR1.out _ rfl).below hB1 (by simp <;> omega)); have HE2 := Lib.hid ((HE1.out _).trans (hB1.mono (by simp <;> omega))); have HV1 := Lib.hid hv; clear hB1 hv)
    | (refine wpList_store_all rfl 108 (.tmp 1) (.tmp 18) rfl w.heap.size (l4 s0 s1 s2 s3) (by rfl) (by rfl) 108 _ HZ1.out (by exact hdEl) (l4_one _ _ _ _) rfl ?_; intro w2 hb2 ho2; have HB2 := Lib.hid hb2; have HE3 := Lib.hid (ho2.below HE2.out (Nat.le_refl _) HE2.out.size); have HQ2 := Lib.hid (ho2.blk HQ1.out (by omega)); clear hb2 ho2))
  have HP2 : Hid (∀ W, Calls Try.prog 80 #[.agg (l4 s0 s1 s2 s3).toArray, .int .u64 19] W fun e w' => ∃ r0 r1 r2 r3 k : Nat, e = .returned (.tuple #[.agg (l4 r0 r1 r2 r3).toArray, .int .u64 (k : Int)]) ∧ (r0 < 18446744073709551616 ∧ r1 < 18446744073709551616 ∧ r2 < 18446744073709551616 ∧ r3 < 18446744073709551616 ∧ k ≤ 1 ∧
      r0 + r1 * 18446744073709551616 + r2 * 340282366920938463463374607431768211456 + r3 * 6277101735386680763835789423207666416102355444464034512896 + k * 115792089237316195423570985008687907853269984665640564039457584007913129639936 = s0 + s1 * 18446744073709551616 + s2 * 340282366920938463463374607431768211456 + s3 * 6277101735386680763835789423207666416102355444464034512896 + 19) ∧ Below W.heap.size W w') :=
    fun W => plus_any s0 s1 s2 s3 19 HV1.out.1 HV1.out.2.1 HV1.out.2.2.1 HV1.out.2.2.2.1 (by omega) W
  have hl2 := el_ld HB2.out
  go_upto_region 5 with (first
    | (go_at_call 80; (with_reducible refine (HP2.out _).mono ?_); rintro e w3 ⟨r0, r1, r2, r3, k2, rfl, hv, hB1⟩; have HB3 := qbl HB2 hB1; have HQ3 := qbl HQ2 hB1; have HE4 := qtr HE3 hB1; have HV2 := Lib.hid hv; clear hB1 hv)
    | (refine wpList_store_all rfl 108 (.tmp 4) (.tmp 23) rfl w3.heap.size (l4 r0 r1 r2 r3) (by rfl) (by rfl) 108 (l4 0 0 0 0) (by exact Blk.new' rfl rfl) (by exact hdEl) (l4_one _ _ _ _) rfl ?_; intro w4 hb4 ho4; have HT4 := Lib.hid hb4; have HE5 := Lib.hid (ho4.below (HE4.out.alloc HE4.out.size _) HE4.out.size (by have := HE4.out.size; simp; omega)); have HB4 := qal ho4 HB3 (by have := HB3.out.lt; omega); have HQ4 := qal ho4 HQ3 (by have := HQ3.out.lt; omega); clear hb4 ho4))
  clear hl2
  have cc : w4.cell? ⟨w3.heap.size, 3, none⟩ = some (.int .u64 (r3 : Int)) := (HT4.out.cell 3).trans rfl
  have ff := HT4.out.frozen 3
  have hr3 := HV2.out.2.2.2.1
  rcases Nat.lt_or_ge r3 9223372036854775808 with hu | hu
  · have ee : (r3 : Int) / 9223372036854775808 = 0 := by omega
    have hl4 := el_ld HB4.out
    have HU := Lib.hid hu
    clear hu hr3 c3 f3 hld t0 t1
    go_wp2_with ((refine wpList_store_all rfl 108 (.tmp 2) (.tmp 29) rfl (w.heap.size + 1) (l4 s0 s1 s2 s3) (by rfl) (by rfl) 108 _ HQ4.out (by exact hdEl) (l4_one _ _ _ _) rfl ?_; intro w5 hb5 ho5; have HB5 := Lib.hid hb5; have HE6 := Lib.hid (ho5.below HE5.out (Nat.le_succ _) HE5.out.size); clear hb5 ho5))
    refine bodyPost_ret (res_cell rfl _ _ _ _ rfl HB5.out _ Try.underlying108 rfl (by exact hdEl)) rfl ⟨s0, s1, s2, s3, t, rfl, ?_, HE6.out⟩
    have h1 := HV1.out; have h2 := HV2.out; have h3 := HAV.out; have h4 := HU.out
    simp only [v4, pr]
    refine ⟨h1.1, h1.2.1, h1.2.2.1, h1.2.2.2.1, ?_, ?_⟩ <;> omega
  · have ee : (r3 : Int) / 9223372036854775808 = 1 := by omega
    obtain ⟨q3, hq3⟩ : ∃ q, q = r3 % 9223372036854775808 := ⟨_, rfl⟩
    have eb : bits .and .u64 (r3 : Int) 9223372036854775807 = (q3 : Int) := by rw [and63 r3 hr3, hq3]
    have HU : Hid (r3 = q3 + 9223372036854775808 ∧ q3 < 9223372036854775808) := ⟨by omega, by omega⟩
    have HT5 : Hid (Blk (w4.setCell ⟨w3.heap.size, 3, none⟩ (.int .u64 (q3 : Int))) w3.heap.size 108 (l4 r0 r1 r2 q3)) := HT4.out.set_ 3 (.int .u64 (q3 : Int))
    have hl5 := el_ld HT5.out
    have HQ5 := Lib.hid (HQ4.out.far (p := ⟨w3.heap.size, 3, none⟩) (by have := HQ3.out.lt; simp; omega) (.int .u64 (q3 : Int)))
    have HE6 := Lib.hid (HE5.out.setCell (p := ⟨w3.heap.size, 3, none⟩) HE4.out.size (.int .u64 (q3 : Int)))
    clear hu hr3 hq3 c3 f3 hld t0 t1
    go_wp2_with ((refine wpList_store_all rfl 108 (.tmp 2) (.tmp 34) rfl (w.heap.size + 1) (l4 r0 r1 r2 q3) (by rfl) (by rfl) 108 _ HQ5.out (by exact hdEl) (l4_one _ _ _ _) rfl ?_; intro w5 hb5 ho5; have HB5 := Lib.hid hb5; have HE7 := Lib.hid (ho5.below HE6.out (Nat.le_succ _) HE6.out.size); clear hb5 ho5))
    refine bodyPost_ret (res_cell rfl _ _ _ _ rfl HB5.out _ Try.underlying108 rfl (by exact hdEl)) rfl ⟨r0, r1, r2, q3, t + 1, rfl, ?_, HE7.out⟩
    have h1 := HV1.out; have h2 := HV2.out; have h3 := HAV.out; have h4 := HU.out
    simp only [v4, pr]
    refine ⟨h2.1, h2.2.1, h2.2.2.1, by omega, ?_, ?_⟩ <;> omega
end Go.Proofs.Ytlbnibmcflmohaa
