/- Part of the proof: Add. -/
import Derived.Deep.DeepCutAuto
import Derived.Test.YtlbnibmcflmohaaGreatPlx05
namespace Go.Proofs.YtlbnibmcflmohaaGreat
open Go.RowKit
attribute [local go_sem ↓] ldq_el
set_option maxRecDepth 100000 in
set_option maxHeartbeats 2000000 in
theorem fieldadd_any (a0 a1 a2 a3 b0 b1 b2 b3 : Nat) (h0 : a0 < 18446744073709551616) (h1 : a1 < 18446744073709551616) (h2 : a2 < 18446744073709551616) (h3 : a3 < 18446744073709551616) (g0 : b0 < 18446744073709551616) (g1 : b1 < 18446744073709551616) (g2 : b2 < 18446744073709551616) (g3 : b3 < 18446744073709551616)
    (hs : v4 a0 a1 a2 a3 + v4 b0 b1 b2 b3 < 115792089237316195423570985008687907853269984665640564039457584007913129639936) (w : World) :
    Calls Tryz.prog 85 #[.agg (l4 a0 a1 a2 a3).toArray, .agg (l4 b0 b1 b2 b3).toArray] w fun e w' => ∃ r0 r1 r2 r3 q : Nat, e = .returned (.agg (l4 r0 r1 r2 r3).toArray) ∧ (r0 < 18446744073709551616 ∧ r1 < 18446744073709551616 ∧ r2 < 18446744073709551616 ∧ r3 < 18446744073709551616 ∧ v4 r0 r1 r2 r3 < pr ∧ v4 a0 a1 a2 a3 + v4 b0 b1 b2 b3 = v4 r0 r1 r2 r3 + q * pr) ∧ Below w.heap.size w w' := by
  obtain ⟨s0, hs0⟩ : ∃ s, s = (a0 + b0 + 0) % 18446744073709551616 := ⟨_, rfl⟩
  obtain ⟨k1, hk1⟩ : ∃ k, k = (a0 + b0 + 0) / 18446744073709551616 := ⟨_, rfl⟩
  have e0 := fun W => c_add64 a0 b0 0 (by omega) W
  rw [← hs0, ← hk1] at e0
  obtain ⟨s1, hs1⟩ : ∃ s, s = (a1 + b1 + k1) % 18446744073709551616 := ⟨_, rfl⟩
  obtain ⟨k2, hk2⟩ : ∃ k, k = (a1 + b1 + k1) / 18446744073709551616 := ⟨_, rfl⟩
  have e1 := fun W => c_add64 a1 b1 k1 (by omega) W
  rw [← hs1, ← hk2] at e1
  obtain ⟨s2, hs2⟩ : ∃ s, s = (a2 + b2 + k2) % 18446744073709551616 := ⟨_, rfl⟩
  obtain ⟨k3, hk3⟩ : ∃ k, k = (a2 + b2 + k2) / 18446744073709551616 := ⟨_, rfl⟩
  have e2 := fun W => c_add64 a2 b2 k2 (by omega) W
  rw [← hs2, ← hk3] at e2
  obtain ⟨s3, hs3⟩ : ∃ s, s = (a3 + b3 + k3) % 18446744073709551616 := ⟨_, rfl⟩
  obtain ⟨k4, hk4⟩ : ∃ k, k = (a3 + b3 + k3) / 18446744073709551616 := ⟨_, rfl⟩
  have e3 := fun W => c_add64 a3 b3 k3 (by omega) W
  rw [← hs3, ← hk4] at e3
  have HFIN : Hid (v4 a0 a1 a2 a3 + v4 b0 b1 b2 b3 = v4 s0 s1 s2 s3) := by
    clear e0 e1 e2 e3
    simp only [Hid, v4] at hs ⊢
    omega
  have HS : Hid (s0 < 18446744073709551616 ∧ s1 < 18446744073709551616 ∧ s2 < 18446744073709551616 ∧ s3 < 18446744073709551616) := ⟨by omega, by omega, by omega, by omega⟩
  have HE0 : Hid (∀ W, (callFunc 89 #[.int .u64 (a0 : Int), .int .u64 (b0 : Int), .int .u64 0]).run Tryz.prog W = .ok (.value (.tuple #[.int .u64 (s0 : Int), .int .u64 (k1 : Int)])) W) := e0
  have HE1 : Hid (∀ W, (callFunc 89 #[.int .u64 (a1 : Int), .int .u64 (b1 : Int), .int .u64 (k1 : Int)]).run Tryz.prog W = .ok (.value (.tuple #[.int .u64 (s1 : Int), .int .u64 (k2 : Int)])) W) := e1
  have HE2 : Hid (∀ W, (callFunc 89 #[.int .u64 (a2 : Int), .int .u64 (b2 : Int), .int .u64 (k2 : Int)]).run Tryz.prog W = .ok (.value (.tuple #[.int .u64 (s2 : Int), .int .u64 (k3 : Int)])) W) := e2
  have HE3 : Hid (∀ W, (callFunc 89 #[.int .u64 (a3 : Int), .int .u64 (b3 : Int), .int .u64 (k3 : Int)]).run Tryz.prog W = .ok (.value (.tuple #[.int .u64 (s3 : Int), .int .u64 (k4 : Int)])) W) := e3
  have HN := Lib.hid (fun W => norm_any s0 s1 s2 s3 HS.out.1 HS.out.2.1 HS.out.2.2.1 HS.out.2.2.2 W)
  clear e0 e1 e2 e3 hs0 hk1 hs1 hk2 hs2 hk3 hs3 hk4 h0 h1 h2 h3 g0 g1 g2 g3 hs
  go_enter Tryz.func85, Tryz.ntmps85
  go_wp2
  go_loopg [5, 7] 4 (fun kk q5 q7 wr => ∃ (i c : Nat) (C : List Value), kk = 4 - i ∧ q7 = .int .i64 (i : Int) ∧ q5 = .int .u64 (c : Int) ∧ Blk wr w.heap.size 80 C ∧ Blk wr (w.heap.size + 1) 80 (l4 b0 b1 b2 b3) ∧ Blk wr (w.heap.size + 2) 80 (l4 0 0 0 0) ∧ Below w.heap.size w wr ∧
    ((i = 0 ∧ c = 0 ∧ C = l4 a0 a1 a2 a3) ∨ (i = 1 ∧ c = k1 ∧ C = l4 s0 a1 a2 a3) ∨ (i = 2 ∧ c = k2 ∧ C = l4 s0 s1 a2 a3) ∨ (i = 3 ∧ c = k3 ∧ C = l4 s0 s1 s2 a3) ∨ (i = 4 ∧ c = k4 ∧ C = l4 s0 s1 s2 s3)))
  case atStart => exact ⟨0, 0, l4 a0 a1 a2 a3, rfl, rfl, rfl, ((Blk.new' rfl rfl).alloc _).alloc _, (Blk.new' (by simp) rfl).alloc _, Blk.new' (by simp) rfl, (((Below.refl _ w).alloc (Nat.le_refl _) _).alloc (by simp) _).alloc (by simp <;> omega) _, .inl ⟨rfl, rfl, rfl⟩⟩
  case round =>
    obtain ⟨i, cy, C, hgk, rfl, rfl, hb, hy, hz, hB, hcase⟩ := hrel
    rcases hcase with ⟨rfl, rfl, rfl⟩ | ⟨rfl, rfl, rfl⟩ | ⟨rfl, rfl, rfl⟩ | ⟨rfl, rfl, rfl⟩ | ⟨rfl, rfl, rfl⟩
    · have cc : wr.cell? ⟨w.heap.size, 0, none⟩ = some (.int .u64 (a0 : Int)) := (hb.cell 0).trans rfl
      have ff := hb.frozen 0
      have cb : wr.cell? ⟨w.heap.size + 1, 0, none⟩ = some (.int .u64 (b0 : Int)) := (hy.cell 0).trans rfl
      have HB2 : Hid (Blk (wr.setCell ⟨w.heap.size, 0, none⟩ (.int .u64 (s0 : Int))) w.heap.size 80 (l4 s0 a1 a2 a3)) := hb.set_ 0 (.int .u64 (s0 : Int))
      have HY2 := Lib.hid (hy.far (p := ⟨w.heap.size, 0, none⟩) (by simp) (.int .u64 (s0 : Int)))
      have HZ2 := Lib.hid (hz.far (p := ⟨w.heap.size, 0, none⟩) (by simp) (.int .u64 (s0 : Int)))
      have HE2b := Lib.hid (hB.setCell (p := ⟨w.heap.size, 0, none⟩) (Nat.le_refl _) (.int .u64 (s0 : Int)))
      clear hb hy hz hB
      go_wp2
      go_region_with (simp only [HE0.out])
      all_goals (
        go_wp2
        go_roundg 3
        case measure => omega
        case rel => exact ⟨1, k1, l4 s0 a1 a2 a3, rfl, by go_num, rfl, HB2.out.drew, HY2.out.drew, HZ2.out.drew, HE2b.out.drew, .inr (.inl ⟨rfl, rfl, rfl⟩)⟩)
    · have cc : wr.cell? ⟨w.heap.size, 1, none⟩ = some (.int .u64 (a1 : Int)) := (hb.cell 1).trans rfl
      have ff := hb.frozen 1
      have cb : wr.cell? ⟨w.heap.size + 1, 1, none⟩ = some (.int .u64 (b1 : Int)) := (hy.cell 1).trans rfl
      have HB2 : Hid (Blk (wr.setCell ⟨w.heap.size, 1, none⟩ (.int .u64 (s1 : Int))) w.heap.size 80 (l4 s0 s1 a2 a3)) := hb.set_ 1 (.int .u64 (s1 : Int))
      have HY2 := Lib.hid (hy.far (p := ⟨w.heap.size, 1, none⟩) (by simp) (.int .u64 (s1 : Int)))
      have HZ2 := Lib.hid (hz.far (p := ⟨w.heap.size, 1, none⟩) (by simp) (.int .u64 (s1 : Int)))
      have HE2b := Lib.hid (hB.setCell (p := ⟨w.heap.size, 1, none⟩) (Nat.le_refl _) (.int .u64 (s1 : Int)))
      clear hb hy hz hB
      go_wp2
      go_region_with (simp only [HE1.out])
      all_goals (
        go_wp2
        go_roundg 2
        case measure => omega
        case rel => exact ⟨2, k2, l4 s0 s1 a2 a3, rfl, by go_num, rfl, HB2.out.drew, HY2.out.drew, HZ2.out.drew, HE2b.out.drew, .inr (.inr (.inl ⟨rfl, rfl, rfl⟩))⟩)
    · have cc : wr.cell? ⟨w.heap.size, 2, none⟩ = some (.int .u64 (a2 : Int)) := (hb.cell 2).trans rfl
      have ff := hb.frozen 2
      have cb : wr.cell? ⟨w.heap.size + 1, 2, none⟩ = some (.int .u64 (b2 : Int)) := (hy.cell 2).trans rfl
      have HB2 : Hid (Blk (wr.setCell ⟨w.heap.size, 2, none⟩ (.int .u64 (s2 : Int))) w.heap.size 80 (l4 s0 s1 s2 a3)) := hb.set_ 2 (.int .u64 (s2 : Int))
      have HY2 := Lib.hid (hy.far (p := ⟨w.heap.size, 2, none⟩) (by simp) (.int .u64 (s2 : Int)))
      have HZ2 := Lib.hid (hz.far (p := ⟨w.heap.size, 2, none⟩) (by simp) (.int .u64 (s2 : Int)))
      have HE2b := Lib.hid (hB.setCell (p := ⟨w.heap.size, 2, none⟩) (Nat.le_refl _) (.int .u64 (s2 : Int)))
      clear hb hy hz hB
      go_wp2
      go_region_with (simp only [HE2.out])
      all_goals (
        go_wp2
        go_roundg 1
        case measure => omega
        case rel => exact ⟨3, k3, l4 s0 s1 s2 a3, rfl, by go_num, rfl, HB2.out.drew, HY2.out.drew, HZ2.out.drew, HE2b.out.drew, .inr (.inr (.inr (.inl ⟨rfl, rfl, rfl⟩)))⟩)
    · have cc : wr.cell? ⟨w.heap.size, 3, none⟩ = some (.int .u64 (a3 : Int)) := (hb.cell 3).trans rfl
      have ff := hb.frozen 3
      have cb : wr.cell? ⟨w.heap.size + 1, 3, none⟩ = some (.int .u64 (b3 : Int)) := (hy.cell 3).trans rfl
      have HB2 : Hid (Blk (wr.setCell ⟨w.heap.size, 3, none⟩ (.int .u64 (s3 : Int))) w.heap.size 80 (l4 s0 s1 s2 s3)) := hb.set_ 3 (.int .u64 (s3 : Int))
      have HY2 := Lib.hid (hy.far (p := ⟨w.heap.size, 3, none⟩) (by simp) (.int .u64 (s3 : Int)))
      have HZ2 := Lib.hid (hz.far (p := ⟨w.heap.size, 3, none⟩) (by simp) (.int .u64 (s3 : Int)))
      have HE2b := Lib.hid (hB.setCell (p := ⟨w.heap.size, 3, none⟩) (Nat.le_refl _) (.int .u64 (s3 : Int)))
      clear hb hy hz hB
      go_wp2
      go_region_with (simp only [HE3.out])
      all_goals (
        go_wp2
        go_roundg 0
        case measure => omega
        case rel => exact ⟨4, k4, l4 s0 s1 s2 s3, rfl, by go_num, rfl, HB2.out.drew, HY2.out.drew, HZ2.out.drew, HE2b.out.drew, .inr (.inr (.inr (.inr (⟨rfl, rfl, rfl⟩))))⟩)
    · have hld := el_ld hb
      have HZ := Lib.hid hz
      have HBB := Lib.hid hB
      clear hb hy hz hB
      go_wp2_with (first | ((with_reducible refine (HN.out _).mono ?_); rintro e w3 ⟨r0, r1, r2, r3, q, rfl, hv, hB1⟩; have HZ3 := qbl HZ hB1; have HE4 := qtr HBB hB1; have HV := Lib.hid hv; clear hB1 hv) | (refine wpList_store_all rfl 80 (.tmp 4) (.tmp 25) rfl (w.heap.size + 2) (l4 r0 r1 r2 r3) (by rfl) (by rfl) 80 _ HZ3.out (by exact hdEl) (l4_one _ _ _ _) rfl ?_; intro w5 hb5 ho5; have HB5 := Lib.hid hb5; have HE5 := Lib.hid (ho5.below HE4.out (by omega) HE4.out.size); clear hb5 ho5))
      exact bodyPost_ret (res_cell rfl _ _ _ _ rfl HB5.out _ Tryz.underlying80 rfl (by exact hdEl)) rfl ⟨r0, r1, r2, r3, q, rfl, by rw [HFIN.out]; exact HV.out, HE5.out⟩
end Go.Proofs.YtlbnibmcflmohaaGreat
