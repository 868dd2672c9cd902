/- Part of the proof: Sub. -/
import Derived.Deep.DeepCutAuto
import Derived.Test.YtlbnibmcflmohaaGreatPlx11
namespace Go.Proofs.YtlbnibmcflmohaaGreat
open Go.RowKit
attribute [local go_sem ↓] ldq_el
theorem ex_loadE {w : World} {o : Oper} {a : Act} {g : Nat} {t : TypeId} {x : Operand} {x0 x1 x2 x3 : Nat} (ho : o.op = .load 80 x) (hx : a.eval x = .pointer (some ⟨g, 0, none⟩)) (hb : Blk w g t (l4 x0 x1 x2 x3)) : (execOp a.eval o).run Tryz.prog w = .ok (.value (.agg (l4 x0 x1 x2 x3).toArray)) w :=
  ey_loadR ho hx (el_ld hb)
set_option maxRecDepth 100000 in
set_option maxHeartbeats 2000000 in
theorem sub_any (a0 a1 a2 a3 b0 b1 b2 b3 : Nat) (h0 : a0 < 18446744073709551616) (h1 : a1 < 18446744073709551616) (h2 : a2 < 18446744073709551616) (h3 : a3 < 18446744073709551616) (g0 : b0 < 18446744073709551616) (g1 : b1 < 18446744073709551616) (g2 : b2 < 18446744073709551616) (g3 : b3 < 18446744073709551616) (w : World) :
    Calls Tryz.prog 68 #[.agg (l4 a0 a1 a2 a3).toArray, .agg (l4 b0 b1 b2 b3).toArray] w fun e w' => ∃ r0 r1 r2 r3 q q' : Nat, e = .returned (.agg (l4 r0 r1 r2 r3).toArray) ∧ (r0 < 18446744073709551616 ∧ r1 < 18446744073709551616 ∧ r2 < 18446744073709551616 ∧ r3 < 18446744073709551616 ∧ v4 r0 r1 r2 r3 < pr ∧ v4 a0 a1 a2 a3 + q' * pr = v4 r0 r1 r2 r3 + v4 b0 b1 b2 b3 + q * pr) ∧ Below w.heap.size w w' := by
  have HN := Lib.hid (fun W => norm_any b0 b1 b2 b3 g0 g1 g2 g3 W)
  have HM := Lib.hid (fun W => norm_any a0 a1 a2 a3 h0 h1 h2 h3 W)
  clear h0 h1 h2 h3 g0 g1 g2 g3
  have hld : ∀ o1 o2, (ldAt 80 (.pointer (some ⟨w.heap.size + 1, 0, none⟩))).run Tryz.prog ((((w.alloc (.cells (l4 a0 a1 a2 a3).toArray 80)).alloc (.cells (l4 b0 b1 b2 b3).toArray 80)).alloc o1).alloc o2) = .ok (.agg (l4 b0 b1 b2 b3).toArray) ((((w.alloc (.cells (l4 a0 a1 a2 a3).toArray 80)).alloc (.cells (l4 b0 b1 b2 b3).toArray 80)).alloc o1).alloc o2) := fun o1 o2 => el_ld (((Blk.new' (by simp) rfl).alloc o1).alloc o2)
  obtain ⟨W4, hW4⟩ : ∃ W4, W4 = (((w.alloc (.cells (l4 a0 a1 a2 a3).toArray 80)).alloc (.cells (l4 b0 b1 b2 b3).toArray 80)).alloc (.cells (l4 0 0 0 0).toArray 80)).alloc (.cells (l4 18446744073709551597 18446744073709551615 18446744073709551615 9223372036854775807).toArray 80) := ⟨_, rfl⟩
  have HA : Hid (Blk W4 w.heap.size 80 (l4 a0 a1 a2 a3)) := hW4 ▸ (((Blk.new w _ _).alloc _).alloc _).alloc _
  have HB : Hid (Blk W4 (w.heap.size + 1) 80 (l4 b0 b1 b2 b3)) := hW4 ▸ ((Blk.new' (by simp) rfl).alloc _).alloc _
  have HZ : Hid (Blk W4 (w.heap.size + 2) 80 (l4 0 0 0 0)) := hW4 ▸ (Blk.new' (by simp) rfl).alloc _
  have HP : Hid (Blk W4 (w.heap.size + 3) 80 (l4 18446744073709551597 18446744073709551615 18446744073709551615 9223372036854775807)) := hW4 ▸ Blk.new' (by simp) rfl
  have HE : Hid (Below w.heap.size w W4) := hW4 ▸ ((((Below.refl _ w).alloc (Nat.le_refl _) _).alloc (by simp) _).alloc (by simp <;> omega) _).alloc (by simp <;> omega) _
  go_enter Tryz.func68, Tryz.ntmps68
  go_wp2_with (first | ((with_reducible refine (HN.out _).mono ?_); rintro e w3 ⟨n0, n1, n2, n3, q, rfl, hv, hB1⟩; have HV := Lib.hid hv; have hB2 : Below W4.heap.size W4 w3 := hW4 ▸ hB1; clear hv hB1) | (refine wpList_store_all rfl 80 (.tmp 3) (.tmp 10) rfl (w.heap.size + 1) (l4 n0 n1 n2 n3) (by rfl) (by rfl) 80 _ (HB.out.below hB2 HB.out.lt) (by exact hdEl) (l4_one _ _ _ _) rfl ?_; intro w5 hb5 ho5))
  have HN5 := Lib.hid hb5
  have HA5 := Lib.hid (ho5.blk (HA.out.below hB2 HA.out.lt) (by omega))
  have HZ5 := Lib.hid (ho5.blk (HZ.out.below hB2 HZ.out.lt) (by omega))
  have HP5 := Lib.hid (ho5.blk (HP.out.below hB2 HP.out.lt) (by omega))
  have HE5 := Lib.hid (ho5.below (HE.out.trans (hB2.mono HE.out.size)) (by omega) (Nat.le_trans HE.out.size hB2.size))
  have g := HV.out
  obtain ⟨s0, hs0⟩ : ∃ s, s = (18446744073709551597 + 18446744073709551616 - n0 - 0) % 18446744073709551616 := ⟨_, rfl⟩
  obtain ⟨k1, hk1⟩ : ∃ k, k = (if 18446744073709551597 < n0 + 0 then 1 else 0) := ⟨_, rfl⟩
  have e0 := fun W => c_sub64 18446744073709551597 n0 0 (by omega) W
  rw [← hs0, ← hk1] at e0
  have HE0 : Hid (∀ W, (callFunc 86 #[.int .u64 18446744073709551597, .int .u64 (n0 : Int), .int .u64 0]).run Tryz.prog W = .ok (.value (.tuple #[.int .u64 (s0 : Int), .int .u64 (k1 : Int)])) W) := e0
  have r0 : s0 + n0 + 0 = 18446744073709551597 + k1 * 18446744073709551616 ∧ s0 < 18446744073709551616 ∧ k1 ≤ 1 := by
    have := g.1; have := g.2.1; have := g.2.2.1; have := g.2.2.2.1
    rw [hs0, hk1]; split <;> omega
  clear e0 hs0 hk1
  obtain ⟨s1, hs1⟩ : ∃ s, s = (18446744073709551615 + 18446744073709551616 - n1 - k1) % 18446744073709551616 := ⟨_, rfl⟩
  obtain ⟨k2, hk2⟩ : ∃ k, k = (if 18446744073709551615 < n1 + k1 then 1 else 0) := ⟨_, rfl⟩
  have e1 := fun W => c_sub64 18446744073709551615 n1 k1 r0.2.2 W
  rw [← hs1, ← hk2] at e1
  have HE1 : Hid (∀ W, (callFunc 86 #[.int .u64 18446744073709551615, .int .u64 (n1 : Int), .int .u64 (k1 : Int)]).run Tryz.prog W = .ok (.value (.tuple #[.int .u64 (s1 : Int), .int .u64 (k2 : Int)])) W) := e1
  have r1 : s1 + n1 + k1 = 18446744073709551615 + k2 * 18446744073709551616 ∧ s1 < 18446744073709551616 ∧ k2 ≤ 1 := by
    have := g.1; have := g.2.1; have := g.2.2.1; have := g.2.2.2.1
    rw [hs1, hk2]; split <;> omega
  clear e1 hs1 hk2
  obtain ⟨s2, hs2⟩ : ∃ s, s = (18446744073709551615 + 18446744073709551616 - n2 - k2) % 18446744073709551616 := ⟨_, rfl⟩
  obtain ⟨k3, hk3⟩ : ∃ k, k = (if 18446744073709551615 < n2 + k2 then 1 else 0) := ⟨_, rfl⟩
  have e2 := fun W => c_sub64 18446744073709551615 n2 k2 r1.2.2 W
  rw [← hs2, ← hk3] at e2
  have HE2 : Hid (∀ W, (callFunc 86 #[.int .u64 18446744073709551615, .int .u64 (n2 : Int), .int .u64 (k2 : Int)]).run Tryz.prog W = .ok (.value (.tuple #[.int .u64 (s2 : Int), .int .u64 (k3 : Int)])) W) := e2
  have r2 : s2 + n2 + k2 = 18446744073709551615 + k3 * 18446744073709551616 ∧ s2 < 18446744073709551616 ∧ k3 ≤ 1 := by
    have := g.1; have := g.2.1; have := g.2.2.1; have := g.2.2.2.1
    rw [hs2, hk3]; split <;> omega
  clear e2 hs2 hk3
  obtain ⟨s3, hs3⟩ : ∃ s, s = (9223372036854775807 + 18446744073709551616 - n3 - k3) % 18446744073709551616 := ⟨_, rfl⟩
  obtain ⟨k4, hk4⟩ : ∃ k, k = (if 9223372036854775807 < n3 + k3 then 1 else 0) := ⟨_, rfl⟩
  have e3 := fun W => c_sub64 9223372036854775807 n3 k3 r2.2.2 W
  rw [← hs3, ← hk4] at e3
  have HE3 : Hid (∀ W, (callFunc 86 #[.int .u64 9223372036854775807, .int .u64 (n3 : Int), .int .u64 (k3 : Int)]).run Tryz.prog W = .ok (.value (.tuple #[.int .u64 (s3 : Int), .int .u64 (k4 : Int)])) W) := e3
  have r3 : s3 + n3 + k3 = 9223372036854775807 + k4 * 18446744073709551616 ∧ s3 < 18446744073709551616 ∧ k4 ≤ 1 := by
    have := g.1; have := g.2.1; have := g.2.2.1; have := g.2.2.2.1
    rw [hs3, hk4]; split <;> omega
  clear e3 hs3 hk4
  have HFIN : Hid (v4 s0 s1 s2 s3 + v4 n0 n1 n2 n3 = pr ∧ s0 < 18446744073709551616 ∧ s1 < 18446744073709551616 ∧ s2 < 18446744073709551616 ∧ s3 < 18446744073709551616) := by
    have g5 := g.2.2.2.2.1
    refine ⟨?_, r0.2.1, r1.2.1, r2.2.1, r3.2.1⟩
    simp only [v4, pr] at g5 ⊢
    omega
  clear r0 r1 r2 r3 g hb5 ho5 hB2
  go_loopg [6, 11] 4 (fun kk q6 q11 wr => ∃ (i c : Nat) (C : List Value), kk = 4 - i ∧ q11 = .int .i64 (i : Int) ∧ q6 = .int .u64 (c : Int) ∧ Blk wr (w.heap.size + 3) 80 C ∧ Blk wr (w.heap.size + 1) 80 (l4 n0 n1 n2 n3) ∧ Blk wr (w.heap.size + 2) 80 (l4 0 0 0 0) ∧ Blk wr w.heap.size 80 (l4 a0 a1 a2 a3) ∧ Below w.heap.size w wr ∧
    ((i = 0 ∧ c = 0 ∧ C = l4 18446744073709551597 18446744073709551615 18446744073709551615 9223372036854775807) ∨ (i = 1 ∧ c = k1 ∧ C = l4 s0 18446744073709551615 18446744073709551615 9223372036854775807) ∨ (i = 2 ∧ c = k2 ∧ C = l4 s0 s1 18446744073709551615 9223372036854775807) ∨ (i = 3 ∧ c = k3 ∧ C = l4 s0 s1 s2 9223372036854775807) ∨ (i = 4 ∧ c = k4 ∧ C = l4 s0 s1 s2 s3)))
  case atStart => exact ⟨0, 0, l4 18446744073709551597 18446744073709551615 18446744073709551615 9223372036854775807, rfl, rfl, rfl, HP5.out, HN5.out, HZ5.out, HA5.out, HE5.out, .inl ⟨rfl, rfl, rfl⟩⟩
  case round =>
    obtain ⟨i, cy, C, hgk, rfl, rfl, hb, hy, hz, ha, hB, hcase⟩ := hrel
    clear HP5 HN5 HZ5 HA5 HE5 HA HB HZ HP HE
    rcases hcase with ⟨rfl, rfl, rfl⟩ | ⟨rfl, rfl, rfl⟩ | ⟨rfl, rfl, rfl⟩ | ⟨rfl, rfl, rfl⟩ | ⟨rfl, rfl, rfl⟩
    · have cc : wr.cell? ⟨w.heap.size + 3, 0, none⟩ = some (.int .u64 18446744073709551597) := (hb.cell 0).trans rfl
      have ff : wr.frozen? ⟨w.heap.size + 3, 0, none⟩ = false := hb.frozen 0
      have cb : wr.cell? ⟨w.heap.size + 1, 0, none⟩ = some (.int .u64 (n0 : Int)) := (hy.cell 0).trans rfl
      have HB2 : Hid (Blk (wr.setCell ⟨w.heap.size + 3, 0, none⟩ (.int .u64 (s0 : Int))) (w.heap.size + 3) 80 (l4 s0 18446744073709551615 18446744073709551615 9223372036854775807)) := hb.set_ 0 (.int .u64 (s0 : Int))
      have HY2 := Lib.hid (hy.far (p := ⟨w.heap.size + 3, 0, none⟩) (by simp) (.int .u64 (s0 : Int)))
      have HZ2 := Lib.hid (hz.far (p := ⟨w.heap.size + 3, 0, none⟩) (by simp) (.int .u64 (s0 : Int)))
      have HA2 := Lib.hid (ha.far (p := ⟨w.heap.size + 3, 0, none⟩) (by simp) (.int .u64 (s0 : Int)))
      have HE2b := Lib.hid (hB.setCell (p := ⟨w.heap.size + 3, 0, none⟩) (Nat.le_add_right _ _) (.int .u64 (s0 : Int)))
      clear hb hy hz ha hB
      go_wp2
      go_region_with (simp only [HE0.out])
      all_goals (
        go_wp2
        go_roundg 3
        case measure => omega
        case rel => exact ⟨1, k1, l4 s0 18446744073709551615 18446744073709551615 9223372036854775807, rfl, by go_num, rfl, HB2.out.drew, HY2.out.drew, HZ2.out.drew, HA2.out.drew, HE2b.out.drew, .inr (.inl ⟨rfl, rfl, rfl⟩)⟩)
    · have cc : wr.cell? ⟨w.heap.size + 3, 1, none⟩ = some (.int .u64 18446744073709551615) := (hb.cell 1).trans rfl
      have ff : wr.frozen? ⟨w.heap.size + 3, 1, none⟩ = false := hb.frozen 1
      have cb : wr.cell? ⟨w.heap.size + 1, 1, none⟩ = some (.int .u64 (n1 : Int)) := (hy.cell 1).trans rfl
      have HB2 : Hid (Blk (wr.setCell ⟨w.heap.size + 3, 1, none⟩ (.int .u64 (s1 : Int))) (w.heap.size + 3) 80 (l4 s0 s1 18446744073709551615 9223372036854775807)) := hb.set_ 1 (.int .u64 (s1 : Int))
      have HY2 := Lib.hid (hy.far (p := ⟨w.heap.size + 3, 1, none⟩) (by simp) (.int .u64 (s1 : Int)))
      have HZ2 := Lib.hid (hz.far (p := ⟨w.heap.size + 3, 1, none⟩) (by simp) (.int .u64 (s1 : Int)))
      have HA2 := Lib.hid (ha.far (p := ⟨w.heap.size + 3, 1, none⟩) (by simp) (.int .u64 (s1 : Int)))
      have HE2b := Lib.hid (hB.setCell (p := ⟨w.heap.size + 3, 1, none⟩) (Nat.le_add_right _ _) (.int .u64 (s1 : Int)))
      clear hb hy hz ha hB
      go_wp2
      go_region_with (simp only [HE1.out])
      all_goals (
        go_wp2
        go_roundg 2
        case measure => omega
        case rel => exact ⟨2, k2, l4 s0 s1 18446744073709551615 9223372036854775807, rfl, by go_num, rfl, HB2.out.drew, HY2.out.drew, HZ2.out.drew, HA2.out.drew, HE2b.out.drew, .inr (.inr (.inl ⟨rfl, rfl, rfl⟩))⟩)
    · have cc : wr.cell? ⟨w.heap.size + 3, 2, none⟩ = some (.int .u64 18446744073709551615) := (hb.cell 2).trans rfl
      have ff : wr.frozen? ⟨w.heap.size + 3, 2, none⟩ = false := hb.frozen 2
      have cb : wr.cell? ⟨w.heap.size + 1, 2, none⟩ = some (.int .u64 (n2 : Int)) := (hy.cell 2).trans rfl
      have HB2 : Hid (Blk (wr.setCell ⟨w.heap.size + 3, 2, none⟩ (.int .u64 (s2 : Int))) (w.heap.size + 3) 80 (l4 s0 s1 s2 9223372036854775807)) := hb.set_ 2 (.int .u64 (s2 : Int))
      have HY2 := Lib.hid (hy.far (p := ⟨w.heap.size + 3, 2, none⟩) (by simp) (.int .u64 (s2 : Int)))
      have HZ2 := Lib.hid (hz.far (p := ⟨w.heap.size + 3, 2, none⟩) (by simp) (.int .u64 (s2 : Int)))
      have HA2 := Lib.hid (ha.far (p := ⟨w.heap.size + 3, 2, none⟩) (by simp) (.int .u64 (s2 : Int)))
      have HE2b := Lib.hid (hB.setCell (p := ⟨w.heap.size + 3, 2, none⟩) (Nat.le_add_right _ _) (.int .u64 (s2 : Int)))
      clear hb hy hz ha hB
      go_wp2
      go_region_with (simp only [HE2.out])
      all_goals (
        go_wp2
        go_roundg 1
        case measure => omega
        case rel => exact ⟨3, k3, l4 s0 s1 s2 9223372036854775807, rfl, by go_num, rfl, HB2.out.drew, HY2.out.drew, HZ2.out.drew, HA2.out.drew, HE2b.out.drew, .inr (.inr (.inr (.inl ⟨rfl, rfl, rfl⟩)))⟩)
    · have cc : wr.cell? ⟨w.heap.size + 3, 3, none⟩ = some (.int .u64 9223372036854775807) := (hb.cell 3).trans rfl
      have ff : wr.frozen? ⟨w.heap.size + 3, 3, none⟩ = false := hb.frozen 3
      have cb : wr.cell? ⟨w.heap.size + 1, 3, none⟩ = some (.int .u64 (n3 : Int)) := (hy.cell 3).trans rfl
      have HB2 : Hid (Blk (wr.setCell ⟨w.heap.size + 3, 3, none⟩ (.int .u64 (s3 : Int))) (w.heap.size + 3) 80 (l4 s0 s1 s2 s3)) := hb.set_ 3 (.int .u64 (s3 : Int))
      have HY2 := Lib.hid (hy.far (p := ⟨w.heap.size + 3, 3, none⟩) (by simp) (.int .u64 (s3 : Int)))
      have HZ2 := Lib.hid (hz.far (p := ⟨w.heap.size + 3, 3, none⟩) (by simp) (.int .u64 (s3 : Int)))
      have HA2 := Lib.hid (ha.far (p := ⟨w.heap.size + 3, 3, none⟩) (by simp) (.int .u64 (s3 : Int)))
      have HE2b := Lib.hid (hB.setCell (p := ⟨w.heap.size + 3, 3, none⟩) (Nat.le_add_right _ _) (.int .u64 (s3 : Int)))
      clear hb hy hz ha hB
      go_wp2
      go_region_with (simp only [HE3.out])
      all_goals (
        go_wp2
        go_roundg 0
        case measure => omega
        case rel => exact ⟨4, k4, l4 s0 s1 s2 s3, rfl, by go_num, rfl, HB2.out.drew, HY2.out.drew, HZ2.out.drew, HA2.out.drew, HE2b.out.drew, .inr (.inr (.inr (.inr (⟨rfl, rfl, rfl⟩))))⟩)
    · have HBB := Lib.hid hB
      have HT : Hid (Blk wr.drew w.heap.size 80 (l4 a0 a1 a2 a3) ∧ Blk wr.drew (w.heap.size + 3) 80 (l4 s0 s1 s2 s3)) := ⟨ha.drew, hb.drew⟩
      have HZ := Lib.hid hz.drew
      clear hb hy hz ha hB
      go_wp2
      refine region_K (by kernel_rfl) 4 (fun w' => Blk w' w.heap.size 80 (l4 a0 a1 a2 a3) ∧ Blk w' (w.heap.size + 3) 80 (l4 s0 s1 s2 s3)) ?_
      refine AnyK.load 0 (v := .agg (l4 a0 a1 a2 a3).toArray) rfl (by kernel_rfl) (by kernel_rfl) (by kernel_rfl) (fun _ _ _ h => h) rfl (fun w' hw' => ex_loadE (x := .tmp 2) (by rfl) (by kernel_rfl) hw'.1) HT.out ?_
      refine AnyK.load 2 (v := .agg (l4 s0 s1 s2 s3).toArray) rfl (by kernel_rfl) (by kernel_rfl) (by kernel_rfl) (fun _ _ _ h => h) rfl (fun w' hw' => ex_loadE (x := .tmp 5) (by rfl) (by kernel_rfl) hw'.2) HT.out ?_
      refine AnyK.enter 1 (d := some 29) (f := 58) (args := #[.agg (l4 a0 a1 a2 a3).toArray]) (by rfl) (by kernel_rfl) (by kernel_rfl) ?_
      refine (HM.out _).mono ?_
      rintro e w4 ⟨m0, m1, m2, m3, q1, rfl, hv1, hB1⟩
      have HT4 : Hid (Blk w4 w.heap.size 80 (l4 a0 a1 a2 a3) ∧ Blk w4 (w.heap.size + 3) 80 (l4 s0 s1 s2 s3)) := ⟨HT.out.1.below hB1 HT.out.1.lt, HT.out.2.below hB1 HT.out.2.lt⟩
      have HZ4 := HZ.out.below hB1 HZ.out.lt
      have HE4 := HBB.out.drew.trans (hB1.mono HBB.out.drew.size)
      refine ⟨_, rfl, fun _ => HT4.out, ?_⟩
      refine AnyK.enter 3 (d := some 31) (f := 85) (args := #[.agg (l4 m0 m1 m2 m3).toArray, .agg (l4 s0 s1 s2 s3).toArray]) (by rfl) (by kernel_rfl) (by kernel_rfl) ?_
      refine (fieldadd_any m0 m1 m2 m3 s0 s1 s2 s3 hv1.1 hv1.2.1 hv1.2.2.1 hv1.2.2.2.1 HFIN.out.2.1 HFIN.out.2.2.1 HFIN.out.2.2.2.1 HFIN.out.2.2.2.2 (by have := hv1.2.2.2.2.1; have := HFIN.out.1; simp only [pr] at *; omega) _).mono ?_
      rintro e w5 ⟨r0, r1, r2, r3, q2, rfl, hv2, hB2⟩
      have HT5 : Hid (Blk w5 w.heap.size 80 (l4 a0 a1 a2 a3) ∧ Blk w5 (w.heap.size + 3) 80 (l4 s0 s1 s2 s3)) := ⟨HT4.out.1.below hB2 HT4.out.1.lt, HT4.out.2.below hB2 HT4.out.2.lt⟩
      have HZ5 := HZ4.below hB2 HZ4.lt
      have HE5 := HE4.trans (hB2.mono HE4.size)
      refine ⟨_, rfl, fun _ => HT5.out, ?_⟩
      refine AnyK.storeAll 4 (w.heap.size + 2) (l4 r0 r1 r2 r3) 80 _ rfl rfl rfl (by rfl) (by kernel_rfl) (by kernel_rfl) (by kernel_rfl) HZ5 hdEl (l4_one _ _ _ _) rfl (fun _ _ _ h => (by cases h)) ?_
      intro w6 hb6 ho6
      refine AnyK.done (by kernel_rfl) ?_
      have HE6 := ho6.below HE5 (by omega) HE5.size
      have HB6 := Lib.hid hb6
      have HV1 := HV.out
      have HF := HFIN.out
      clear hb6 ho6 HZ5 HE5 HE4 HZ4 hB1 hB2
      go_wp2
      refine bodyPost_ret (res_cell rfl _ _ _ _ rfl HB6.out _ Tryz.underlying80 rfl (by exact hdEl)) rfl ⟨r0, r1, r2, r3, q1 + q2, q + 1, rfl, ⟨hv2.1, hv2.2.1, hv2.2.2.1, hv2.2.2.2.1, hv2.2.2.2.2.1, ?_⟩, HE6⟩
      have x1 := hv1.2.2.2.2.2; have x2 := hv2.2.2.2.2.2; have x3 := HV1.2.2.2.2.2; have x4 := HF.1
      simp only [pr] at *
      omega
end Go.Proofs.YtlbnibmcflmohaaGreat
