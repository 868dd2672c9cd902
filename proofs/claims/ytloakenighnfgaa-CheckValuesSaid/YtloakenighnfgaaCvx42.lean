/- Part of the proof: Kr. -/
import Derived.Test.YtloakenighnfgaaCvx38
set_option linter.unusedVariables false
namespace Go.Proofs.Ytloakenighnfgaa.Tr
open Go.RowKit
theorem rv_two (vs : List Int) (op k : Int) (A : Option Addr) (n c : Nat) (x y : Nd) (h : op = 2 ∨ op = 3 ∨ op = 4) : Nd.rvalue 1 11 vs (.mk op k A n c [x, y]) = if (Nd.rvalue 1 11 vs x).2 = 1 ∨ (Nd.rvalue 1 11 vs y).2 = 1 then (0, 1)
    else if (Nd.rvalue 1 11 vs x).2 ≠ 0 ∨ (Nd.rvalue 1 11 vs y).2 ≠ 0 then (0, 11)
    else if Nd.inR (Nd.opV op (Nd.rvalue 1 11 vs x).1 (Nd.rvalue 1 11 vs y).1) = true then (Nd.opV op (Nd.rvalue 1 11 vs x).1 (Nd.rvalue 1 11 vs y).1, 0) else (0, 11) := by
  rw [Nd.rvalue, if_neg (by simp; omega), if_neg (by omega), if_pos (by omega)]
theorem rv_cases (vs : List Int) (d : Nd) : ∃ v e, Nd.rvalue 1 11 vs d = (v, e) ∧ ((e = 0 ∧ -2147483648 ≤ v ∧ v ≤ 2147483647) ∨ e = 1 ∨ e = 11) := by
  rw [← Nd.value_same 1 11 (by decide) (by decide) (by decide) vs d]
  unfold Nd.value
  split
  · exact ⟨0, 1, rfl, .inr (.inl rfl)⟩
  · split
    · exact ⟨0, 11, rfl, .inr (.inr rfl)⟩
    · rename_i h1 h2
      exact ⟨_, 0, rfl, .inl ⟨rfl, inR_b (reckon_in vs d (by simpa using h2))⟩⟩
theorem rv_bad (vs : List Int) (op k : Int) (A : Option Addr) (n c : Nat) (kids : List Nd) (h : (op = 1 ∧ (k < 0 ∨ k ≥ (vs.length : Int))) ∨ op < 0 ∨ op > 4 ∨ (op > 1 ∧ kids.length ≠ 2)) : Nd.rvalue 1 11 vs (.mk op k A n c kids) = (0, 1) := by
  unfold Nd.rvalue; rw [if_pos h]
set_option maxRecDepth 100000 in
set_option maxHeartbeats 4000000 in
theorem rvalue_c (vs : List Int) (V : Option Addr) (vc m : Nat) (hm : vs.length = m) : ∀ (d : Nd) (w : World), NdIn w d → Rd w V m (intsV vs) → Calls Try.prog 7 #[.agg (ndC d).toArray, .slice V m vc] w fun e w' => e = .returned (.tuple #[.int .i64 (Nd.rvalue 1 11 vs d).1, .int .i64 ((Nd.rvalue 1 11 vs d).2 : Int)]) ∧ Below w.heap.size w w'
  | .mk op k A n c kids, w, h, hv => by
    by_cases hbad : (op = 1 ∧ (k < 0 ∨ k ≥ (vs.length : Int))) ∨ op < 0 ∨ op > 4 ∨ (op > 1 ∧ kids.length ≠ 2)
    · rw [rv_bad vs op k A n c kids hbad]
      have hn := h.len
      rw [hm] at hbad
      rw [hn] at hbad
      clear h hv hn hm
      show Calls Try.prog 7 #[.agg #[.int .i64 op, .int .i64 k, .slice A n c], .slice V m vc] w _
      rcases hbad with ⟨rfl, hk | hk⟩ | h1 | h1 | ⟨h1, h2⟩
      · go_enter Try.func7, Try.ntmps7
        go_wp2
        refine bodyPost_ret (results_tmp2 rfl _ _ _) rfl ?_
        exact ⟨rfl, (Below.refl _ _).alloc (Nat.le_refl _) _⟩
      · have hk0 : ¬ k < 0 := by omega
        go_enter Try.func7, Try.ntmps7
        go_wp2
        refine bodyPost_ret (results_tmp2 rfl _ _ _) rfl ?_
        exact ⟨rfl, (Below.refl _ _).alloc (Nat.le_refl _) _⟩
      · have x1 : (op == 1) = false := by rw [beq_eq_false_iff_ne]; omega
        go_enter Try.func7, Try.ntmps7
        go_wp2
        refine bodyPost_ret (results_tmp2 rfl _ _ _) rfl ?_
        exact ⟨rfl, (Below.refl _ _).alloc (Nat.le_refl _) _⟩
      · have x1 : (op == 1) = false := by rw [beq_eq_false_iff_ne]; omega
        have x2 : ¬ op < 0 := by omega
        go_enter Try.func7, Try.ntmps7
        go_wp2
        refine bodyPost_ret (results_tmp2 rfl _ _ _) rfl ?_
        exact ⟨rfl, (Below.refl _ _).alloc (Nat.le_refl _) _⟩
      · by_cases h4 : op > 4
        · have x1 : (op == 1) = false := by rw [beq_eq_false_iff_ne]; omega
          have x2 : ¬ op < 0 := by omega
          clear h1 h2
          go_enter Try.func7, Try.ntmps7
          go_wp2
          refine bodyPost_ret (results_tmp2 rfl _ _ _) rfl ?_
          exact ⟨rfl, (Below.refl _ _).alloc (Nat.le_refl _) _⟩
        · have x1 : (op == 1) = false := by rw [beq_eq_false_iff_ne]; omega
          have x2 : ¬ op < 0 := by omega
          have x3 : ((n : Int) != 2) = true := by rw [bne_iff_ne]; omega
          clear h2
          go_enter Try.func7, Try.ntmps7
          go_wp2
          refine bodyPost_ret (results_tmp2 rfl _ _ _) rfl ?_
          exact ⟨rfl, (Below.refl _ _).alloc (Nat.le_refl _) _⟩
    by_cases h2 : op = 2 ∨ op = 3 ∨ op = 4
    · match kids, h, hbad with
      | [], _, hbad => exact absurd (.inr (.inr (.inr ⟨by omega, by simp⟩))) hbad
      | [x], _, hbad => exact absurd (.inr (.inr (.inr ⟨by omega, by simp⟩))) hbad
      | x :: y :: z :: l, _, hbad => exact absurd (.inr (.inr (.inr ⟨by omega, by simp⟩))) hbad
      | [x, y], h, _ =>
        obtain ⟨rfl, hx, hy, b, off, rfl, hb, hc⟩ := h.two
        have HX := Lib.hid (fun W hW => rvalue_c vs V vc m hm x W (hx.belo hW) (hv.below hW))
        have HY := Lib.hid (fun W hW => rvalue_c vs V vc m hm y W (hy.belo hW) (hv.below hW))
        have HT := Lib.hid (rv_two vs op k (some ⟨b, off, none⟩) 2 c x y h2)
        rw [HT.out]
        have HR := Lib.hid (fun W hW => range_below (W' := W) hc hW hb)
        have hix := rv_cases vs x
        have hiy := rv_cases vs y
        clear h hx hy HT hv hbad
        obtain ⟨op1, k1, A1, n1, c1, l1⟩ := x
        obtain ⟨op2, k2, A2, n2, c2, l2⟩ := y
        obtain ⟨a0, a1, a2, a3, a4, a5⟩ := two_cells hc
        clear hc
        obtain ⟨vx, ex, hx, hx2⟩ := hix
        obtain ⟨vy, ey, hy, hy2⟩ := hiy
        rw [hx] at HX ⊢
        rw [hy] at HY ⊢
        clear hx hy hm
        show Calls Try.prog 7 #[.agg #[.int .i64 op, .int .i64 k, .slice (some ⟨b, off, none⟩) 2 c], .slice V m vc] w _
        unfold ndC at HX HY
        simp only at HX HY
        by_cases hok : ex = 0 ∧ ey = 0
        · obtain ⟨rfl, rfl⟩ := hok
          have ix := (show -2147483648 ≤ vx ∧ vx ≤ 2147483647 by rcases hx2 with h | h | h; exact h.2; cases h; cases h)
          have iy := (show -2147483648 ≤ vy ∧ vy ≤ 2147483647 by rcases hy2 with h | h | h; exact h.2; cases h; cases h)
          have HW : Hid (wrap64 (vx + vy) = vx + vy ∧ wrap64 (vx - vy) = vx - vy ∧ wrap64 (vx * vy) = vx * vy) := ⟨by unfold wrap64; omega, by unfold wrap64; omega, mul_in ix iy⟩
          clear hx2 hy2 ix iy
          rcases h2 with rfl | rfl | rfl
          · have hw := HW.out.1
            by_cases z1 : -2147483648 ≤ vx + vy
            · by_cases z2 : vx + vy ≤ 2147483647
              · have HP : Hid ((if ((vx, 0) : Int × Nat).2 = 1 ∨ ((vy, 0) : Int × Nat).2 = 1 then ((0, 1) : Int × Nat) else if ((vx, 0) : Int × Nat).2 ≠ 0 ∨ ((vy, 0) : Int × Nat).2 ≠ 0 then (0, 11) else if Nd.inR (Nd.opV 2 ((vx, 0) : Int × Nat).1 ((vy, 0) : Int × Nat).1) = true then (Nd.opV 2 ((vx, 0) : Int × Nat).1 ((vy, 0) : Int × Nat).1, 0) else (0, 11)) = (vx + vy, 0)) := by
                  show _ = _
                  rw [if_neg (by simp), if_neg (by simp), if_pos (by rw [inR_s]; show (decide (-2147483648 ≤ vx + vy) && decide (vx + vy ≤ 2147483647)) = true; simp [z1, z2])]
                  rfl
                rw [HP.out]
                clear HP HW
                have y1 : ¬ vx + vy < -2147483648 := by omega
                have y2 : ¬ 2147483647 < vx + vy := by omega
                clear z1 z2
                go_enter Try.func7, Try.ntmps7
                go_wp2_with (first
                  | (go_at_call 7; (with_reducible refine (HX.out _ (by exact (Below.refl _ _).alloc (Nat.le_refl _) _)).mono ?_); rintro e w2 ⟨rfl, hB2⟩
                     have hE2 : Blk w2 w.heap.size 24 [.int .i64 2, .int .i64 k, .slice (some ⟨b, off, none⟩) 2 c] := (Blk.new w _ _).below hB2 (by simp)
                     have HB2 : Hid (Below w.heap.size w w2) := ((Below.refl _ _).alloc (Nat.le_refl _) _).trans (hB2.mono (by simp))
                     obtain ⟨b0, b1, b2, b3, b4, b5⟩ := two_cells (HR.out w2 HB2.out)
                     have d2 : w2.cell? ⟨w.heap.size, 2, none⟩ = some (.slice (some ⟨b, off, none⟩) 2 c) := hE2.cell 2
                     clear hB2 a0 a1 a2 a3 a4 a5)
                  | (go_at_call 7; (with_reducible refine (HY.out _ (by exact HB2.out)).mono ?_); rintro e w3 ⟨rfl, hB3⟩
                     have e0 : w3.cell? ⟨w.heap.size, 0, none⟩ = some (.int .i64 2) := (hE2.below hB3 hE2.lt).cell 0))
                refine bodyPost_ret (results_tmp2 rfl _ _ _) rfl ?_
                exact ⟨by simp, HB2.out.trans (hB3.mono HB2.out.size)⟩
              · have HP : Hid ((if ((vx, 0) : Int × Nat).2 = 1 ∨ ((vy, 0) : Int × Nat).2 = 1 then ((0, 1) : Int × Nat) else if ((vx, 0) : Int × Nat).2 ≠ 0 ∨ ((vy, 0) : Int × Nat).2 ≠ 0 then (0, 11) else if Nd.inR (Nd.opV 2 ((vx, 0) : Int × Nat).1 ((vy, 0) : Int × Nat).1) = true then (Nd.opV 2 ((vx, 0) : Int × Nat).1 ((vy, 0) : Int × Nat).1, 0) else (0, 11)) = (0, 11)) := by
                  show _ = _
                  rw [if_neg (by simp), if_neg (by simp), if_neg (by rw [inR_s]; show ¬ (decide (-2147483648 ≤ vx + vy) && decide (vx + vy ≤ 2147483647)) = true; simp [z2])]
                rw [HP.out]
                clear HP HW
                have y1 : ¬ vx + vy < -2147483648 := by omega
                have y2 : 2147483647 < vx + vy := by omega
                clear z1 z2
                go_enter Try.func7, Try.ntmps7
                go_wp2_with (first
                  | (go_at_call 7; (with_reducible refine (HX.out _ (by exact (Below.refl _ _).alloc (Nat.le_refl _) _)).mono ?_); rintro e w2 ⟨rfl, hB2⟩
                     have hE2 : Blk w2 w.heap.size 24 [.int .i64 2, .int .i64 k, .slice (some ⟨b, off, none⟩) 2 c] := (Blk.new w _ _).below hB2 (by simp)
                     have HB2 : Hid (Below w.heap.size w w2) := ((Below.refl _ _).alloc (Nat.le_refl _) _).trans (hB2.mono (by simp))
                     obtain ⟨b0, b1, b2, b3, b4, b5⟩ := two_cells (HR.out w2 HB2.out)
                     have d2 : w2.cell? ⟨w.heap.size, 2, none⟩ = some (.slice (some ⟨b, off, none⟩) 2 c) := hE2.cell 2
                     clear hB2 a0 a1 a2 a3 a4 a5)
                  | (go_at_call 7; (with_reducible refine (HY.out _ (by exact HB2.out)).mono ?_); rintro e w3 ⟨rfl, hB3⟩
                     have e0 : w3.cell? ⟨w.heap.size, 0, none⟩ = some (.int .i64 2) := (hE2.below hB3 hE2.lt).cell 0))
                refine bodyPost_ret (results_tmp2 rfl _ _ _) rfl ?_
                exact ⟨rfl, HB2.out.trans (hB3.mono HB2.out.size)⟩
            · have HP : Hid ((if ((vx, 0) : Int × Nat).2 = 1 ∨ ((vy, 0) : Int × Nat).2 = 1 then ((0, 1) : Int × Nat) else if ((vx, 0) : Int × Nat).2 ≠ 0 ∨ ((vy, 0) : Int × Nat).2 ≠ 0 then (0, 11) else if Nd.inR (Nd.opV 2 ((vx, 0) : Int × Nat).1 ((vy, 0) : Int × Nat).1) = true then (Nd.opV 2 ((vx, 0) : Int × Nat).1 ((vy, 0) : Int × Nat).1, 0) else (0, 11)) = (0, 11)) := by
                show _ = _
                rw [if_neg (by simp), if_neg (by simp), if_neg (by rw [inR_s]; show ¬ (decide (-2147483648 ≤ vx + vy) && decide (vx + vy ≤ 2147483647)) = true; simp [z1])]
              rw [HP.out]
              clear HP HW
              have y1 : vx + vy < -2147483648 := by omega
              clear z1
              go_enter Try.func7, Try.ntmps7
              go_wp2_with (first
                | (go_at_call 7; (with_reducible refine (HX.out _ (by exact (Below.refl _ _).alloc (Nat.le_refl _) _)).mono ?_); rintro e w2 ⟨rfl, hB2⟩
                   have hE2 : Blk w2 w.heap.size 24 [.int .i64 2, .int .i64 k, .slice (some ⟨b, off, none⟩) 2 c] := (Blk.new w _ _).below hB2 (by simp)
                   have HB2 : Hid (Below w.heap.size w w2) := ((Below.refl _ _).alloc (Nat.le_refl _) _).trans (hB2.mono (by simp))
                   obtain ⟨b0, b1, b2, b3, b4, b5⟩ := two_cells (HR.out w2 HB2.out)
                   have d2 : w2.cell? ⟨w.heap.size, 2, none⟩ = some (.slice (some ⟨b, off, none⟩) 2 c) := hE2.cell 2
                   clear hB2 a0 a1 a2 a3 a4 a5)
                | (go_at_call 7; (with_reducible refine (HY.out _ (by exact HB2.out)).mono ?_); rintro e w3 ⟨rfl, hB3⟩
                   have e0 : w3.cell? ⟨w.heap.size, 0, none⟩ = some (.int .i64 2) := (hE2.below hB3 hE2.lt).cell 0))
              refine bodyPost_ret (results_tmp2 rfl _ _ _) rfl ?_
              exact ⟨rfl, HB2.out.trans (hB3.mono HB2.out.size)⟩
          · have hw := HW.out.2.1
            by_cases z1 : -2147483648 ≤ vx - vy
            · by_cases z2 : vx - vy ≤ 2147483647
              · have HP : Hid ((if ((vx, 0) : Int × Nat).2 = 1 ∨ ((vy, 0) : Int × Nat).2 = 1 then ((0, 1) : Int × Nat) else if ((vx, 0) : Int × Nat).2 ≠ 0 ∨ ((vy, 0) : Int × Nat).2 ≠ 0 then (0, 11) else if Nd.inR (Nd.opV 3 ((vx, 0) : Int × Nat).1 ((vy, 0) : Int × Nat).1) = true then (Nd.opV 3 ((vx, 0) : Int × Nat).1 ((vy, 0) : Int × Nat).1, 0) else (0, 11)) = (vx - vy, 0)) := by
                  show _ = _
                  rw [if_neg (by simp), if_neg (by simp), if_pos (by rw [inR_s]; show (decide (-2147483648 ≤ vx - vy) && decide (vx - vy ≤ 2147483647)) = true; simp [z1, z2])]
                  rfl
                rw [HP.out]
                clear HP HW
                have y1 : ¬ vx - vy < -2147483648 := by omega
                have y2 : ¬ 2147483647 < vx - vy := by omega
                clear z1 z2
                go_enter Try.func7, Try.ntmps7
                go_wp2_with (first
                  | (go_at_call 7; (with_reducible refine (HX.out _ (by exact (Below.refl _ _).alloc (Nat.le_refl _) _)).mono ?_); rintro e w2 ⟨rfl, hB2⟩
                     have hE2 : Blk w2 w.heap.size 24 [.int .i64 3, .int .i64 k, .slice (some ⟨b, off, none⟩) 2 c] := (Blk.new w _ _).below hB2 (by simp)
                     have HB2 : Hid (Below w.heap.size w w2) := ((Below.refl _ _).alloc (Nat.le_refl _) _).trans (hB2.mono (by simp))
                     obtain ⟨b0, b1, b2, b3, b4, b5⟩ := two_cells (HR.out w2 HB2.out)
                     have d2 : w2.cell? ⟨w.heap.size, 2, none⟩ = some (.slice (some ⟨b, off, none⟩) 2 c) := hE2.cell 2
                     clear hB2 a0 a1 a2 a3 a4 a5)
                  | (go_at_call 7; (with_reducible refine (HY.out _ (by exact HB2.out)).mono ?_); rintro e w3 ⟨rfl, hB3⟩
                     have e0 : w3.cell? ⟨w.heap.size, 0, none⟩ = some (.int .i64 3) := (hE2.below hB3 hE2.lt).cell 0))
                refine bodyPost_ret (results_tmp2 rfl _ _ _) rfl ?_
                exact ⟨by simp, HB2.out.trans (hB3.mono HB2.out.size)⟩
              · have HP : Hid ((if ((vx, 0) : Int × Nat).2 = 1 ∨ ((vy, 0) : Int × Nat).2 = 1 then ((0, 1) : Int × Nat) else if ((vx, 0) : Int × Nat).2 ≠ 0 ∨ ((vy, 0) : Int × Nat).2 ≠ 0 then (0, 11) else if Nd.inR (Nd.opV 3 ((vx, 0) : Int × Nat).1 ((vy, 0) : Int × Nat).1) = true then (Nd.opV 3 ((vx, 0) : Int × Nat).1 ((vy, 0) : Int × Nat).1, 0) else (0, 11)) = (0, 11)) := by
                  show _ = _
                  rw [if_neg (by simp), if_neg (by simp), if_neg (by rw [inR_s]; show ¬ (decide (-2147483648 ≤ vx - vy) && decide (vx - vy ≤ 2147483647)) = true; simp [z2])]
                rw [HP.out]
                clear HP HW
                have y1 : ¬ vx - vy < -2147483648 := by omega
                have y2 : 2147483647 < vx - vy := by omega
                clear z1 z2
                go_enter Try.func7, Try.ntmps7
                go_wp2_with (first
                  | (go_at_call 7; (with_reducible refine (HX.out _ (by exact (Below.refl _ _).alloc (Nat.le_refl _) _)).mono ?_); rintro e w2 ⟨rfl, hB2⟩
                     have hE2 : Blk w2 w.heap.size 24 [.int .i64 3, .int .i64 k, .slice (some ⟨b, off, none⟩) 2 c] := (Blk.new w _ _).below hB2 (by simp)
                     have HB2 : Hid (Below w.heap.size w w2) := ((Below.refl _ _).alloc (Nat.le_refl _) _).trans (hB2.mono (by simp))
                     obtain ⟨b0, b1, b2, b3, b4, b5⟩ := two_cells (HR.out w2 HB2.out)
                     have d2 : w2.cell? ⟨w.heap.size, 2, none⟩ = some (.slice (some ⟨b, off, none⟩) 2 c) := hE2.cell 2
                     clear hB2 a0 a1 a2 a3 a4 a5)
                  | (go_at_call 7; (with_reducible refine (HY.out _ (by exact HB2.out)).mono ?_); rintro e w3 ⟨rfl, hB3⟩
                     have e0 : w3.cell? ⟨w.heap.size, 0, none⟩ = some (.int .i64 3) := (hE2.below hB3 hE2.lt).cell 0))
                refine bodyPost_ret (results_tmp2 rfl _ _ _) rfl ?_
                exact ⟨rfl, HB2.out.trans (hB3.mono HB2.out.size)⟩
            · have HP : Hid ((if ((vx, 0) : Int × Nat).2 = 1 ∨ ((vy, 0) : Int × Nat).2 = 1 then ((0, 1) : Int × Nat) else if ((vx, 0) : Int × Nat).2 ≠ 0 ∨ ((vy, 0) : Int × Nat).2 ≠ 0 then (0, 11) else if Nd.inR (Nd.opV 3 ((vx, 0) : Int × Nat).1 ((vy, 0) : Int × Nat).1) = true then (Nd.opV 3 ((vx, 0) : Int × Nat).1 ((vy, 0) : Int × Nat).1, 0) else (0, 11)) = (0, 11)) := by
                show _ = _
                rw [if_neg (by simp), if_neg (by simp), if_neg (by rw [inR_s]; show ¬ (decide (-2147483648 ≤ vx - vy) && decide (vx - vy ≤ 2147483647)) = true; simp [z1])]
              rw [HP.out]
              clear HP HW
              have y1 : vx - vy < -2147483648 := by omega
              clear z1
              go_enter Try.func7, Try.ntmps7
              go_wp2_with (first
                | (go_at_call 7; (with_reducible refine (HX.out _ (by exact (Below.refl _ _).alloc (Nat.le_refl _) _)).mono ?_); rintro e w2 ⟨rfl, hB2⟩
                   have hE2 : Blk w2 w.heap.size 24 [.int .i64 3, .int .i64 k, .slice (some ⟨b, off, none⟩) 2 c] := (Blk.new w _ _).below hB2 (by simp)
                   have HB2 : Hid (Below w.heap.size w w2) := ((Below.refl _ _).alloc (Nat.le_refl _) _).trans (hB2.mono (by simp))
                   obtain ⟨b0, b1, b2, b3, b4, b5⟩ := two_cells (HR.out w2 HB2.out)
                   have d2 : w2.cell? ⟨w.heap.size, 2, none⟩ = some (.slice (some ⟨b, off, none⟩) 2 c) := hE2.cell 2
                   clear hB2 a0 a1 a2 a3 a4 a5)
                | (go_at_call 7; (with_reducible refine (HY.out _ (by exact HB2.out)).mono ?_); rintro e w3 ⟨rfl, hB3⟩
                   have e0 : w3.cell? ⟨w.heap.size, 0, none⟩ = some (.int .i64 3) := (hE2.below hB3 hE2.lt).cell 0))
              refine bodyPost_ret (results_tmp2 rfl _ _ _) rfl ?_
              exact ⟨rfl, HB2.out.trans (hB3.mono HB2.out.size)⟩
          · have hw := HW.out.2.2
            by_cases z1 : -2147483648 ≤ vx * vy
            · by_cases z2 : vx * vy ≤ 2147483647
              · have HP : Hid ((if ((vx, 0) : Int × Nat).2 = 1 ∨ ((vy, 0) : Int × Nat).2 = 1 then ((0, 1) : Int × Nat) else if ((vx, 0) : Int × Nat).2 ≠ 0 ∨ ((vy, 0) : Int × Nat).2 ≠ 0 then (0, 11) else if Nd.inR (Nd.opV 4 ((vx, 0) : Int × Nat).1 ((vy, 0) : Int × Nat).1) = true then (Nd.opV 4 ((vx, 0) : Int × Nat).1 ((vy, 0) : Int × Nat).1, 0) else (0, 11)) = (vx * vy, 0)) := by
                  show _ = _
                  rw [if_neg (by simp), if_neg (by simp), if_pos (by rw [inR_s]; show (decide (-2147483648 ≤ vx * vy) && decide (vx * vy ≤ 2147483647)) = true; simp [z1, z2])]
                  rfl
                rw [HP.out]
                clear HP HW
                have y1 : ¬ vx * vy < -2147483648 := by omega
                have y2 : ¬ 2147483647 < vx * vy := by omega
                clear z1 z2
                go_enter Try.func7, Try.ntmps7
                go_wp2_with (first
                  | (go_at_call 7; (with_reducible refine (HX.out _ (by exact (Below.refl _ _).alloc (Nat.le_refl _) _)).mono ?_); rintro e w2 ⟨rfl, hB2⟩
                     have hE2 : Blk w2 w.heap.size 24 [.int .i64 4, .int .i64 k, .slice (some ⟨b, off, none⟩) 2 c] := (Blk.new w _ _).below hB2 (by simp)
                     have HB2 : Hid (Below w.heap.size w w2) := ((Below.refl _ _).alloc (Nat.le_refl _) _).trans (hB2.mono (by simp))
                     obtain ⟨b0, b1, b2, b3, b4, b5⟩ := two_cells (HR.out w2 HB2.out)
                     have d2 : w2.cell? ⟨w.heap.size, 2, none⟩ = some (.slice (some ⟨b, off, none⟩) 2 c) := hE2.cell 2
                     clear hB2 a0 a1 a2 a3 a4 a5)
                  | (go_at_call 7; (with_reducible refine (HY.out _ (by exact HB2.out)).mono ?_); rintro e w3 ⟨rfl, hB3⟩
                     have e0 : w3.cell? ⟨w.heap.size, 0, none⟩ = some (.int .i64 4) := (hE2.below hB3 hE2.lt).cell 0))
                refine bodyPost_ret (results_tmp2 rfl _ _ _) rfl ?_
                exact ⟨by simp, HB2.out.trans (hB3.mono HB2.out.size)⟩
              · have HP : Hid ((if ((vx, 0) : Int × Nat).2 = 1 ∨ ((vy, 0) : Int × Nat).2 = 1 then ((0, 1) : Int × Nat) else if ((vx, 0) : Int × Nat).2 ≠ 0 ∨ ((vy, 0) : Int × Nat).2 ≠ 0 then (0, 11) else if Nd.inR (Nd.opV 4 ((vx, 0) : Int × Nat).1 ((vy, 0) : Int × Nat).1) = true then (Nd.opV 4 ((vx, 0) : Int × Nat).1 ((vy, 0) : Int × Nat).1, 0) else (0, 11)) = (0, 11)) := by
                  show _ = _
                  rw [if_neg (by simp), if_neg (by simp), if_neg (by rw [inR_s]; show ¬ (decide (-2147483648 ≤ vx * vy) && decide (vx * vy ≤ 2147483647)) = true; simp [z2])]
                rw [HP.out]
                clear HP HW
                have y1 : ¬ vx * vy < -2147483648 := by omega
                have y2 : 2147483647 < vx * vy := by omega
                clear z1 z2
                go_enter Try.func7, Try.ntmps7
                go_wp2_with (first
                  | (go_at_call 7; (with_reducible refine (HX.out _ (by exact (Below.refl _ _).alloc (Nat.le_refl _) _)).mono ?_); rintro e w2 ⟨rfl, hB2⟩
                     have hE2 : Blk w2 w.heap.size 24 [.int .i64 4, .int .i64 k, .slice (some ⟨b, off, none⟩) 2 c] := (Blk.new w _ _).below hB2 (by simp)
                     have HB2 : Hid (Below w.heap.size w w2) := ((Below.refl _ _).alloc (Nat.le_refl _) _).trans (hB2.mono (by simp))
                     obtain ⟨b0, b1, b2, b3, b4, b5⟩ := two_cells (HR.out w2 HB2.out)
                     have d2 : w2.cell? ⟨w.heap.size, 2, none⟩ = some (.slice (some ⟨b, off, none⟩) 2 c) := hE2.cell 2
                     clear hB2 a0 a1 a2 a3 a4 a5)
                  | (go_at_call 7; (with_reducible refine (HY.out _ (by exact HB2.out)).mono ?_); rintro e w3 ⟨rfl, hB3⟩
                     have e0 : w3.cell? ⟨w.heap.size, 0, none⟩ = some (.int .i64 4) := (hE2.below hB3 hE2.lt).cell 0))
                refine bodyPost_ret (results_tmp2 rfl _ _ _) rfl ?_
                exact ⟨rfl, HB2.out.trans (hB3.mono HB2.out.size)⟩
            · have HP : Hid ((if ((vx, 0) : Int × Nat).2 = 1 ∨ ((vy, 0) : Int × Nat).2 = 1 then ((0, 1) : Int × Nat) else if ((vx, 0) : Int × Nat).2 ≠ 0 ∨ ((vy, 0) : Int × Nat).2 ≠ 0 then (0, 11) else if Nd.inR (Nd.opV 4 ((vx, 0) : Int × Nat).1 ((vy, 0) : Int × Nat).1) = true then (Nd.opV 4 ((vx, 0) : Int × Nat).1 ((vy, 0) : Int × Nat).1, 0) else (0, 11)) = (0, 11)) := by
                show _ = _
                rw [if_neg (by simp), if_neg (by simp), if_neg (by rw [inR_s]; show ¬ (decide (-2147483648 ≤ vx * vy) && decide (vx * vy ≤ 2147483647)) = true; simp [z1])]
              rw [HP.out]
              clear HP HW
              have y1 : vx * vy < -2147483648 := by omega
              clear z1
              go_enter Try.func7, Try.ntmps7
              go_wp2_with (first
                | (go_at_call 7; (with_reducible refine (HX.out _ (by exact (Below.refl _ _).alloc (Nat.le_refl _) _)).mono ?_); rintro e w2 ⟨rfl, hB2⟩
                   have hE2 : Blk w2 w.heap.size 24 [.int .i64 4, .int .i64 k, .slice (some ⟨b, off, none⟩) 2 c] := (Blk.new w _ _).below hB2 (by simp)
                   have HB2 : Hid (Below w.heap.size w w2) := ((Below.refl _ _).alloc (Nat.le_refl _) _).trans (hB2.mono (by simp))
                   obtain ⟨b0, b1, b2, b3, b4, b5⟩ := two_cells (HR.out w2 HB2.out)
                   have d2 : w2.cell? ⟨w.heap.size, 2, none⟩ = some (.slice (some ⟨b, off, none⟩) 2 c) := hE2.cell 2
                   clear hB2 a0 a1 a2 a3 a4 a5)
                | (go_at_call 7; (with_reducible refine (HY.out _ (by exact HB2.out)).mono ?_); rintro e w3 ⟨rfl, hB3⟩
                   have e0 : w3.cell? ⟨w.heap.size, 0, none⟩ = some (.int .i64 4) := (hE2.below hB3 hE2.lt).cell 0))
              refine bodyPost_ret (results_tmp2 rfl _ _ _) rfl ?_
              exact ⟨rfl, HB2.out.trans (hB3.mono HB2.out.size)⟩
        · have x1 : (op == 1) = false := by rw [beq_eq_false_iff_ne]; omega
          have x2 : ¬ op < 0 := by omega
          have x3 : ¬ op > 4 := by omega
          have x4 : op > 1 := by omega
          rw [show (if (vx, ex).2 = 1 ∨ (vy, ey).2 = 1 then ((0, 1) : Int × Nat) else if (vx, ex).2 ≠ 0 ∨ (vy, ey).2 ≠ 0 then (0, 11) else if Nd.inR (Nd.opV op (vx, ex).1 (vy, ey).1) = true then (Nd.opV op (vx, ex).1 (vy, ey).1, 0) else (0, 11)) = (if ex = 1 ∨ ey = 1 then ((0, 1) : Int × Nat) else (0, 11)) by
            dsimp only
            split
            · rfl
            · rw [if_pos (by omega)]]
          have hx3 : ex = 0 ∨ ex = 1 ∨ ex = 11 := by omega
          have hy3 : ey = 0 ∨ ey = 1 ∨ ey = 11 := by omega
          clear hx2 hy2 h2
          rcases hx3 with rfl | rfl | rfl <;> rcases hy3 with rfl | rfl | rfl
          · exact absurd ⟨rfl, rfl⟩ hok
          all_goals (
            clear hok
            go_enter Try.func7, Try.ntmps7
            go_wp2_with (first
              | (go_at_call 7; (with_reducible refine (HX.out _ (by exact (Below.refl _ _).alloc (Nat.le_refl _) _)).mono ?_); rintro e w2 ⟨rfl, hB2⟩
                 have hE2 : Blk w2 w.heap.size 24 [.int .i64 op, .int .i64 k, .slice (some ⟨b, off, none⟩) 2 c] := (Blk.new w _ _).below hB2 (by simp)
                 have HB2 : Hid (Below w.heap.size w w2) := ((Below.refl _ _).alloc (Nat.le_refl _) _).trans (hB2.mono (by simp))
                 obtain ⟨b0, b1, b2, b3, b4, b5⟩ := two_cells (HR.out w2 HB2.out)
                 have d2 : w2.cell? ⟨w.heap.size, 2, none⟩ = some (.slice (some ⟨b, off, none⟩) 2 c) := hE2.cell 2
                 clear hB2 a0 a1 a2 a3 a4 a5)
              | (go_at_call 7; (with_reducible refine (HY.out _ (by exact HB2.out)).mono ?_); rintro e w3 ⟨rfl, hB3⟩
                 have e0 : w3.cell? ⟨w.heap.size, 0, none⟩ = some (.int .i64 op) := (hE2.below hB3 hE2.lt).cell 0))
            refine bodyPost_ret (results_tmp2 rfl _ _ _) rfl ?_
            exact ⟨rfl, HB2.out.trans (hB3.mono HB2.out.size)⟩)
    · by_cases h1 : op = 1
      · subst h1
        have hk : 0 ≤ k ∧ k < (vs.length : Int) := by omega
        obtain ⟨j, rfl⟩ := Int.eq_ofNat_of_zero_le hk.1
        have hj : j < vs.length := by omega
        have HT : Hid (Nd.rvalue 1 11 vs (.mk 1 (j : Int) A n c kids) = if Nd.inR vs[j] = true then (vs[j], 0) else (0, 11)) := by
          show _ = _
          unfold Nd.rvalue
          rw [if_neg hbad, if_pos rfl]
          simp [hj]
        rw [HT.out]
        obtain ⟨b, off, rfl, hb, hc⟩ := hv.2 (by omega)
        have c1 : w.cell? ⟨b, off + j, none⟩ = some (.int .i64 vs[j]) := hc j _ (by simp [intsV, hj])
        have hjl : (j : Int) < (m : Int) := by omega
        have hjn : ¬ (j : Int) < 0 := by omega
        have hjm : ¬ (j : Int) ≥ (m : Int) := by omega
        clear h hv HT hc h2 hbad hk
        generalize vs[j] = Z at *
        clear hj hm
        show Calls Try.prog 7 #[.agg #[.int .i64 1, .int .i64 (j : Int), .slice A n c], .slice (some ⟨b, off, none⟩) m vc] w _
        cases hz : Nd.inR Z
        · rw [if_neg (by simp)]
          by_cases z1 : Z < -2147483648
          · clear hz
            go_enter Try.func7, Try.ntmps7
            go_wp2
            refine bodyPost_ret (results_tmp2 rfl _ _ _) rfl ?_
            exact ⟨rfl, (Below.refl _ _).alloc (Nat.le_refl _) _⟩
          · have z2 : Z > 2147483647 := by rw [inR_s] at hz; simp at hz; omega
            clear hz
            go_enter Try.func7, Try.ntmps7
            go_wp2
            refine bodyPost_ret (results_tmp2 rfl _ _ _) rfl ?_
            exact ⟨rfl, (Below.refl _ _).alloc (Nat.le_refl _) _⟩
        · rw [if_pos rfl]
          have hz2 := inR_b hz
          have z1 : ¬ Z < -2147483648 := by omega
          have z2 : ¬ Z > 2147483647 := by omega
          clear hz hz2
          go_enter Try.func7, Try.ntmps7
          go_wp2
          refine bodyPost_ret (results_tmp2 rfl _ _ _) rfl ?_
          exact ⟨rfl, (Below.refl _ _).alloc (Nat.le_refl _) _⟩
      · have h0 : op = 0 := by omega
        subst h0
        have HT : Hid (Nd.rvalue 1 11 vs (.mk 0 k A n c kids) = if Nd.inR k = true then (k, 0) else (0, 11)) := by
          show _ = _
          unfold Nd.rvalue
          rw [if_neg hbad, if_neg (by omega), if_neg (by omega)]
        rw [HT.out]
        clear h hv HT h2 hbad h1 hm
        show Calls Try.prog 7 #[.agg #[.int .i64 0, .int .i64 k, .slice A n c], .slice V m vc] w _
        cases hz : Nd.inR k
        · rw [if_neg (by simp)]
          by_cases z1 : k < -2147483648
          · clear hz
            go_enter Try.func7, Try.ntmps7
            go_wp2
            refine bodyPost_ret (results_tmp2 rfl _ _ _) rfl ?_
            exact ⟨rfl, (Below.refl _ _).alloc (Nat.le_refl _) _⟩
          · have z2 : k > 2147483647 := by rw [inR_s] at hz; simp at hz; omega
            clear hz
            go_enter Try.func7, Try.ntmps7
            go_wp2
            refine bodyPost_ret (results_tmp2 rfl _ _ _) rfl ?_
            exact ⟨rfl, (Below.refl _ _).alloc (Nat.le_refl _) _⟩
        · rw [if_pos rfl]
          have hz2 := inR_b hz
          have z1 : ¬ k < -2147483648 := by omega
          have z2 : ¬ k > 2147483647 := by omega
          clear hz hz2
          go_enter Try.func7, Try.ntmps7
          go_wp2
          refine bodyPost_ret (results_tmp2 rfl _ _ _) rfl ?_
          exact ⟨rfl, (Below.refl _ _).alloc (Nat.le_refl _) _⟩
end Go.Proofs.Ytloakenighnfgaa.Tr
