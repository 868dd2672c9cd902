/- Part of the proof: Km. -/
import Derived.Test.YtloakenighnfgaaCvx36
set_option linter.unusedVariables false
namespace Go.Proofs.Ytloakenighnfgaa.Tr
open Go.RowKit
theorem formed_two (op k : Int) (A : Option Addr) (n c m : Nat) (x y : Nd) (h : op = 2 ∨ op = 3 ∨ op = 4) : Nd.formed m (.mk op k A n c [x, y]) = (Nd.formed m x && Nd.formed m y) := by
  rw [Nd.formed, if_neg (by omega), if_neg (by omega), if_pos h]
theorem formed_not (op k : Int) (A : Option Addr) (n c m : Nat) (kids : List Nd) (h : op = 2 ∨ op = 3 ∨ op = 4) (hk : kids.length ≠ 2) : Nd.formed m (.mk op k A n c kids) = false := by
  match kids, hk with
  | [], _ => rw [Nd.formed, if_neg (by omega), if_neg (by omega), if_pos h] <;> simp
  | [x], _ => rw [Nd.formed, if_neg (by omega), if_neg (by omega), if_pos h] <;> simp
  | x :: y :: z :: l, _ => rw [Nd.formed, if_neg (by omega), if_neg (by omega), if_pos h] <;> simp
  | [x, y], hk => exact absurd rfl hk
set_option maxRecDepth 100000 in
set_option maxHeartbeats 2000000 in
theorem formed_c (m : Nat) (M : Int) (hM : (m : Int) = M) : ∀ (d : Nd) (w : World), NdIn w d → Calls Try.prog 15 #[.agg (ndC d).toArray, .int .i64 M] w fun e w' => e = .returned (.bool (Nd.formed m d)) ∧ Below w.heap.size w w'
  | .mk op k A n c kids, w, h => by
    by_cases h0 : op = 0
    · subst h0
      have HT : Nd.formed m (.mk 0 k A n c kids) = true := by unfold Nd.formed; rw [if_pos rfl]
      rw [HT]
      clear h HT
      show Calls Try.prog 15 #[.agg #[.int .i64 0, .int .i64 k, .slice A n c], .int .i64 M] w _
      go_enter Try.func15, Try.ntmps15
      go_wp2
      go_ret
      exact ⟨rfl, (Below.refl _ _).alloc (Nat.le_refl _) _⟩
    by_cases h1 : op = 1
    · subst h1
      have HT : Nd.formed m (.mk 1 k A n c kids) = (decide (0 ≤ k) && decide (k < (m : Int))) := by unfold Nd.formed; rw [if_neg (by omega), if_pos rfl]; simp
      rw [HT]
      rw [hM]
      show Calls Try.prog 15 #[.agg #[.int .i64 1, .int .i64 k, .slice A n c], .int .i64 M] w _
      clear h HT h0 hM
      by_cases hk : 0 ≤ k
      · by_cases hk2 : k < M
        · rw [decide_eq_true hk, decide_eq_true hk2]
          go_enter Try.func15, Try.ntmps15
          go_wp2
          go_ret
          exact ⟨rfl, (Below.refl _ _).alloc (Nat.le_refl _) _⟩
        · rw [decide_eq_true hk, decide_eq_false hk2]
          go_enter Try.func15, Try.ntmps15
          go_wp2
          go_ret
          exact ⟨rfl, (Below.refl _ _).alloc (Nat.le_refl _) _⟩
      · rw [decide_eq_false hk]
        go_enter Try.func15, Try.ntmps15
        go_wp2
        go_ret
        exact ⟨rfl, (Below.refl _ _).alloc (Nat.le_refl _) _⟩
    by_cases h2 : op = 2 ∨ op = 3 ∨ op = 4
    · by_cases hk : kids.length = 2
      · match kids, h, hk with
        | [x, y], h, _ =>
          obtain ⟨rfl, hx, hy, b, off, rfl, hb, hc⟩ := h.two
          have HX := Lib.hid (fun W hW => formed_c m M hM x W (hx.belo hW))
          have HY := Lib.hid (fun W hW => formed_c m M hM y W (hy.belo hW))
          have HT := Lib.hid (formed_two op k (some ⟨b, off, none⟩) 2 c m x y h2)
          rw [HT.out]
          have HR := Lib.hid (fun W hW => range_below (W' := W) hc hW hb)
          clear h hx hy HT h0 h1
          obtain ⟨op1, k1, A1, n1, c1, l1⟩ := x
          obtain ⟨op2, k2, A2, n2, c2, l2⟩ := y
          obtain ⟨a0, a1, a2, a3, a4, a5⟩ := two_cells hc
          clear hc
          generalize Nd.formed m (.mk op1 k1 A1 n1 c1 l1) = SX at *
          generalize Nd.formed m (.mk op2 k2 A2 n2 c2 l2) = SY at *
          show Calls Try.prog 15 #[.agg #[.int .i64 op, .int .i64 k, .slice (some ⟨b, off, none⟩) 2 c], .int .i64 M] w _
          unfold ndC at HX HY
          clear hM
          rcases h2 with rfl | rfl | rfl
          all_goals cases SX
          all_goals go_enter Try.func15, Try.ntmps15
          all_goals go_wp2_with (first
            | (go_at_call 15; (with_reducible refine (HX.out _ (by exact (Below.refl _ _).alloc (Nat.le_refl _) _)).mono ?_); rintro e w2 ⟨rfl, hB2⟩
               have hE2 : Blk w2 w.heap.size 24 [.int .i64 _, .int .i64 k, .slice (some ⟨b, off, none⟩) 2 c] := (Blk.new w _ _).below hB2 (by simp)
               have HB2 : Hid (Below w.heap.size w w2) := ((Below.refl _ _).alloc (Nat.le_refl _) _).trans (hB2.mono (by simp))
               obtain ⟨b0, b1, b2, b3, b4, b5⟩ := two_cells (HR.out w2 HB2.out)
               have d2 : w2.cell? ⟨w.heap.size, 2, none⟩ = some (.slice (some ⟨b, off, none⟩) 2 c) := hE2.cell 2
               clear hB2 a0 a1 a2 a3 a4 a5)
            | (go_at_call 15; (with_reducible refine (HY.out _ (by exact HB2.out)).mono ?_); rintro e w3 ⟨rfl, hB3⟩))
          all_goals go_ret
          all_goals exact ⟨rfl, by first | exact HB2.out | exact HB2.out.trans (hB3.mono HB2.out.size)⟩
      · rw [formed_not op k A n c m kids h2 hk]
        have hn2 : ((n : Int) == 2) = false := by have := h.len; rw [beq_eq_false_iff_ne]; omega
        clear h h0 h1 hk
        show Calls Try.prog 15 #[.agg #[.int .i64 op, .int .i64 k, .slice A n c], .int .i64 M] w _
        rcases h2 with rfl | rfl | rfl
        all_goals go_enter Try.func15, Try.ntmps15
        all_goals go_wp2
        all_goals go_ret
        all_goals exact ⟨rfl, (Below.refl _ _).alloc (Nat.le_refl _) _⟩
    · have HT : Nd.formed m (.mk op k A n c kids) = false := by unfold Nd.formed; rw [if_neg h0, if_neg h1, if_neg h2]
      rw [HT]
      have x0 : (op == 0) = false := by simp [h0]
      have x1 : (op == 1) = false := by simp [h1]
      have x2 : (op == 2) = false := by rw [beq_eq_false_iff_ne]; omega
      have x3 : (op == 3) = false := by rw [beq_eq_false_iff_ne]; omega
      have x4 : (op == 4) = false := by rw [beq_eq_false_iff_ne]; omega
      clear h HT h2
      show Calls Try.prog 15 #[.agg #[.int .i64 op, .int .i64 k, .slice A n c], .int .i64 M] w _
      go_enter Try.func15, Try.ntmps15
      go_wp2
      go_ret
      exact ⟨rfl, (Below.refl _ _).alloc (Nat.le_refl _) _⟩
theorem reckon_two (vs : List Int) (op k : Int) (A : Option Addr) (n c : Nat) (x y : Nd) (h : op = 2 ∨ op = 3 ∨ op = 4) : Nd.reckon vs (.mk op k A n c [x, y]) = if (Nd.reckon vs x).2 = true ∧ (Nd.reckon vs y).2 = true then (Nd.opV op (Nd.reckon vs x).1 (Nd.reckon vs y).1, Nd.inR (Nd.opV op (Nd.reckon vs x).1 (Nd.reckon vs y).1)) else (0, false) := by
  rw [Nd.reckon, if_pos h]
theorem reckon_in (vs : List Int) : ∀ d, (Nd.reckon vs d).2 = true → Nd.inR (Nd.reckon vs d).1 = true := by
  intro d
  obtain ⟨op, k, A, n, c, kids⟩ := d
  by_cases h : op = 2 ∨ op = 3 ∨ op = 4
  · match kids with
    | [] => rw [Nd.reckon, if_pos h] <;> simp
    | [x] => rw [Nd.reckon, if_pos h] <;> simp
    | x :: y :: z :: l => rw [Nd.reckon, if_pos h] <;> simp
    | [x, y] =>
      rw [reckon_two _ _ _ _ _ _ _ _ h]
      split <;> simp
  · unfold Nd.reckon
    rw [if_neg h]
    split <;> simp
theorem inR_b {v : Int} (h : Nd.inR v = true) : -2147483648 ≤ v ∧ v ≤ 2147483647 := by simpa [Nd.inR] using h
theorem inR_s (v : Int) : Nd.inR v = (decide (-2147483648 ≤ v) && decide (v ≤ 2147483647)) := by simp [Nd.inR]
theorem mul_in {a b : Int} (ha : -2147483648 ≤ a ∧ a ≤ 2147483647) (hb : -2147483648 ≤ b ∧ b ≤ 2147483647) : wrap64 (a * b) = a * b := by
  have h1 : a * b ≤ 4611686018427387904 := by
    rcases Int.le_total 0 a with h | h <;> rcases Int.le_total 0 b with h2 | h2
    · exact Int.le_trans (Int.mul_le_mul ha.2 hb.2 h2 (by decide)) (by decide)
    · exact Int.le_trans (Int.mul_nonpos_of_nonneg_of_nonpos h h2) (by decide)
    · exact Int.le_trans (Int.mul_nonpos_of_nonpos_of_nonneg h h2) (by decide)
    · have := Int.mul_le_mul (show -a ≤ 2147483648 by omega) (show -b ≤ 2147483648 by omega) (by omega) (by decide)
      rw [Int.neg_mul_neg] at this
      exact Int.le_trans this (by decide)
  have h2 : -4611686018427387904 ≤ a * b := by
    rcases Int.le_total 0 a with h | h <;> rcases Int.le_total 0 b with h2 | h2
    · exact Int.le_trans (by decide) (Int.mul_nonneg h h2)
    · have := Int.mul_le_mul (show a ≤ 2147483648 by omega) (show -b ≤ 2147483648 by omega) (by omega) (by decide)
      rw [Int.mul_neg] at this
      omega
    · have := Int.mul_le_mul (show -a ≤ 2147483648 by omega) (show b ≤ 2147483648 by omega) (by omega) (by decide)
      rw [Int.neg_mul] at this
      omega
    · exact Int.le_trans (by decide) (Int.mul_nonneg_of_nonpos_of_nonpos h h2)
  unfold wrap64
  omega
@[reducible] def intsV (vs : List Int) : List Value := vs.map (fun v => Value.int .i64 v)
set_option maxRecDepth 100000 in
set_option maxHeartbeats 2000000 in
theorem reckon_c (vs : List Int) (V : Option Addr) (vc : Nat) : ∀ (d : Nd) (w : World), NdIn w d → Rd w V vs.length (intsV vs) → Nd.formed vs.length d = true → Calls Try.prog 16 #[.agg (ndC d).toArray, .slice V vs.length vc] w fun e w' => e = .returned (.tuple #[.int .i64 (Nd.reckon vs d).1, .bool (Nd.reckon vs d).2]) ∧ Below w.heap.size w w'
  | .mk op k A n c kids, w, h, hv, hf => by
    by_cases h2 : op = 2 ∨ op = 3 ∨ op = 4
    · by_cases hk : kids.length = 2
      · match kids, h, hk, hf with
        | [x, y], h, _, hf =>
          obtain ⟨rfl, hx, hy, b, off, rfl, hb, hc⟩ := h.two
          rw [formed_two _ _ _ _ _ _ _ _ h2] at hf
          have hfx : Nd.formed vs.length x = true := by simp at hf; exact hf.1
          have hfy : Nd.formed vs.length y = true := by simp at hf; exact hf.2
          have HX := Lib.hid (fun W hW => reckon_c vs V vc x W (hx.belo hW) (hv.below hW) hfx)
          have HY := Lib.hid (fun W hW => reckon_c vs V vc y W (hy.belo hW) (hv.below hW) hfy)
          have HT := Lib.hid (reckon_two vs op k (some ⟨b, off, none⟩) 2 c x y h2)
          rw [HT.out]
          have HR := Lib.hid (fun W hW => range_below (W' := W) hc hW hb)
          have hix := reckon_in vs x
          have hiy := reckon_in vs y
          clear h hx hy HT hv hf hfx hfy
          obtain ⟨op1, k1, A1, n1, c1, l1⟩ := x
          obtain ⟨op2, k2, A2, n2, c2, l2⟩ := y
          obtain ⟨a0, a1, a2, a3, a4, a5⟩ := two_cells hc
          clear hc
          generalize Nd.reckon vs (.mk op1 k1 A1 n1 c1 l1) = RX at *
          generalize Nd.reckon vs (.mk op2 k2 A2 n2 c2 l2) = RY at *
          obtain ⟨vx, bx⟩ := RX
          obtain ⟨vy, by_⟩ := RY
          simp only at HX HY hix hiy
          show Calls Try.prog 16 #[.agg #[.int .i64 op, .int .i64 k, .slice (some ⟨b, off, none⟩) 2 c], .slice V vs.length vc] w _
          unfold ndC at HX HY
          cases bx
          · clear hix hiy
            rcases h2 with rfl | rfl | rfl
            all_goals cases by_
            all_goals go_enter Try.func16, Try.ntmps16
            all_goals go_wp2_with (first
              | (go_at_call 16; (with_reducible refine (HX.out _ (by exact (Below.refl _ _).alloc (Nat.le_refl _) _)).mono ?_); rintro e w2 ⟨rfl, hB2⟩
                 have hE2 : Blk w2 w.heap.size 24 [.int .i64 _, .int .i64 k, .slice (some ⟨b, off, none⟩) 2 c] := (Blk.new w _ _).below hB2 (by simp)
                 have HB2 : Hid (Below w.heap.size w w2) := ((Below.refl _ _).alloc (Nat.le_refl _) _).trans (hB2.mono (by simp))
                 obtain ⟨b0, b1, b2, b3, b4, b5⟩ := two_cells (HR.out w2 HB2.out)
                 have d2 : w2.cell? ⟨w.heap.size, 2, none⟩ = some (.slice (some ⟨b, off, none⟩) 2 c) := hE2.cell 2
                 clear hB2 a0 a1 a2 a3 a4 a5)
              | (go_at_call 16; (with_reducible refine (HY.out _ (by exact HB2.out)).mono ?_); rintro e w3 ⟨rfl, hB3⟩))
            all_goals refine bodyPost_ret (results_tmp2 rfl _ _ _) rfl ?_
            all_goals exact ⟨by simp, HB2.out.trans (hB3.mono HB2.out.size)⟩
          · have ix := inR_b (hix rfl)
            cases by_
            · clear hix hiy ix
              rcases h2 with rfl | rfl | rfl
              all_goals go_enter Try.func16, Try.ntmps16
              all_goals go_wp2_with (first
                | (go_at_call 16; (with_reducible refine (HX.out _ (by exact (Below.refl _ _).alloc (Nat.le_refl _) _)).mono ?_); rintro e w2 ⟨rfl, hB2⟩
                   have hE2 : Blk w2 w.heap.size 24 [.int .i64 _, .int .i64 k, .slice (some ⟨b, off, none⟩) 2 c] := (Blk.new w _ _).below hB2 (by simp)
                   have HB2 : Hid (Below w.heap.size w w2) := ((Below.refl _ _).alloc (Nat.le_refl _) _).trans (hB2.mono (by simp))
                   obtain ⟨b0, b1, b2, b3, b4, b5⟩ := two_cells (HR.out w2 HB2.out)
                   have d2 : w2.cell? ⟨w.heap.size, 2, none⟩ = some (.slice (some ⟨b, off, none⟩) 2 c) := hE2.cell 2
                   have d0 : w2.cell? ⟨w.heap.size, 0, none⟩ = some (.int .i64 _) := hE2.cell 0
                   clear hB2 a0 a1 a2 a3 a4 a5)
                | (go_at_call 16; (with_reducible refine (HY.out _ (by exact HB2.out)).mono ?_); rintro e w3 ⟨rfl, hB3⟩
                   have e0 : w3.cell? ⟨w.heap.size, 0, none⟩ = some (.int .i64 _) := (hE2.below hB3 hE2.lt).cell 0))
              all_goals refine bodyPost_ret (results_tmp2 rfl _ _ _) rfl ?_
              all_goals exact ⟨by simp, HB2.out.trans (hB3.mono HB2.out.size)⟩
            · have iy := inR_b (hiy rfl)
              have HW : Hid (wrap64 (vx + vy) = vx + vy ∧ wrap64 (vx - vy) = vx - vy ∧ wrap64 (vx * vy) = vx * vy) := ⟨by unfold wrap64; omega, by unfold wrap64; omega, mul_in ix iy⟩
              have HB : Hid (∀ op, (if True ∧ True then (Nd.opV op vx vy, Nd.inR (Nd.opV op vx vy)) else ((0 : Int), false)) = (Nd.opV op vx vy, decide (-2147483648 ≤ Nd.opV op vx vy) && decide (Nd.opV op vx vy ≤ 2147483647))) := fun op => by rw [if_pos ⟨trivial, trivial⟩, inR_s]
              clear hix hiy ix iy
              rcases h2 with rfl | rfl | rfl
              · have hw := HW.out.1
                have HP : Hid ((if (vx, true).2 = true ∧ (vy, true).2 = true then (Nd.opV 2 (vx, true).1 (vy, true).1, Nd.inR (Nd.opV 2 (vx, true).1 (vy, true).1)) else ((0 : Int), false)) = (vx + vy, decide (-2147483648 ≤ vx + vy) && decide (vx + vy ≤ 2147483647))) := by show _ = _; rw [if_pos ⟨rfl, rfl⟩, inR_s]; rfl
                rw [HP.out]
                clear HP HB HW
                by_cases z1 : -2147483648 ≤ vx + vy
                · by_cases z2 : vx + vy ≤ 2147483647
                  · rw [decide_eq_true z1, decide_eq_true z2]
                    go_enter Try.func16, Try.ntmps16
                    go_wp2_with (first
              | (go_at_call 16; (with_reducible refine (HX.out _ (by exact (Below.refl _ _).alloc (Nat.le_refl _) _)).mono ?_); rintro e w2 ⟨rfl, hB2⟩
                 have hE2 : Blk w2 w.heap.size 24 [.int .i64 _, .int .i64 k, .slice (some ⟨b, off, none⟩) 2 c] := (Blk.new w _ _).below hB2 (by simp)
                 have HB2 : Hid (Below w.heap.size w w2) := ((Below.refl _ _).alloc (Nat.le_refl _) _).trans (hB2.mono (by simp))
                 obtain ⟨b0, b1, b2, b3, b4, b5⟩ := two_cells (HR.out w2 HB2.out)
                 have d2 : w2.cell? ⟨w.heap.size, 2, none⟩ = some (.slice (some ⟨b, off, none⟩) 2 c) := hE2.cell 2
                 have d0 : w2.cell? ⟨w.heap.size, 0, none⟩ = some (.int .i64 _) := hE2.cell 0
                 clear hB2 a0 a1 a2 a3 a4 a5)
              | (go_at_call 16; (with_reducible refine (HY.out _ (by exact HB2.out)).mono ?_); rintro e w3 ⟨rfl, hB3⟩
                 have e0 : w3.cell? ⟨w.heap.size, 0, none⟩ = some (.int .i64 _) := (hE2.below hB3 hE2.lt).cell 0))
                    refine bodyPost_ret (results_tmp2 rfl _ _ _) rfl ?_
                    exact ⟨rfl, HB2.out.trans (hB3.mono HB2.out.size)⟩
                  · rw [decide_eq_true z1, decide_eq_false z2]
                    go_enter Try.func16, Try.ntmps16
                    go_wp2_with (first
              | (go_at_call 16; (with_reducible refine (HX.out _ (by exact (Below.refl _ _).alloc (Nat.le_refl _) _)).mono ?_); rintro e w2 ⟨rfl, hB2⟩
                 have hE2 : Blk w2 w.heap.size 24 [.int .i64 _, .int .i64 k, .slice (some ⟨b, off, none⟩) 2 c] := (Blk.new w _ _).below hB2 (by simp)
                 have HB2 : Hid (Below w.heap.size w w2) := ((Below.refl _ _).alloc (Nat.le_refl _) _).trans (hB2.mono (by simp))
                 obtain ⟨b0, b1, b2, b3, b4, b5⟩ := two_cells (HR.out w2 HB2.out)
                 have d2 : w2.cell? ⟨w.heap.size, 2, none⟩ = some (.slice (some ⟨b, off, none⟩) 2 c) := hE2.cell 2
                 have d0 : w2.cell? ⟨w.heap.size, 0, none⟩ = some (.int .i64 _) := hE2.cell 0
                 clear hB2 a0 a1 a2 a3 a4 a5)
              | (go_at_call 16; (with_reducible refine (HY.out _ (by exact HB2.out)).mono ?_); rintro e w3 ⟨rfl, hB3⟩
                 have e0 : w3.cell? ⟨w.heap.size, 0, none⟩ = some (.int .i64 _) := (hE2.below hB3 hE2.lt).cell 0))
                    refine bodyPost_ret (results_tmp2 rfl _ _ _) rfl ?_
                    exact ⟨by simp [hw, z2], HB2.out.trans (hB3.mono HB2.out.size)⟩
                · rw [decide_eq_false z1]
                  go_enter Try.func16, Try.ntmps16
                  go_wp2_with (first
              | (go_at_call 16; (with_reducible refine (HX.out _ (by exact (Below.refl _ _).alloc (Nat.le_refl _) _)).mono ?_); rintro e w2 ⟨rfl, hB2⟩
                 have hE2 : Blk w2 w.heap.size 24 [.int .i64 _, .int .i64 k, .slice (some ⟨b, off, none⟩) 2 c] := (Blk.new w _ _).below hB2 (by simp)
                 have HB2 : Hid (Below w.heap.size w w2) := ((Below.refl _ _).alloc (Nat.le_refl _) _).trans (hB2.mono (by simp))
                 obtain ⟨b0, b1, b2, b3, b4, b5⟩ := two_cells (HR.out w2 HB2.out)
                 have d2 : w2.cell? ⟨w.heap.size, 2, none⟩ = some (.slice (some ⟨b, off, none⟩) 2 c) := hE2.cell 2
                 have d0 : w2.cell? ⟨w.heap.size, 0, none⟩ = some (.int .i64 _) := hE2.cell 0
                 clear hB2 a0 a1 a2 a3 a4 a5)
              | (go_at_call 16; (with_reducible refine (HY.out _ (by exact HB2.out)).mono ?_); rintro e w3 ⟨rfl, hB3⟩
                 have e0 : w3.cell? ⟨w.heap.size, 0, none⟩ = some (.int .i64 _) := (hE2.below hB3 hE2.lt).cell 0))
                  refine bodyPost_ret (results_tmp2 rfl _ _ _) rfl ?_
                  exact ⟨rfl, HB2.out.trans (hB3.mono HB2.out.size)⟩
              · have hw := HW.out.2.1
                have HP : Hid ((if (vx, true).2 = true ∧ (vy, true).2 = true then (Nd.opV 3 (vx, true).1 (vy, true).1, Nd.inR (Nd.opV 3 (vx, true).1 (vy, true).1)) else ((0 : Int), false)) = (vx - vy, decide (-2147483648 ≤ vx - vy) && decide (vx - vy ≤ 2147483647))) := by show _ = _; rw [if_pos ⟨rfl, rfl⟩, inR_s]; rfl
                rw [HP.out]
                clear HP HB HW
                by_cases z1 : -2147483648 ≤ vx - vy
                · by_cases z2 : vx - vy ≤ 2147483647
                  · rw [decide_eq_true z1, decide_eq_true z2]
                    go_enter Try.func16, Try.ntmps16
                    go_wp2_with (first
              | (go_at_call 16; (with_reducible refine (HX.out _ (by exact (Below.refl _ _).alloc (Nat.le_refl _) _)).mono ?_); rintro e w2 ⟨rfl, hB2⟩
                 have hE2 : Blk w2 w.heap.size 24 [.int .i64 _, .int .i64 k, .slice (some ⟨b, off, none⟩) 2 c] := (Blk.new w _ _).below hB2 (by simp)
                 have HB2 : Hid (Below w.heap.size w w2) := ((Below.refl _ _).alloc (Nat.le_refl _) _).trans (hB2.mono (by simp))
                 obtain ⟨b0, b1, b2, b3, b4, b5⟩ := two_cells (HR.out w2 HB2.out)
                 have d2 : w2.cell? ⟨w.heap.size, 2, none⟩ = some (.slice (some ⟨b, off, none⟩) 2 c) := hE2.cell 2
                 have d0 : w2.cell? ⟨w.heap.size, 0, none⟩ = some (.int .i64 _) := hE2.cell 0
                 clear hB2 a0 a1 a2 a3 a4 a5)
              | (go_at_call 16; (with_reducible refine (HY.out _ (by exact HB2.out)).mono ?_); rintro e w3 ⟨rfl, hB3⟩
                 have e0 : w3.cell? ⟨w.heap.size, 0, none⟩ = some (.int .i64 _) := (hE2.below hB3 hE2.lt).cell 0))
                    refine bodyPost_ret (results_tmp2 rfl _ _ _) rfl ?_
                    exact ⟨rfl, HB2.out.trans (hB3.mono HB2.out.size)⟩
                  · rw [decide_eq_true z1, decide_eq_false z2]
                    go_enter Try.func16, Try.ntmps16
                    go_wp2_with (first
              | (go_at_call 16; (with_reducible refine (HX.out _ (by exact (Below.refl _ _).alloc (Nat.le_refl _) _)).mono ?_); rintro e w2 ⟨rfl, hB2⟩
                 have hE2 : Blk w2 w.heap.size 24 [.int .i64 _, .int .i64 k, .slice (some ⟨b, off, none⟩) 2 c] := (Blk.new w _ _).below hB2 (by simp)
                 have HB2 : Hid (Below w.heap.size w w2) := ((Below.refl _ _).alloc (Nat.le_refl _) _).trans (hB2.mono (by simp))
                 obtain ⟨b0, b1, b2, b3, b4, b5⟩ := two_cells (HR.out w2 HB2.out)
                 have d2 : w2.cell? ⟨w.heap.size, 2, none⟩ = some (.slice (some ⟨b, off, none⟩) 2 c) := hE2.cell 2
                 have d0 : w2.cell? ⟨w.heap.size, 0, none⟩ = some (.int .i64 _) := hE2.cell 0
                 clear hB2 a0 a1 a2 a3 a4 a5)
              | (go_at_call 16; (with_reducible refine (HY.out _ (by exact HB2.out)).mono ?_); rintro e w3 ⟨rfl, hB3⟩
                 have e0 : w3.cell? ⟨w.heap.size, 0, none⟩ = some (.int .i64 _) := (hE2.below hB3 hE2.lt).cell 0))
                    refine bodyPost_ret (results_tmp2 rfl _ _ _) rfl ?_
                    exact ⟨by simp [hw, z2], HB2.out.trans (hB3.mono HB2.out.size)⟩
                · rw [decide_eq_false z1]
                  go_enter Try.func16, Try.ntmps16
                  go_wp2_with (first
              | (go_at_call 16; (with_reducible refine (HX.out _ (by exact (Below.refl _ _).alloc (Nat.le_refl _) _)).mono ?_); rintro e w2 ⟨rfl, hB2⟩
                 have hE2 : Blk w2 w.heap.size 24 [.int .i64 _, .int .i64 k, .slice (some ⟨b, off, none⟩) 2 c] := (Blk.new w _ _).below hB2 (by simp)
                 have HB2 : Hid (Below w.heap.size w w2) := ((Below.refl _ _).alloc (Nat.le_refl _) _).trans (hB2.mono (by simp))
                 obtain ⟨b0, b1, b2, b3, b4, b5⟩ := two_cells (HR.out w2 HB2.out)
                 have d2 : w2.cell? ⟨w.heap.size, 2, none⟩ = some (.slice (some ⟨b, off, none⟩) 2 c) := hE2.cell 2
                 have d0 : w2.cell? ⟨w.heap.size, 0, none⟩ = some (.int .i64 _) := hE2.cell 0
                 clear hB2 a0 a1 a2 a3 a4 a5)
              | (go_at_call 16; (with_reducible refine (HY.out _ (by exact HB2.out)).mono ?_); rintro e w3 ⟨rfl, hB3⟩
                 have e0 : w3.cell? ⟨w.heap.size, 0, none⟩ = some (.int .i64 _) := (hE2.below hB3 hE2.lt).cell 0))
                  refine bodyPost_ret (results_tmp2 rfl _ _ _) rfl ?_
                  exact ⟨rfl, HB2.out.trans (hB3.mono HB2.out.size)⟩
              · have hw := HW.out.2.2
                have HP : Hid ((if (vx, true).2 = true ∧ (vy, true).2 = true then (Nd.opV 4 (vx, true).1 (vy, true).1, Nd.inR (Nd.opV 4 (vx, true).1 (vy, true).1)) else ((0 : Int), false)) = (vx * vy, decide (-2147483648 ≤ vx * vy) && decide (vx * vy ≤ 2147483647))) := by show _ = _; rw [if_pos ⟨rfl, rfl⟩, inR_s]; rfl
                rw [HP.out]
                clear HP HB HW
                by_cases z1 : -2147483648 ≤ vx * vy
                · by_cases z2 : vx * vy ≤ 2147483647
                  · rw [decide_eq_true z1, decide_eq_true z2]
                    go_enter Try.func16, Try.ntmps16
                    go_wp2_with (first
              | (go_at_call 16; (with_reducible refine (HX.out _ (by exact (Below.refl _ _).alloc (Nat.le_refl _) _)).mono ?_); rintro e w2 ⟨rfl, hB2⟩
                 have hE2 : Blk w2 w.heap.size 24 [.int .i64 _, .int .i64 k, .slice (some ⟨b, off, none⟩) 2 c] := (Blk.new w _ _).below hB2 (by simp)
                 have HB2 : Hid (Below w.heap.size w w2) := ((Below.refl _ _).alloc (Nat.le_refl _) _).trans (hB2.mono (by simp))
                 obtain ⟨b0, b1, b2, b3, b4, b5⟩ := two_cells (HR.out w2 HB2.out)
                 have d2 : w2.cell? ⟨w.heap.size, 2, none⟩ = some (.slice (some ⟨b, off, none⟩) 2 c) := hE2.cell 2
                 have d0 : w2.cell? ⟨w.heap.size, 0, none⟩ = some (.int .i64 _) := hE2.cell 0
                 clear hB2 a0 a1 a2 a3 a4 a5)
              | (go_at_call 16; (with_reducible refine (HY.out _ (by exact HB2.out)).mono ?_); rintro e w3 ⟨rfl, hB3⟩
                 have e0 : w3.cell? ⟨w.heap.size, 0, none⟩ = some (.int .i64 _) := (hE2.below hB3 hE2.lt).cell 0))
                    refine bodyPost_ret (results_tmp2 rfl _ _ _) rfl ?_
                    exact ⟨rfl, HB2.out.trans (hB3.mono HB2.out.size)⟩
                  · rw [decide_eq_true z1, decide_eq_false z2]
                    go_enter Try.func16, Try.ntmps16
                    go_wp2_with (first
              | (go_at_call 16; (with_reducible refine (HX.out _ (by exact (Below.refl _ _).alloc (Nat.le_refl _) _)).mono ?_); rintro e w2 ⟨rfl, hB2⟩
                 have hE2 : Blk w2 w.heap.size 24 [.int .i64 _, .int .i64 k, .slice (some ⟨b, off, none⟩) 2 c] := (Blk.new w _ _).below hB2 (by simp)
                 have HB2 : Hid (Below w.heap.size w w2) := ((Below.refl _ _).alloc (Nat.le_refl _) _).trans (hB2.mono (by simp))
                 obtain ⟨b0, b1, b2, b3, b4, b5⟩ := two_cells (HR.out w2 HB2.out)
                 have d2 : w2.cell? ⟨w.heap.size, 2, none⟩ = some (.slice (some ⟨b, off, none⟩) 2 c) := hE2.cell 2
                 have d0 : w2.cell? ⟨w.heap.size, 0, none⟩ = some (.int .i64 _) := hE2.cell 0
                 clear hB2 a0 a1 a2 a3 a4 a5)
              | (go_at_call 16; (with_reducible refine (HY.out _ (by exact HB2.out)).mono ?_); rintro e w3 ⟨rfl, hB3⟩
                 have e0 : w3.cell? ⟨w.heap.size, 0, none⟩ = some (.int .i64 _) := (hE2.below hB3 hE2.lt).cell 0))
                    refine bodyPost_ret (results_tmp2 rfl _ _ _) rfl ?_
                    exact ⟨by simp [hw, z2], HB2.out.trans (hB3.mono HB2.out.size)⟩
                · rw [decide_eq_false z1]
                  go_enter Try.func16, Try.ntmps16
                  go_wp2_with (first
              | (go_at_call 16; (with_reducible refine (HX.out _ (by exact (Below.refl _ _).alloc (Nat.le_refl _) _)).mono ?_); rintro e w2 ⟨rfl, hB2⟩
                 have hE2 : Blk w2 w.heap.size 24 [.int .i64 _, .int .i64 k, .slice (some ⟨b, off, none⟩) 2 c] := (Blk.new w _ _).below hB2 (by simp)
                 have HB2 : Hid (Below w.heap.size w w2) := ((Below.refl _ _).alloc (Nat.le_refl _) _).trans (hB2.mono (by simp))
                 obtain ⟨b0, b1, b2, b3, b4, b5⟩ := two_cells (HR.out w2 HB2.out)
                 have d2 : w2.cell? ⟨w.heap.size, 2, none⟩ = some (.slice (some ⟨b, off, none⟩) 2 c) := hE2.cell 2
                 have d0 : w2.cell? ⟨w.heap.size, 0, none⟩ = some (.int .i64 _) := hE2.cell 0
                 clear hB2 a0 a1 a2 a3 a4 a5)
              | (go_at_call 16; (with_reducible refine (HY.out _ (by exact HB2.out)).mono ?_); rintro e w3 ⟨rfl, hB3⟩
                 have e0 : w3.cell? ⟨w.heap.size, 0, none⟩ = some (.int .i64 _) := (hE2.below hB3 hE2.lt).cell 0))
                  refine bodyPost_ret (results_tmp2 rfl _ _ _) rfl ?_
                  exact ⟨rfl, HB2.out.trans (hB3.mono HB2.out.size)⟩
      · rw [formed_not op k A n c vs.length kids h2 hk] at hf
        cases hf
    · by_cases h1 : op = 1
      · subst h1
        unfold Nd.formed at hf
        rw [if_neg (by omega), if_pos rfl] at hf
        simp only [decide_eq_true_eq] at hf
        obtain ⟨j, rfl⟩ := Int.eq_ofNat_of_zero_le hf.1
        have hj : j < vs.length := by omega
        have HT : Hid (Nd.reckon vs (.mk 1 (j : Int) A n c kids) = (vs[j], decide (-2147483648 ≤ vs[j]) && decide (vs[j] ≤ 2147483647))) := by
          show _ = _
          unfold Nd.reckon
          rw [if_neg (by omega), if_pos rfl, inR_s]
          simp [hj]
        rw [HT.out]
        obtain ⟨b, off, rfl, hb, hc⟩ := hv.2 (by omega)
        have c1 : w.cell? ⟨b, off + j, none⟩ = some (.int .i64 vs[j]) := hc j _ (by simp [intsV, hj])
        have hjl : (j : Int) < (vs.length : Int) := by omega
        clear h hv hf HT hc h2
        generalize vs[j] = Z at *
        generalize vs.length = m at *
        show Calls Try.prog 16 #[.agg #[.int .i64 1, .int .i64 (j : Int), .slice A n c], .slice (some ⟨b, off, none⟩) m vc] w _
        by_cases z1 : -2147483648 ≤ Z
        · by_cases z2 : Z ≤ 2147483647
          · rw [decide_eq_true z1, decide_eq_true z2]
            go_enter Try.func16, Try.ntmps16
            go_wp2
            refine bodyPost_ret (results_tmp2 rfl _ _ _) rfl ?_
            exact ⟨by simp, (Below.refl _ _).alloc (Nat.le_refl _) _⟩
          · rw [decide_eq_true z1, decide_eq_false z2]
            go_enter Try.func16, Try.ntmps16
            go_wp2
            refine bodyPost_ret (results_tmp2 rfl _ _ _) rfl ?_
            exact ⟨by simp, (Below.refl _ _).alloc (Nat.le_refl _) _⟩
        · rw [decide_eq_false z1]
          go_enter Try.func16, Try.ntmps16
          go_wp2
          refine bodyPost_ret (results_tmp2 rfl _ _ _) rfl ?_
          exact ⟨rfl, (Below.refl _ _).alloc (Nat.le_refl _) _⟩
      · have h0 : op = 0 := by
          unfold Nd.formed at hf
          by_cases h0 : op = 0
          · exact h0
          · rw [if_neg h0, if_neg h1, if_neg h2] at hf
            cases hf
        subst h0
        have HT : Hid (Nd.reckon vs (.mk 0 k A n c kids) = (k, decide (-2147483648 ≤ k) && decide (k ≤ 2147483647))) := by
          show _ = _
          unfold Nd.reckon
          rw [if_neg (by omega), if_neg (by omega), inR_s]
        rw [HT.out]
        clear h hv hf HT h1 h2
        show Calls Try.prog 16 #[.agg #[.int .i64 0, .int .i64 k, .slice A n c], .slice V vs.length vc] w _
        by_cases z1 : -2147483648 ≤ k
        · by_cases z2 : k ≤ 2147483647
          · rw [decide_eq_true z1, decide_eq_true z2]
            go_enter Try.func16, Try.ntmps16
            go_wp2
            refine bodyPost_ret (results_tmp2 rfl _ _ _) rfl ?_
            exact ⟨by simp, (Below.refl _ _).alloc (Nat.le_refl _) _⟩
          · rw [decide_eq_true z1, decide_eq_false z2]
            go_enter Try.func16, Try.ntmps16
            go_wp2
            refine bodyPost_ret (results_tmp2 rfl _ _ _) rfl ?_
            exact ⟨by simp, (Below.refl _ _).alloc (Nat.le_refl _) _⟩
        · rw [decide_eq_false z1]
          go_enter Try.func16, Try.ntmps16
          go_wp2
          refine bodyPost_ret (results_tmp2 rfl _ _ _) rfl ?_
          exact ⟨rfl, (Below.refl _ _).alloc (Nat.le_refl _) _⟩
set_option maxRecDepth 100000 in
set_option maxHeartbeats 1000000 in
theorem value_c (vs : List Int) (V : Option Addr) (vc : Nat) (d : Nd) (w : World) (h : NdIn w d) (hv : Rd w V vs.length (intsV vs)) : Calls Try.prog 6 #[.agg (ndC d).toArray, .slice V vs.length vc] w fun e w' => e = .returned (.tuple #[.int .i64 (Nd.value 1 11 vs d).1, .int .i64 ((Nd.value 1 11 vs d).2 : Int)]) ∧ Below w.heap.size w w' := by
  have HF := Lib.hid (fun W hW => formed_c vs.length _ rfl d W (h.belo hW))
  have HR := Lib.hid (fun hf W hW => reckon_c vs V vc d W (h.belo hW) (hv.below hW) hf)
  obtain ⟨op, k, A, n, c, kids⟩ := d
  have HT : Hid (Nd.value 1 11 vs (.mk op k A n c kids) = if Nd.formed vs.length (.mk op k A n c kids) = false then (0, 1) else if (Nd.reckon vs (.mk op k A n c kids)).2 = false then (0, 11) else ((Nd.reckon vs (.mk op k A n c kids)).1, 0)) := rfl
  rw [HT.out]
  clear h hv HT
  unfold ndC at *
  generalize Nd.reckon vs (.mk op k A n c kids) = R at *
  obtain ⟨v, b⟩ := R
  cases hf : Nd.formed vs.length (.mk op k A n c kids)
  · rw [hf] at HF
    clear HR hf
    rw [if_pos rfl]
    generalize vs.length = m at *
    go_enter Try.func6, Try.ntmps6
    go_wp2_with (go_at_call 15; (refine (HF.out _ (by exact (Below.refl _ _).alloc (Nat.le_refl _) _)).mono ?_); rintro e w2 ⟨rfl, hB2⟩)
    refine bodyPost_ret (results_tmp2 rfl _ _ _) rfl ?_
    exact ⟨rfl, ((Below.refl _ _).alloc (Nat.le_refl _) _).trans (hB2.mono (by simp))⟩
  · rw [hf] at HF
    have HR := Lib.hid (HR.out hf)
    clear hf
    rw [if_neg (by simp)]
    generalize vs.length = m at *
    cases b
    · rw [if_pos rfl]
      go_enter Try.func6, Try.ntmps6
      go_wp2_with (first
        | (go_at_call 15; (refine (HF.out _ (by exact (Below.refl _ _).alloc (Nat.le_refl _) _)).mono ?_); rintro e w2 ⟨rfl, hB2⟩
           have hE2 : Blk w2 w.heap.size 24 [.int .i64 op, .int .i64 k, .slice A n c] := (Blk.new w _ _).below hB2 (by simp)
           have HB2 : Hid (Below w.heap.size w w2) := ((Below.refl _ _).alloc (Nat.le_refl _) _).trans (hB2.mono (by simp))
           have d0 : w2.cell? ⟨w.heap.size, 0, none⟩ = some (.int .i64 op) := hE2.cell 0
           have d1 : w2.cell? ⟨w.heap.size, 1, none⟩ = some (.int .i64 k) := hE2.cell 1
           have d2 : w2.cell? ⟨w.heap.size, 2, none⟩ = some (.slice A n c) := hE2.cell 2
           clear hB2)
        | (go_at_call 16; (refine (HR.out _ (by exact HB2.out)).mono ?_); rintro e w3 ⟨rfl, hB3⟩))
      refine bodyPost_ret (results_tmp2 rfl _ _ _) rfl ?_
      exact ⟨rfl, HB2.out.trans (hB3.mono HB2.out.size)⟩
    · rw [if_neg (by simp)]
      go_enter Try.func6, Try.ntmps6
      go_wp2_with (first
        | (go_at_call 15; (refine (HF.out _ (by exact (Below.refl _ _).alloc (Nat.le_refl _) _)).mono ?_); rintro e w2 ⟨rfl, hB2⟩
           have hE2 : Blk w2 w.heap.size 24 [.int .i64 op, .int .i64 k, .slice A n c] := (Blk.new w _ _).below hB2 (by simp)
           have HB2 : Hid (Below w.heap.size w w2) := ((Below.refl _ _).alloc (Nat.le_refl _) _).trans (hB2.mono (by simp))
           have d0 : w2.cell? ⟨w.heap.size, 0, none⟩ = some (.int .i64 op) := hE2.cell 0
           have d1 : w2.cell? ⟨w.heap.size, 1, none⟩ = some (.int .i64 k) := hE2.cell 1
           have d2 : w2.cell? ⟨w.heap.size, 2, none⟩ = some (.slice A n c) := hE2.cell 2
           clear hB2)
        | (go_at_call 16; (refine (HR.out _ (by exact HB2.out)).mono ?_); rintro e w3 ⟨rfl, hB3⟩))
      refine bodyPost_ret (results_tmp2 rfl _ _ _) rfl ?_
      exact ⟨rfl, HB2.out.trans (hB3.mono HB2.out.size)⟩
end Go.Proofs.Ytloakenighnfgaa.Tr
