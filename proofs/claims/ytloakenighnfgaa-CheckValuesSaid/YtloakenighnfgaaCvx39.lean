/- Part of the proof: Ks. -/
import Derived.Test.YtloakenighnfgaaCvx36
set_option linter.unusedVariables false
namespace Go.Proofs.Ytloakenighnfgaa.Tr
open Go.RowKit
set_option maxRecDepth 100000 in
set_option maxHeartbeats 2000000 in
theorem rsize_c : ∀ (d : Nd) (w : World), NdIn w d → Calls Try.prog 9 #[.agg (ndC d).toArray] w fun e w' => e = .returned (.tuple #[.int .i64 (Nd.rsize wrap64 d).1, .int .i64 (Nd.rsize wrap64 d).2]) ∧ Below w.heap.size w w'
  | .mk op k A n c kids, w, h => by
    by_cases h2 : op < 2
    · have HT : Nd.rsize wrap64 (.mk op k A n c kids) = (1, 1) := by unfold Nd.rsize; rw [if_pos (.inl h2)]
      rw [HT]
      clear h HT
      show Calls Try.prog 9 #[.agg #[.int .i64 op, .int .i64 k, .slice A n c]] w _
      go_enter Try.func9, Try.ntmps9
      go_wp2
      refine bodyPost_ret (results_tmp2 rfl _ _ _) rfl ?_
      exact ⟨rfl, (Below.refl _ _).alloc (Nat.le_refl _) _⟩
    by_cases h4 : op > 4
    · have HT : Nd.rsize wrap64 (.mk op k A n c kids) = (1, 1) := by unfold Nd.rsize; rw [if_pos (.inr h4)]
      rw [HT]
      clear h HT
      show Calls Try.prog 9 #[.agg #[.int .i64 op, .int .i64 k, .slice A n c]] w _
      go_enter Try.func9, Try.ntmps9
      go_wp2
      refine bodyPost_ret (results_tmp2 rfl _ _ _) rfl ?_
      exact ⟨rfl, (Below.refl _ _).alloc (Nat.le_refl _) _⟩
    have hno : ∀ (hn : n ≠ 2) (HT : Nd.rsize wrap64 (.mk op k A n c kids) = (1, 1)), Calls Try.prog 9 #[.agg (ndC (.mk op k A n c kids)).toArray] w fun e w' => e = .returned (.tuple #[.int .i64 (Nd.rsize wrap64 (.mk op k A n c kids)).1, .int .i64 (Nd.rsize wrap64 (.mk op k A n c kids)).2]) ∧ Below w.heap.size w w' := by
      intro hn HT
      rw [HT]
      clear h HT
      have hn2 : ((n : Int) != 2) = true := by rw [bne_iff_ne]; omega
      show Calls Try.prog 9 #[.agg #[.int .i64 op, .int .i64 k, .slice A n c]] w _
      go_enter Try.func9, Try.ntmps9
      go_wp2
      refine bodyPost_ret (results_tmp2 rfl _ _ _) rfl ?_
      exact ⟨rfl, (Below.refl _ _).alloc (Nat.le_refl _) _⟩
    match kids, h, hno with
    | [], h, hno => exact hno (by have := h.len; simp at this; omega) (by unfold Nd.rsize; rw [if_neg (by omega)])
    | [x], h, hno => exact hno (by have := h.len; simp at this; omega) (by unfold Nd.rsize; rw [if_neg (by omega)])
    | x :: y :: z :: l, h, hno => exact hno (by have := h.len; simp at this; omega) (by unfold Nd.rsize; rw [if_neg (by omega)])
    | [x, y], h, hno =>
      clear hno
      obtain ⟨rfl, hx, hy, b, off, rfl, hb, hc⟩ := h.two
      have HX := Lib.hid (fun W hW => rsize_c x W (hx.belo hW))
      have HY := Lib.hid (fun W hW => rsize_c y W (hy.belo hW))
      have HT : Nd.rsize wrap64 (.mk op k (some ⟨b, off, none⟩) 2 c [x, y]) = (wrap64 (wrap64 ((Nd.rsize wrap64 x).1 + (Nd.rsize wrap64 y).1) + 1), if wrap64 ((Nd.rsize wrap64 y).2 + 1) > (Nd.rsize wrap64 x).2 then wrap64 ((Nd.rsize wrap64 y).2 + 1) else (Nd.rsize wrap64 x).2) := by rw [Nd.rsize, if_neg (by omega)]
      rw [HT]
      have HR := Lib.hid (fun W hW => range_below (W' := W) hc hW hb)
      clear h hx hy HT
      obtain ⟨op1, k1, A1, n1, c1, l1⟩ := x
      obtain ⟨op2, k2, A2, n2, c2, l2⟩ := y
      obtain ⟨a0, a1, a2, a3, a4, a5⟩ := two_cells hc
      clear hc
      generalize Nd.rsize wrap64 (.mk op1 k1 A1 n1 c1 l1) = SX at *
      generalize Nd.rsize wrap64 (.mk op2 k2 A2 n2 c2 l2) = SY at *
      show Calls Try.prog 9 #[.agg #[.int .i64 op, .int .i64 k, .slice (some ⟨b, off, none⟩) 2 c]] w _
      unfold ndC at HX HY
      by_cases hgt : wrap64 (SY.2 + 1) > SX.2
      · rw [if_pos hgt]
        go_enter Try.func9, Try.ntmps9
        go_wp2_with (first
          | (go_at_call 9; (with_reducible refine (HX.out _ (by exact (Below.refl _ _).alloc (Nat.le_refl _) _)).mono ?_); rintro e w2 ⟨rfl, hB2⟩
             have hE2 : Blk w2 w.heap.size 24 [.int .i64 op, .int .i64 k, .slice (some ⟨b, off, none⟩) 2 c] := (Blk.new w _ _).below hB2 (by simp)
             have HB2 : Hid (Below w.heap.size w w2) := ((Below.refl _ _).alloc (Nat.le_refl _) _).trans (hB2.mono (by simp))
             obtain ⟨b0, b1, b2, b3, b4, b5⟩ := two_cells (HR.out w2 HB2.out)
             have d2 : w2.cell? ⟨w.heap.size, 2, none⟩ = some (.slice (some ⟨b, off, none⟩) 2 c) := hE2.cell 2
             clear hB2 a0 a1 a2 a3 a4 a5)
          | (go_at_call 9; (with_reducible refine (HY.out _ (by exact HB2.out)).mono ?_); rintro e w3 ⟨rfl, hB3⟩))
        refine bodyPost_ret (results_tmp2 rfl _ _ _) rfl ?_
        exact ⟨rfl, HB2.out.trans (hB3.mono HB2.out.size)⟩
      · rw [if_neg hgt]
        go_enter Try.func9, Try.ntmps9
        go_wp2_with (first
          | (go_at_call 9; (with_reducible refine (HX.out _ (by exact (Below.refl _ _).alloc (Nat.le_refl _) _)).mono ?_); rintro e w2 ⟨rfl, hB2⟩
             have hE2 : Blk w2 w.heap.size 24 [.int .i64 op, .int .i64 k, .slice (some ⟨b, off, none⟩) 2 c] := (Blk.new w _ _).below hB2 (by simp)
             have HB2 : Hid (Below w.heap.size w w2) := ((Below.refl _ _).alloc (Nat.le_refl _) _).trans (hB2.mono (by simp))
             obtain ⟨b0, b1, b2, b3, b4, b5⟩ := two_cells (HR.out w2 HB2.out)
             have d2 : w2.cell? ⟨w.heap.size, 2, none⟩ = some (.slice (some ⟨b, off, none⟩) 2 c) := hE2.cell 2
             clear hB2 a0 a1 a2 a3 a4 a5)
          | (go_at_call 9; (with_reducible refine (HY.out _ (by exact HB2.out)).mono ?_); rintro e w3 ⟨rfl, hB3⟩))
        refine bodyPost_ret (results_tmp2 rfl _ _ _) rfl ?_
        exact ⟨rfl, HB2.out.trans (hB3.mono HB2.out.size)⟩
end Go.Proofs.Ytloakenighnfgaa.Tr
