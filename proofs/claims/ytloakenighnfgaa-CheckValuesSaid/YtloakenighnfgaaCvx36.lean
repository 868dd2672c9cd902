/- Part of the proof: Ke. -/
import Derived.Test.YtloakenighnfgaaCvx05
import Derived.Test.YtloakenighnfgaaCvx35
set_option linter.unusedVariables false
namespace Go.Proofs.Ytloakenighnfgaa.Tr
open Go.RowKit
def ndC : Nd → List Value | .mk op k A n c _ => [.int .i64 op, .int .i64 k, .slice A n c]
inductive NdIn (w : World) : Nd → Prop
  | mk (op k : Int) (A : Option Addr) (n c : Nat) (kids : List Nd) (hl : kids.length = n) (hr : RdS 3 w A n (kids.flatMap ndC)) (hk : ∀ d ∈ kids, NdIn w d) : NdIn w (.mk op k A n c kids)
theorem NdIn.belo {w w' : World} (hb : Below w.heap.size w w') {d : Nd} (h : NdIn w d) : NdIn w' d := by
  induction h with
  | mk op k A n c kids hl hr hk ih => exact .mk op k A n c kids hl (hr.below hb) ih
theorem NdIn.len {w : World} {op k : Int} {A : Option Addr} {n c : Nat} {kids : List Nd} (h : NdIn w (.mk op k A n c kids)) : kids.length = n := by cases h; assumption
theorem NdIn.two {w : World} {op k : Int} {A : Option Addr} {n c : Nat} {x y : Nd} (h : NdIn w (.mk op k A n c [x, y])) : n = 2 ∧ NdIn w x ∧ NdIn w y ∧ ∃ b off, A = some ⟨b, off, none⟩ ∧ b < w.heap.size ∧ w.rangeAt b off (ndC x ++ ndC y) := by
  cases h with
  | mk _ _ _ _ _ _ hl hr hk =>
    obtain ⟨b, off, hA, hb, hc⟩ := hr.2 (by simp at hl; omega)
    exact ⟨by simpa using hl.symm, hk x (by simp), hk y (by simp), b, off, hA, hb, fun j v hj => hc j v (by simpa using hj)⟩
theorem two_cells {W : World} {b off : Nat} {op1 k1 op2 k2 : Int} {A1 A2 : Option Addr} {n1 c1 n2 c2 : Nat} {l1 l2 : List Nd} (h : W.rangeAt b off (ndC (.mk op1 k1 A1 n1 c1 l1) ++ ndC (.mk op2 k2 A2 n2 c2 l2))) :
    W.cell? ⟨b, off, none⟩ = some (.int .i64 op1) ∧ W.cell? ⟨b, off + 1, none⟩ = some (.int .i64 k1) ∧ W.cell? ⟨b, off + 2, none⟩ = some (.slice A1 n1 c1) ∧ W.cell? ⟨b, off + 3, none⟩ = some (.int .i64 op2) ∧ W.cell? ⟨b, off + 3 + 1, none⟩ = some (.int .i64 k2) ∧ W.cell? ⟨b, off + 3 + 2, none⟩ = some (.slice A2 n2 c2) :=
  ⟨h 0 _ rfl, h 1 _ rfl, h 2 _ rfl, h 3 _ rfl, h 4 _ rfl, h 5 _ rfl⟩
theorem range_below {W W' : World} {b off : Nat} {cs : List Value} (h : W.rangeAt b off cs) (hb : Below W.heap.size W W') (hl : b < W.heap.size) : W'.rangeAt b off cs := fun j v hj => (World.cell?_of_block (a := ⟨b, off + j, none⟩) (hb.block b hl)).trans (h j v hj)
set_option maxRecDepth 100000 in
set_option maxHeartbeats 1000000 in
theorem size_c : ∀ (d : Nd) (w : World), NdIn w d → Calls Try.prog 8 #[.agg (ndC d).toArray] w fun e w' => e = .returned (.tuple #[.int .i64 (Nd.size wrap64 d).1, .int .i64 (Nd.size wrap64 d).2]) ∧ Below w.heap.size w w'
  | .mk op k A n c kids, w, h => by
    by_cases h2 : op < 2
    · have HT : Nd.size wrap64 (.mk op k A n c kids) = (1, 1) := by unfold Nd.size; rw [if_pos (.inl h2)]
      rw [HT]
      clear h HT
      show Calls Try.prog 8 #[.agg #[.int .i64 op, .int .i64 k, .slice A n c]] w _
      go_enter Try.func8, Try.ntmps8
      go_wp2
      refine bodyPost_ret (results_tmp2 rfl _ _ _) rfl ?_
      exact ⟨rfl, (Below.refl _ _).alloc (Nat.le_refl _) _⟩
    by_cases h4 : op > 4
    · have HT : Nd.size wrap64 (.mk op k A n c kids) = (1, 1) := by unfold Nd.size; rw [if_pos (.inr h4)]
      rw [HT]
      clear h HT
      show Calls Try.prog 8 #[.agg #[.int .i64 op, .int .i64 k, .slice A n c]] w _
      go_enter Try.func8, Try.ntmps8
      go_wp2
      refine bodyPost_ret (results_tmp2 rfl _ _ _) rfl ?_
      exact ⟨rfl, (Below.refl _ _).alloc (Nat.le_refl _) _⟩
    have hno : ∀ (hn : n ≠ 2) (HT : Nd.size wrap64 (.mk op k A n c kids) = (1, 1)), Calls Try.prog 8 #[.agg (ndC (.mk op k A n c kids)).toArray] w fun e w' => e = .returned (.tuple #[.int .i64 (Nd.size wrap64 (.mk op k A n c kids)).1, .int .i64 (Nd.size wrap64 (.mk op k A n c kids)).2]) ∧ Below w.heap.size w w' := by
      intro hn HT
      rw [HT]
      clear h HT
      have hn2 : ((n : Int) != 2) = true := by rw [bne_iff_ne]; omega
      show Calls Try.prog 8 #[.agg #[.int .i64 op, .int .i64 k, .slice A n c]] w _
      go_enter Try.func8, Try.ntmps8
      go_wp2
      refine bodyPost_ret (results_tmp2 rfl _ _ _) rfl ?_
      exact ⟨rfl, (Below.refl _ _).alloc (Nat.le_refl _) _⟩
    match kids, h, hno with
    | [], h, hno => exact hno (by have := h.len; simp at this; omega) (by unfold Nd.size; rw [if_neg (by omega)])
    | [x], h, hno => exact hno (by have := h.len; simp at this; omega) (by unfold Nd.size; rw [if_neg (by omega)])
    | x :: y :: z :: l, h, hno => exact hno (by have := h.len; simp at this; omega) (by unfold Nd.size; rw [if_neg (by omega)])
    | [x, y], h, hno =>
      clear hno
      obtain ⟨rfl, hx, hy, b, off, rfl, hb, hc⟩ := h.two
      have HX := Lib.hid (fun W hW => size_c x W (hx.belo hW))
      have HY := Lib.hid (fun W hW => size_c y W (hy.belo hW))
      have HT : Nd.size wrap64 (.mk op k (some ⟨b, off, none⟩) 2 c [x, y]) = (wrap64 (wrap64 (1 + (Nd.size wrap64 x).1) + (Nd.size wrap64 y).1), max (Nd.size wrap64 x).2 (wrap64 ((Nd.size wrap64 y).2 + 1))) := by rw [Nd.size, if_neg (by omega)]
      rw [HT]
      have HR := Lib.hid (fun W hW => range_below (W' := W) hc hW hb)
      clear h hx hy HT
      obtain ⟨op1, k1, A1, n1, c1, l1⟩ := x
      obtain ⟨op2, k2, A2, n2, c2, l2⟩ := y
      obtain ⟨a0, a1, a2, a3, a4, a5⟩ := two_cells hc
      clear hc
      generalize Nd.size wrap64 (.mk op1 k1 A1 n1 c1 l1) = SX at *
      generalize Nd.size wrap64 (.mk op2 k2 A2 n2 c2 l2) = SY at *
      show Calls Try.prog 8 #[.agg #[.int .i64 op, .int .i64 k, .slice (some ⟨b, off, none⟩) 2 c]] w _
      unfold ndC at HX HY
      go_enter Try.func8, Try.ntmps8
      go_wp2_with (first
        | (go_at_call 8; (with_reducible refine (HX.out _ (by exact (Below.refl _ _).alloc (Nat.le_refl _) _)).mono ?_); rintro e w2 ⟨rfl, hB2⟩
           have hE2 : Blk w2 w.heap.size 24 [.int .i64 op, .int .i64 k, .slice (some ⟨b, off, none⟩) 2 c] := (Blk.new w _ _).below hB2 (by simp)
           have HB2 : Hid (Below w.heap.size w w2) := ((Below.refl _ _).alloc (Nat.le_refl _) _).trans (hB2.mono (by simp))
           obtain ⟨b0, b1, b2, b3, b4, b5⟩ := two_cells (HR.out w2 HB2.out)
           have d2 : w2.cell? ⟨w.heap.size, 2, none⟩ = some (.slice (some ⟨b, off, none⟩) 2 c) := hE2.cell 2
           clear hB2 a0 a1 a2 a3 a4 a5)
        | (go_at_call 8; (with_reducible refine (HY.out _ (by exact HB2.out)).mono ?_); rintro e w3 ⟨rfl, hB3⟩))
      refine bodyPost_ret (results_tmp2 rfl _ _ _) rfl ?_
      exact ⟨rfl, HB2.out.trans (hB3.mono HB2.out.size)⟩
end Go.Proofs.Ytloakenighnfgaa.Tr
