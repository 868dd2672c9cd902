/- The fixed fact of layer 16: it holds. -/
import Derived.Test.YtkpacpkldjfbhaaSb
namespace Go.Proofs.Ytkpacpkldjfbhaa
open Go.RowKit

attribute [local go_sem ↓] ldq_37 stq_37 ldq_34s stq_34s

def fixed16 : List UInt8 := ((((((rep 328 (0 : UInt8)).set 7 9).set 8 1).set 40 2).set 56 3).set 296 4)
theorem fixed16_len : fixed16.length = 328 := by unfold fixed16; simp only [List.length_set]; exact rep_length _ _

theorem Blk.all {w : World} {g : Nat} {t : TypeId} {l : List UInt8} {n : Nat} (h : Blk w g t (u8s l)) (hn : l.length = n) : Rd w (some ⟨g, 0, none⟩) n (u8s l) := by
  have := h.rd 0 n (by rw [u8s_length, hn]; omega)
  rwa [List.drop_zero, List.take_of_length_le (by rw [u8s_length, hn]; omega)] at this

set_option maxRecDepth 100000 in
set_option maxHeartbeats 1000000 in
theorem awake16 (w : World) : Calls Try.prog 13 #[] w fun e w' => e = .returned (.bool true) ∧ Below w.heap.size w w' := by
  go_enter Try.func13, Try.ntmps13
  go_wp2_with (at_make; refine wpList_make1 rfl _ _ 29 rfl 5 (.int .u8 0) 1 Try.underlying29 iU8 rfl _ _ _ _ rfl rfl 328 328 rfl rfl (by omega) (by omega) (by omega) ?_)
  intro w1 hb1 hg1 hs1
  have hB1 : Below w.heap.size w w1 := grown_below hg1
  have hf : ∀ i, w1.frozen? ⟨w.heap.size, i, none⟩ = false := fun i => hb1.frozen i
  have hcell : ∀ i, i < 328 → w1.cell? ⟨w.heap.size, i, none⟩ = some (.int .u8 0) := fun i hi => by rw [hb1.cell, rep_get hi]
  have c0 := hcell 7 (by omega)
  have c1 := hcell 8 (by omega)
  have c2 := hcell 40 (by omega)
  have c3 := hcell 56 (by omega)
  have c4 := hcell 296 (by omega)
  clear hcell hg1
  have HS := Lib.hid hs1
  clear hs1
  have hbf : Blk (((((w1.setCell ⟨w.heap.size, 7, none⟩ (.int .u8 9)).setCell ⟨w.heap.size, 8, none⟩ (.int .u8 1)).setCell ⟨w.heap.size, 40, none⟩ (.int .u8 2)).setCell ⟨w.heap.size, 56, none⟩ (.int .u8 3)).setCell ⟨w.heap.size, 296, none⟩ (.int .u8 4)) w.heap.size 5 (u8s fixed16) := by
    have h5 := ((((hb1.set_ 7 (.int .u8 9)).set_ 8 (.int .u8 1)).set_ 40 (.int .u8 2)).set_ 56 (.int .u8 3)).set_ 296 (.int .u8 4)
    have e0 : rep 328 (Value.int .u8 0) = u8s (rep 328 0) := rep_u8s 328 0
    rw [e0] at h5
    rw [show (Value.int .u8 9) = .int .u8 ((9 : UInt8).toNat) from rfl, u8s_set, show (Value.int .u8 1) = .int .u8 ((1 : UInt8).toNat) from rfl, u8s_set, show (Value.int .u8 2) = .int .u8 ((2 : UInt8).toNat) from rfl, u8s_set,
      show (Value.int .u8 3) = .int .u8 ((3 : UInt8).toNat) from rfl, u8s_set, show (Value.int .u8 4) = .int .u8 ((4 : UInt8).toNat) from rfl, u8s_set] at h5
    exact h5
  have hBf : Below w.heap.size w (((((w1.setCell ⟨w.heap.size, 7, none⟩ (.int .u8 9)).setCell ⟨w.heap.size, 8, none⟩ (.int .u8 1)).setCell ⟨w.heap.size, 40, none⟩ (.int .u8 2)).setCell ⟨w.heap.size, 56, none⟩ (.int .u8 3)).setCell ⟨w.heap.size, 296, none⟩ (.int .u8 4)) :=
    ((((hB1.setCell (Nat.le_refl _) _).setCell (Nat.le_refl _) _).setCell (Nat.le_refl _) _).setCell (Nat.le_refl _) _).setCell (Nat.le_refl _) _
  clear hb1 hB1
  have HI : Hid ((Try.prog.info? 37).map (·.size) = some (blkCells fixed16).length) := by show _ = _; rw [blkCells_len _ fixed16_len]; exact hd37
  have HFZ : Hid ((blkCells fixed16).length = z37.length) := by show _ = _; rw [blkCells_len _ fixed16_len, z37_len]
  have hx0 : (blkCells fixed16)[288]? = some (.int .u64 9) := by kernel_rfl
  have hx1 : (blkCells fixed16)[0]? = some (.int .u8 1) := by kernel_rfl
  have hx2 : (blkCells fixed16)[32]? = some (.int .u8 2) := by kernel_rfl
  have hx3 : (blkCells fixed16)[48]? = some (.int .u8 3) := by kernel_rfl
  have hx4 : (blkCells fixed16)[289]? = some (.int .u8 4) := by kernel_rfl
  have HX0 := Lib.hid hx0
  have HX1 := Lib.hid hx1
  have HX2 := Lib.hid hx2
  have HX3 := Lib.hid hx3
  have HX4 := Lib.hid hx4
  clear hx0 hx1 hx2 hx3 hx4
  go_wp2_with (first
    | (go_at_call 14; refine (sparse_yes _ 328 fixed16 _ (hbf.all fixed16_len) (by omega) (by decide +kernel)).mono ?_; rintro e w2 ⟨rfl, hB2⟩)
    | (refine wpList_store_all rfl 37 (.tmp 2) (.tmp 18) rfl w2.heap.size (blkCells fixed16) (by rfl) (by rfl) 37 z37 (Blk.new' rfl zc37) HI.out (blkCells_one _) HFZ.out ?_
       intro w3 hb3 ho3
       have hBw2 : Below w.heap.size w w2 := hBf.trans (hB2.mono hBf.size)
       have hlt : w.heap.size < w2.heap.size := Nat.lt_of_lt_of_le hbf.lt hB2.size
       have hBw3 : Below w.heap.size w w3 := ho3.below (hBw2.alloc hBw2.size _) hBw2.size (by simp; omega)
       have hk3 : Blk w3 w.heap.size 5 (u8s fixed16) := ho3.blk ((hbf.below hB2 hbf.lt).alloc _) (by omega)
       have d0 : w3.cell? ⟨w2.heap.size, 288, none⟩ = some (.int .u64 9) := by rw [hb3.cell]; exact HX0.out
       have d1 : w3.cell? ⟨w2.heap.size, 0, none⟩ = some (.int .u8 1) := by rw [hb3.cell]; exact HX1.out
       have d2 : w3.cell? ⟨w2.heap.size, 32, none⟩ = some (.int .u8 2) := by rw [hb3.cell]; exact HX2.out
       have d3 : w3.cell? ⟨w2.heap.size, 48, none⟩ = some (.int .u8 3) := by rw [hb3.cell]; exact HX3.out
       have d4 : w3.cell? ⟨w2.heap.size, 289, none⟩ = some (.int .u8 4) := by rw [hb3.cell]; exact HX4.out
       have hld : (ldAt 37 (.pointer (some ⟨w2.heap.size, 0, none⟩))).run Try.prog w3 = .ok (.agg (blkCells fixed16).toArray) w3 := ldAt_run hb3 _ 0 (blkCells fixed16) (by rw [List.drop_zero, List.take_of_length_le (Nat.le_refl _)]) _ Try.underlying37 rfl HI.out
       clear ho3 hB2 hbf hBf hBw2 c0 c1 c2 c3 c4 hf)
    | (go_at_call 18; refine (sbytes_any fixed16 _ fixed16_len).mono ?_; rintro e w4 ⟨A4, c4, rfl, hc4, hown4, hB4⟩
       have hk4 := hk3.below hB4 hk3.lt
       clear d0 d1 d2 d3 d4 hld)
    | (go_at_call 17; refine (equal_any A4 (some ⟨w.heap.size, 0, none⟩) 328 328 c4 328 fixed16 fixed16 _ (Rd.of_own hown4) (hk4.all fixed16_len) (by omega) (by omega)).mono ?_; rintro e w5 ⟨rfl, q5, rfl⟩))
  go_ret
  refine ⟨by simp, ?_⟩
  have h4 : Below w.heap.size w w4 := hBw3.trans (hB4.mono hBw3.size)
  exact below_drewN h4 _

end Go.Proofs.Ytkpacpkldjfbhaa
