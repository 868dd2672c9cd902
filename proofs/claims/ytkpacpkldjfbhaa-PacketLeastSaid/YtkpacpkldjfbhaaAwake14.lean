/- The fixed fact of layer 14: it holds. -/
import Derived.Test.YtkpacpkldjfbhaaLeast
namespace Go.Proofs.Ytkpacpkldjfbhaa
open Go.RowKit

theorem seal_ld76 (v : Value) : Instr.loadAt 76 v = ldAt 76 v := rfl
theorem seal_st76 (p v : Value) : Instr.storeAt 76 p v = stAt 76 p v := rfl
attribute [local go_sem ↓] seal_ld76 seal_st76

def fixed14 : List UInt8 := ((((((rep 768 (0 : UInt8)).set 0 1).set 32 2).set 48 3).set 288 4).set 767 5)
theorem fixed14_len : fixed14.length = 768 := by unfold fixed14; simp only [List.length_set]; exact rep_length _ _

theorem Blk.set_ {w : World} {g : Nat} {t : TypeId} {cs : List Value} (h : Blk w g t cs) (i : Nat) (u : Value) : Blk (w.setCell ⟨g, i, none⟩ u) g t (cs.set i u) := by
  unfold Blk at h ⊢
  simp [World.setCell, Array.getElem?_modify, h]

set_option maxRecDepth 100000 in
set_option maxHeartbeats 1000000 in
theorem awake14 (w : World) : Calls Try.prog 10 #[] w fun e w' => e = .returned (.bool true) ∧ Below w.heap.size w w' := by
  go_enter Try.func10, Try.ntmps10
  go_wp2_with (at_make; refine wpList_make1 rfl _ _ 29 rfl 5 (.int .u8 0) 1 Try.underlying29 iU8 rfl _ _ _ _ rfl rfl 768 768 rfl rfl (by omega) (by omega) (by omega) ?_)
  intro w1 hb1 hg1 hs1
  have hB1 : Below w.heap.size w w1 := grown_below hg1
  have hf : ∀ i, w1.frozen? ⟨w.heap.size, i, none⟩ = false := fun i => hb1.frozen i
  have hcell : ∀ i, i < 768 → w1.cell? ⟨w.heap.size, i, none⟩ = some (.int .u8 0) := fun i hi => by rw [hb1.cell, rep_get hi]
  have c0 := hcell 0 (by omega)
  have c1 := hcell 32 (by omega)
  have c2 := hcell 48 (by omega)
  have c3 := hcell 288 (by omega)
  have c4 := hcell 767 (by omega)
  clear hcell hg1
  have HS := Lib.hid hs1
  clear hs1
  have hset : ∀ (l : List UInt8) i c, (u8s l).set i (.int .u8 (c : UInt8).toNat) = u8s (l.set i c) := fun l i c => by unfold u8s; rw [List.map_set]; rfl
  have hbf : Blk (((((w1.setCell ⟨w.heap.size, 0, none⟩ (.int .u8 1)).setCell ⟨w.heap.size, 32, none⟩ (.int .u8 2)).setCell ⟨w.heap.size, 48, none⟩ (.int .u8 3)).setCell ⟨w.heap.size, 288, none⟩ (.int .u8 4)).setCell ⟨w.heap.size, 767, none⟩ (.int .u8 5)) w.heap.size 5 (u8s fixed14) := by
    have h5 := ((((hb1.set_ 0 (.int .u8 1)).set_ 32 (.int .u8 2)).set_ 48 (.int .u8 3)).set_ 288 (.int .u8 4)).set_ 767 (.int .u8 5)
    have e0 : rep 768 (Value.int .u8 0) = u8s (rep 768 0) := rep_u8s 768 0
    rw [e0] at h5
    have e := hset (rep 768 0) 0 1
    rw [show (Value.int .u8 1) = .int .u8 ((1 : UInt8).toNat) from rfl, hset, show (Value.int .u8 2) = .int .u8 ((2 : UInt8).toNat) from rfl, hset, show (Value.int .u8 3) = .int .u8 ((3 : UInt8).toNat) from rfl, hset,
      show (Value.int .u8 4) = .int .u8 ((4 : UInt8).toNat) from rfl, hset, show (Value.int .u8 5) = .int .u8 ((5 : UInt8).toNat) from rfl, hset] at h5
    exact h5
  have hBf : Below w.heap.size w (((((w1.setCell ⟨w.heap.size, 0, none⟩ (.int .u8 1)).setCell ⟨w.heap.size, 32, none⟩ (.int .u8 2)).setCell ⟨w.heap.size, 48, none⟩ (.int .u8 3)).setCell ⟨w.heap.size, 288, none⟩ (.int .u8 4)).setCell ⟨w.heap.size, 767, none⟩ (.int .u8 5)) :=
    ((((hB1.setCell (Nat.le_refl _) _).setCell (Nat.le_refl _) _).setCell (Nat.le_refl _) _).setCell (Nat.le_refl _) _).setCell (Nat.le_refl _) _
  clear hset hb1 hB1
  obtain ⟨Z, HZ, HZl⟩ : ∃ Z : List Value, Hid (Try.zeroCells76 = Z.toArray) ∧ Hid (Z.length = 768) := ⟨_, zc76, by show (u8s _).length = _; rw [u8s_length]; simp⟩
  have hi : (Try.prog.info? 76).map (·.size) = some (u8s fixed14).length := by rw [u8s_length, fixed14_len]; exact hd76
  have HI := Lib.hid hi
  have hfz : (u8s fixed14).length = Z.length := by rw [u8s_length, fixed14_len, HZl.out]
  have HFZ := Lib.hid hfz
  have hat : ∀ (i : Nat) (c : UInt8), fixed14[i]? = some c → (u8s fixed14)[i]? = some (.int .u8 c.toNat) := fun i c h => by rw [u8s_getElem?, h]; rfl
  have HAT := Lib.hid hat
  clear hi hfz hat
  go_wp2_with (first
    | (go_at_call 34; refine (pparse_yes _ 768 fixed14 _ (by have := hbf.rd 0 768 (by rw [u8s_length, fixed14_len]; omega); rwa [List.drop_zero, List.take_of_length_le (by rw [u8s_length, fixed14_len]; omega)] at this) (by omega)).mono ?_; rintro e w2 ⟨rfl, hB2⟩)
    | (refine wpList_store_all rfl 76 (.tmp 2) (.tmp 18) rfl w2.heap.size (u8s fixed14) (by rfl) (by rfl) 76 Z (Blk.new' rfl HZ.out) HI.out (u8s_one _) HFZ.out ?_
       intro w3 hb3 ho3
       have hBw2 : Below w.heap.size w w2 := hBf.trans (hB2.mono hBf.size)
       have hlt : w.heap.size < w2.heap.size := Nat.lt_of_lt_of_le hbf.lt hB2.size
       have hBw3 : Below w.heap.size w w3 := ho3.below (hBw2.alloc hBw2.size _) hBw2.size (by simp; omega)
       have hk3 : Blk w3 w.heap.size 5 (u8s fixed14) := ho3.blk ((hbf.below hB2 hbf.lt).alloc _) (by omega)
       have d0 : w3.cell? ⟨w2.heap.size, 0, none⟩ = some (.int .u8 1) := by rw [hb3.cell]; exact HAT.out 0 1 (by decide +kernel)
       have d1 : w3.cell? ⟨w2.heap.size, 32, none⟩ = some (.int .u8 2) := by rw [hb3.cell]; exact HAT.out 32 2 (by decide +kernel)
       have d2 : w3.cell? ⟨w2.heap.size, 48, none⟩ = some (.int .u8 3) := by rw [hb3.cell]; exact HAT.out 48 3 (by decide +kernel)
       have d3 : w3.cell? ⟨w2.heap.size, 288, none⟩ = some (.int .u8 4) := by rw [hb3.cell]; exact HAT.out 288 4 (by decide +kernel)
       have d4 : w3.cell? ⟨w2.heap.size, 767, none⟩ = some (.int .u8 5) := by rw [hb3.cell]; exact HAT.out 767 5 (by decide +kernel)
       have hld : (ldAt 76 (.pointer (some ⟨w2.heap.size, 0, none⟩))).run Try.prog w3 = .ok (.agg (u8s fixed14).toArray) w3 := ldAt_run hb3 _ 0 (u8s fixed14) (by rw [List.drop_zero, List.take_of_length_le (Nat.le_refl _)]) _ Try.underlying76 rfl HI.out
       clear ho3 hB2 hbf hBf hBw2 c0 c1 c2 c3 c4 hf)
    | (go_at_call 35; refine (pbytes_any fixed14 _ fixed14_len).mono ?_; rintro e w4 ⟨A4, c4, rfl, hc4, hown4, hB4⟩
       have hk4 := hk3.below hB4 hk3.lt
       clear d0 d1 d2 d3 d4 hld)
    | (go_at_call 17; refine (equal_any A4 (some ⟨w.heap.size, 0, none⟩) 768 768 c4 768 fixed14 fixed14 _ (Rd.of_own hown4) (by have := hk4.rd 0 768 (by rw [u8s_length, fixed14_len]; omega); rwa [List.drop_zero, List.take_of_length_le (by rw [u8s_length, fixed14_len]; omega)] at this) (by omega) (by omega)).mono ?_; rintro e w5 ⟨rfl, q5, rfl⟩)
    | (go_at_call 11; refine (least_any (some ⟨w4.heap.size, 0, none⟩) 3 3 [0, 3, 2] _ (by have := (Blk.new w4 25 (i64s [0, 3, 2])).rd 0 3 (by simp [i64s]); exact this) (by omega)).mono ?_; rintro e w6 ⟨rfl, rfl⟩))
  rw [show (leastOf [0, 3, 2] == 2) = true from by decide]
  go_ret
  refine ⟨rfl, ?_⟩
  have h4 : Below w.heap.size w w4 := hBw3.trans (hB4.mono hBw3.size)
  exact below_drewN (h4.alloc h4.size _) _

end Go.Proofs.Ytkpacpkldjfbhaa
