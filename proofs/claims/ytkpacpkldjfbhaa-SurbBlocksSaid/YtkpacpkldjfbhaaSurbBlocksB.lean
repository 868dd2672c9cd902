/- SurbBlocks, where a block is read. -/
import Derived.Test.YtkpacpkldjfbhaaAwake16
import Derived.Test.YtkpacpkldjfbhaaEqs
import Derived.Test.YtkpacpkldjfbhaaOpen
import Derived.Test.YtkpacpkldjfbhaaSurbBlocksA
namespace Go.Proofs.Ytkpacpkldjfbhaa.surbBlocks
open Go.ChangeShapes Go.WideShapes Go.ChangeAt Go.RowKit
open Go.ChangeMaps (open_string shut_string)
set_option linter.unusedVariables false

attribute [local go_sem ↓] ldq_37 stq_37 ldq_34s stq_34s
attribute [local go_sem ↓] eqq_37

set_option maxRecDepth 100000 in
set_option maxHeartbeats 1000000 in
theorem walk_yes (A : Option Addr) (c : Nat) (l : List UInt8) (w : World) (h : Rd w A 328 (u8s l)) (hc : 328 ≤ c) (h0 : beNat (l.take 8) ≠ 0) :
    Calls Try.prog 4 #[.slice A 328 c] w fun e w' => e = .returned (.bool true) ∧ Below w.heap.size w w' := by
  have H0 := Lib.hid h0
  have hl := h.len
  have HL := Lib.hid hl
  clear h0 hl
  obtain ⟨b, off, rfl, hb, hcell⟩ := h.2 (by omega)
  clear hcell
  have hz0 : ((beNat (l.take 8) : Int) == 0) = false := by simpa using H0.out
  have hg : ∀ W, Rd W (some ⟨b, off, none⟩) 328 (u8s l) → Calls Try.prog 16 #[.int .i64 2, .slice (some ⟨b, off, none⟩) 328 c, .int .i64 0, .int .i64 8] W fun e w' => e = .returned (.tuple #[.int .u64 (beNat (l.take 8)), .int .i64 0]) ∧ W = w' := fun W h => by
    have := rget_2 (some ⟨b, off, none⟩) 328 c 0 8 l W h (by omega) (by omega) (by omega) (by omega)
    rw [List.drop_zero] at this
    exact this
  have hat : (blkCells l)[288]? = some (.int .u64 (beNat (l.take 8))) := by
    unfold blkCells
    rw [List.getElem?_append_right (by simp [u8s_length]; omega)]
    simp [u8s_length, HL.out]
  have HAT := Lib.hid hat
  clear hat
  generalize beNat (l.take 8) = F at hg hz0 HAT
  have HG := Lib.hid hg
  clear hg
  have HI : Hid ((Try.prog.info? 37).map (·.size) = some (blkCells l).length) := by show _ = _; rw [blkCells_len _ HL.out]; exact hd37
  have HFZ : Hid ((blkCells l).length = z37.length) := by show _ = _; rw [blkCells_len _ HL.out, z37_len]
  have HH : Hid (((l.drop 8).take 288).length = 288) := by show _ = _; rw [List.length_take, List.length_drop, HL.out]; rfl
  have hrd : ∀ W, Rd W (some ⟨b, off, none⟩) 328 (u8s l) → Rd W (some ⟨b, off + 8, none⟩) 288 (u8s ((l.drop 8).take 288)) := fun W h => by
    have := h.cut (A' := some ⟨b, off + 8, none⟩) (m := 296) (k := 8) (by omega) (by omega) (fun _ b' off' e => by injection e with e; injection e with e1 e2; subst e1; subst e2; rfl)
    rw [u8s_take, u8s_drop, List.drop_take] at this
    exact this
  have HR := Lib.hid hrd
  have n8 : ¬ c = 8 := by omega
  have i296 : (296 : Int) ≤ (c : Int) := by omega
  clear hrd
  go_enter Try.func4, Try.ntmps4
  go_wp2_with (first
    | (go_at_call 13; refine (awake16 _).mono ?_; rintro e w1 ⟨rfl, hB1⟩)
    | (go_at_call 15; refine (copy_any (some ⟨b, off, none⟩) 328 c l _ (h.below hB1) (by omega)).mono ?_; rintro e w2 ⟨A2, c2, rfl, hc2, hown2, hB2⟩)
    | (go_at_call 14; refine (sparse_yes A2 c2 l _ (Rd.of_own hown2) hc2 H0.out).mono ?_; rintro e w3 ⟨rfl, hB3⟩)
    | (refine wpList_store_all rfl 37 (.tmp 3) (.tmp 13) rfl w3.heap.size (blkCells l) (by rfl) (by rfl) 37 z37 (Blk.new' rfl zc37) HI.out (blkCells_one l) HFZ.out ?_
       intro w4 hb4 ho4
       have hBw2 : Below w.heap.size w w2 := hB1.trans (hB2.mono hB1.size)
       have hBw3 : Below w.heap.size w w3 := hBw2.trans (hB3.mono hBw2.size)
       have hB4 : Below w.heap.size w w4 := ho4.below (hBw3.alloc hBw3.size _) hBw3.size (by have := hBw3.size; simp; omega)
       clear hBw2 hBw3 ho4 hB1 hB2 hB3 hown2)
    | (go_at_call 16; refine (HG.out _ (h.below hB4)).mono ?_; rintro e w5 ⟨rfl, rfl⟩))
  obtain ⟨cs, Hcs⟩ : ∃ cs, Hid (cs = blkCells l) := ⟨_, rfl⟩
  obtain ⟨hs, Hhs⟩ : ∃ hs, Hid (hs = u8s ((l.drop 8).take 288)) := ⟨_, rfl⟩
  have hld : ∀ W, Blk W w3.heap.size 37 (blkCells l) → (ldAt 37 (.pointer (some ⟨w3.heap.size, 0, none⟩))).run Try.prog W = .ok (.agg cs.toArray) W := fun W hb => by
    rw [Hcs.out]
    exact ldAt_run hb _ 0 (blkCells l) (by rw [List.drop_zero, List.take_of_length_le (Nat.le_refl _)]) _ Try.underlying37 rfl HI.out
  have hlh : ∀ W, Blk W w3.heap.size 37 (blkCells l) → (ldAt 34 (.pointer (some ⟨w3.heap.size, 0, none⟩))).run Try.prog W = .ok (.agg hs.toArray) W := fun W hb => by
    rw [Hhs.out]
    exact ldAt_run hb _ 0 _ (by rw [List.drop_zero, blkCells, List.take_left]) _ Try.underlying34 rfl (by rw [u8s_length, HH.out]; exact hd34)
  have hcl : ∀ W, Blk W w3.heap.size 37 (blkCells l) → W.cell? ⟨w3.heap.size, 288, none⟩ = some (.int .u64 F) := fun W hb => by rw [hb.cell]; exact HAT.out
  go_region_held3 (fun w' => Blk w' w3.heap.size 37 (blkCells l))
    (first | assumption | exact hb4.drew) (first
    | (go_at_call 18; rw [Hcs.out]; refine (sbytes_any l _ HL.out).mono ?_; rintro e w6 ⟨A6, c6, rfl, hc6, hown6, hB6⟩
       have hk6 : Blk w6 w3.heap.size 37 (blkCells l) := hb4.drew.below hB6 hb4.lt
       have hBw6 : Below w.heap.size w w6 := hB4.drew.trans (hB6.mono hB4.size))
    | (go_at_call 19; rw [Hhs.out]; refine (hbytes_any ((l.drop 8).take 288) _ HH.out).mono ?_; rintro e w8 ⟨A8, c8, rfl, hc8, hown8, hB8⟩
       have hk8 : Blk w8 w3.heap.size 37 (blkCells l) := (hk6.drewN _).below hB8 hk6.lt
       have hBw8 : Below w.heap.size w w8 := (below_drewN hBw6 q7).trans (hB8.mono hBw6.size))
    | (go_at_call 17; (with_reducible refine (equal_any A6 (some ⟨b, off, none⟩) 328 328 c6 c l l _ (Rd.of_own hown6) (h.below hBw6) (by omega) (by omega)).mono ?_); rintro e w7 ⟨rfl, q7, rfl⟩; have hk7 := hk6.drewN q7)
    | (go_at_call 17; (with_reducible refine (equal_any A8 (some ⟨b, off + 8, none⟩) 288 288 c8 (c - 8) ((l.drop 8).take 288) ((l.drop 8).take 288) _ (Rd.of_own hown8) (HR.out _ (h.below hBw8)) (by omega) (by omega)).mono ?_); rintro e w9 ⟨rfl, q9, rfl⟩; have hk9 := hk8.drewN q9))
  go_wp2
  go_ret
  exact ⟨rfl, below_drewN hBw8 _⟩

theorem walk (A : Option Addr) (n c : Nat) (l : List UInt8) (w : World) (h : Rd w A n (u8s l)) (hn : n ≤ c) (hc : c ≤ 140737488351232) :
    Calls Try.prog 4 #[.slice A n c] w fun e w' => e = .returned (.bool true) ∧ Below w.heap.size w w' := by
  by_cases hne : n = 328
  · subst hne
    by_cases h0 : beNat (l.take 8) = 0
    · exact walk_zero A c l w h h0
    · exact walk_yes A c l w h hn h0
  · exact walk_no A n c l w h (by omega) hne

end Go.Proofs.Ytkpacpkldjfbhaa.surbBlocks
