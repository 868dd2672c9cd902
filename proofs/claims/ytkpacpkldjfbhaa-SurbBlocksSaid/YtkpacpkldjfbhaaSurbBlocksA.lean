/- SurbBlocks, where no block is read. -/
import Derived.Test.YtkpacpkldjfbhaaAwake16
import Derived.Test.YtkpacpkldjfbhaaEqs
import Derived.Test.YtkpacpkldjfbhaaOpen
namespace Go.Proofs.Ytkpacpkldjfbhaa.surbBlocks
open Go.ChangeShapes Go.WideShapes Go.ChangeAt Go.RowKit
open Go.ChangeMaps (open_string shut_string)
set_option linter.unusedVariables false

attribute [local go_sem ↓] ldq_37 stq_37 ldq_34s stq_34s
theorem bytes5 : Try.prog.bytesOf 5 = 1 := by kernel_rfl
attribute [local go_sem ↓] eqq_37

set_option maxRecDepth 100000 in
set_option maxHeartbeats 1000000 in
theorem walk_no (A : Option Addr) (n c : Nat) (l : List UInt8) (w : World) (h : Rd w A n (u8s l)) (hn : n ≤ 140737488351232) (hne : ¬ n = 328) :
    Calls Try.prog 4 #[.slice A n c] w fun e w' => e = .returned (.bool true) ∧ Below w.heap.size w w' := by
  have hne' : ((n : Int) != 328) = true := by rw [bne_iff_ne]; omega
  have hq := eq37
  go_enter Try.func4, Try.ntmps4
  go_wp2_with (first
    | (go_at_call 13; refine (awake16 _).mono ?_; rintro e w1 ⟨rfl, hB1⟩)
    | (go_at_call 15; refine (copy_any A n c l _ (h.below hB1) (by omega)).mono ?_; rintro e w2 ⟨A2, c2, rfl, hc2, hown2, hB2⟩)
    | (go_at_call 14; refine (sparse_no A2 n c2 _ hne).mono ?_; rintro e w3 ⟨rfl, hB3⟩)
    | (refine wpList_store_all rfl 37 (.tmp 3) (.tmp 13) rfl w3.heap.size z37 (by rfl) (by rfl) 37 z37 (Blk.new' rfl zc37) (by rw [z37_len]; exact hd37) z37_one rfl ?_
       intro w4 hb4 ho4
       have hld : (ldAt 37 (.pointer (some ⟨w3.heap.size, 0, none⟩))).run Try.prog w4 = .ok (.agg z37.toArray) w4 := ldAt_run hb4 _ 0 z37 (by rw [List.drop_zero, List.take_of_length_le (Nat.le_refl _)]) _ Try.underlying37 rfl (by rw [z37_len]; exact hd37))
    | refine wpList_build rfl 37 [] rfl [] (by rfl) _ (build37_0 _) ?_)
  have hBw2 : Below w.heap.size w w2 := hB1.trans (hB2.mono hB1.size)
  have hBw3 : Below w.heap.size w w3 := hBw2.trans (hB3.mono hBw2.size)
  have hB4 : Below w.heap.size w w4 := ho4.below (hBw3.alloc hBw3.size _) hBw3.size (by have := hBw3.size; simp; omega)
  go_ret
  exact ⟨rfl, hB4⟩

set_option maxRecDepth 100000 in
set_option maxHeartbeats 1000000 in
theorem walk_zero (A : Option Addr) (c : Nat) (l : List UInt8) (w : World) (h : Rd w A 328 (u8s l)) (h0 : beNat (l.take 8) = 0) :
    Calls Try.prog 4 #[.slice A 328 c] w fun e w' => e = .returned (.bool true) ∧ Below w.heap.size w w' := by
  have hq := eq37
  have H0 := Lib.hid h0
  clear h0
  have hg : ∀ W, Rd W A 328 (u8s l) → Calls Try.prog 16 #[.int .i64 2, .slice A 328 c, .int .i64 0, .int .i64 8] W fun e w' => e = .returned (.tuple #[.int .u64 0, .int .i64 0]) ∧ W = w' := fun W h => by
    have := rget_2 A 328 c 0 8 l W h (by omega) (by omega) (by omega) (by omega)
    rw [List.drop_zero, H0.out] at this
    exact this
  have HG := Lib.hid hg
  clear hg
  go_enter Try.func4, Try.ntmps4
  go_wp2_with (first
    | (go_at_call 13; refine (awake16 _).mono ?_; rintro e w1 ⟨rfl, hB1⟩)
    | (go_at_call 15; refine (copy_any A 328 c l _ (h.below hB1) (by omega)).mono ?_; rintro e w2 ⟨A2, c2, rfl, hc2, hown2, hB2⟩)
    | (go_at_call 14; refine (sparse_zero A2 c2 l _ (Rd.of_own hown2) H0.out).mono ?_; rintro e w3 ⟨rfl, hB3⟩)
    | (refine wpList_store_all rfl 37 (.tmp 3) (.tmp 13) rfl w3.heap.size z37 (by rfl) (by rfl) 37 z37 (Blk.new' rfl zc37) (by rw [z37_len]; exact hd37) z37_one rfl ?_
       intro w4 hb4 ho4
       have hBw2 : Below w.heap.size w w2 := hB1.trans (hB2.mono hB1.size)
       have hBw3 : Below w.heap.size w w3 := hBw2.trans (hB3.mono hBw2.size)
       have hB4 : Below w.heap.size w w4 := ho4.below (hBw3.alloc hBw3.size _) hBw3.size (by have := hBw3.size; simp; omega)
       have hld : (ldAt 37 (.pointer (some ⟨w3.heap.size, 0, none⟩))).run Try.prog w4 = .ok (.agg z37.toArray) w4 := ldAt_run hb4 _ 0 z37 (by rw [List.drop_zero, List.take_of_length_le (Nat.le_refl _)]) _ Try.underlying37 rfl (by rw [z37_len]; exact hd37))
    | (go_at_call 16; refine (HG.out _ (h.below hB4)).mono ?_; rintro e w5 ⟨rfl, rfl⟩))
  go_ret
  exact ⟨rfl, hB4⟩

end Go.Proofs.Ytkpacpkldjfbhaa.surbBlocks
