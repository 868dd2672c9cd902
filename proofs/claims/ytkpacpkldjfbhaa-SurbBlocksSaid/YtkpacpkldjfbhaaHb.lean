/- Header.Bytes: the 288 bytes of a header. -/
import Derived.Test.YtkpacpkldjfbhaaHp
import Derived.Test.YtkpacpkldjfbhaaCodec
namespace Go.Proofs.Ytkpacpkldjfbhaa
open Go.RowKit

set_option maxRecDepth 100000 in
set_option maxHeartbeats 400000 in
theorem hbytes_any (l : List UInt8) (w : World) (hl : l.length = 288) :
    Calls Try.prog 19 #[.agg (u8s l).toArray] w fun e w' => ∃ A' c', e = .returned (.slice A' 288 c') ∧ 288 ≤ c' ∧ w'.ownsRow w.heap.size 5 1 (.slice A' 288 c') 288 (u8s l) ∧ Below w.heap.size w w' := by
  have Hl := Lib.hid hl
  clear hl
  go_enter Try.func19, Try.ntmps19
  have hq : ∀ W, Blk W w.heap.size 34 (u8s l) → Blk W (w.heap.size + 1) 29 [.slice (some ⟨w.heap.size, 0, none⟩) 32 32, .slice (some ⟨w.heap.size, 32, none⟩) 16 16, .slice (some ⟨w.heap.size, 48, none⟩) 240 240] →
      RdB W (some ⟨w.heap.size + 1, 0, none⟩) 3 [l.take 32, (l.drop 32).take 16, (l.drop 48).take 240] := fun W h1 h2 =>
    RdB.of_blk h2 ⟨.of_blk h1 0 32 32 _ (by rw [u8s_length, Hl.out]; omega) (by omega) (by rw [u8s_drop, u8s_take]; rfl), .of_blk h1 32 16 16 _ (by rw [u8s_length, Hl.out]; omega) (by omega) (by rw [u8s_drop, u8s_take]),
      .of_blk h1 48 240 240 _ (by rw [u8s_length, Hl.out]; omega) (by omega) (by rw [u8s_drop, u8s_take]), trivial⟩
  have hfl : [l.take 32, (l.drop 32).take 16, (l.drop 48).take 240].flatten = l := by
    have hl := Hl.out
    simp
    rw [List.take_of_length_le (l := l.drop 48) (by simp; omega), show l.drop 48 = (l.drop 32).drop 16 from by simp, List.take_append_drop, List.take_append_drop]
  have HQ := Lib.hid hq
  have HFL := Lib.hid hfl
  clear hq hfl
  go_wp2_with fail
  go_region_held3 (fun _ => True) (trivial) ((go_at_call 39; refine (join_to _ 3 3 _ _ (HQ.out _ (by exact ((Blk.new w _ _).alloc _).drew) (by exact (Blk.new' (by simp) rfl).drew)) (by omega) l 288 HFL.out Hl.out (by omega)).mono ?_; rintro e w1 ⟨A1, c1, rfl, hc1, hown1, hB1⟩))
  have hB2 : Below w.heap.size w w1 := ((((Below.refl _ _).alloc (Nat.le_refl _) _).alloc (by simp) _).drew).trans (hB1.mono (by simp; omega))
  have hown2 := own_mono hown1 (base' := w.heap.size) (by simp; omega)
  clear hown1 hB1
  go_wp2
  go_ret
  exact ⟨A1, c1, rfl, hc1, hown2, hB2⟩

end Go.Proofs.Ytkpacpkldjfbhaa
