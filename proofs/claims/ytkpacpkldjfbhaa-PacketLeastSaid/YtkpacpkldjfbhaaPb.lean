/- Packet.Bytes: the 768 bytes of a packet. -/
import Derived.Test.YtkpacpkldjfbhaaPp
import Derived.Test.YtkpacpkldjfbhaaBaseb
namespace Go.Proofs.Ytkpacpkldjfbhaa
open Go.RowKit

theorem seal_ld34 (v : Value) : Instr.loadAt 34 v = ldAt 34 v := rfl
attribute [local go_sem ↓] seal_ld34

set_option maxRecDepth 100000 in
set_option maxHeartbeats 400000 in
theorem pbytes_any (l : List UInt8) (w : World) (hl : l.length = 768) :
    Calls Try.prog 35 #[.agg (u8s l).toArray] w fun e w' => ∃ A' c', e = .returned (.slice A' 768 c') ∧ 768 ≤ c' ∧ w'.ownsRow w.heap.size 5 1 (.slice A' 768 c') 768 (u8s l) ∧ Below w.heap.size w w' := by
  have Hl := Lib.hid hl
  clear hl
  have hh : (l.take 288).length = 288 := by rw [List.length_take, Hl.out]; rfl
  have HH := Lib.hid hh
  have hi34 : (Try.prog.info? 34).map (·.size) = some (u8s (l.take 288)).length := by rw [u8s_length, hh]; exact hd34
  have H34 := Lib.hid hi34
  clear hh hi34
  obtain ⟨cs, Hcs⟩ : ∃ cs, Hid (cs = u8s (l.take 288)) := ⟨_, rfl⟩
  have hld : ∀ W, Blk W w.heap.size 76 (u8s l) → (ldAt 34 (.pointer (some ⟨w.heap.size, 0, none⟩))).run Try.prog W = .ok (.agg cs.toArray) W := fun W hb =>
    ldAt_run hb _ 0 cs (by rw [Hcs.out, List.drop_zero, u8s_take, u8s_length, HH.out]) _ Try.underlying34 rfl (by rw [Hcs.out]; exact H34.out)
  have hq : ∀ W A1 c1, 288 ≤ c1 → Blk W w.heap.size 76 (u8s l) → Rd W A1 288 (u8s (l.take 288)) → Rd W (some ⟨0, 0, none⟩) 0 [] := fun W _ _ _ _ _ => Rd.nil _ _
  have hfl : [l.take 288, (l.drop 288).take 480].flatten = l := by
    have hl := Hl.out
    simp
    rw [List.take_of_length_le (l := l.drop 288) (by simp; omega), List.take_append_drop]
  have HFL := Lib.hid hfl
  clear hfl hq
  go_enter Try.func35, Try.ntmps35
  go_wp2_with fail
  have hk0 : Blk (w.alloc (.cells (u8s l).toArray 76)).drew w.heap.size 76 (u8s l) := (Blk.new w _ _).drew
  have hq : ∀ (w1 : World) A1 c1, 288 ≤ c1 → Blk w1 w.heap.size 76 (u8s l) → Rd w1 A1 288 (u8s (l.take 288)) →
      RdB (w1.alloc (.cells #[.slice A1 288 c1, .slice (some ⟨w.heap.size, 288, none⟩) 480 480] 29)) (some ⟨w1.heap.size, 0, none⟩) 2 [l.take 288, (l.drop 288).take 480] := fun w1 A1 c1 hc1 hk1 hr1 =>
    RdB.of_blk (Blk.new w1 29 [.slice A1 288 c1, .slice (some ⟨w.heap.size, 288, none⟩) 480 480]) ⟨.of_rd (hr1.alloc _) hc1, .of_blk (hk1.alloc _) 288 480 480 _ (by rw [u8s_length, Hl.out]; omega) (by omega) (by rw [u8s_drop, u8s_take]), trivial⟩
  have HQ := Lib.hid hq
  clear hq
  go_region_held3 (fun w' => Blk w' w.heap.size 76 (u8s l)) (first | assumption | exact Blk.alloc (by assumption) _) (first
    | (go_at_call 19; rw [Hcs.out]; refine (hbytes_any (l.take 288) _ HH.out).mono ?_; rintro e w1 ⟨A1, c1, rfl, hc1, hown1, hB1⟩; have hk1 : Blk w1 w.heap.size 76 (u8s l) := hk0.below hB1 (by simp))
    | (go_at_call 39; refine (join_to _ 2 2 _ _ (HQ.out w1 A1 c1 hc1 hk1 (Rd.of_own hown1)) (by omega) l 768 HFL.out Hl.out (by omega)).mono ?_; rintro e w2 ⟨A2, c2, rfl, hc2, hown2, hB2⟩
       have hs1 : w.heap.size < w1.heap.size := hk1.lt
       have hk2 : Blk w2 w.heap.size 76 (u8s l) := (hk1.alloc _).below hB2 (by simp; omega)))
  have hB3 : Below w.heap.size w w2 := ((((Below.refl _ _).alloc (Nat.le_refl _) _).drew).trans (hB1.mono (by simp))).trans ((((Below.refl _ _).alloc (by omega) _)).trans (hB2.mono (by simp; omega)))
  have hown3 := own_mono hown2 (base' := w.heap.size) (by simp; omega)
  clear hown2 hB2 hown1 hB1 hk1 hk2 hk0 hld HQ
  go_wp2
  go_ret
  exact ⟨A2, c2, rfl, hc2, hown3, hB3⟩

end Go.Proofs.Ytkpacpkldjfbhaa
