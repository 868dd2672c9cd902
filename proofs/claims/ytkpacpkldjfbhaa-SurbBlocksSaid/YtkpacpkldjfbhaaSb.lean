/- Block.Bytes: the 328 bytes of a reply block. -/
import Derived.Test.YtkpacpkldjfbhaaSp
namespace Go.Proofs.Ytkpacpkldjfbhaa
open Go.RowKit

attribute [local go_sem ↓] ldq_37 stq_37 ldq_34s stq_34s

theorem beNat_append (a b : List UInt8) : beNat (a ++ b) = beNat a * 256 ^ b.length + beNat b := by
  rw [← beNat_from]
  simp [beNat]
theorem byte_of_be (l : List UInt8) (k : Nat) (x : UInt8) (hk : k < 8) (hl : 8 ≤ l.length) (hx : l[k]? = some x) : (beNat (l.take 8) : Int) / 2 ^ (8 * (7 - k)) % 256 = (x.toNat : Int) := by
  have e : l.take 8 = l.take (k + 1) ++ (l.take 8).drop (k + 1) := by
    have := (List.take_append_drop (k + 1) (l.take 8)).symm
    rwa [List.take_take, Nat.min_eq_left (by omega)] at this
  have hlen : ((l.take 8).drop (k + 1)).length = 7 - k := by simp; omega
  have h1 := beNat_append (l.take (k + 1)) ((l.take 8).drop (k + 1))
  rw [← e, hlen] at h1
  have h2 := beNat_lt ((l.take 8).drop (k + 1))
  rw [hlen] at h2
  have h3 : beNat (l.take (k + 1)) = beNat (l.take k) * 256 + x.toNat := by rw [List.take_add_one, hx]; exact beNat_snoc _ _
  have h4 : (2 : Nat) ^ (8 * (7 - k)) = 256 ^ (7 - k) := by rw [Nat.pow_mul]
  have h5 : beNat (l.take 8) / 2 ^ (8 * (7 - k)) = beNat (l.take k) * 256 + x.toNat := by
    rw [h1, h4, h3, Nat.mul_comm, Nat.mul_add_div (Nat.pos_of_ne_zero (by simp)), Nat.div_eq_of_lt h2, Nat.add_zero]
  have h6 : ((beNat (l.take 8) / 2 ^ (8 * (7 - k)) % 256 : Nat) : Int) = (x.toNat : Int) := by
    rw [h5]
    have := x.toNat_lt
    omega
  simpa using h6

set_option maxRecDepth 100000 in
set_option maxHeartbeats 400000 in
theorem sbytes_any (l : List UInt8) (w : World) (hl : l.length = 328) :
    Calls Try.prog 18 #[.agg (blkCells l).toArray] w fun e w' => ∃ A' c', e = .returned (.slice A' 328 c') ∧ 328 ≤ c' ∧ w'.ownsRow w.heap.size 5 1 (.slice A' 328 c') 328 (u8s l) ∧ Below w.heap.size w w' := by
  have Hl := Lib.hid hl
  clear hl
  go_enter Try.func18, Try.ntmps18
  have hat : (blkCells l)[288]? = some (.int .u64 (beNat (l.take 8))) := by
    unfold blkCells
    rw [List.getElem?_append_right (by simp [u8s_length]; omega)]
    simp [u8s_length, Hl.out]
  have HAT := Lib.hid hat
  clear hat
  generalize hF : beNat (l.take 8) = F at HAT
  have HF := Lib.hid hF
  clear hF
  go_wp2_with fail
  go_loopw [5] (fun i wr => ∃ k : Nat, k ≤ 8 ∧ i = .int .i64 k ∧ Blk wr (w.heap.size + 1) 84 (u8s (l.take k ++ rep (8 - k) 0)) ∧ Blk wr w.heap.size 37 (blkCells l) ∧ Below w.heap.size w wr) (fun i _ => 8 - (intOf i).toNat)
  case atStart => exact ⟨0, by omega, rfl, Blk.new' (by simp) rfl, (Blk.new w _ _).alloc _, ((Below.refl _ _).alloc (Nat.le_refl _) _).alloc (by simp) _⟩
  case round =>
    obtain ⟨k, hk, rfl, hb1, hb0, hBr⟩ := hrel
    by_cases hlt : k < 8
    · have hc0 : wr.cell? ⟨w.heap.size, 288, none⟩ = some (.int .u64 F) := by rw [hb0.cell]; exact HAT.out
      have hc1 : ∃ u, wr.cell? ⟨w.heap.size + 1, k, none⟩ = some u := by
        rw [hb1.cell]
        exact ⟨_, List.getElem?_eq_getElem (by simp [u8s_length, rep_length, Hl.out]; omega)⟩
      obtain ⟨u, hc1⟩ := hc1
      have hf1 : wr.frozen? ⟨w.heap.size + 1, k, none⟩ = false := hb1.frozen k
      have i0 : (0 : Int) ≤ (k : Int) := by omega
      have i1 : (k : Int) < 8 := by omega
      have hx : l[k]? = some (l[k]'(by rw [Hl.out]; omega)) := List.getElem?_eq_getElem _
      generalize l[k]'(by rw [Hl.out]; omega) = x at hx
      have hby := byte_of_be l k x hlt (by rw [Hl.out]; omega) hx
      rw [HF.out] at hby
      have HBY := Lib.hid hby
      have HX := Lib.hid hx
      clear hx hby
      go_wp2
      go_roundw
      case rel =>
        rw [HBY.out]
        refine ⟨k + 1, by omega, by go_num, ?_, hb0.far (by simp) _, hBr.setCell (by simp) _⟩
        have := hb1.set_ k (.int .u8 x.toNat)
        rwa [u8s_set, set_pad l 0 x k 8 hlt HX.out] at this
      case measure => simp [intOf]; omega
    · have : k = 8 := by omega
      subst this
      clear hlt hk
      have hb2 : Blk wr (w.heap.size + 1) 84 (u8s (l.take 8)) := by have := hb1; rwa [Nat.sub_self, show l.take 8 ++ rep 0 0 = l.take 8 from by simp [rep]] at this
      have hh : ((l.drop 8).take 288).length = 288 := by rw [List.length_take, List.length_drop, Hl.out]; rfl
      have HH := Lib.hid hh
      obtain ⟨cs, Hcs⟩ : ∃ cs, Hid (cs = u8s ((l.drop 8).take 288)) := ⟨_, rfl⟩
      have hld : ∀ W, Blk W w.heap.size 37 (blkCells l) → (ldAt 34 (.pointer (some ⟨w.heap.size, 0, none⟩))).run Try.prog W = .ok (.agg cs.toArray) W := fun W hb =>
        ldAt_run hb _ 0 cs (by rw [Hcs.out, List.drop_zero, blkCells, List.take_left]) _ Try.underlying34 rfl (by rw [Hcs.out, u8s_length, HH.out]; exact hd34)
      have hfl : [l.take 8, (l.drop 8).take 288, l.drop 296].flatten = l := by
        simp only [List.flatten_cons, List.flatten_nil, List.append_nil]
        rw [show l.drop 296 = (l.drop 8).drop 288 from by simp, List.take_append_drop, List.take_append_drop]
      have HFL := Lib.hid hfl
      have hq : ∀ (w1 : World) A1 c1, 288 ≤ c1 → Blk w1 w.heap.size 37 (blkCells l) → Blk w1 (w.heap.size + 1) 84 (u8s (l.take 8)) → Rd w1 A1 288 (u8s ((l.drop 8).take 288)) →
          RdB (w1.alloc (.cells #[.slice (some ⟨w.heap.size + 1, 0, none⟩) 8 8, .slice A1 288 c1, .slice (some ⟨w.heap.size, 289, none⟩) 32 32] 29)) (some ⟨w1.heap.size, 0, none⟩) 3 [l.take 8, (l.drop 8).take 288, l.drop 296] := fun w1 A1 c1 hc1 hk1 hk2 hr1 =>
        RdB.of_blk (Blk.new w1 29 [.slice (some ⟨w.heap.size + 1, 0, none⟩) 8 8, .slice A1 288 c1, .slice (some ⟨w.heap.size, 289, none⟩) 32 32])
          ⟨.of_blk (hk2.alloc _) 0 8 8 _ (by rw [u8s_length, List.length_take, Hl.out]; omega) (by omega) (by rw [List.drop_zero, List.take_of_length_le (by rw [u8s_length, List.length_take]; omega)]), .of_rd (hr1.alloc _) hc1,
           .of_blk (hk1.alloc _) 289 32 32 _ (by rw [blkCells_len l Hl.out]; omega) (by omega) (by
              rw [blkCells, ← List.append_assoc, List.drop_append_of_le_length (by simp [u8s_length, Hl.out]), List.drop_eq_nil_of_le (by simp [u8s_length, Hl.out]), List.nil_append, List.take_of_length_le (by simp [u8s_length, Hl.out])]), trivial⟩
      have HQ := Lib.hid hq
      clear hfl hq hh hb1
      go_wp2_with fail
      go_region_held3 (fun w' => Blk w' w.heap.size 37 (blkCells l) ∧ Blk w' (w.heap.size + 1) 84 (u8s (l.take 8)))
        (first | exact ⟨hb0.drew, hb2.drew⟩ | exact ⟨hk1, hk2⟩ | exact ⟨hk1.alloc _, hk2.alloc _⟩ | exact ⟨hk3, hk4⟩) (first
        | (go_at_call 19; rw [Hcs.out]; refine (hbytes_any ((l.drop 8).take 288) _ HH.out).mono ?_; rintro e w1 ⟨A1, c1, rfl, hc1, hown1, hB1⟩
           have hk1 : Blk w1 w.heap.size 37 (blkCells l) := hb0.drew.below hB1 hb0.lt
           have hk2 : Blk w1 (w.heap.size + 1) 84 (u8s (l.take 8)) := hb2.drew.below hB1 hb2.lt)
        | (go_at_call 39; refine (join_to _ 3 3 _ _ (HQ.out w1 A1 c1 hc1 hk1 hk2 (Rd.of_own hown1)) (by omega) l 328 HFL.out Hl.out (by omega)).mono ?_; rintro e w2 ⟨A2, c2, rfl, hc2, hown2, hB2⟩
           have hs1 : w.heap.size < w1.heap.size := hk1.lt
           have hs2 : w.heap.size + 1 < w1.heap.size := hk2.lt
           have hk3 : Blk w2 w.heap.size 37 (blkCells l) := (hk1.alloc _).below hB2 (by simp; omega)
           have hk4 : Blk w2 (w.heap.size + 1) 84 (u8s (l.take 8)) := (hk2.alloc _).below hB2 (by simp; omega)))
      have hsr := hBr.size
      have hB3 : Below w.heap.size w w2 := ((hBr.drew).trans (hB1.mono hsr)).trans ((((Below.refl _ _).alloc (by omega) _)).trans (hB2.mono (by simp; omega)))
      have hown3 := own_mono hown2 (base' := w.heap.size) (by simp; omega)
      clear hown2 hB2 hown1 hB1 hk1 hk2 hk3 hk4 hld HQ
      go_wp2
      go_ret
      exact ⟨A2, c2, rfl, hc2, hown3, hB3⟩

end Go.Proofs.Ytkpacpkldjfbhaa
