/- frame.Check and frame.Frame of a part that goes back. -/
import Derived.Test.YtgkhglnfbhdkeaaPut
import Derived.Test.YtgkhglnfbhdkeaaMcR
namespace Go.Proofs.Ytgkhglnfbhdkeaa
open Go.RowKit

set_option maxRecDepth 100000 in
set_option maxHeartbeats 4000000 in
theorem check_back (A : Option Addr) (n c : Nat) (w : World) (hn : n ≤ 450) :
    Calls Try.prog 57 #[.agg #[.int .u8 3, .int .u64 0, .int .i64 0, .int .i64 1, .slice A n c]] w fun e w' => e = .returned (.int .i64 0) ∧ Below w.heap.size w w' := by
  have hn1 : ¬ (450 : Int) < (n : Int) := by omega
  go_enter Try.func57, Try.ntmps57
  go_wp2_with fail
  go_ret
  exact ⟨rfl, (Below.refl _ _).alloc (Nat.le_refl _) _⟩
theorem frame_set (k i c : UInt8) : (((rep 480 (0 : UInt8)).set 16 k).set 17 i).set 18 c = (Ch.zeros 16 ++ [k, i, c, 0]) ++ rep 8 0 ++ rep 452 0 := rfl
theorem frame_plain (k i c : UInt8) (b8 b2 d : List UInt8) (h8 : b8.length = 8) (h2 : b2.length = 2) (hd : d.length ≤ 450) :
    splice (splice (splice ((((rep 480 (0 : UInt8)).set 16 k).set 17 i).set 18 c) 20 b8) 28 b2) 30 d = Ch.zeros 16 ++ ([k, i, c, 0] ++ (b8 ++ (b2 ++ (d ++ Ch.zeros (450 - d.length))))) := by
  rw [frame_set]
  have e1 := splice_at (Ch.zeros 16 ++ [k, i, c, 0]) (rep 8 0) b8 (rep 452 0) (by rw [h8]; rfl)
  rw [show (Ch.zeros 16 ++ [k, i, c, 0]).length = 20 from rfl] at e1
  rw [e1]
  have e2 := splice_at ((Ch.zeros 16 ++ [k, i, c, 0]) ++ b8) (rep 2 0) b2 (rep 450 0) (by rw [h2]; rfl)
  rw [show ((Ch.zeros 16 ++ [k, i, c, 0]) ++ b8).length = 28 by rw [List.length_append, h8]; rfl, show (Ch.zeros 16 ++ [k, i, c, 0]) ++ b8 ++ rep 2 0 ++ rep 450 0 = (Ch.zeros 16 ++ [k, i, c, 0]) ++ b8 ++ rep 452 0 by rw [List.append_assoc, ← rep_add]] at e2
  rw [e2]
  have e3 := splice_at (((Ch.zeros 16 ++ [k, i, c, 0]) ++ b8) ++ b2) (rep d.length 0) d (rep (450 - d.length) 0) (by rw [rep_length])
  rw [show (((Ch.zeros 16 ++ [k, i, c, 0]) ++ b8) ++ b2).length = 30 by rw [List.length_append, List.length_append, h8, h2]; rfl, show (Ch.zeros 16 ++ [k, i, c, 0]) ++ b8 ++ b2 ++ rep d.length 0 ++ rep (450 - d.length) 0 = (Ch.zeros 16 ++ [k, i, c, 0]) ++ b8 ++ b2 ++ rep 450 0 by rw [List.append_assoc (((Ch.zeros 16 ++ [k, i, c, 0]) ++ b8) ++ b2), ← rep_add, show d.length + (450 - d.length) = 450 by omega]] at e3
  rw [e3]
  simp only [List.append_assoc]
  rfl
theorem u8s_splice (a b : List UInt8) (o : Nat) : splice (u8s a) o (u8s b) = u8s (splice a o b) := by
  unfold splice
  rw [u8s_take, u8s_length, u8s_drop, ← u8s_append, ← u8s_append]

set_option maxRecDepth 100000 in
set_option maxHeartbeats 4000000 in
theorem frame_back (A : Option Addr) (n c : Nat) (d : List UInt8) (w : World) (h : Rd w A n (u8s d)) (hn : n ≤ 450) :
    Calls Try.prog 35 #[.agg #[.int .u8 3, .int .u64 0, .int .i64 0, .int .i64 1, .slice A n c]] w fun e w' => ∃ g, e = .returned (.tuple #[.slice (some ⟨g, 0, none⟩) 480 480, .int .i64 0]) ∧ w.heap.size ≤ g ∧ Blk w' g 5 (u8s (Wd.frame 3 0 1 0 d)) ∧ Below w.heap.size w w' := by
  have hdl : d.length = n := h.len
  have hn2 : (n : Int) ≤ 450 := by omega
  have HP8 : Hid (∀ W, Calls Try.prog 58 #[.int .i64 2, .int .i64 8, .int .u64 0] W fun e w' => e = .returned (.tuple #[.slice (some ⟨W.heap.size, 0, none⟩) 8 8, .int .i64 0]) ∧ Blk w' W.heap.size 5 (u8s (Sh.beBytes 0 8)) ∧ Below W.heap.size W w') := fun W => put_8 0 W (by omega)
  have HP2 := Lib.hid (fun W => put_2 n W (by omega) (by omega))
  have HCK := Lib.hid (fun W => check_back A n c W hn)
  have HFP := Lib.hid (frame_plain 3 0 1 (Sh.beBytes 0 8) (Sh.beBytes n 2) d (beBytes_len _ _) (beBytes_len _ _) (by omega))
  have HFE : Hid (Wd.frame 3 0 1 0 d = Ch.zeros 16 ++ ([3, 0, 1, 0] ++ (Sh.beBytes 0 8 ++ (Sh.beBytes n 2 ++ (d ++ Ch.zeros (450 - d.length)))))) := by show _ = _; unfold Wd.frame; rw [hdl]
  have HT8 : Hid ((u8s (Sh.beBytes 0 8)).take 460 = u8s (Sh.beBytes 0 8)) := List.take_of_length_le (by rw [u8s_length, beBytes_len]; omega)
  have HT2 : Hid ((u8s (Sh.beBytes n 2)).take 452 = u8s (Sh.beBytes n 2)) := List.take_of_length_le (by rw [u8s_length, beBytes_len]; omega)
  have HTD : Hid ((u8s d).take 450 = u8s d) := List.take_of_length_le (by rw [u8s_length]; omega)
  obtain ⟨b8, h8⟩ : ∃ b8, b8 = Sh.beBytes 0 8 := ⟨_, rfl⟩
  obtain ⟨b2, h2⟩ : ∃ b2, b2 = Sh.beBytes n 2 := ⟨_, rfl⟩
  have HL8 : Hid ((Sh.beBytes 0 8).length = 8) := beBytes_len _ _
  have HL2 : Hid ((Sh.beBytes n 2).length = 2) := beBytes_len _ _
  rw [← h8] at HP8 HFP HFE HT8 HL8
  rw [← h2] at HP2 HFP HFE HT2 HL2
  have HLZ6 : Hid ((splice ((((rep 480 (0 : UInt8)).set 16 3).set 17 0).set 18 1) 20 b8).length = 480) := by show _ = _; rw [length_splice _ _ _ (by rw [HL8.out]; decide)]; rfl
  have HLZ7 : Hid ((splice (splice ((((rep 480 (0 : UInt8)).set 16 3).set 17 0).set 18 1) 20 b8) 28 b2).length = 480) := by show _ = _; rw [length_splice _ _ _ (by rw [HL2.out, HLZ6.out]; omega), HLZ6.out]
  have HR := Lib.hid h
  clear h hdl h8 h2
  go_enter Try.func35, Try.ntmps35
  go_wp2_with (first
    | (go_at_call 57; (with_reducible refine (HCK.out _).mono ?_); rintro e w1 ⟨rfl, hB1⟩
       have HBP1 := Lib.hid ((Blk.new' (w := w) (cs := [.int .u8 3, .int .u64 0, .int .i64 0, .int .i64 1, .slice A n c]) (t := 90) rfl rfl).below hB1 (by simp))
       have HE1 := Lib.hid (((Below.refl _ w).alloc (Nat.le_refl _) _).trans (hB1.mono (by simp)))
       have p10 := HBP1.out.cell 0
       have p11 := HBP1.out.cell 1
       have p12 := HBP1.out.cell 2
       have p13 := HBP1.out.cell 3
       have p14 := HBP1.out.cell 4
       simp only [List.getElem?_cons_zero, List.getElem?_cons_succ] at p10 p11 p12 p13 p14
       clear hB1)
    | (go_at_call 58; (with_reducible refine (HP2.out w2).mono ?_); rintro e w3 ⟨rfl, hb3, hB3⟩
       have HBP3 := Lib.hid (HBP2.out.below hB3 HBP2.out.lt)
       have HE3 := Lib.hid (HE2.out.trans (hB3.mono HE2.out.size))
       have HI83 := Lib.hid (HI82.out.below hB3 HI82.out.lt)
       have HI23 := Lib.hid hb3
       have q12 := HBP3.out.cell 0
       have q13 := HBP3.out.cell 2
       have q14 := HBP3.out.cell 3
       have q15 := HBP3.out.cell 4
       simp only [List.getElem?_cons_zero, List.getElem?_cons_succ] at q12 q13 q14 q15
       have hs0 : w.heap.size < w1.heap.size := HBP1.out.lt
       have hs1 : w1.heap.size < w2.heap.size := HI82.out.lt
       have hs2 : w2.heap.size < w3.heap.size := HI23.out.lt
       clear hB3 hb3)
    | (go_at_call 58; (with_reducible refine (HP8.out w1).mono ?_); rintro e w2 ⟨rfl, hb2, hB2⟩
       have HBP2 := Lib.hid (HBP1.out.below hB2 HBP1.out.lt)
       have HE2 := Lib.hid (HE1.out.trans (hB2.mono HE1.out.size))
       have HI82 := Lib.hid hb2
       have q24 := HBP2.out.cell 4
       simp only [List.getElem?_cons_zero, List.getElem?_cons_succ] at q24
       clear hB2 hb2)
    | (refine wpList_make1 rfl (.const (.int .i64 480)) (.const (.int .i64 480)) 22 rfl 5 (.int .u8 0) 1 Try.underlying22 iU8 rfl .i64 .i64 480 480 (by rfl) (by rfl) 480 480 rfl rfl (by omega) (by omega) (by omega) ?_
       intro w4 hb4 hg4 hs4
       have HZ4 : Hid (Blk w4 w3.heap.size 5 (u8s (rep 480 0))) := hb4
       have z16 : w4.cell? ⟨w3.heap.size, 16, none⟩ = some (.int .u8 0) := (hb4.cell 16).trans (rep_get (by omega))
       have z17 : w4.cell? ⟨w3.heap.size, 17, none⟩ = some (.int .u8 0) := (hb4.cell 17).trans (rep_get (by omega))
       have z18 : w4.cell? ⟨w3.heap.size, 18, none⟩ = some (.int .u8 0) := (hb4.cell 18).trans (rep_get (by omega))
       have f16 := hb4.frozen 16
       have f17 := hb4.frozen 17
       have f18 := hb4.frozen 18
       have r12 := ((grown_below hg4).cell (p := ⟨w.heap.size, 0, none⟩) (by show w.heap.size < w3.heap.size; omega)).trans q12
       have r13 := ((grown_below hg4).cell (p := ⟨w.heap.size, 2, none⟩) (by show w.heap.size < w3.heap.size; omega)).trans q13
       have r14 := ((grown_below hg4).cell (p := ⟨w.heap.size, 3, none⟩) (by show w.heap.size < w3.heap.size; omega)).trans q14
       have HBP4 := Lib.hid (((((HBP3.out.below (grown_below hg4) HBP3.out.lt).far (p := ⟨w3.heap.size, 16, none⟩) (by show _ ≠ w3.heap.size; omega) (.int .u8 3)).far (p := ⟨w3.heap.size, 17, none⟩) (by show _ ≠ w3.heap.size; omega) (.int .u8 0)).far (p := ⟨w3.heap.size, 18, none⟩) (by show _ ≠ w3.heap.size; omega) (.int .u8 1)))
       have HI84 := Lib.hid (((((HI83.out.below (grown_below hg4) HI83.out.lt).far (p := ⟨w3.heap.size, 16, none⟩) (by show _ ≠ w3.heap.size; omega) (.int .u8 3)).far (p := ⟨w3.heap.size, 17, none⟩) (by show _ ≠ w3.heap.size; omega) (.int .u8 0)).far (p := ⟨w3.heap.size, 18, none⟩) (by show _ ≠ w3.heap.size; omega) (.int .u8 1)))
       have HI24 := Lib.hid (((((HI23.out.below (grown_below hg4) HI23.out.lt).far (p := ⟨w3.heap.size, 16, none⟩) (by show _ ≠ w3.heap.size; omega) (.int .u8 3)).far (p := ⟨w3.heap.size, 17, none⟩) (by show _ ≠ w3.heap.size; omega) (.int .u8 0)).far (p := ⟨w3.heap.size, 18, none⟩) (by show _ ≠ w3.heap.size; omega) (.int .u8 1)))
       have HE4 := Lib.hid ((((HE3.out.trans ((grown_below hg4).mono HE3.out.size)).setCell (p := ⟨w3.heap.size, 16, none⟩) (by show _ ≤ w3.heap.size; omega) (.int .u8 3)).setCell (p := ⟨w3.heap.size, 17, none⟩) (by show _ ≤ w3.heap.size; omega) (.int .u8 0)).setCell (p := ⟨w3.heap.size, 18, none⟩) (by show _ ≤ w3.heap.size; omega) (.int .u8 1))
       have HZ5 : Hid (Blk (((w4.setCell ⟨w3.heap.size, 16, none⟩ (.int .u8 3)).setCell ⟨w3.heap.size, 17, none⟩ (.int .u8 0)).setCell ⟨w3.heap.size, 18, none⟩ (.int .u8 1)) w3.heap.size 5 (u8s ((((rep 480 (0 : UInt8)).set 16 3).set 17 0).set 18 1))) := (by have h5 := ((HZ4.out.set_ 16 (.int .u8 3)).set_ 17 (.int .u8 0)).set_ 18 (.int .u8 1); rw [show (Value.int .u8 3) = .int .u8 ((3 : UInt8).toNat) from rfl, show (Value.int .u8 0) = .int .u8 ((0 : UInt8).toNat) from rfl, show (Value.int .u8 1) = .int .u8 ((1 : UInt8).toNat) from rfl, u8s_set, u8s_set, u8s_set] at h5; exact h5)
       have HR84 := Lib.hid HI84.out.rdAll
       rw [HL8.out] at HR84
       clear hb4 hg4 hs4)
    | (refine wpList_copy rfl (.tmp 50) (.tmp 51) 22 rfl 5 Try.underlying22 u8_one1 w3.heap.size 20 460 460 (by rfl) (some ⟨w1.heap.size, 0, none⟩) 8 8 (by rfl) 5 _ HZ5.out (u8s b8) (by exact HR84.out) (u8s_one _) (by rw [u8s_length]; exact Nat.le_of_eq rfl) ?_
       intro w5 hb5 ho5
       have HZ6 := Lib.hid hb5
       rw [HT8.out, u8s_splice] at HZ6
       have HI25 := Lib.hid (ho5.blk HI24.out (by omega))
       have HBP5 := Lib.hid (ho5.blk HBP4.out (by omega))
       have HE5 := Lib.hid (ho5.below HE4.out (by omega) HE4.out.size)
       have HR25 := Lib.hid HI25.out.rdAll
       rw [HL2.out] at HR25
       clear hb5 ho5)
    | (refine wpList_copy rfl (.tmp 54) (.tmp 55) 22 rfl 5 Try.underlying22 u8_one1 w3.heap.size 28 452 452 (by rfl) (some ⟨w2.heap.size, 0, none⟩) 2 2 (by rfl) 5 _ HZ6.out (u8s b2) (by exact HR25.out) (u8s_one _) (by rw [u8s_length, HLZ6.out]; exact Nat.le_refl _) ?_
       intro w6 hb6 ho6
       have HZ7 := Lib.hid hb6
       rw [HT2.out, u8s_splice] at HZ7
       have HBP6 := Lib.hid (ho6.blk HBP5.out (by omega))
       have HE6 := Lib.hid (ho6.below HE5.out (by omega) HE5.out.size)
       clear hb6 ho6))
  have p64 := HBP6.out.cell 4
  simp only [List.getElem?_cons_zero, List.getElem?_cons_succ] at p64
  have HRD6 : Hid (Rd w6.drew A n (u8s d)) := HR.out.below HE6.out.drew
  clear p10 p11 p12 p13 p14 q12 q13 q14 q15 q24 r12 r13 r14 z16 z17 z18 f16 f17 f18
  go_region_held3 (fun W' => W'.cell? ⟨w.heap.size, 4, none⟩ = some (.slice A n c)) (first | assumption | exact p64 | exact p7) ((refine step_copy rfl (.tmp 58) (.tmp 60) 22 rfl 5 Try.underlying22 u8_one1 w3.heap.size 30 450 450 (by rfl) A n c (by rfl) 5 _ (by exact HZ7.out.drew) (u8s d) (by exact HRD6.out) (u8s_one _) (by rw [u8s_length, HLZ7.out]; exact Nat.le_refl _) ?_; intro w7 hb7 ho7; have p7 := ((ho7.blk HBP6.out.drew (by omega)).cell 4); simp only [List.getElem?_cons_zero, List.getElem?_cons_succ] at p7))
  rw [HTD.out, u8s_splice, HFP.out, ← HFE.out] at hb7
  have HE7 := Lib.hid (ho7.below HE6.out.drew (by omega) HE6.out.size)
  have HB7 := Lib.hid hb7
  clear hb7 ho7 p64
  go_wp2_with fail
  go_ret2
  exact ⟨w3.heap.size, rfl, by omega, HB7.out, HE7.out⟩
end Go.Proofs.Ytgkhglnfbhdkeaa
