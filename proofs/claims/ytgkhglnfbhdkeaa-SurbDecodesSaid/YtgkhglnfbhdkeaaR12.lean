/- shallotref11.Frame of any part. -/
import Derived.Test.YtgkhglnfbhdkeaaR11
import Derived.Test.YtgkhglnfbhdkeaaFrm2
namespace Go.Proofs.Ytgkhglnfbhdkeaa
open Go.RowKit

/-- the frame behind j bytes of the number -/
def frS (k i c : UInt8) (id j : Nat) : List UInt8 := (Ch.zeros 16 ++ [k, i, c, 0]) ++ (((Sh.beBytes id 8).take j ++ rep (8 - j) 0) ++ rep 452 0)
theorem frS_0 (k i c : UInt8) (id : Nat) : (((rep 480 (0 : UInt8)).set 16 k).set 17 i).set 18 c = frS k i c id 0 := rfl
theorem frS_pre (k i c : UInt8) : (Ch.zeros 16 ++ [k, i, c, 0]).length = 20 := rfl
theorem be8_at (id j : Nat) (h : j < 8) : (Sh.beBytes id 8)[j]? = some (UInt8.ofNat (id / 256 ^ (7 - j))) := by
  obtain rfl | rfl | rfl | rfl | rfl | rfl | rfl | rfl : j = 0 ∨ j = 1 ∨ j = 2 ∨ j = 3 ∨ j = 4 ∨ j = 5 ∨ j = 6 ∨ j = 7 := by omega
  all_goals rfl
theorem frS_get (k i c : UInt8) (id j : Nat) (h : j < 8) : (u8s (frS k i c id j))[20 + j]? = some (.int .u8 0) := by
  rw [u8s_getElem?, frS, List.getElem?_append_right (by rw [frS_pre]; omega), frS_pre, Nat.add_sub_cancel_left, List.getElem?_append_left (by rw [List.length_append, List.length_take, beBytes_len, rep_length]; omega), List.getElem?_append_right (by rw [List.length_take, beBytes_len]; omega), List.length_take, beBytes_len, Nat.min_eq_left (by omega), Nat.sub_self, rep_get (by omega)]
  rfl
theorem frS_set (k i c : UInt8) (id j : Nat) (h : j < 8) : (frS k i c id j).set (20 + j) (UInt8.ofNat (id / 256 ^ (7 - j))) = frS k i c id (j + 1) := by
  have hl : ((Sh.beBytes id 8).take j).length = j := by rw [List.length_take, beBytes_len]; omega
  unfold frS
  rw [List.set_append_right _ _ (by rw [frS_pre]; omega), frS_pre, Nat.add_sub_cancel_left, List.set_append_left _ _ (by rw [List.length_append, hl, rep_length]; omega), List.set_append_right _ _ (by rw [hl]; exact Nat.le_refl _), hl, Nat.sub_self,
    show 8 - j = (8 - (j + 1)) + 1 by omega]
  have e : rep (8 - (j + 1) + 1) (0 : UInt8) = 0 :: rep (8 - (j + 1)) 0 := by unfold rep; rw [List.replicate_succ]
  rw [e, List.set_cons_zero, List.take_add_one, be8_at id j h]
  simp
theorem frS_8 (k i c : UInt8) (id : Nat) : frS k i c id 8 = (Ch.zeros 16 ++ [k, i, c, 0]) ++ (Sh.beBytes id 8 ++ rep 452 0) := by
  unfold frS
  rw [List.take_of_length_le (by rw [beBytes_len]; exact Nat.le_refl _), show rep (8 - 8) (0 : UInt8) = [] from rfl, List.append_nil]
theorem be_byte (id j : Nat) (h : j < 8) : Value.int .u8 ((id : Int) / 2 ^ (56 - 8 * j) % 256) = .int .u8 ((UInt8.ofNat (id / 256 ^ (7 - j))).toNat : Int) := by
  have e : 256 ^ (7 - j) = 2 ^ (56 - 8 * j) := by
    rw [show (256 : Nat) = 2 ^ 8 from rfl, ← Nat.pow_mul]
    congr 1
    omega
  rw [UInt8.toNat_ofNat', e, Int.natCast_emod, Int.natCast_ediv, Int.natCast_pow]
  rfl
theorem frS_plain (k i c : UInt8) (id : Nat) (d : List UInt8) (hd : d.length ≤ 450) : splice (((frS k i c id 8).set 28 (UInt8.ofNat (d.length / 256))).set 29 (UInt8.ofNat (d.length % 256))) 30 d = Wd.frame k i c id d := by
  have h := frame_plain k i c (Sh.beBytes id 8) (Sh.beBytes d.length 2) d (beBytes_len _ _) (beBytes_len _ _) hd
  have e8 : splice ((((rep 480 (0 : UInt8)).set 16 k).set 17 i).set 18 c) 20 (Sh.beBytes id 8) = frS k i c id 8 := by
    rw [frS_8, frame_set]
    have e1 := splice_at (Ch.zeros 16 ++ [k, i, c, 0]) (rep 8 0) (Sh.beBytes id 8) (rep 452 0) (by rw [beBytes_len]; rfl)
    rw [frS_pre] at e1
    rw [e1, List.append_assoc]
  have e2 : Sh.beBytes d.length 2 = [UInt8.ofNat (d.length / 256), UInt8.ofNat (d.length % 256)] := by
    show [UInt8.ofNat (d.length / 256 ^ 1), UInt8.ofNat (d.length / 256 ^ 0)] = _
    have e : UInt8.ofNat (d.length / 256 ^ 0) = UInt8.ofNat (d.length % 256) := by
      apply UInt8.toNat_inj.1
      rw [UInt8.toNat_ofNat', UInt8.toNat_ofNat', Nat.pow_zero, Nat.div_one]
      omega
    rw [e, Nat.pow_one]
  have hl : (frS k i c id 8).length = 480 := by rw [frS_8]; simp [Ch.zeros, beBytes_len, rep_length]
  rw [e8] at h
  unfold Wd.frame
  rw [← h, e2, splice_two' _ _ _ _ (by rw [hl]; omega)]
theorem frS_len (k i c : UInt8) (id : Nat) : (frS k i c id 8).length = 480 := by rw [frS_8]; simp [Ch.zeros, beBytes_len, rep_length]
theorem frS_z (k i c : UInt8) (id j : Nat) (hj : j = 28 ∨ j = 29) : (u8s (frS k i c id 8))[j]? = some (.int .u8 0) := by
  rw [u8s_getElem?, frS_8, ← List.append_assoc, List.getElem?_append_right (by rw [List.length_append, frS_pre, beBytes_len]; omega), rep_get (by rw [List.length_append, frS_pre, beBytes_len]; omega)]
  rfl

set_option maxRecDepth 100000 in
set_option maxHeartbeats 4000000 in
theorem rframe_any (A : Option Addr) (n cp k id i c : Nat) (d : List UInt8) (w : World) (h : Rd w A n (u8s d)) (h1 : 1 ≤ k) (h3 : k ≤ 3) (hn : n ≤ 450) (hch : chk k i c id n = 0) :
    Calls Try.prog 37 #[.agg #[.int .u8 k, .int .u64 id, .int .i64 i, .int .i64 c, .slice A n cp]] w fun e w' => ∃ g, e = .returned (.tuple #[.slice (some ⟨g, 0, none⟩) 480 480, .int .i64 0]) ∧ w.heap.size ≤ g ∧ Blk w' g 5 (u8s (Wd.frame (UInt8.ofNat k) (UInt8.ofNat i) (UInt8.ofNat c) id d)) ∧ Below w.heap.size w w' := by
  have HCK := Lib.hid (fun W => rfcheck_any A n cp k id i c W h1 h3 hn)
  rw [hch] at HCK
  have hic : i < 256 ∧ c < 256 := by
    unfold chk at hch
    split at hch
    · omega
    · split at hch
      · omega
      · omega
  have HR := Lib.hid h
  have hn0 : (0 : Int) ≤ (n : Int) := by omega
  have hn2 : (n : Int) ≤ 450 := by omega
  have hi0 : (0 : Int) ≤ (i : Int) := by omega
  have hi2 : (i : Int) < 256 := by omega
  have hc0 : (0 : Int) ≤ (c : Int) := by omega
  have hc2 : (c : Int) < 256 := by omega
  have hvk : Value.int .u8 ((UInt8.ofNat k).toNat : Int) = .int .u8 (k : Int) := by rw [UInt8.toNat_ofNat']; congr 1; omega
  have hvi : Value.int .u8 ((UInt8.ofNat i).toNat : Int) = .int .u8 (i : Int) := by rw [UInt8.toNat_ofNat']; congr 1; omega
  have hvc : Value.int .u8 ((UInt8.ofNat c).toNat : Int) = .int .u8 (c : Int) := by rw [UInt8.toNat_ofNat']; congr 1; omega
  have HVK := Lib.hid hvk
  have HVI := Lib.hid hvi
  have HVC := Lib.hid hvc
  clear h hch hvk hvi hvc hic
  go_enter Try.func37, Try.ntmps37
  go_wp2_with (first
    | (go_at_call 60; (with_reducible refine (HCK.out _).mono ?_); rintro e w1 ⟨rfl, hB1⟩
       have HBP1 := Lib.hid ((Blk.new' (w := w) (cs := [.int .u8 k, .int .u64 id, .int .i64 i, .int .i64 c, .slice A n cp]) (t := 90) rfl rfl).below hB1 (by simp))
       have HE1 := Lib.hid (((Below.refl _ w).alloc (Nat.le_refl _) _).trans (hB1.mono (by simp)))
       clear hB1)
    | (refine wpList_make1 rfl (.const (.int .i64 480)) (.const (.int .i64 480)) 22 rfl 5 (.int .u8 0) 1 Try.underlying22 iU8 rfl .i64 .i64 480 480 (by rfl) (by rfl) 480 480 rfl rfl (by omega) (by omega) (by omega) ?_
       intro w2 hb2 hg2 hs2
       have HZ2 : Hid (Blk w2 w1.heap.size 5 (u8s (rep 480 0))) := hb2
       have hl1 := HBP1.out.lt
       have HBP2 := Lib.hid (HBP1.out.below (grown_below hg2) hl1)
       have HE2 := Lib.hid (HE1.out.trans ((grown_below hg2).mono HE1.out.size))
       have r0 := HBP2.out.cell 0
       have r1 := HBP2.out.cell 1
       have r2 := HBP2.out.cell 2
       have r3 := HBP2.out.cell 3
       have r4 := HBP2.out.cell 4
       simp only [List.getElem?_cons_zero, List.getElem?_cons_succ] at r0 r1 r2 r3 r4
       have z16 : w2.cell? ⟨w1.heap.size, 16, none⟩ = some (.int .u8 0) := (hb2.cell 16).trans (rep_get (by omega))
       have z17 : w2.cell? ⟨w1.heap.size, 17, none⟩ = some (.int .u8 0) := (hb2.cell 17).trans (rep_get (by omega))
       have z18 : w2.cell? ⟨w1.heap.size, 18, none⟩ = some (.int .u8 0) := (hb2.cell 18).trans (rep_get (by omega))
       have f16 := hb2.frozen 16
       have f17 := hb2.frozen 17
       have f18 := hb2.frozen 18
       have HBP4 := Lib.hid (((HBP2.out.far (p := ⟨w1.heap.size, 16, none⟩) (by show _ ≠ w1.heap.size; omega) (.int .u8 k)).far (p := ⟨w1.heap.size, 17, none⟩) (by show _ ≠ w1.heap.size; omega) (.int .u8 i)).far (p := ⟨w1.heap.size, 18, none⟩) (by show _ ≠ w1.heap.size; omega) (.int .u8 c))
       have HE4 := Lib.hid (((HE2.out.setCell (p := ⟨w1.heap.size, 16, none⟩) (by show _ ≤ w1.heap.size; omega) (.int .u8 k)).setCell (p := ⟨w1.heap.size, 17, none⟩) (by show _ ≤ w1.heap.size; omega) (.int .u8 i)).setCell (p := ⟨w1.heap.size, 18, none⟩) (by show _ ≤ w1.heap.size; omega) (.int .u8 c))
       have hz5 := ((HZ2.out.set_ 16 (.int .u8 ((UInt8.ofNat k).toNat : Int))).set_ 17 (.int .u8 ((UInt8.ofNat i).toNat : Int))).set_ 18 (.int .u8 ((UInt8.ofNat c).toNat : Int))
       rw [u8s_set, u8s_set, u8s_set, frS_0 _ _ _ id, HVK.out, HVI.out, HVC.out] at hz5
       have HZ5 := Lib.hid hz5
       clear hb2 hg2 hs2 hz5))
  have hl1' := hl1
  clear r0 r1 r2 r3 r4 z16 z17 z18 f16 f17 f18
  generalize w1.heap.size = g at *
  go_loopg [6] 8 (fun kk q wr => ∃ j : Nat, j ≤ 8 ∧ kk = 8 - j ∧ q = .int .i64 j ∧ Blk wr g 5 (u8s (frS (UInt8.ofNat k) (UInt8.ofNat i) (UInt8.ofNat c) id j)) ∧ Blk wr w.heap.size 90 [.int .u8 k, .int .u64 id, .int .i64 i, .int .i64 c, .slice A n cp] ∧ Below w.heap.size w wr)
  case atStart => exact ⟨0, by omega, rfl, rfl, HZ5.out, HBP4.out, HE4.out⟩
  case round =>
    clear HZ5 HBP4 HE4 HZ2 HBP2 HE2 HBP1 HE1
    obtain ⟨j, hj, hgk, rfl, hz, hp, hB⟩ := hrel
    have HGK := Lib.hid hgk
    clear hgk
    by_cases hlt : j < 8
    · have hlt2 : (j : Int) < 8 := by omega
      have r1 := hp.cell 1
      simp only [List.getElem?_cons_zero, List.getElem?_cons_succ] at r1
      have hz20 := (hz.cell (20 + j)).trans (frS_get _ _ _ id j hlt)
      have hf20 := hz.frozen (20 + j)
      have HZS := Lib.hid (frS_set (UInt8.ofNat k) (UInt8.ofNat i) (UInt8.ofNat c) id j hlt)
      have HHZ := Lib.hid hz
      have HP := Lib.hid hp
      have HBE := Lib.hid hB
      clear hz hp hB
      go_wp2_with fail
      rw [be_byte id j hlt]
      have hz2 := HHZ.out.set_ (20 + j) (.int .u8 ((UInt8.ofNat (id / 256 ^ (7 - j))).toNat : Int))
      rw [u8s_set, HZS.out] at hz2
      have HZ := Lib.hid hz2
      have HP2 := Lib.hid (HP.out.far (p := ⟨g, 20 + j, none⟩) (by show _ ≠ g; omega) (.int .u8 ((UInt8.ofNat (id / 256 ^ (7 - j))).toNat : Int)))
      have HBE2 := Lib.hid (HBE.out.setCell (p := ⟨g, 20 + j, none⟩) (by show _ ≤ g; omega) (.int .u8 ((UInt8.ofNat (id / 256 ^ (7 - j))).toNat : Int)))
      go_roundg (8 - (j + 1))
      case measure => have := HGK.out; omega
      case rel => exact ⟨j + 1, by omega, rfl, by go_num, HZ.out, HP2.out, HBE2.out⟩
    · obtain rfl : j = 8 := by omega
      have hlt2 : ¬ ((8 : Nat) : Int) < 8 := by omega
      obtain ⟨nh, hnh⟩ : ∃ nh, nh = n / 256 := ⟨_, rfl⟩
      obtain ⟨nl, hnl⟩ : ∃ nl, nl = n % 256 := ⟨_, rfl⟩
      have hhi : (n : Int) / 256 = (nh : Int) := by omega
      have hli : (n : Int) % 256 = (nl : Int) := by omega
      have hh0 : (0 : Int) ≤ (nh : Int) := by omega
      have hh1 : (nh : Int) < 256 := by omega
      have hl0 : (0 : Int) ≤ (nl : Int) := by omega
      have hl1 : (nl : Int) < 256 := by omega
      obtain ⟨F, hF⟩ : ∃ F, F = frS (UInt8.ofNat k) (UInt8.ofNat i) (UInt8.ofNat c) id 8 := ⟨_, rfl⟩
      have HFR : Hid (splice ((F.set 28 (UInt8.ofNat nh)).set 29 (UInt8.ofNat nl)) 30 d = Wd.frame (UInt8.ofNat k) (UInt8.ofNat i) (UInt8.ofNat c) id d) := by
        show _ = _
        rw [hF, hnh, hnl, ← HR.out.len]
        exact frS_plain _ _ _ _ d (by rw [HR.out.len]; exact hn)
      have hvh : Value.int .u8 ((UInt8.ofNat nh).toNat : Int) = .int .u8 (nh : Int) := by rw [UInt8.toNat_ofNat']; congr 1; omega
      have hvl : Value.int .u8 ((UInt8.ofNat nl).toNat : Int) = .int .u8 (nl : Int) := by rw [UInt8.toNat_ofNat']; congr 1; omega
      have r4 := hp.cell 4
      simp only [List.getElem?_cons_zero, List.getElem?_cons_succ] at r4
      have z28 : wr.cell? ⟨g, 28, none⟩ = some (.int .u8 0) := (hz.cell 28).trans (frS_z _ _ _ _ 28 (.inl rfl))
      have z29 : wr.cell? ⟨g, 29, none⟩ = some (.int .u8 0) := (hz.cell 29).trans (frS_z _ _ _ _ 29 (.inr rfl))
      have f28 := hz.frozen 28
      have f29 := hz.frozen 29
      have HLZ : Hid (((F.set 28 (UInt8.ofNat nh)).set 29 (UInt8.ofNat nl)).length = 480) := by show _ = _; rw [List.length_set, List.length_set, hF, frS_len]
      rw [← hF] at hz
      have hz2 := (hz.set_ 28 (.int .u8 ((UInt8.ofNat nh).toNat : Int))).set_ 29 (.int .u8 ((UInt8.ofNat nl).toNat : Int))
      rw [u8s_set, u8s_set, hvh, hvl] at hz2
      have HZ := Lib.hid hz2
      have hp2 := (hp.far (p := ⟨g, 28, none⟩) (by show _ ≠ g; omega) (.int .u8 (nh : Int))).far (p := ⟨g, 29, none⟩) (by show _ ≠ g; omega) (.int .u8 (nl : Int))
      have HP := Lib.hid hp2
      have HBE := Lib.hid ((hB.setCell (p := ⟨g, 28, none⟩) (by show _ ≤ g; omega) (.int .u8 (nh : Int))).setCell (p := ⟨g, 29, none⟩) (by show _ ≤ g; omega) (.int .u8 (nl : Int)))
      have HTD : Hid ((u8s d).take 450 = u8s d) := List.take_of_length_le (by rw [u8s_length, HR.out.len]; omega)
      clear hnh hnl hvh hvl hz hp hB hz2 hp2 HGK hF
      go_wp2_with fail
      obtain ⟨w6, hw6⟩ : ∃ w6, w6 = (wr.setCell ⟨g, 28, none⟩ (.int .u8 (nh : Int))).setCell ⟨g, 29, none⟩ (.int .u8 (nl : Int)) := ⟨_, rfl⟩
      rw [← hw6] at HZ HP HBE ⊢
      clear hw6 r4 z28 z29 f28 f29
      have p64 := HP.out.cell 4
      simp only [List.getElem?_cons_zero, List.getElem?_cons_succ] at p64
      have HRD6 : Hid (Rd w6.drew A n (u8s d)) := HR.out.below HBE.out.drew
      clear hhi hli
      go_region_held3 (fun W' => W'.cell? ⟨w.heap.size, 4, none⟩ = some (.slice A n cp)) (first | assumption | exact p64 | exact p7) ((refine step_copy rfl (.tmp 57) (.tmp 59) 22 rfl 5 Try.underlying22 u8_one1 g 30 450 450 (by rfl) A n cp (by rfl) 5 _ (by exact HZ.out.drew) (u8s d) (by exact HRD6.out) (u8s_one _) (by rw [u8s_length, HLZ.out]; exact Nat.le_refl _) ?_; intro w7 hb7 ho7; have p7 := ((ho7.blk HP.out.drew (by omega)).cell 4).trans (show _ = some (.slice A n cp) from rfl)))
      rw [HTD.out, u8s_splice, HFR.out] at hb7
      have HE7 := Lib.hid (ho7.below HBE.out.drew (by omega) HBE.out.size)
      have HB7 := Lib.hid hb7
      clear hb7 ho7 p64
      go_wp2_with fail
      go_ret2
      exact ⟨g, rfl, by omega, HB7.out, HE7.out⟩

set_option maxRecDepth 100000 in
set_option maxHeartbeats 4000000 in
theorem rframe_err (A : Option Addr) (n cp k id i c : Nat) (w : World) (h1 : 1 ≤ k) (h3 : k ≤ 3) (hn : n ≤ 450) (hch : chk k i c id n = 3) :
    Calls Try.prog 37 #[.agg #[.int .u8 k, .int .u64 id, .int .i64 i, .int .i64 c, .slice A n cp]] w fun e w' => e = .returned (.tuple #[.slice none 0 0, .int .i64 3]) ∧ Below w.heap.size w w' := by
  have HCK := Lib.hid (fun W => rfcheck_any A n cp k id i c W h1 h3 hn)
  rw [hch] at HCK
  clear hch
  go_enter Try.func37, Try.ntmps37
  go_wp2_with (go_at_call 60; (with_reducible refine (HCK.out _).mono ?_); rintro e w1 ⟨rfl, hB1⟩)
  go_ret2
  exact ⟨rfl, ((Below.refl _ w).alloc (Nat.le_refl _) _).trans (hB1.mono (by simp))⟩
end Go.Proofs.Ytgkhglnfbhdkeaa
