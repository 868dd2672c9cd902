/- shallotref11.Check and Frame of a part that goes back. -/
import Derived.Test.YtgkhglnfbhdkeaaFrm1
import Derived.Test.YtgkhglnfbhdkeaaR46
namespace Go.Proofs.Ytgkhglnfbhdkeaa
open Go.RowKit

set_option maxRecDepth 100000 in
set_option maxHeartbeats 4000000 in
theorem rcheck_back (A : Option Addr) (n c : Nat) (w : World) (hn : n ≤ 450) :
    Calls Try.prog 60 #[.agg #[.int .u8 3, .int .u64 0, .int .i64 0, .int .i64 1, .slice A n c]] w fun e w' => e = .returned (.int .i64 0) ∧ Below w.heap.size w w' := by
  have hn1 : ¬ (450 : Int) < (n : Int) := by omega
  go_enter Try.func60, Try.ntmps60
  go_wp2_with fail
  go_ret
  exact ⟨rfl, (Below.refl _ _).alloc (Nat.le_refl _) _⟩

def fr0 : List UInt8 := (((rep 480 (0 : UInt8)).set 16 3).set 17 0).set 18 1
theorem splice_two' (l : List UInt8) (k : Nat) (x y : UInt8) (h : k + 1 < l.length) : splice l k [x, y] = (l.set k x).set (k + 1) y := by
  rw [splice_cons _ _ _ _ (by omega), splice_cons _ _ _ _ (by rw [List.length_set]; omega)]
  unfold splice
  simp
set_option maxRecDepth 100000 in
theorem fr_plain (d : List UInt8) (hd : d.length ≤ 450) : splice ((fr0.set 28 (UInt8.ofNat (d.length / 256))).set 29 (UInt8.ofNat (d.length % 256))) 30 d = Wd.frame 3 0 1 0 d := by
  have h := frame_plain 3 0 1 (Sh.beBytes 0 8) (Sh.beBytes d.length 2) d (beBytes_len _ _) (beBytes_len _ _) hd
  have e8 : splice ((((rep 480 (0 : UInt8)).set 16 3).set 17 0).set 18 1) 20 (Sh.beBytes 0 8) = fr0 := rfl
  have e2 : Sh.beBytes d.length 2 = [UInt8.ofNat (d.length / 256), UInt8.ofNat (d.length % 256)] := by
    show [UInt8.ofNat (d.length / 256 ^ 1), UInt8.ofNat (d.length / 256 ^ 0)] = _
    have e : UInt8.ofNat (d.length / 256 ^ 0) = UInt8.ofNat (d.length % 256) := by
      apply UInt8.toNat_inj.1
      rw [UInt8.toNat_ofNat', UInt8.toNat_ofNat', Nat.pow_zero, Nat.div_one]
      omega
    rw [e, Nat.pow_one]
  rw [e8] at h
  unfold Wd.frame
  rw [← h, e2, splice_two' _ _ _ _ (by show 29 < fr0.length; rw [show fr0.length = 480 from rfl]; omega)]
theorem fr0_get (i : Nat) (hi : i < 8) : (u8s fr0)[20 + i]? = some (.int .u8 0) := by
  obtain rfl | rfl | rfl | rfl | rfl | rfl | rfl | rfl : i = 0 ∨ i = 1 ∨ i = 2 ∨ i = 3 ∨ i = 4 ∨ i = 5 ∨ i = 6 ∨ i = 7 := by omega
  all_goals rfl
theorem fr0_set (i : Nat) (hi : i < 8) : (u8s fr0).set (20 + i) (.int .u8 0) = u8s fr0 := by
  obtain rfl | rfl | rfl | rfl | rfl | rfl | rfl | rfl : i = 0 ∨ i = 1 ∨ i = 2 ∨ i = 3 ∨ i = 4 ∨ i = 5 ∨ i = 6 ∨ i = 7 := by omega
  all_goals rfl

set_option maxRecDepth 100000 in
set_option maxHeartbeats 4000000 in
theorem rframe_back (A : Option Addr) (n c : Nat) (d : List UInt8) (w : World) (h : Rd w A n (u8s d)) (hn : n ≤ 450) :
    Calls Try.prog 37 #[.agg #[.int .u8 3, .int .u64 0, .int .i64 0, .int .i64 1, .slice A n c]] w fun e w' => ∃ g, e = .returned (.tuple #[.slice (some ⟨g, 0, none⟩) 480 480, .int .i64 0]) ∧ w.heap.size ≤ g ∧ Blk w' g 5 (u8s (Wd.frame 3 0 1 0 d)) ∧ Below w.heap.size w w' := by
  have HCK := Lib.hid (fun W => rcheck_back A n c W hn)
  have HR := Lib.hid h
  have hn0 : (0 : Int) ≤ (n : Int) := by omega
  have hn2 : (n : Int) ≤ 450 := by omega
  clear h
  go_enter Try.func37, Try.ntmps37
  go_wp2_with (first
    | (go_at_call 60; (with_reducible refine (HCK.out _).mono ?_); rintro e w1 ⟨rfl, hB1⟩
       have HBP1 := Lib.hid ((Blk.new' (w := w) (cs := [.int .u8 3, .int .u64 0, .int .i64 0, .int .i64 1, .slice A n c]) (t := 90) rfl rfl).below hB1 (by simp))
       have HE1 := Lib.hid (((Below.refl _ w).alloc (Nat.le_refl _) _).trans (hB1.mono (by simp)))
       clear hB1)
    | (refine wpList_make1 rfl (.const (.int .i64 480)) (.const (.int .i64 480)) 22 rfl 5 (.int .u8 0) 1 Try.underlying22 iU8 rfl .i64 .i64 480 480 (by rfl) (by rfl) 480 480 rfl rfl (by omega) (by omega) (by omega) ?_
       intro w2 hb2 hg2 hs2
       have HZ2 : Hid (Blk w2 w1.heap.size 5 (u8s (rep 480 0))) := hb2
       have hl1 := HBP1.out.lt
       have HBP2 := Lib.hid (HBP1.out.below (grown_below hg2) hl1)
       have HE2 := Lib.hid (HE1.out.trans ((grown_below hg2).mono HE1.out.size))
       have r0 := HBP2.out.cell 0
       have r1 := HBP2.out.cell 1
       have r2 := HBP2.out.cell 2
       have r3 := HBP2.out.cell 3
       have r4 := HBP2.out.cell 4
       simp only [List.getElem?_cons_zero, List.getElem?_cons_succ] at r0 r1 r2 r3 r4
       have z16 : w2.cell? ⟨w1.heap.size, 16, none⟩ = some (.int .u8 0) := (hb2.cell 16).trans (rep_get (by omega))
       have z17 : w2.cell? ⟨w1.heap.size, 17, none⟩ = some (.int .u8 0) := (hb2.cell 17).trans (rep_get (by omega))
       have z18 : w2.cell? ⟨w1.heap.size, 18, none⟩ = some (.int .u8 0) := (hb2.cell 18).trans (rep_get (by omega))
       have f16 := hb2.frozen 16
       have f17 := hb2.frozen 17
       have f18 := hb2.frozen 18
       have HBP4 := Lib.hid (((HBP2.out.far (p := ⟨w1.heap.size, 16, none⟩) (by show _ ≠ w1.heap.size; omega) (.int .u8 3)).far (p := ⟨w1.heap.size, 17, none⟩) (by show _ ≠ w1.heap.size; omega) (.int .u8 0)).far (p := ⟨w1.heap.size, 18, none⟩) (by show _ ≠ w1.heap.size; omega) (.int .u8 1))
       have HE4 := Lib.hid (((HE2.out.setCell (p := ⟨w1.heap.size, 16, none⟩) (by show _ ≤ w1.heap.size; omega) (.int .u8 3)).setCell (p := ⟨w1.heap.size, 17, none⟩) (by show _ ≤ w1.heap.size; omega) (.int .u8 0)).setCell (p := ⟨w1.heap.size, 18, none⟩) (by show _ ≤ w1.heap.size; omega) (.int .u8 1))
       have HZ5 : Hid (Blk (((w2.setCell ⟨w1.heap.size, 16, none⟩ (.int .u8 3)).setCell ⟨w1.heap.size, 17, none⟩ (.int .u8 0)).setCell ⟨w1.heap.size, 18, none⟩ (.int .u8 1)) w1.heap.size 5 (u8s fr0)) := ((HZ2.out.set_ 16 (.int .u8 3)).set_ 17 (.int .u8 0)).set_ 18 (.int .u8 1)
       clear hb2 hg2 hs2))
  have hl1' := hl1
  clear r0 r1 r2 r3 r4 z16 z17 z18 f16 f17 f18
  generalize w1.heap.size = g at *
  go_loopg [6] 8 (fun kk q wr => ∃ i : Nat, i ≤ 8 ∧ kk = 8 - i ∧ q = .int .i64 i ∧ Blk wr g 5 (u8s fr0) ∧ Blk wr w.heap.size 90 [.int .u8 3, .int .u64 0, .int .i64 0, .int .i64 1, .slice A n c] ∧ Below w.heap.size w wr)
  case atStart => exact ⟨0, by omega, rfl, rfl, HZ5.out, HBP4.out, HE4.out⟩
  case round =>
    clear HZ5 HBP4 HE4 HZ2 HBP2 HE2 HBP1 HE1
    obtain ⟨i, hi, hgk, rfl, hz, hp, hB⟩ := hrel
    have HGK := Lib.hid hgk
    clear hgk
    by_cases hlt : i < 8
    · have hlt2 : (i : Int) < 8 := by omega
      have r1 := hp.cell 1
      simp only [List.getElem?_cons_zero, List.getElem?_cons_succ] at r1
      have hz20 := (hz.cell (20 + i)).trans (fr0_get i hlt)
      have hf20 := hz.frozen (20 + i)
      have hz2 := hz.set_ (20 + i) (.int .u8 0)
      rw [fr0_set i hlt] at hz2
      have HZ := Lib.hid hz2
      have HP := Lib.hid (hp.far (p := ⟨g, 20 + i, none⟩) (by show _ ≠ g; omega) (.int .u8 0))
      have HBE := Lib.hid (hB.setCell (p := ⟨g, 20 + i, none⟩) (by show _ ≤ g; omega) (.int .u8 0))
      clear hz hp hB hz2
      go_wp2_with fail
      go_roundg (8 - (i + 1))
      case measure => have := HGK.out; omega
      case rel => exact ⟨i + 1, by omega, rfl, by go_num, HZ.out, HP.out, HBE.out⟩
    · obtain rfl : i = 8 := by omega
      have hlt2 : ¬ ((8 : Nat) : Int) < 8 := by omega
      obtain ⟨nh, hnh⟩ : ∃ nh, nh = n / 256 := ⟨_, rfl⟩
      obtain ⟨nl, hnl⟩ : ∃ nl, nl = n % 256 := ⟨_, rfl⟩
      have hhi : (n : Int) / 256 = (nh : Int) := by omega
      have hli : (n : Int) % 256 = (nl : Int) := by omega
      have hh0 : (0 : Int) ≤ (nh : Int) := by omega
      have hh1 : (nh : Int) < 256 := by omega
      have hl0 : (0 : Int) ≤ (nl : Int) := by omega
      have hl1 : (nl : Int) < 256 := by omega
      have HFR : Hid (splice ((fr0.set 28 (UInt8.ofNat nh)).set 29 (UInt8.ofNat nl)) 30 d = Wd.frame 3 0 1 0 d) := by
        show _ = _
        rw [hnh, hnl, ← HR.out.len]
        exact fr_plain d (by rw [HR.out.len]; exact hn)
      have hvh : Value.int .u8 ((UInt8.ofNat nh).toNat : Int) = .int .u8 (nh : Int) := by rw [UInt8.toNat_ofNat']; congr 1; omega
      have hvl : Value.int .u8 ((UInt8.ofNat nl).toNat : Int) = .int .u8 (nl : Int) := by rw [UInt8.toNat_ofNat']; congr 1; omega
      have r4 := hp.cell 4
      simp only [List.getElem?_cons_zero, List.getElem?_cons_succ] at r4
      have z28 : wr.cell? ⟨g, 28, none⟩ = some (.int .u8 0) := (hz.cell 28).trans rfl
      have z29 : wr.cell? ⟨g, 29, none⟩ = some (.int .u8 0) := (hz.cell 29).trans rfl
      have f28 := hz.frozen 28
      have f29 := hz.frozen 29
      have hz2 := (hz.set_ 28 (.int .u8 ((UInt8.ofNat nh).toNat : Int))).set_ 29 (.int .u8 ((UInt8.ofNat nl).toNat : Int))
      rw [u8s_set, u8s_set, hvh, hvl] at hz2
      have HZ := Lib.hid hz2
      have hp2 := (hp.far (p := ⟨g, 28, none⟩) (by show _ ≠ g; omega) (.int .u8 (nh : Int))).far (p := ⟨g, 29, none⟩) (by show _ ≠ g; omega) (.int .u8 (nl : Int))
      have HP := Lib.hid hp2
      have HBE := Lib.hid ((hB.setCell (p := ⟨g, 28, none⟩) (by show _ ≤ g; omega) (.int .u8 (nh : Int))).setCell (p := ⟨g, 29, none⟩) (by show _ ≤ g; omega) (.int .u8 (nl : Int)))
      have HLZ : Hid (((fr0.set 28 (UInt8.ofNat nh)).set 29 (UInt8.ofNat nl)).length = 480) := by show _ = _; rw [List.length_set, List.length_set]; rfl
      have HTD : Hid ((u8s d).take 450 = u8s d) := List.take_of_length_le (by rw [u8s_length, HR.out.len]; omega)
      clear hnh hnl hvh hvl hz hp hB hz2 hp2 HGK
      go_wp2_with fail
      obtain ⟨w6, hw6⟩ : ∃ w6, w6 = (wr.setCell ⟨g, 28, none⟩ (.int .u8 (nh : Int))).setCell ⟨g, 29, none⟩ (.int .u8 (nl : Int)) := ⟨_, rfl⟩
      rw [← hw6] at HZ HP HBE ⊢
      clear hw6 r4 z28 z29 f28 f29
      have p64 := HP.out.cell 4
      simp only [List.getElem?_cons_zero, List.getElem?_cons_succ] at p64
      have HRD6 : Hid (Rd w6.drew A n (u8s d)) := HR.out.below HBE.out.drew
      clear hhi hli
      go_region_held3 (fun W' => W'.cell? ⟨w.heap.size, 4, none⟩ = some (.slice A n c)) (first | assumption | exact p64 | exact p7) ((refine step_copy rfl (.tmp 57) (.tmp 59) 22 rfl 5 Try.underlying22 u8_one1 g 30 450 450 (by rfl) A n c (by rfl) 5 _ (by exact HZ.out.drew) (u8s d) (by exact HRD6.out) (u8s_one _) (by rw [u8s_length, HLZ.out]; exact Nat.le_refl _) ?_; intro w7 hb7 ho7; have p7 := ((ho7.blk HP.out.drew (by omega)).cell 4).trans (show _ = some (.slice A n c) from rfl)))
      rw [HTD.out, u8s_splice, HFR.out] at hb7
      have HE7 := Lib.hid (ho7.below HBE.out.drew (by omega) HBE.out.size)
      have HB7 := Lib.hid hb7
      clear hb7 ho7 p64
      go_wp2_with fail
      go_ret2
      exact ⟨g, rfl, by omega, HB7.out, HE7.out⟩
end Go.Proofs.Ytgkhglnfbhdkeaa
