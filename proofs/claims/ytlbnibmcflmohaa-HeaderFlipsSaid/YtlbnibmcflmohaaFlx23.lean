/- Part of the proof: Put, R23. -/
import Derived.Test.YtlbnibmcflmohaaFlx19
namespace Go.Proofs.Ytlbnibmcflmohaa
open Go.RowKit
theorem beBytes_len (n k : Nat) : (Sh.beBytes n k).length = k := by
  induction k with
  | zero => rfl
  | succ k ih => simp [Sh.beBytes, ih]
theorem shift_byte (n i : Nat) : (n : Int) / 2 ^ (8 * i) % 256 = ((UInt8.ofNat (n / 256 ^ i)).toNat : Int) := by
  have e1 : (n : Int) / 2 ^ (8 * i) = ((n / 256 ^ i : Nat) : Int) := by
    have : ((2 : Int) ^ (8 * i)) = ((256 ^ i : Nat) : Int) := by rw [Int.pow_mul]; simp
    rw [this]; rfl
  rw [e1, UInt8.toNat_ofNat']
  omega
def putI (n k i : Nat) : List UInt8 := List.replicate (k - i) 0 ++ Sh.beBytes n i
theorem putI_len (n k i : Nat) (h : i ≤ k) : (putI n k i).length = k := by simp [putI, beBytes_len]; omega
theorem putI_set (n k i p : Nat) (h : i < k) (hp : p = k - 1 - i) : (putI n k i).set p (UInt8.ofNat (n / 256 ^ i)) = putI n k (i + 1) := by
  subst hp
  unfold putI
  rw [show k - i = (k - (i + 1)) + 1 by omega, List.replicate_succ', List.append_assoc, List.set_append_right _ _ (by simp; omega)]
  simp [Sh.beBytes, show k - 1 - i - (k - (i + 1)) = 0 by omega]
set_option maxRecDepth 100000 in
set_option maxHeartbeats 1000000 in
theorem put_4 (n : Nat) (w : World) (_hn : n < 18446744073709551616) (hf : n < 4294967296) :
    Calls Try.prog 29 #[.int .i64 2, .int .i64 4, .int .u64 (n : Int)] w fun e w' => e = .returned (.tuple #[.slice (some ⟨w.heap.size, 0, none⟩) 4 4, .int .i64 0]) ∧ Blk w' w.heap.size 5 (u8s (Sh.beBytes n 4)) ∧ Below w.heap.size w w' := by
  have hz : ((n : Int) / 4294967296 != 0) = false := by rw [bne_eq_false_iff_eq]; omega
  go_enter Try.func29, Try.ntmps29
  go_wp2_with (first
    | (go_at_call 40; go_in)
    | (refine wpList_make1 rfl (.tmp 25) (.tmp 25) 43 rfl 5 (.int .u8 0) 1 Try.underlying43 iU8 rfl .i64 .i64 4 4 (by rfl) (by rfl) 4 4 rfl rfl (by omega) (by omega) (by omega) ?_
       intro w1 hb1 hg1 hs1
       have HB1 : Hid (Blk w1 w.heap.size 5 (u8s (putI n 4 0))) := hb1
       have HE1 : Hid (Below w.heap.size w w1) := grown_below hg1
       clear hb1 hg1 hs1))
  go_loopg [29] 4 (fun kk q wr => ∃ i : Nat, i ≤ 4 ∧ kk = 4 - i ∧ q = .int .i64 i ∧ Blk wr w.heap.size 5 (u8s (putI n 4 i)) ∧ Below w.heap.size w wr)
  case atStart => exact ⟨0, by omega, rfl, rfl, HB1.out, HE1.out⟩
  case round =>
    clear HB1 HE1
    obtain ⟨i, hi, hgk, rfl, hb, hB⟩ := hrel
    have HGK := Lib.hid hgk
    clear hgk
    by_cases hlt : i < 4
    · have hlt2 : (i : Int) < 4 := by omega
      obtain ⟨p, hp⟩ : ∃ p, p = 4 - 1 - i := ⟨_, rfl⟩
      have hpi : (3 : Int) - (i : Int) = (p : Int) := by omega
      have hp0 : (0 : Int) ≤ (p : Int) := by omega
      have hp1 : (p : Int) < 4 := by omega
      have HS := Lib.hid (putI_set n 4 i p hlt hp)
      have hpl := putI_len n 4 i hi
      obtain ⟨x, hx⟩ : ∃ x, (putI n 4 i)[p]? = some x := ⟨_, List.getElem?_eq_getElem (by omega)⟩
      have cx : wr.cell? ⟨w.heap.size, p, none⟩ = some (.int .u8 x.toNat) := by rw [hb.cell, u8s_getElem?, hx]; rfl
      have fx := hb.frozen p
      have HSB := Lib.hid (shift_byte n i)
      have hb2 := Lib.hid (hb.set_ p (.int .u8 (UInt8.ofNat (n / 256 ^ i)).toNat))
      rw [u8s_set, HS.out] at hb2
      have hB2 := Lib.hid (hB.setCell (p := ⟨w.heap.size, p, none⟩) (Nat.le_refl _) (.int .u8 (UInt8.ofNat (n / 256 ^ i)).toNat))
      have hgl := hb.lt
      clear hx hpl hb hp
      go_wp2_with fail
      rw [HSB.out]
      go_roundg (4 - (i + 1))
      case measure => have := HGK.out; omega
      case rel => exact ⟨i + 1, by omega, rfl, by go_num, hb2.out, hB2.out⟩
    · obtain rfl : i = 4 := by omega
      have hlt2 : ¬ ((4 : Nat) : Int) < 4 := by omega
      have HB := Lib.hid hb
      rw [show putI n 4 4 = Sh.beBytes n 4 from rfl] at HB
      clear hb
      go_wp2_with fail
      go_ret2
      exact ⟨rfl, HB.out, hB⟩
set_option maxRecDepth 100000 in
set_option maxHeartbeats 1000000 in
theorem put_8 (n : Nat) (w : World) (_hn : n < 18446744073709551616) :
    Calls Try.prog 29 #[.int .i64 2, .int .i64 8, .int .u64 (n : Int)] w fun e w' => e = .returned (.tuple #[.slice (some ⟨w.heap.size, 0, none⟩) 8 8, .int .i64 0]) ∧ Blk w' w.heap.size 5 (u8s (Sh.beBytes n 8)) ∧ Below w.heap.size w w' := by
  go_enter Try.func29, Try.ntmps29
  go_wp2_with (first
    | (go_at_call 40; go_in)
    | (refine wpList_make1 rfl (.tmp 25) (.tmp 25) 43 rfl 5 (.int .u8 0) 1 Try.underlying43 iU8 rfl .i64 .i64 8 8 (by rfl) (by rfl) 8 8 rfl rfl (by omega) (by omega) (by omega) ?_
       intro w1 hb1 hg1 hs1
       have HB1 : Hid (Blk w1 w.heap.size 5 (u8s (putI n 8 0))) := hb1
       have HE1 : Hid (Below w.heap.size w w1) := grown_below hg1
       clear hb1 hg1 hs1))
  go_loopg [29] 8 (fun kk q wr => ∃ i : Nat, i ≤ 8 ∧ kk = 8 - i ∧ q = .int .i64 i ∧ Blk wr w.heap.size 5 (u8s (putI n 8 i)) ∧ Below w.heap.size w wr)
  case atStart => exact ⟨0, by omega, rfl, rfl, HB1.out, HE1.out⟩
  case round =>
    clear HB1 HE1
    obtain ⟨i, hi, hgk, rfl, hb, hB⟩ := hrel
    have HGK := Lib.hid hgk
    clear hgk
    by_cases hlt : i < 8
    · have hlt2 : (i : Int) < 8 := by omega
      obtain ⟨p, hp⟩ : ∃ p, p = 8 - 1 - i := ⟨_, rfl⟩
      have hpi : (7 : Int) - (i : Int) = (p : Int) := by omega
      have hp0 : (0 : Int) ≤ (p : Int) := by omega
      have hp1 : (p : Int) < 8 := by omega
      have HS := Lib.hid (putI_set n 8 i p hlt hp)
      have hpl := putI_len n 8 i hi
      obtain ⟨x, hx⟩ : ∃ x, (putI n 8 i)[p]? = some x := ⟨_, List.getElem?_eq_getElem (by omega)⟩
      have cx : wr.cell? ⟨w.heap.size, p, none⟩ = some (.int .u8 x.toNat) := by rw [hb.cell, u8s_getElem?, hx]; rfl
      have fx := hb.frozen p
      have HSB := Lib.hid (shift_byte n i)
      have hb2 := Lib.hid (hb.set_ p (.int .u8 (UInt8.ofNat (n / 256 ^ i)).toNat))
      rw [u8s_set, HS.out] at hb2
      have hB2 := Lib.hid (hB.setCell (p := ⟨w.heap.size, p, none⟩) (Nat.le_refl _) (.int .u8 (UInt8.ofNat (n / 256 ^ i)).toNat))
      have hgl := hb.lt
      clear hx hpl hb hp
      go_wp2_with fail
      rw [HSB.out]
      go_roundg (8 - (i + 1))
      case measure => have := HGK.out; omega
      case rel => exact ⟨i + 1, by omega, rfl, by go_num, hb2.out, hB2.out⟩
    · obtain rfl : i = 8 := by omega
      have hlt2 : ¬ ((8 : Nat) : Int) < 8 := by omega
      have HB := Lib.hid hb
      rw [show putI n 8 8 = Sh.beBytes n 8 from rfl] at HB
      clear hb
      go_wp2_with fail
      go_ret2
      exact ⟨rfl, HB.out, hB⟩
end Go.Proofs.Ytlbnibmcflmohaa
namespace Go.Proofs.Ytlbnibmcflmohaa
open Go.RowKit
theorem low_byte (m : Nat) : (m : Int) % 256 = ((UInt8.ofNat m).toNat : Int) := by rw [UInt8.toNat_ofNat']; omega
set_option maxRecDepth 100000 in
set_option maxHeartbeats 1000000 in
theorem rput_8 (n : Nat) (w : World) (hn : n < 18446744073709551616) :
    Calls Try.prog 77 #[.int .i64 2, .int .i64 8, .int .u64 (n : Int)] w fun e w' => e = .returned (.tuple #[.slice (some ⟨w.heap.size, 0, none⟩) 8 8, .int .i64 0]) ∧ Blk w' w.heap.size 5 (u8s (Sh.beBytes n 8)) ∧ Below w.heap.size w w' := by
  go_enter Try.func77, Try.ntmps77
  go_wp2_with (first
    | (go_at_call 91; go_in)
    | (refine wpList_make1 rfl (.tmp 15) (.tmp 15) 43 rfl 5 (.int .u8 0) 1 Try.underlying43 iU8 rfl .i64 .i64 8 8 (by rfl) (by rfl) 8 8 rfl rfl (by omega) (by omega) (by omega) ?_
       intro w1 hb1 hg1 hs1
       have HB1 : Hid (Blk w1 w.heap.size 5 (u8s (putI n 8 0))) := hb1
       have HE1 : Hid (Below w.heap.size w w1) := grown_below hg1
       clear hb1 hg1 hs1))
  go_loopg [2, 9] 8 (fun kk qn q wr => ∃ i m : Nat, i ≤ 8 ∧ kk = 8 - i ∧ m = n / 256 ^ i ∧ m < 18446744073709551616 ∧ qn = .int .u64 (m : Int) ∧ q = .int .i64 i ∧ Blk wr w.heap.size 5 (u8s (putI n 8 i)) ∧ Below w.heap.size w wr)
  case atStart => exact ⟨0, n, by omega, rfl, by simp, hn, rfl, rfl, HB1.out, HE1.out⟩
  case round =>
    clear HB1 HE1
    obtain ⟨i, m, hi, hgk, hm, hm2, rfl, rfl, hb, hB⟩ := hrel
    have HGK := Lib.hid hgk
    have HM := Lib.hid hm
    clear hgk hm
    by_cases hlt : i < 8
    · have hlt2 : (i : Int) < 8 := by omega
      obtain ⟨p, hp⟩ : ∃ p, p = 8 - 1 - i := ⟨_, rfl⟩
      have hpi : (7 : Int) - (i : Int) = (p : Int) := by omega
      have hp0 : (0 : Int) ≤ (p : Int) := by omega
      have hp1 : (p : Int) < 8 := by omega
      have HS := Lib.hid (putI_set n 8 i p hlt hp)
      have hpl := putI_len n 8 i hi
      obtain ⟨x, hx⟩ : ∃ x, (putI n 8 i)[p]? = some x := ⟨_, List.getElem?_eq_getElem (by omega)⟩
      have cx : wr.cell? ⟨w.heap.size, p, none⟩ = some (.int .u8 x.toNat) := by rw [hb.cell, u8s_getElem?, hx]; rfl
      have fx := hb.frozen p
      have HSB := Lib.hid (low_byte m)
      have hb2 := Lib.hid (hb.set_ p (.int .u8 (UInt8.ofNat m).toNat))
      rw [u8s_set, HM.out, HS.out, ← HM.out] at hb2
      have hB2 := Lib.hid (hB.setCell (p := ⟨w.heap.size, p, none⟩) (Nat.le_refl _) (.int .u8 (UInt8.ofNat m).toNat))
      have hgl := hb.lt
      have hm0 : (0 : Int) ≤ (m : Int) := by omega
      clear hx hpl hb hp
      go_wp2_with fail
      rw [HSB.out]
      go_roundg (8 - (i + 1))
      case measure => have := HGK.out; omega
      case rel => exact ⟨i + 1, m / 256, by omega, rfl, by rw [HM.out, Nat.pow_succ, Nat.div_div_eq_div_mul], by omega, by go_num, by go_num, hb2.out, hB2.out⟩
    · obtain rfl : i = 8 := by omega
      have hlt2 : ¬ ((8 : Nat) : Int) < 8 := by omega
      have hm0 : m = 0 := by rw [HM.out]; exact Nat.div_eq_of_lt hn
      subst hm0
      have HB := Lib.hid hb
      rw [show putI n 8 8 = Sh.beBytes n 8 from rfl] at HB
      clear hb
      go_wp2_with fail
      go_ret2
      exact ⟨rfl, HB.out, hB⟩
set_option maxRecDepth 100000 in
set_option maxHeartbeats 4000000 in
theorem rpadding_any (n : Nat) (w : World) (hn : n ≤ 1000000000000) :
    Calls Try.prog 62 #[.int .i64 n] w fun e w' => ∃ A' c', e = .returned (.slice A' (Sh.pad n).length c') ∧ (Sh.pad n).length ≤ c' ∧ w'.ownsRow w.heap.size 5 1 (.slice A' (Sh.pad n).length c') (Sh.pad n).length (u8s (Sh.pad n)) ∧ Below w.heap.size w w' := by
  obtain ⟨z, hz⟩ : ∃ z, z = (119 - n % 64) % 64 := ⟨_, rfl⟩
  have hz64 : z < 64 := by omega
  have HPD : Hid (Sh.pad n = 128 :: (List.replicate z 0 ++ Sh.beBytes (8 * n) 8)) := by
    show _ = _
    unfold Sh.pad
    rw [← hz, Nat.mod_eq_of_lt (show 8 * n < 18446744073709551616 by omega)]
  have HPL : Hid ((Sh.pad n).length = z + 9) := by show _ = _; rw [HPD.out]; simp [beBytes_len]
  have HZ := Lib.hid hz
  have HP8 : Hid (∀ W, Calls Try.prog 77 #[.int .i64 2, .int .i64 8, .int .u64 ((n : Int) * 8)] W fun e w' => e = .returned (.tuple #[.slice (some ⟨W.heap.size, 0, none⟩) 8 8, .int .i64 0]) ∧ Blk w' W.heap.size 5 (u8s (Sh.beBytes (8 * n) 8)) ∧ Below W.heap.size W w') := fun W => by
    have := rput_8 (8 * n) W (by omega)
    rw [show ((8 * n : Nat) : Int) = (n : Int) * 8 by omega] at this
    exact this
  rw [HPL.out]
  clear hz
  have HO0 := Lib.hid (show (w.alloc (.cells #[.int .u8 128] 5)).ownsRow w.heap.size 5 1 (.slice (some ⟨w.heap.size, 0, none⟩) 1 1) 1 (u8s (128 :: List.replicate 0 0)) from own_of_blk (cs := u8s [128]) (Blk.new' rfl rfl) (Nat.le_refl _) 1 1 1 (by omega) rfl (by omega))
  have HE0 : Hid (Below w.heap.size w (w.alloc (.cells #[.int .u8 128] 5))) := (Below.refl _ _).alloc (Nat.le_refl _) _
  go_enter Try.func62, Try.ntmps62
  go_wp2_with fail
  go_loopg [3] z (fun kk v wr => ∃ j : Nat, j ≤ z ∧ kk = z - j ∧ (∃ A' c', v = .slice A' (j + 1) c' ∧ j + 1 ≤ c' ∧ wr.ownsRow w.heap.size 5 1 (.slice A' (j + 1) c') (j + 1) (u8s (128 :: List.replicate j 0))) ∧ Below w.heap.size w wr)
  case atStart => exact ⟨0, by omega, rfl, ⟨_, _, rfl, by omega, HO0.out⟩, HE0.out⟩
  case round =>
    clear HO0 HE0
    obtain ⟨j, hj, hgk, ⟨A', c', rfl, hc', hown⟩, hB⟩ := hrel
    have HGK := Lib.hid hgk
    clear hgk
    have hjz : (n + (j + 1) + 8) % 64 = 0 ↔ j = z := by have := HZ.out; omega
    obtain ⟨u, hu⟩ : ∃ u, u = n + (j + 1) + 8 := ⟨_, rfl⟩
    have hui : (n : Int) + ((j + 1 : Nat) : Int) + 8 = (u : Int) := by omega
    have hui2 : (n : Int) + ((j : Int) + 1) + 8 = (u : Int) := by omega
    rw [← hu] at hjz
    by_cases hlt : j < z
    · have hne : ((u : Int) % 64 != 0) = true := by rw [bne_iff_ne]; omega
      have HOW := Lib.hid hown
      have HBE := Lib.hid hB
      have hbs := hB.size
      have HNW : Hid (RdS 1 (wr.alloc (.cells #[.int .u8 0] 5)) (some ⟨wr.heap.size, 0, none⟩) 1 (u8s [0])) := RdS.new wr 5 (u8s [0]) 1 rfl
      have HAP : Hid (u8s (128 :: List.replicate j 0) ++ u8s [0] = u8s (128 :: List.replicate (j + 1) 0)) := by show _ = _; rw [← u8s_append, List.replicate_succ']; rfl
      clear hown hB hjz hu
      go_wp2_with (at_builtin; refine wpList_app rfl (.tmp 14) (.tmp 15) 43 rfl w.heap.size 5 1 1 Try.underlying43 eU8 (.slice A' (j + 1) c') (j + 1) (u8s (128 :: List.replicate j 0)) (by rfl) (by exact HOW.out.alloc _) (some ⟨wr.heap.size, 0, none⟩) 1 1 (u8s [0]) (by rfl) (by exact HNW.out) (u8s_one _) (by omega) (by omega) (by simp; omega) ?_
                   intro A2 c2 w2 hown2 hc2 hg2 hat2
                   have HO2 := Lib.hid hown2
                   rw [HAP.out] at HO2
                   have HE2 := Lib.hid ((HBE.out.alloc HBE.out.size _).grown hg2 (Nat.le_trans HBE.out.size (by simp)) (fun k hk => (HOW.out.lt k hk).1))
                   clear hown2 hg2 hat2)
      go_roundg (z - (j + 1))
      case measure => have := HGK.out; omega
      case rel => exact ⟨j + 1, by omega, rfl, ⟨A2, c2, rfl, by omega, HO2.out⟩, HE2.out⟩
    · obtain rfl : j = z := by omega
      have hne : ((u : Int) % 64 != 0) = false := by rw [bne_eq_false_iff_eq]; omega
      have HOW := Lib.hid hown
      have HBE := Lib.hid hB
      have hbs := hB.size
      have HAP : Hid (u8s (128 :: List.replicate j 0) ++ u8s (Sh.beBytes (8 * n) 8) = u8s (Sh.pad n)) := by show _ = _; rw [HPD.out, ← u8s_append]; rfl
      have HL8 : Hid ((Sh.beBytes (8 * n) 8).length = 8) := beBytes_len _ _
      clear hown hB hjz hu
      go_wp2_with (first
        | (go_at_call 77; (with_reducible refine (HP8.out _).mono ?_); rintro e w2 ⟨rfl, hb2, hB2⟩
           have HO2 := Lib.hid (own_below HOW.out hB2)
           have HE2 := qtr HBE hB2
           have HR2 : Hid (Rd w2 (some ⟨wr.heap.size, 0, none⟩) 8 (u8s (Sh.beBytes (8 * n) 8))) := (by have h6 := hb2.rdAll; rw [HL8.out] at h6; exact h6)
           clear hb2 hB2)
        | (at_builtin; refine wpList_app rfl (.tmp 24) (.tmp 25) 43 rfl w.heap.size 5 1 1 Try.underlying43 eU8 (.slice A' (j + 1) c') (j + 1) (u8s (128 :: List.replicate j 0)) (by rfl) (by exact HO2.out) (some ⟨wr.heap.size, 0, none⟩) 8 8 (u8s (Sh.beBytes (8 * n) 8)) (by rfl) (by exact HR2.out.toS) (u8s_one _) (by omega) (by omega) (by exact HE2.out.size) ?_
           intro A3 c3 w3 hown3 hc3 hg3 hat3
           have HO3 := Lib.hid hown3
           rw [HAP.out] at HO3
           have HE3 := Lib.hid (HE2.out.grown hg3 HE2.out.size (fun k hk => (HO2.out.lt k hk).1))
           clear hown3 hg3 hat3))
      go_ret
      exact ⟨A3, c3, rfl, by omega, HO3.out, HE3.out⟩
end Go.Proofs.Ytlbnibmcflmohaa
