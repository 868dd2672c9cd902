/- Part of the proof: R59, R5r, R61. -/
import Derived.Test.YtlbnibmcflmohaaGreatPlx22
import Derived.Test.YtlbnibmcflmohaaGreatPlx38
namespace Go.Proofs.YtlbnibmcflmohaaGreat
open Go.RowKit
attribute [local go_sem ↓] ldq_n8 ldq_b32
set_option maxRecDepth 100000 in
set_option maxHeartbeats 1000000 in
theorem rinv_n (a : Nat) (w : World) (ha : a < 115792089237316195423570985008687907853269984665640564039457584007913129639936) :
    Calls Tryz.prog 33 #[.agg (n8 a).toArray] w fun e w' => e = .returned (.agg (n8 (a ^ pE % pr)).toArray) ∧ Below w.heap.size w w' := by
  have HMK : Hid (∀ W, (Instr.makeSlice 23 (.int .i64 32) (.int .i64 32)).run Tryz.prog W = .ok (.slice (some ⟨W.heap.size, 0, none⟩) 32 32) (W.alloc (.cells (u8s (fz 0)).toArray 5))) := fun W => by kernel_rfl
  obtain ⟨W1, hW1⟩ : ∃ W1, W1 = ((w.alloc (.cells (n8 a).toArray 56)).alloc (.cells o8.toArray 56)).alloc (.cells (u8s (fz 0)).toArray 5) := ⟨_, rfl⟩
  have HM0 : Hid (Blk W1 w.heap.size 56 (n8 a) ∧ Blk W1 (w.heap.size + 1) 56 o8 ∧ Blk W1 (w.heap.size + 2) 5 (u8s (fz 0)) ∧ Below w.heap.size w W1) :=
    hW1 ▸ ⟨((Blk.new w _ _).alloc _).alloc _, (Blk.new' (by simp) rfl).alloc _, Blk.new' (by simp) rfl, (((Below.refl _ w).alloc (Nat.le_refl _) _).alloc (by simp) _).alloc (by simp <;> omega) _⟩
  have hmk := HMK.out
  go_enter Tryz.func33, Tryz.ntmps33
  go_wp2
  go_loopg [4] 32 (fun kk q wr => ∃ i : Nat, kk = 32 - i ∧ q = .int .i64 (i : Int) ∧ i ≤ 32 ∧ Blk wr w.heap.size 56 (n8 a) ∧ Blk wr (w.heap.size + 1) 56 o8 ∧ Blk wr (w.heap.size + 2) 5 (u8s (fz i)) ∧ Below w.heap.size w wr)
  case atStart => exact ⟨0, rfl, rfl, by omega, hW1 ▸ HM0.out⟩
  case round =>
    clear HM0 hW1
    obtain ⟨i, hgk, rfl, hi, hA, hZ, hS, hE⟩ := hrel
    rcases Nat.lt_or_ge i 32 with hlt | hge
    · have hlt2 : (i : Int) < 32 := by omega
      have cc : wr.cell? ⟨w.heap.size + 1 + 1, i, none⟩ = some (.int .u8 (((fz i).getD i 0).toNat : Int)) := by
        refine (hS.cell i).trans ?_
        rw [u8s_getElem?, List.getD_eq_getElem?_getD, List.getElem?_eq_getElem (by rw [fz_len]; exact hlt)]
        rfl
      have ff : wr.frozen? ⟨w.heap.size + 1 + 1, i, none⟩ = false := hS.frozen i
      have HA := Lib.hid (hA.far (p := ⟨w.heap.size + 2, i, none⟩) (by simp) (.int .u8 255))
      have HZ := Lib.hid (hZ.far (p := ⟨w.heap.size + 2, i, none⟩) (by simp) (.int .u8 255))
      have HS : Hid (Blk (wr.setCell ⟨w.heap.size + 2, i, none⟩ (.int .u8 255)) (w.heap.size + 2) 5 (u8s (fz (i + 1)))) := (u8s_set (fz i) i 255) ▸ hS.set_ i (.int .u8 255)
      have HE := Lib.hid (hE.setCell (p := ⟨w.heap.size + 2, i, none⟩) (Nat.le_add_right _ _) (.int .u8 255))
      clear hA hZ hS hE
      go_wp2
      go_roundg (32 - (i + 1))
      case measure => omega
      case rel => exact ⟨i + 1, rfl, by go_num, by omega, HA.out, HZ.out, HS.out, HE.out⟩
    · obtain rfl : i = 32 := by omega
      have hlt2 : ¬ (32 : Int) < 32 := by omega
      have cc0 : wr.cell? ⟨w.heap.size + 1 + 1, 0, none⟩ = some (.int .u8 255) := (hS.cell 0).trans rfl
      have ff0 : wr.frozen? ⟨w.heap.size + 1 + 1, 0, none⟩ = false := hS.frozen 0
      have hS1 := hS.set_ 0 (.int .u8 235)
      have cc1 : (wr.setCell ⟨w.heap.size + 1 + 1, 0, none⟩ (.int .u8 235)).cell? ⟨w.heap.size + 1 + 1, 31, none⟩ = some (.int .u8 255) := (hS1.cell 31).trans rfl
      have ff1 : (wr.setCell ⟨w.heap.size + 1 + 1, 0, none⟩ (.int .u8 235)).frozen? ⟨w.heap.size + 1 + 1, 31, none⟩ = false := hS1.frozen 31
      have HS : Hid (Blk ((wr.setCell ⟨w.heap.size + 1 + 1, 0, none⟩ (.int .u8 235)).setCell ⟨w.heap.size + 1 + 1, 31, none⟩ (.int .u8 127)) (w.heap.size + 2) 5 (u8s eP)) := hS1.set_ 31 (.int .u8 127)
      have HA : Hid (Blk ((wr.setCell ⟨w.heap.size + 1 + 1, 0, none⟩ (.int .u8 235)).setCell ⟨w.heap.size + 1 + 1, 31, none⟩ (.int .u8 127)) w.heap.size 56 (n8 a)) := (hA.far (p := ⟨w.heap.size + 2, 0, none⟩) (by simp) (.int .u8 235)).far (p := ⟨w.heap.size + 2, 31, none⟩) (by simp) (.int .u8 127)
      have HZ : Hid (Blk ((wr.setCell ⟨w.heap.size + 1 + 1, 0, none⟩ (.int .u8 235)).setCell ⟨w.heap.size + 1 + 1, 31, none⟩ (.int .u8 127)) (w.heap.size + 1) 56 o8) := (hZ.far (p := ⟨w.heap.size + 2, 0, none⟩) (by simp) (.int .u8 235)).far (p := ⟨w.heap.size + 2, 31, none⟩) (by simp) (.int .u8 127)
      have HE : Hid (Below w.heap.size w ((wr.setCell ⟨w.heap.size + 1 + 1, 0, none⟩ (.int .u8 235)).setCell ⟨w.heap.size + 1 + 1, 31, none⟩ (.int .u8 127))) := (hE.setCell (p := ⟨w.heap.size + 2, 0, none⟩) (Nat.le_add_right _ _) (.int .u8 235)).setCell (p := ⟨w.heap.size + 2, 31, none⟩) (Nat.le_add_right _ _) (.int .u8 127)
      have HP : Hid (∀ c, Calls Tryz.prog 57 #[.agg (n8 a).toArray, .slice (some ⟨w.heap.size + 1 + 1, 0, none⟩) 32 c] ((wr.setCell ⟨w.heap.size + 1 + 1, 0, none⟩ (.int .u8 235)).setCell ⟨w.heap.size + 1 + 1, 31, none⟩ (.int .u8 127)) fun e w' => e = .returned (.agg (n8 (a ^ pE % pr)).toArray) ∧ Below ((wr.setCell ⟨w.heap.size + 1 + 1, 0, none⟩ (.int .u8 235)).setCell ⟨w.heap.size + 1 + 1, 31, none⟩ (.int .u8 127)).heap.size ((wr.setCell ⟨w.heap.size + 1 + 1, 0, none⟩ (.int .u8 235)).setCell ⟨w.heap.size + 1 + 1, 31, none⟩ (.int .u8 127)) w') := fun c =>
        pE_eq ▸ rpow_n a _ c eP ((wr.setCell ⟨w.heap.size + 1 + 1, 0, none⟩ (.int .u8 235)).setCell ⟨w.heap.size + 1 + 1, 31, none⟩ (.int .u8 127)) ha (HS.out.rdA (by rw [eP, List.length_set, List.length_set, fz_len]))
      have hld := n8_run HA.out
      clear hA hZ hS hE hS1 hgk hmk
      go_wp2_with (first
        | (go_at_call 57; (with_reducible refine (HP.out _).mono ?_); rintro e w4 ⟨rfl, hB1⟩; have HZ4 := qbl HZ hB1; have HE4 := qtr HE hB1; clear hB1)
        | (refine wpList_store_all rfl 56 (.tmp 2) (.tmp 19) rfl (w.heap.size + 1) (n8 (a ^ pE % pr)) (by rfl) (by rfl) 56 _ HZ4.out (by exact hdN8' _) (n8_one _) (by rw [n8_len]; rfl) ?_; intro w5 hb5 ho5; have HB5 := Lib.hid hb5; have HE5 := Lib.hid (ho5.below HE4.out (by omega) HE4.out.size); clear hb5 ho5))
      exact bodyPost_ret (res_cell rfl _ _ _ _ rfl HB5.out _ Tryz.underlying56 rfl (by exact hdN8' _)) rfl ⟨rfl, HE5.out⟩
theorem dig_getD : ∀ (k n q : Nat), q < k → (dig k n).getD q 0 = n / 4294967296 ^ q % 4294967296
  | 0, _, _, h => by omega
  | k + 1, n, 0, _ => by simp [dig]
  | k + 1, n, q + 1, h => by
      have ih := dig_getD k (n / 4294967296) q (by omega)
      rw [dig, List.getD_cons_succ, ih, Nat.div_div_eq_div_mul, Nat.pow_succ, Nat.mul_comm]
theorem dig_byte (n i : Nat) : n / 4294967296 ^ (i / 4) % 4294967296 / 2 ^ (8 * (i % 4)) % 256 = n / 256 ^ i % 256 := by
  have h1 : (256 : Nat) ^ i = 4294967296 ^ (i / 4) * 2 ^ (8 * (i % 4)) := by
    rw [show (256 : Nat) = 2 ^ 8 by rfl, show (4294967296 : Nat) = 2 ^ 32 by rfl, ← Nat.pow_mul, ← Nat.pow_mul, ← Nat.pow_add]
    congr 1
    omega
  rw [h1, ← Nat.div_div_eq_div_mul]
  obtain ⟨m, hm⟩ : ∃ m, m = n / 4294967296 ^ (i / 4) := ⟨_, rfl⟩
  rw [← hm]
  have h2 : i % 4 < 4 := Nat.mod_lt _ (by omega)
  obtain ⟨r, hr⟩ : ∃ r, r = i % 4 := ⟨_, rfl⟩
  rw [← hr] at h2 ⊢
  have : r = 0 ∨ r = 1 ∨ r = 2 ∨ r = 3 := by omega
  rcases this with rfl | rfl | rfl | rfl <;> simp <;> omega
set_option maxRecDepth 100000 in
set_option maxHeartbeats 1000000 in
theorem rbytes_n (n : Nat) (w : World) (hn : n < 115792089237316195423570985008687907853269984665640564039457584007913129639936) :
    Calls Tryz.prog 12 #[.agg (n8 n).toArray] w fun e w' => e = .returned (.agg (u8s (leB (n % pr))).toArray) ∧ Below w.heap.size w w' := by
  have HB0 : Hid (Blk ((w.alloc (.cells (n8 n).toArray 56)).alloc (.cells (u8s (List.replicate 32 0)).toArray 26)) w.heap.size 56 (n8 n) ∧ Blk ((w.alloc (.cells (n8 n).toArray 56)).alloc (.cells (u8s (List.replicate 32 0)).toArray 26)) (w.heap.size + 1) 26 (u8s (List.replicate 32 0)) ∧ Below w.heap.size w ((w.alloc (.cells (n8 n).toArray 56)).alloc (.cells (u8s (List.replicate 32 0)).toArray 26))) :=
    ⟨(Blk.new w _ _).alloc _, Blk.new' (by simp) rfl, ((Below.refl _ w).alloc (Nat.le_refl _) _).alloc (by simp) _⟩
  have hl0 : ∀ o, (ldAt 56 (.pointer (some ⟨w.heap.size, 0, none⟩))).run Tryz.prog ((w.alloc (.cells (n8 n).toArray 56)).alloc o) = .ok (.agg (n8 n).toArray) ((w.alloc (.cells (n8 n).toArray 56)).alloc o) := fun o => n8_run ((Blk.new w _ _).alloc o)
  have HN := Lib.hid (fun W => rnorm_n n hn W)
  obtain ⟨V, hV⟩ : ∃ V, V = n % pr := ⟨_, rfl⟩
  rw [← hV] at HN ⊢
  clear hV hn
  go_enter Tryz.func12, Tryz.ntmps12
  go_upto_region 2 with (first
    | (go_at_call 27; (with_reducible refine (HN.out _).mono ?_); rintro e w1 ⟨rfl, hB⟩; have HA1 := Lib.hid (HB0.out.1.below hB HB0.out.1.lt); have HZ1 := Lib.hid (HB0.out.2.1.below hB HB0.out.2.1.lt); have HE1 := Lib.hid (HB0.out.2.2.trans (hB.mono HB0.out.2.2.size)); clear hB)
    | (refine wpList_store_all rfl 56 (.tmp 1) (.tmp 6) rfl w.heap.size (n8 V) (by rfl) (by rfl) 56 _ HA1.out (by exact hdN8' _) (n8_one _) (by rw [n8_len, n8_len]) ?_; intro w2 hb2 ho2))
  have HA2 := Lib.hid hb2
  have HZ2 := Lib.hid (ho2.blk HZ1.out (by omega))
  have HE2 := Lib.hid (ho2.below HE1.out (Nat.le_refl _) HE1.out.size)
  have HG : Hid (w.heap.size + 1 < w2.heap.size) := HZ2.out.lt
  have HS2 : Hid (Blk (w2.alloc (.cells (u8s (List.replicate 32 0)).toArray 26)) w2.heap.size 26 (u8s (leBi V 0))) := Blk.new _ _ _
  have HA3 := Lib.hid (HA2.out.alloc (.cells (u8s (List.replicate 32 0)).toArray 26))
  have HZ3 := Lib.hid (HZ2.out.alloc (.cells (u8s (List.replicate 32 0)).toArray 26))
  have HE3 := Lib.hid (HE2.out.alloc HE2.out.size (.cells (u8s (List.replicate 32 0)).toArray 26))
  clear hb2 ho2 hl0 HB0 HA1 HZ1 HE1 HN HA2 HZ2 HE2
  go_wp2
  go_loopg [4] 32 (fun kk q wr => ∃ i : Nat, kk = 32 - i ∧ q = .int .i64 (i : Int) ∧ i ≤ 32 ∧ Blk wr w.heap.size 56 (n8 V) ∧ Blk wr (w.heap.size + 1) 26 (u8s (List.replicate 32 0)) ∧ Blk wr w2.heap.size 26 (u8s (leBi V i)) ∧ Below w.heap.size w wr)
  case atStart => exact ⟨0, rfl, rfl, by omega, HA3.out, HZ3.out, HS2.out, HE3.out⟩
  case round =>
    clear HA3 HZ3 HE3 HS2
    obtain ⟨i, hgk, rfl, hi, hA, hZ, hS, hE⟩ := hrel
    rcases Nat.lt_or_ge i 32 with hlt | hge
    · have hlt2 : (i : Int) < 32 := by omega
      have cc : wr.cell? ⟨w2.heap.size, i, none⟩ = some (.int .u8 (((leBi V i).getD i 0).toNat : Int)) := by
        refine (hS.cell i).trans ?_
        rw [u8s_getElem?, List.getD_eq_getElem?_getD, List.getElem?_eq_getElem (by rw [leBi_len]; exact hlt)]
        rfl
      have ff : wr.frozen? ⟨w2.heap.size, i, none⟩ = false := hS.frozen i
      obtain ⟨q, hq⟩ : ∃ q, q = i / 4 := ⟨_, rfl⟩
      obtain ⟨r, hr⟩ : ∃ r, r = i % 4 := ⟨_, rfl⟩
      obtain ⟨s, hs⟩ : ∃ s, s = 8 * r := ⟨_, rfl⟩
      obtain ⟨L, hL⟩ : ∃ L, L = V / 4294967296 ^ q % 4294967296 := ⟨_, rfl⟩
      have cl : wr.cell? ⟨w.heap.size, q, none⟩ = some (.int .u32 (L : Int)) := (hA.cell q).trans ((u32d_get (by rw [dig_len]; omega)).trans (by rw [dig_getD 8 V q (by omega), ← hL]))
      have hqi : (i : Int) / 4 = (q : Int) := by omega
      have hri : (i : Int) % 4 = (r : Int) := by omega
      have hsi : (8 : Int) * (r : Int) = (s : Int) := by omega
      have hq8 : (q : Int) < 8 := by omega
      have hr4 : (r : Int) < 4 := by omega
      have hs32 : (s : Int) < 32 := by omega
      obtain ⟨y, hyd⟩ : ∃ y, y = L / 2 ^ s := ⟨_, rfl⟩
      have hy : (L : Int) / 2 ^ s = (y : Int) := by rw [hyd]; push_cast; rfl
      have HY : Hid (UInt8.ofNat (V / 256 ^ i) = UInt8.ofNat y) := by
        show _ = _
        apply UInt8.toNat_inj.1
        rw [UInt8.toNat_ofNat', UInt8.toNat_ofNat', hyd, hL, hs, hr, hq]
        exact (dig_byte V i).symm
      have HGK := Lib.hid hgk
      have hg := HG.out
      have HA := Lib.hid (hA.far (p := ⟨w2.heap.size, i, none⟩) (by show w.heap.size ≠ w2.heap.size; omega) (.int .u8 ((y : Int) % 256)))
      have HZ := Lib.hid (hZ.far (p := ⟨w2.heap.size, i, none⟩) (by show w.heap.size + 1 ≠ w2.heap.size; omega) (.int .u8 ((y : Int) % 256)))
      have HS : Hid (Blk (wr.setCell ⟨w2.heap.size, i, none⟩ (.int .u8 ((y : Int) % 256))) w2.heap.size 26 (u8s (leBi V (i + 1)))) := by
        have h1 := hS.set_ i (.int .u8 ((y : Int) % 256))
        rw [show ((y : Int) % 256) = ((UInt8.ofNat (V / 256 ^ i)).toNat : Int) by rw [HY.out, UInt8.toNat_ofNat']; omega, u8s_set] at h1
        rw [show ((y : Int) % 256) = ((UInt8.ofNat (V / 256 ^ i)).toNat : Int) by rw [HY.out, UInt8.toNat_ofNat']; omega]
        exact h1
      have HE := Lib.hid (hE.setCell (p := ⟨w2.heap.size, i, none⟩) (by show w.heap.size ≤ w2.heap.size; omega) (.int .u8 ((y : Int) % 256)))
      clear hA hZ hS hE hgk hyd hL hs hr hq hg
      go_wp2
      go_roundg (32 - (i + 1))
      case measure => have := HGK.out; omega
      case rel => exact ⟨i + 1, rfl, by go_num, by omega, HA.out, HZ.out, HS.out, HE.out⟩
    · obtain rfl : i = 32 := by omega
      have hlt2 : ¬ ((32 : Nat) : Int) < 32 := by omega
      rw [leBi_all] at hS
      have hld : (ldAt 26 (.pointer (some ⟨w2.heap.size, 0, none⟩))).run Tryz.prog wr = .ok (.agg (u8s (leB V)).toArray) wr := ldAt_run hS 26 0 (u8s (leB V)) rfl _ Tryz.underlying26 rfl (by exact hd32)
      have HZ := Lib.hid hZ
      have HE := Lib.hid hE
      clear hA hZ hS hE hgk
      go_wp2_with (refine wpList_store_all rfl 26 (.tmp 2) (.tmp 22) rfl (w.heap.size + 1) (u8s (leB V)) (by rfl) (by rfl) 26 _ HZ.out (by exact hd32) (u8s_one _) (by rfl) ?_; intro w5 hb5 ho5; have HB5 := Lib.hid hb5; have HE5 := Lib.hid (ho5.below HE.out (Nat.le_succ _) HE.out.size); clear hb5 ho5)
      exact bodyPost_ret (res_cell rfl _ _ _ _ rfl HB5.out _ Tryz.underlying26 rfl (by exact hd32)) rfl ⟨rfl, HE5.out⟩
end Go.Proofs.YtlbnibmcflmohaaGreat
namespace Go.Proofs.YtlbnibmcflmohaaGreat
open Go.RowKit
theorem leNat_leN (l : List UInt8) : leNat l = leN l := by
  induction l with
  | nil => rfl
  | cons c l ih =>
    have h1 : leN (c :: l) = c.toNat + 256 * leN l := rfl
    rw [h1, ← ih]
    unfold leNat
    rw [List.reverse_cons]
    have : ∀ (m : List UInt8) (x : UInt8), beNat (m ++ [x]) = beNat m * 256 + x.toNat := by
      intro m x
      simp [beNat]
    rw [this]
    omega
theorem leN_four (us : List UInt8) (i : Nat) (h : 4 * i + 4 ≤ us.length) : leN (us.take (4 * (i + 1))) = leN (us.take (4 * i)) + leN ((us.drop (4 * i)).take 4) * 4294967296 ^ i := by
  have h1 : us.take (4 * (i + 1)) = us.take (4 * i) ++ (us.drop (4 * i)).take 4 := by
    rw [show 4 * (i + 1) = 4 * i + 4 by omega, List.take_add]
  have h2 : leN (us.take (4 * i) ++ (us.drop (4 * i)).take 4) = leN (us.take (4 * i)) + 256 ^ (us.take (4 * i)).length * leN ((us.drop (4 * i)).take 4) := by
    have := numL_cut 256 ((us.take (4 * i) ++ (us.drop (4 * i)).take 4).map (·.toNat)) (us.take (4 * i)).length (by simp)
    simp only [leN]
    rw [this, ← List.map_take, ← List.map_drop, List.take_left, List.drop_left]
  rw [h1, h2, List.length_take, Nat.min_eq_left (by omega), Nat.mul_comm (256 ^ (4 * i)), Nat.pow_mul]
theorem n8_cut (V : Nat) : (dig 8 V).set 7 ((dig 8 V).getD 7 0 % 2147483648) = dig 8 (V % 57896044618658097711785492504343953926634992332820282019728792003956564819968) := by
  rw [dig_getD 8 V 7 (by omega)]
  simp only [dig, List.set_cons_succ, List.set_cons_zero, List.cons.injEq, and_true, Nat.reducePow]
  refine ⟨?_, ?_, ?_, ?_, ?_, ?_, ?_, ?_⟩ <;> omega
attribute [local go_sem ↓] ldq_n8
set_option maxRecDepth 100000 in
set_option maxHeartbeats 1000000 in
theorem rread_n (A : Option Addr) (c : Nat) (us : List UInt8) (w : World) (h : Rd w A 32 (u8s us)) :
    Calls Tryz.prog 29 #[.slice A 32 c] w fun e w' => e = .returned (.tuple #[.agg (n8 (readN us)).toArray, .int .i64 0]) ∧ Below w.heap.size w w' := by
  have HR := Lib.hid h
  have HL := Lib.hid h.len
  have HB0 : Hid (Blk ((w.alloc (.cells o8.toArray 56)).alloc (.cells o8.toArray 56)) w.heap.size 56 o8 ∧ Blk ((w.alloc (.cells o8.toArray 56)).alloc (.cells o8.toArray 56)) (w.heap.size + 1) 56 (u32d ([] ++ List.replicate (8 - 0) 0)) ∧ Below w.heap.size w ((w.alloc (.cells o8.toArray 56)).alloc (.cells o8.toArray 56))) :=
    ⟨(Blk.new w _ _).alloc _, Blk.new' (by simp) rfl, ((Below.refl _ w).alloc (Nat.le_refl _) _).alloc (by simp) _⟩
  clear h
  go_enter Tryz.func29, Tryz.ntmps29
  go_wp2
  go_loopg [5] 8 (fun kk q wr => ∃ (i : Nat) (ds : List Nat), kk = 8 - i ∧ q = .int .i64 (i : Int) ∧ i ≤ 8 ∧ ds.length = i ∧ (∀ x ∈ ds, x < 4294967296) ∧ numL 4294967296 ds = leN (us.take (4 * i)) ∧ Blk wr w.heap.size 56 o8 ∧ Blk wr (w.heap.size + 1) 56 (u32d (ds ++ List.replicate (8 - i) 0)) ∧ Below w.heap.size w wr)
  case atStart => exact ⟨0, [], rfl, rfl, by omega, rfl, by simp, by rw [Nat.mul_zero, List.take_zero]; rfl, HB0.out⟩
  case round =>
    clear HB0
    obtain ⟨i, ds, hgk, rfl, hi, hds, hdl, hnum, hZ, hO, hE⟩ := hrel
    rcases Nat.lt_or_ge i 8 with hlt | hge
    · have hlt2 : (i : Int) < 8 := by omega
      obtain ⟨k, hk⟩ : ∃ k, k = 4 * i := ⟨_, rfl⟩
      have hki : (4 : Int) * (i : Int) = (k : Int) := by omega
      obtain ⟨d, hd⟩ : ∃ d, d = leNat ((us.drop k).take 4) := ⟨_, rfl⟩
      have hd32 : d < 4294967296 := by
        have h1 := leNat_lt ((us.drop k).take 4)
        rw [List.length_take, List.length_drop, HL.out, show min 4 (32 - k) = 4 by omega] at h1
        rw [hd]; exact h1
      have HG : Hid (Calls Tryz.prog 55 #[.int .i64 1, .slice A 32 c, .int .i64 (k : Int), .int .i64 4] wr fun e w' => e = .returned (.tuple #[.int .u64 (d : Int), .int .i64 0]) ∧ wr = w') := hd ▸ rget_1 A 32 c k 4 us wr (HR.out.below hE) (by omega) (by omega) (by omega) (by omega)
      have cz : wr.cell? ⟨w.heap.size + 1, i, none⟩ = some (.int .u32 (((ds ++ List.replicate (8 - i) 0).getD i 0 : Nat) : Int)) := (hO.cell i).trans (u32d_get (by simp; omega))
      have fz : wr.frozen? ⟨w.heap.size + 1, i, none⟩ = false := hO.frozen i
      have hdm : (d : Int) % 4294967296 = (d : Int) := by omega
      have HST : Hid (numL 4294967296 (ds ++ [d]) = leN (us.take (4 * (i + 1)))) := (by
        show _ = _
        rw [numL_snoc, hds, hnum, leN_four us i (by rw [HL.out]; omega), hd, leNat_leN, hk])
      have HDL := Lib.hid (snoc_lt hdl hd32)
      have HDS : Hid ((ds ++ [d]).length = i + 1) := by show _ = _; simp [hds]
      have HGK := Lib.hid hgk
      have HZ := Lib.hid (hZ.far (p := ⟨w.heap.size + 1, i, none⟩) (by show w.heap.size ≠ w.heap.size + 1; omega) (.int .u32 (d : Int)))
      have HO : Hid (Blk (wr.setCell ⟨w.heap.size + 1, i, none⟩ (.int .u32 (d : Int))) (w.heap.size + 1) 56 (u32d ((ds ++ [d]) ++ List.replicate (8 - (i + 1)) 0))) := by
        have h1 := hO.set_ i (.int .u32 (d : Int))
        rw [u32d_set, pad_set ds i 8 d hds hlt] at h1
        exact h1
      have HE := Lib.hid (hE.setCell (p := ⟨w.heap.size + 1, i, none⟩) (by show w.heap.size ≤ w.heap.size + 1; omega) (.int .u32 (d : Int)))
      clear hZ hO hE hgk hnum hds hdl hd hk
      go_wp2_with (go_at_call 55; (with_reducible refine HG.out.mono ?_); rintro e w1 ⟨rfl, rfl⟩)
      go_roundg (8 - (i + 1))
      case measure => have := HGK.out; omega
      case rel => exact ⟨i + 1, ds ++ [d], rfl, by go_num, by omega, HDS.out, HDL.out, HST.out, HZ.out, HO.out, HE.out⟩
    · obtain rfl : i = 8 := by omega
      have hlt2 : ¬ ((8 : Nat) : Int) < 8 := by omega
      rw [List.take_of_length_le (by rw [HL.out]; omega)] at hnum
      rw [show 8 - 8 = 0 by omega, List.replicate_zero, List.append_nil, n8_of hds hdl, hnum] at hO
      obtain ⟨V, hV⟩ : ∃ V, V = leN us := ⟨_, rfl⟩
      rw [← hV] at hO
      obtain ⟨d7, hd7⟩ : ∃ d7, d7 = (dig 8 V).getD 7 0 := ⟨_, rfl⟩
      have c7 : wr.cell? ⟨w.heap.size + 1, 7, none⟩ = some (.int .u32 (d7 : Int)) := (hO.cell 7).trans (hd7 ▸ u32d_get (by rw [dig_len]; omega))
      have f7 : wr.frozen? ⟨w.heap.size + 1, 7, none⟩ = false := hO.frozen 7
      have HO : Hid (Blk (wr.setCell ⟨w.heap.size + 1, 7, none⟩ (.int .u32 ((d7 : Int) % 2147483648))) (w.heap.size + 1) 56 (n8 (V % 57896044618658097711785492504343953926634992332820282019728792003956564819968))) := by
        have h1 := hO.set_ 7 (.int .u32 ((d7 : Int) % 2147483648))
        rw [n8, show (d7 : Int) % 2147483648 = ((d7 % 2147483648 : Nat) : Int) by omega, u32d_set, hd7, n8_cut V] at h1
        rw [show (d7 : Int) % 2147483648 = ((d7 % 2147483648 : Nat) : Int) by omega, hd7]
        exact h1
      have HZ := Lib.hid (hZ.far (p := ⟨w.heap.size + 1, 7, none⟩) (by show w.heap.size ≠ w.heap.size + 1; omega) (.int .u32 ((d7 : Int) % 2147483648)))
      have HE := Lib.hid (hE.setCell (p := ⟨w.heap.size + 1, 7, none⟩) (by show w.heap.size ≤ w.heap.size + 1; omega) (.int .u32 ((d7 : Int) % 2147483648)))
      have hld := n8_run HO.out
      have HNO := Lib.hid (fun W => rnorm_n (V % 57896044618658097711785492504343953926634992332820282019728792003956564819968) (by omega) W)
      have HV := Lib.hid hV
      clear hZ hO hE hgk hnum hds hdl hV hd7
      go_wp2_with (first
        | (go_at_call 27; (with_reducible refine (HNO.out _).mono ?_); rintro e w4 ⟨rfl, hB1⟩; have HZ4 := qbl HZ hB1; have HE4 := qtr HE hB1; clear hB1)
        | (refine wpList_store_all rfl 56 (.tmp 2) (.tmp 32) rfl w.heap.size (n8 (V % 57896044618658097711785492504343953926634992332820282019728792003956564819968 % pr)) (by rfl) (by rfl) 56 _ HZ4.out (by exact hdN8' _) (n8_one _) (by rw [n8_len]; rfl) ?_; intro w5 hb5 ho5; have HB5 := Lib.hid hb5; have HE5 := Lib.hid (ho5.below HE4.out (Nat.le_refl _) HE4.out.size); clear hb5 ho5))
      exact bodyPost_ret (res_cell_tmp rfl _ _ _ _ rfl HB5.out _ Tryz.underlying56 rfl (by exact hdN8' _)) rfl ⟨by rw [readN, HV.out]; rfl, HE5.out⟩
end Go.Proofs.YtlbnibmcflmohaaGreat
namespace Go.Proofs.YtlbnibmcflmohaaGreat
open Go.RowKit
set_option maxRecDepth 100000 in
theorem cl_q : ∀ n, n < 256 → (n &&& 248) = n / 8 * 8 := by decide
set_option maxRecDepth 100000 in
theorem cl_r : ∀ n, n < 256 → (n &&& 127 ||| 64) = n % 64 + 64 := by decide
attribute [local go_sem ↓] ldq_b32
set_option maxRecDepth 100000 in
set_option maxHeartbeats 1000000 in
theorem rclamp_n (A : Option Addr) (n c : Nat) (ks : List UInt8) (w : World) (h : Rd w A n (u8s ks)) (hn : n = 32) :
    Calls Tryz.prog 28 #[.slice A n c] w fun e w' => e = .returned (.tuple #[.agg (u8s (clampB ks)).toArray, .int .i64 0]) ∧ Below w.heap.size w w' := by
  have HR := Lib.hid h
  have HL := Lib.hid h.len
  have HM0 : Hid (Blk ((w.alloc (.cells (u8s (List.replicate 32 0)).toArray 26)).alloc (.cells (u8s (List.replicate 32 0)).toArray 26)) w.heap.size 26 (u8s (List.replicate 32 0)) ∧ Blk ((w.alloc (.cells (u8s (List.replicate 32 0)).toArray 26)).alloc (.cells (u8s (List.replicate 32 0)).toArray 26)) (w.heap.size + 1) 26 (u8s (List.replicate 32 0)) ∧ Below w.heap.size w ((w.alloc (.cells (u8s (List.replicate 32 0)).toArray 26)).alloc (.cells (u8s (List.replicate 32 0)).toArray 26))) :=
    ⟨(Blk.new w _ _).alloc _, Blk.new' (by simp) rfl, ((Below.refl _ w).alloc (Nat.le_refl _) _).alloc (by simp) _⟩
  have hn2 : (n : Int) = 32 := by omega
  clear h
  go_enter Tryz.func28, Tryz.ntmps28
  go_upto_region 5 with (refine wpList_copy rfl (.tmp 9) (.tmp 10) 23 rfl 5 Tryz.underlying23 u8_one1 (w.heap.size + 1) 0 32 32 (by rfl) A _ c (by rfl) 26 _ (by exact HM0.out.2.1) (u8s ks) (by first | exact (HR.out.alloc _).alloc _ | exact hn ▸ (HR.out.alloc _).alloc _) (u8s_one _) (by simp [u8s_length]) ?_; intro w2 hb2 ho2)
  have hlen : ks.length = 32 := by rw [HL.out, hn]
  have hsp : splice (u8s (List.replicate 32 0)) 0 ((u8s ks).take 32) = u8s ks := by
    rw [List.take_of_length_le (by rw [u8s_length]; omega), splice_whole _ _ (by rw [u8s_length, u8s_length, hlen]; rfl)]
  rw [hsp] at hb2
  have HZ := Lib.hid (ho2.blk HM0.out.1 (by omega))
  have HE := Lib.hid (ho2.below HM0.out.2.2 (by omega) HM0.out.2.2.size)
  have HLn := Lib.hid hlen
  have HB := Lib.hid hb2
  clear hsp hlen hb2 ho2 HM0 HR hn
  obtain ⟨x, hx⟩ : ∃ x, x = ks.getD 0 0 := ⟨_, rfl⟩
  obtain ⟨y, hy⟩ : ∃ y, y = ks.getD 31 0 := ⟨_, rfl⟩
  have hc : w2.cell? ⟨w.heap.size + 1, 0, none⟩ = some (.int .u8 ((x.toNat : Nat) : Int)) := by
    refine (HB.out.cell 0).trans ?_
    rw [u8s_getElem?, hx, List.getD_eq_getElem?_getD, List.getElem?_eq_getElem (by rw [HLn.out]; omega)]; rfl
  have hf : w2.frozen? ⟨w.heap.size + 1, 0, none⟩ = false := HB.out.frozen 0
  obtain ⟨x2, hx2⟩ : ∃ x2, x2 = x &&& UInt8.ofNat 248 := ⟨_, rfl⟩
  obtain ⟨d8, hd8⟩ : ∃ d8, d8 = x.toNat / 8 := ⟨_, rfl⟩
  have hq8 : (x.toNat : Int) / 8 = (d8 : Int) := by omega
  have hm8 : (d8 : Int) * 8 = (x2.toNat : Int) := by
    have h1 : x2.toNat = x.toNat / 8 * 8 := by rw [hx2, UInt8.toNat_and]; exact cl_q x.toNat x.toNat_lt
    omega
  have hx8 : (x2.toNat : Int) < 256 := by have := x2.toNat_lt; omega
  have HX2 := Lib.hid hx2
  clear hx2 hd8
  have HX := Lib.hid hx
  have HY := Lib.hid hy
  clear hx hy
  go_upto_region 6 with (fail)
  obtain ⟨w3, hw3⟩ : ∃ w3, w3 = w2.setCell ⟨w.heap.size + 1, 0, none⟩ (.int .u8 (x2.toNat : Int)) := ⟨_, rfl⟩
  have HB3 : Hid (Blk w3 (w.heap.size + 1) 26 (u8s (ks.set 0 x2))) := hw3 ▸ (u8s_set ks 0 x2) ▸ HB.out.set_ 0 _
  have HZ3 : Hid (Blk w3 w.heap.size 26 (u8s (List.replicate 32 0))) := hw3 ▸ HZ.out.far (by show w.heap.size ≠ w.heap.size + 1; omega) _
  have HE3 : Hid (Below w.heap.size w w3) := hw3 ▸ HE.out.setCell (by show w.heap.size ≤ w.heap.size + 1; omega) _
  rw [← hw3]
  clear hw3 hc hf hq8 hm8 hx8 HB HZ HE
  have hc : w3.cell? ⟨w.heap.size + 1, 31, none⟩ = some (.int .u8 ((y.toNat : Nat) : Int)) := by
    refine (HB3.out.cell 31).trans ?_
    rw [u8s_getElem?, List.getElem?_set_ne (by omega), HY.out, List.getD_eq_getElem?_getD, List.getElem?_eq_getElem (by rw [HLn.out]; omega)]; rfl
  have hf : w3.frozen? ⟨w.heap.size + 1, 31, none⟩ = false := HB3.out.frozen 31
  obtain ⟨y3, hy3⟩ : ∃ y3, y3 = y &&& UInt8.ofNat 127 ||| UInt8.ofNat 64 := ⟨_, rfl⟩
  obtain ⟨r6, hr6⟩ : ∃ r6, r6 = y.toNat % 64 := ⟨_, rfl⟩
  have hq6 : (y.toNat : Int) % 64 = (r6 : Int) := by omega
  have hm6 : (r6 : Int) + 64 = (y3.toNat : Int) := by
    have h1 : y3.toNat = y.toNat % 64 + 64 := by rw [hy3, UInt8.toNat_or, UInt8.toNat_and]; exact cl_r y.toNat y.toNat_lt
    omega
  have hy8 : (y3.toNat : Int) < 256 := by have := y3.toNat_lt; omega
  have HY3 := Lib.hid hy3
  clear hy3 hr6
  go_upto_region 7 with (fail)
  obtain ⟨w5, hw5⟩ : ∃ w5, w5 = w3.setCell ⟨w.heap.size + 1, 31, none⟩ (.int .u8 (y3.toNat : Int)) := ⟨_, rfl⟩
  have HB5 : Hid (Blk w5 (w.heap.size + 1) 26 (u8s (clampB ks))) := by
    have h1 := HB3.out.set_ 31 (.int .u8 (y3.toNat : Int))
    rw [← hw5, u8s_set, HY3.out, HX2.out, HX.out, HY.out] at h1
    exact h1
  have HZ5 : Hid (Blk w5 w.heap.size 26 (u8s (List.replicate 32 0))) := hw5 ▸ HZ3.out.far (by show w.heap.size ≠ w.heap.size + 1; omega) _
  have HE5 : Hid (Below w.heap.size w w5) := hw5 ▸ HE3.out.setCell (by show w.heap.size ≤ w.heap.size + 1; omega) _
  rw [← hw5]
  clear hw5 hc hf hq6 hm6 hy8 HB3 HZ3 HE3
  have hcl : (clampB ks).length = 32 := by rw [clampB_len, HLn.out]
  have hld : (ldAt 26 (.pointer (some ⟨w.heap.size + 1, 0, none⟩))).run Tryz.prog w5 = .ok (.agg (u8s (clampB ks)).toArray) w5 := ldAt_run HB5.out 26 0 (u8s (clampB ks)) (by rw [List.drop_zero]; exact List.take_of_length_le (Nat.le_refl _)) _ Tryz.underlying26 rfl (by rw [u8s_length, hcl]; exact hd32)
  have HCL := Lib.hid hcl
  clear hcl
  go_wp2_with (refine wpList_store_all rfl 26 (.tmp 2) (.tmp 22) rfl w.heap.size (u8s (clampB ks)) (by rfl) (by rfl) 26 _ HZ5.out (by rw [u8s_length, HCL.out]; exact hd32) (u8s_one _) (by rw [u8s_length, u8s_length, HCL.out]; rfl) ?_; intro w6 hb6 ho6; have HB6 := Lib.hid hb6; have HE6 := Lib.hid (ho6.below HE5.out (Nat.le_refl _) HE5.out.size); clear hb6 ho6)
  exact bodyPost_ret (res_cell_tmp rfl _ _ _ _ rfl HB6.out _ Tryz.underlying26 rfl (by rw [u8s_length, HCL.out]; exact hd32)) rfl ⟨rfl, HE6.out⟩
end Go.Proofs.YtlbnibmcflmohaaGreat
