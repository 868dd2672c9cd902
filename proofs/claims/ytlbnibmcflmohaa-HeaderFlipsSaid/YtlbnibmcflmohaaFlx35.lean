/- Part of the proof: RdF, Mlu. -/
import Derived.Test.YtlbnibmcflmohaaFlx33
namespace Go.Proofs.Ytlbnibmcflmohaa
open Go.RowKit
theorem leN_take (us : List UInt8) (i : Nat) (hi : i < us.length) : leN (us.take (i + 1)) = leN (us.take i) + (us.getD i 0).toNat * 256 ^ i := by
  have h := numL_take 256 (us.map (·.toNat)) i (by simpa using hi)
  simp only [leN, List.map_take]
  rw [h]
  congr 2
  simp only [List.getD_eq_getElem?_getD, List.getElem?_map, List.getElem?_eq_getElem hi]
  rfl
theorem leN_lt (us : List UInt8) : leN us < 256 ^ us.length := by
  have h := numL_lt 256 (us.map (·.toNat)) (by intro x hx; obtain ⟨c, _, rfl⟩ := List.mem_map.1 hx; exact c.toNat_lt)
  rw [List.length_map] at h
  exact h
theorem l4c {a b c d a' b' c' d' : Nat} (h0 : a = a') (h1 : b = b') (h2 : c = c') (h3 : d = d') : l4 a b c d = l4 a' b' c' d' := by subst h0; subst h1; subst h2; subst h3; rfl
theorem elc_add (V m c q : Nat) (hq : q < 4) (hV : V < 18446744073709551616 ^ q * c) (hm : m + c ≤ 18446744073709551616) :
    (elc V).set q (.int .u64 ((limb V q + m : Nat) : Int)) = elc (V + 18446744073709551616 ^ q * m) := by
  rcases q with _ | _ | _ | _ | q
  · simp only [limb, Nat.pow_zero, Nat.one_mul, Nat.div_one] at *
    refine l4c ?_ ?_ ?_ ?_ <;> omega
  · simp only [limb, Nat.zero_add, Nat.reducePow] at *
    refine l4c ?_ ?_ ?_ ?_ <;> omega
  · simp only [limb, Nat.zero_add, Nat.reducePow, Nat.reduceAdd] at *
    refine l4c ?_ ?_ ?_ ?_ <;> omega
  · simp only [limb, Nat.zero_add, Nat.reducePow, Nat.reduceAdd] at *
    refine l4c ?_ ?_ ?_ ?_ <;> omega
  · omega
theorem elc_cut (V : Nat) : (elc V).set 3 (.int .u64 ((limb V 3 % 9223372036854775808 : Nat) : Int)) = elc (V % 57896044618658097711785492504343953926634992332820282019728792003956564819968) := by
  simp only [limb, Nat.reducePow]
  refine l4c ?_ ?_ ?_ ?_ <;> omega
theorem or_low (L x s : Nat) (hL : L < 2 ^ s) (hx : x < 256) (hs : s ≤ 56) : bits .or .u64 (L : Int) ((x * 2 ^ s : Nat) : Int) = ((L + x * 2 ^ s : Nat) : Int) := by
  have h1 : 2 ^ s ≤ 2 ^ 56 := Nat.pow_le_pow_right (by omega) hs
  have h2 : x * 2 ^ s ≤ 255 * 2 ^ s := Nat.mul_le_mul_right _ (by omega)
  rw [show (2 : Nat) ^ 56 = 72057594037927936 by rfl] at h1
  rw [bits_or_u64_nat _ _ (by omega) (by omega), Nat.or_comm, Nat.mul_comm x, ← Nat.two_pow_add_eq_or_of_lt hL, Nat.add_comm]
attribute [local go_sem ↓] ldq_el
set_option maxRecDepth 100000 in
set_option maxHeartbeats 1000000 in
theorem read_el (A : Option Addr) (n c : Nat) (us : List UInt8) (w : World) (h : Rd w A n (u8s us)) (hn : n = 32) :
    Calls Try.prog 50 #[.slice A n c] w fun e w' => e = .returned (.tuple #[.agg (elc (readN us)).toArray, .int .i64 0]) ∧ Below w.heap.size w w' := by
  have HR := Lib.hid h
  have HL := Lib.hid h.len
  have HM0 : Hid (Blk ((w.alloc (.cells (l4 0 0 0 0).toArray 108)).alloc (.cells (l4 0 0 0 0).toArray 108)) w.heap.size 108 (l4 0 0 0 0) ∧ Blk ((w.alloc (.cells (l4 0 0 0 0).toArray 108)).alloc (.cells (l4 0 0 0 0).toArray 108)) (w.heap.size + 1) 108 (elc 0) ∧ Below w.heap.size w ((w.alloc (.cells (l4 0 0 0 0).toArray 108)).alloc (.cells (l4 0 0 0 0).toArray 108))) :=
    ⟨(Blk.new w _ _).alloc _, Blk.new' (by simp) rfl, ((Below.refl _ w).alloc (Nat.le_refl _) _).alloc (by simp) _⟩
  have hn2 : (n : Int) = 32 := by omega
  clear h
  go_enter Try.func50, Try.ntmps50
  go_wp2
  go_loopg [13] 32 (fun kk q wr => ∃ i : Nat, kk = 32 - i ∧ q = .int .i64 (i : Int) ∧ i ≤ 32 ∧ Blk wr w.heap.size 108 (l4 0 0 0 0) ∧ Blk wr (w.heap.size + 1) 108 (elc (leN (us.take i))) ∧ Below w.heap.size w wr)
  case atStart => exact ⟨0, rfl, rfl, by omega, HM0.out.1, by rw [List.take_zero]; exact HM0.out.2.1, HM0.out.2.2⟩
  case round =>
    clear HM0
    obtain ⟨i, hgk, rfl, hi, hZ, hS, hE⟩ := hrel
    rcases Nat.lt_or_ge i 32 with hlt | hge
    · have hlt2 : (i : Int) < 32 := by omega
      have hln : i < us.length := by rw [HL.out, hn]; exact hlt
      obtain ⟨b, off, x, rfl, hbw, hux, hcw⟩ := HR.out.u8 (k := i) (by omega)
      have hcx : wr.cell? ⟨b, off + i, none⟩ = some (.int .u8 ((x.toNat : Nat) : Int)) := (hE.cell hbw).trans hcw
      obtain ⟨q, hq⟩ : ∃ q, q = i / 8 := ⟨_, rfl⟩
      obtain ⟨r, hr⟩ : ∃ r, r = i % 8 := ⟨_, rfl⟩
      obtain ⟨s, hs⟩ : ∃ s, s = 8 * r := ⟨_, rfl⟩
      obtain ⟨V, hV⟩ : ∃ V, V = leN (us.take i) := ⟨_, rfl⟩
      rw [← hV] at hS
      obtain ⟨L, hL⟩ : ∃ L, L = limb V q := ⟨_, rfl⟩
      have hVl : V < 18446744073709551616 ^ q * 2 ^ s := by
        have h1 := leN_lt (us.take i)
        rw [List.length_take, Nat.min_eq_left (Nat.le_of_lt hln), ← hV] at h1
        have h2 : (256 : Nat) ^ i = 18446744073709551616 ^ q * 2 ^ s := by
          rw [hq, hs, hr, show (256 : Nat) = 2 ^ 8 by rfl, show (18446744073709551616 : Nat) = 2 ^ 64 by rfl, ← Nat.pow_mul, ← Nat.pow_mul, ← Nat.pow_add]
          congr 1
          omega
        rw [← h2]; exact h1
      have hLs : L < 2 ^ s := by
        rw [hL, limb]
        exact Nat.lt_of_le_of_lt (Nat.mod_le _ _) (Nat.div_lt_of_lt_mul hVl)
      have hx8 := x.toNat_lt
      have hs56 : s ≤ 56 := by omega
      have cl : wr.cell? ⟨w.heap.size + 1, q, none⟩ = some (.int .u64 (L : Int)) := (hS.cell q).trans (hL ▸ elc_limb V q (by omega))
      have ff : wr.frozen? ⟨w.heap.size + 1, q, none⟩ = false := hS.frozen q
      have hqi : (i : Int) / 8 = (q : Int) := by omega
      have hri : (i : Int) % 8 = (r : Int) := by omega
      have hsi : (8 : Int) * (r : Int) = (s : Int) := by omega
      have hq4 : (q : Int) < 4 := by omega
      have hr8 : (r : Int) < 8 := by omega
      have hs64 : (s : Int) < 64 := by omega
      obtain ⟨X, hX⟩ : ∃ X, X = x.toNat := ⟨_, rfl⟩
      rw [← hX] at hcx hx8
      obtain ⟨m, hm⟩ : ∃ m, m = X * 2 ^ s := ⟨_, rfl⟩
      have hmi : (X : Int) * 2 ^ s = (m : Int) := by rw [hm]; push_cast; rfl
      have hor : bits .or .u64 (L : Int) (m : Int) = ((L + m : Nat) : Int) := by rw [hm]; exact or_low L X s hLs hx8 hs56
      have HVN : Hid (leN (us.take (i + 1)) = V + 18446744073709551616 ^ q * m) := by
        show _ = _
        have h2 : (256 : Nat) ^ i = 18446744073709551616 ^ q * 2 ^ s := by
          rw [hq, hs, hr, show (256 : Nat) = 2 ^ 8 by rfl, show (18446744073709551616 : Nat) = 2 ^ 64 by rfl, ← Nat.pow_mul, ← Nat.pow_mul, ← Nat.pow_add]
          congr 1
          omega
        rw [leN_take us i hln, ← hV, List.getD_eq_getElem?_getD, hux, h2, hm, hX, Nat.mul_left_comm]
        rfl
      have HSET : Hid ((elc V).set q (.int .u64 ((L + m : Nat) : Int)) = elc (V + 18446744073709551616 ^ q * m)) := by
        show _ = _
        rw [hL]
        refine elc_add V m (2 ^ s) q (by omega) hVl ?_
        have h1 : 2 ^ s ≤ 2 ^ 56 := Nat.pow_le_pow_right (by omega) hs56
        have h2 : X * 2 ^ s ≤ 255 * 2 ^ s := Nat.mul_le_mul_right _ (by omega)
        rw [show (2 : Nat) ^ 56 = 72057594037927936 by rfl] at h1
        omega
      have hml : m < 18446744073709551616 := by
        have h1 : 2 ^ s ≤ 2 ^ 56 := Nat.pow_le_pow_right (by omega) hs56
        have h2 : X * 2 ^ s ≤ 255 * 2 ^ s := Nat.mul_le_mul_right _ (by omega)
        rw [show (2 : Nat) ^ 56 = 72057594037927936 by rfl] at h1
        omega
      have HGK := Lib.hid hgk
      have HZ := Lib.hid (hZ.far (p := ⟨w.heap.size + 1, q, none⟩) (by simp) (.int .u64 ((L + m : Nat) : Int)))
      have HS : Hid (Blk (wr.setCell ⟨w.heap.size + 1, q, none⟩ (.int .u64 ((L + m : Nat) : Int))) (w.heap.size + 1) 108 (elc (leN (us.take (i + 1))))) := by
        rw [HVN.out, ← HSET.out]
        exact hS.set_ q _
      have HE := Lib.hid (hE.setCell (p := ⟨w.heap.size + 1, q, none⟩) (Nat.le_succ _) (.int .u64 ((L + m : Nat) : Int)))
      have hsm : (X : Int) % 18446744073709551616 = (X : Int) := by omega
      clear hZ hS hE hgk hm hL hs hr hq hX hcw hux hV hVl hLs HVN HSET hln hbw
      go_wp2
      go_roundg (32 - (i + 1))
      case measure => have := HGK.out; omega
      case rel => exact ⟨i + 1, rfl, by go_num, by omega, HZ.out, HS.out, HE.out⟩
    · obtain rfl : i = 32 := by omega
      have hlt2 : ¬ ((32 : Nat) : Int) < 32 := by omega
      rw [List.take_of_length_le (by rw [HL.out, hn]; exact Nat.le_refl _)] at hS
      obtain ⟨V, hV⟩ : ∃ V, V = leN us := ⟨_, rfl⟩
      rw [← hV] at hS
      have hVl : V < 115792089237316195423570985008687907853269984665640564039457584007913129639936 := by
        have := leN_lt us
        rw [HL.out, hn, ← hV] at this
        exact this
      obtain ⟨L, hL⟩ : ∃ L, L = limb V 3 := ⟨_, rfl⟩
      have hL64 : L < 18446744073709551616 := by rw [hL]; exact Nat.mod_lt _ (by omega)
      have cl : wr.cell? ⟨w.heap.size + 1, 3, none⟩ = some (.int .u64 (L : Int)) := (hS.cell 3).trans (hL ▸ elc_limb V 3 (by omega))
      have ff : wr.frozen? ⟨w.heap.size + 1, 3, none⟩ = false := hS.frozen 3
      have hand := and63 L hL64
      have HS := hS.set_ 3 (.int .u64 ((L : Int) % 9223372036854775808))
      rw [show (elc V).set 3 (.int .u64 ((L : Int) % 9223372036854775808)) = elc (V % 57896044618658097711785492504343953926634992332820282019728792003956564819968) by rw [show (L : Int) % 9223372036854775808 = ((L % 9223372036854775808 : Nat) : Int) by omega, hL]; exact elc_cut V] at HS
      have HS := Lib.hid HS
      have HZ := Lib.hid (hZ.far (p := ⟨w.heap.size + 1, 3, none⟩) (by simp) (.int .u64 ((L : Int) % 9223372036854775808)))
      have HE := Lib.hid (hE.setCell (p := ⟨w.heap.size + 1, 3, none⟩) (Nat.le_succ _) (.int .u64 ((L : Int) % 9223372036854775808)))
      have hld := elc_ld HS.out
      have HN := Lib.hid (fun W => norm_el (V % 57896044618658097711785492504343953926634992332820282019728792003956564819968) (by omega) W)
      have HV := Lib.hid hV
      clear hZ hS hE hgk hL hV hVl
      go_wp2_with (first
        | ((with_reducible refine (HN.out _).mono ?_); rintro e w4 ⟨rfl, hB1⟩; have HZ4 := qbl HZ hB1; have HE4 := qtr HE hB1; clear hB1)
        | (refine wpList_store_all rfl 108 (.tmp 2) (.tmp 37) rfl w.heap.size (elc (V % 57896044618658097711785492504343953926634992332820282019728792003956564819968 % pr)) (by rfl) (by rfl) 108 _ HZ4.out (by exact hdEl) (elc_one _) rfl ?_; intro w5 hb5 ho5; have HB5 := Lib.hid hb5; have HE5 := Lib.hid (ho5.below HE4.out (Nat.le_refl _) HE4.out.size); clear hb5 ho5))
      exact bodyPost_ret (res_cell_tmp rfl _ _ _ _ rfl HB5.out _ Try.underlying108 rfl (by exact hdEl)) rfl ⟨by rw [readN, HV.out]; rfl, HE5.out⟩
end Go.Proofs.Ytlbnibmcflmohaa
namespace Go.Proofs.Ytlbnibmcflmohaa
open Go.RowKit
theorem leN_map (n : Nat) : ∀ k, leN ((List.range k).map fun i => UInt8.ofNat (n / 256 ^ i)) = n % 256 ^ k
  | 0 => by simp [leN, numL, Nat.mod_one]
  | k + 1 => by
      have ih := leN_map n k
      have h := leN_take ((List.range (k + 1)).map fun i => UInt8.ofNat (n / 256 ^ i)) k (by simp)
      rw [List.take_of_length_le (by simp)] at h
      rw [h, ← List.map_take, List.take_range, Nat.min_eq_left (Nat.le_succ k), ih, Nat.pow_succ, Nat.mod_mul]
      congr 1
      rw [List.getD_eq_getElem?_getD, List.getElem?_map, List.getElem?_range (Nat.lt_succ_self k)]
      show (UInt8.ofNat (n / 256 ^ k)).toNat * 256 ^ k = _
      rw [UInt8.toNat_ofNat', Nat.mul_comm]
theorem leB_len (n : Nat) : (leB n).length = 32 := by simp [leB]
theorem leN_leB {n : Nat} (h : n < 115792089237316195423570985008687907853269984665640564039457584007913129639936) : leN (leB n) = n := by
  rw [leB, leN_map]
  exact Nat.mod_eq_of_lt h
theorem clampB_len (k : List UInt8) : (clampB k).length = k.length := by simp [clampB]
end Go.Proofs.Ytlbnibmcflmohaa
