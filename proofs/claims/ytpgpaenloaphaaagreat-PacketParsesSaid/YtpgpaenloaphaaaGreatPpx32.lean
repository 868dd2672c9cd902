/- Part of the proof: Byt, RdF. -/
import Derived.Test.YtpgpaenloaphaaaGreatPpx30
namespace Go.Proofs.YtpgpaenloaphaaaGreat
open Go.RowKit
def leB (n : Nat) : List UInt8 := (List.range 32).map fun i => UInt8.ofNat (n / 256 ^ i)
def leBi (n : Nat) : Nat → List UInt8
 | 0 => List.replicate 32 0
 | i + 1 => (leBi n i).set i (UInt8.ofNat (n / 256 ^ i))
theorem leBi_len (n i : Nat) : (leBi n i).length = 32 := by
 induction i with
 | zero => rfl
 | succ i ih => rw [leBi, List.length_set, ih]
theorem leBi_get (n i j : Nat) (hi : i ≤ 32) (hj : j < i) : (leBi n i)[j]? = some (UInt8.ofNat (n / 256 ^ j)) := by
 induction i with
 | zero => omega
 | succ i ih =>
   rw [leBi]
   by_cases h : i = j
   · subst h
     rw [List.getElem?_set_self (by rw [leBi_len]; omega)]
   · rw [List.getElem?_set_ne h]
     exact ih (by omega) (by omega)
theorem leBi_all (n : Nat) : leBi n 32 = leB n := by
 apply List.ext_getElem?
 intro j
 by_cases hj : j < 32
 · rw [leBi_get n 32 j (Nat.le_refl _) hj, leB, List.getElem?_map, List.getElem?_range hj]; rfl
 · rw [List.getElem?_eq_none (by rw [leBi_len]; omega), List.getElem?_eq_none (by rw [leB]; simp; omega)]
def limb (n q : Nat) : Nat := n / 18446744073709551616 ^ q % 18446744073709551616
theorem elc_limb (n q : Nat) (hq : q < 4) : (elc n)[q]? = some (.int .u64 ((limb n q : Nat) : Int)) := by
 rcases q with _ | _ | _ | _ | q
 · simp [elc, l4, limb]
 · simp [elc, l4, limb]
 · simp [elc, l4, limb]
 · simp [elc, l4, limb]
 · omega
theorem limb_byte (n i : Nat) : limb n (i / 8) / 2 ^ (8 * (i % 8)) % 256 = n / 256 ^ i % 256 := by
 have h1 : (256 : Nat) ^ i = 18446744073709551616 ^ (i / 8) * 2 ^ (8 * (i % 8)) := by
   rw [show (256 : Nat) = 2 ^ 8 by rfl, show (18446744073709551616 : Nat) = 2 ^ 64 by rfl, ← Nat.pow_mul, ← Nat.pow_mul, ← Nat.pow_add]
   congr 1
   omega
 rw [h1, ← Nat.div_div_eq_div_mul]
 unfold limb
 obtain ⟨m, hm⟩ : ∃ m, m = n / 18446744073709551616 ^ (i / 8) := ⟨_, rfl⟩
 rw [← hm]
 have h2 : i % 8 < 8 := Nat.mod_lt _ (by omega)
 obtain ⟨r, hr⟩ : ∃ r, r = i % 8 := ⟨_, rfl⟩
 rw [← hr] at h2 ⊢
 have : r = 0 ∨ r = 1 ∨ r = 2 ∨ r = 3 ∨ r = 4 ∨ r = 5 ∨ r = 6 ∨ r = 7 := by omega
 rcases this with rfl | rfl | rfl | rfl | rfl | rfl | rfl | rfl <;> simp <;> omega
theorem ldq_b32 (v : Value) : Instr.loadAt 23 v = ldAt 23 v := rfl
attribute [local go_sem ↓] ldq_el ldq_b32
theorem hd32 : (Tryz.prog.info? 23).map (·.size) = some 32 := by kernel_rfl
set_option maxRecDepth 100000 in
set_option maxHeartbeats 1000000 in
theorem bytes_el (n : Nat) (w : World) (hn : n < 115792089237316195423570985008687907853269984665640564039457584007913129639936) :
   Calls Tryz.prog 115 #[.agg (elc n).toArray] w fun e w' => e = .returned (.agg (u8s (leB (n % pr))).toArray) ∧ Below w.heap.size w w' := by
 have HN := qh (fun W => norm_el n hn W)
 have hld : ∀ o, (ldAt 184 (.pointer (some ⟨w.heap.size, 0, none⟩))).run Tryz.prog ((w.alloc (.cells (elc n).toArray 184)).alloc o) = .ok (.agg (elc n).toArray) ((w.alloc (.cells (elc n).toArray 184)).alloc o) := fun o => elc_ld ((Blk.new w 184 (elc n)).alloc o)
 have HE : Hid (∀ o, Below w.heap.size w ((w.alloc (.cells (elc n).toArray 184)).alloc o)) := fun o => ((Below.refl _ w).alloc (Nat.le_refl _) _).alloc (by simp) _
 have HA : Hid (∀ o, Blk ((w.alloc (.cells (elc n).toArray 184)).alloc o) w.heap.size 184 (elc n)) := fun o => (Blk.new w _ _).alloc o
 obtain ⟨W1, hW1⟩ : ∃ W1, W1 = (w.alloc (.cells (elc n).toArray 184)).alloc (.cells (u8s (leBi (n % pr) 0)).toArray 23) := ⟨_, rfl⟩
 have HR : Hid (Blk W1 (w.heap.size + 1) 23 (u8s (leBi (n % pr) 0)) ∧ Blk W1 w.heap.size 184 (elc n) ∧ Below w.heap.size w W1) := hW1 ▸ ⟨Blk.new' (by simp) rfl, HA.out _, HE.out _⟩
 clear HE HA
 go_enter Tryz.func115, Tryz.ntmps115
 go_upto_region 2 with (first
   | ((with_reducible refine (HN.out _).mono ?_); rintro e w1 ⟨rfl, hB0⟩; have hB1 : Below W1.heap.size W1 w1 := hW1 ▸ hB0; have HA1 := qh (HR.out.2.1.below hB1 HR.out.2.1.lt); have HR1 := qh (HR.out.1.below hB1 HR.out.1.lt); have HE1 := qh (HR.out.2.2.trans (hB1.mono HR.out.2.2.size)); clear hB0 hB1)
   | (refine wpList_store_all rfl 184 (.tmp 1) (.tmp 6) rfl w.heap.size (elc (n % pr)) (by rfl) (by rfl) 184 _ HA1.out (by exact hdEl) (elc_one _) rfl ?_; intro w2 hb2 ho2))
 obtain ⟨V, hV⟩ : ∃ V, V = n % pr := ⟨_, rfl⟩
 rw [← hV] at hb2 HR1 ⊢
 have HA2 := qh hb2
 have HR2 := qh (ho2.blk HR1.out (by omega))
 have HE2 := qh (ho2.below HE1.out (Nat.le_refl _) HE1.out.size)
 have HG : Hid (w.heap.size + 1 < w2.heap.size) := HR2.out.lt
 obtain ⟨W3, hW3⟩ : ∃ W3, W3 = w2.alloc (.cells (u8s (leBi V 0)).toArray 23) := ⟨_, rfl⟩
 have HS3 : Hid (Blk W3 w.heap.size 184 (elc V) ∧ Blk W3 (w.heap.size + 1) 23 (u8s (leBi V 0)) ∧ Blk W3 w2.heap.size 23 (u8s (leBi V 0)) ∧ Below w.heap.size w W3) := hW3 ▸ ⟨HA2.out.alloc _, HR2.out.alloc _, Blk.new' rfl rfl, HE2.out.alloc HE2.out.size _⟩
 have HV := qh hV
 clear hb2 ho2 hld HA1 HR1 HE1 HR hW1 HN hV
 go_wp2
 go_loopg [7] 32 (fun kk q wr => ∃ i : Nat, kk = 32 - i ∧ q = .int .i64 (i : Int) ∧ i ≤ 32 ∧ Blk wr w.heap.size 184 (elc V) ∧ Blk wr (w.heap.size + 1) 23 (u8s (leBi V 0)) ∧ Blk wr w2.heap.size 23 (u8s (leBi V i)) ∧ Below w.heap.size w wr)
 case atStart => exact ⟨0, rfl, rfl, by omega, hW3 ▸ HS3.out⟩
 case round =>
   clear HS3 hW3 HA2 HR2 HE2
   obtain ⟨i, hgk, rfl, hi, hA, hZ, hS, hE⟩ := hrel
   rcases Nat.lt_or_ge i 32 with hlt | hge
   · have hlt2 : (i : Int) < 32 := by omega
     have cc : wr.cell? ⟨w2.heap.size, i, none⟩ = some (.int .u8 (((leBi V i).getD i 0).toNat : Int)) := by
       refine (hS.cell i).trans ?_
       rw [u8s_getElem?, List.getD_eq_getElem?_getD, List.getElem?_eq_getElem (by rw [leBi_len]; exact hlt)]
       rfl
     have ff : wr.frozen? ⟨w2.heap.size, i, none⟩ = false := hS.frozen i
     obtain ⟨q, hq⟩ : ∃ q, q = i / 8 := ⟨_, rfl⟩
     obtain ⟨r, hr⟩ : ∃ r, r = i % 8 := ⟨_, rfl⟩
     obtain ⟨s, hs⟩ : ∃ s, s = 8 * r := ⟨_, rfl⟩
     obtain ⟨L, hL⟩ : ∃ L, L = limb V q := ⟨_, rfl⟩
     have cl : wr.cell? ⟨w.heap.size, q, none⟩ = some (.int .u64 (L : Int)) := (hA.cell q).trans (hL ▸ elc_limb V q (by omega))
     have hqi : (i : Int) / 8 = (q : Int) := by omega
     have hri : (i : Int) % 8 = (r : Int) := by omega
     have hsi : (8 : Int) * (r : Int) = (s : Int) := by omega
     have hq4 : (q : Int) < 4 := by omega
     have hr8 : (r : Int) < 8 := by omega
     have hs64 : (s : Int) < 64 := by omega
     obtain ⟨y, hyd⟩ : ∃ y, y = L / 2 ^ s := ⟨_, rfl⟩
     have hy : (L : Int) / 2 ^ s = (y : Int) := by rw [hyd]; push_cast; rfl
     have HY : Hid (UInt8.ofNat (V / 256 ^ i) = UInt8.ofNat y) := by
       show _ = _
       apply UInt8.toNat_inj.1
       rw [UInt8.toNat_ofNat', UInt8.toNat_ofNat', hyd, hL, hs, hr, hq]
       exact (limb_byte V i).symm
     have HGK := qh hgk
     have hg := HG.out
     have HA := qh (hA.far (p := ⟨w2.heap.size, i, none⟩) (by show w.heap.size ≠ w2.heap.size; omega) (.int .u8 ((y : Int) % 256)))
     have HZ := qh (hZ.far (p := ⟨w2.heap.size, i, none⟩) (by show w.heap.size + 1 ≠ w2.heap.size; omega) (.int .u8 ((y : Int) % 256)))
     have HS : Hid (Blk (wr.setCell ⟨w2.heap.size, i, none⟩ (.int .u8 ((y : Int) % 256))) w2.heap.size 23 (u8s (leBi V (i + 1)))) := by
       have h1 := hS.set_ i (.int .u8 ((y : Int) % 256))
       rw [show ((y : Int) % 256) = ((UInt8.ofNat (V / 256 ^ i)).toNat : Int) by rw [HY.out, UInt8.toNat_ofNat']; omega, u8s_set] at h1
       rw [show ((y : Int) % 256) = ((UInt8.ofNat (V / 256 ^ i)).toNat : Int) by rw [HY.out, UInt8.toNat_ofNat']; omega]
       exact h1
     have HE := qh (hE.setCell (p := ⟨w2.heap.size, i, none⟩) (by show w.heap.size ≤ w2.heap.size; omega) (.int .u8 ((y : Int) % 256)))
     clear hA hZ hS hE hgk hyd hL hs hr hq hg
     go_wp2
     go_roundg (32 - (i + 1))
     case measure => have := HGK.out; omega
     case rel => exact ⟨i + 1, rfl, by go_num, by omega, HA.out, HZ.out, HS.out, HE.out⟩
   · obtain rfl : i = 32 := by omega
     have hlt2 : ¬ ((32 : Nat) : Int) < 32 := by omega
     rw [leBi_all] at hS
     have hld : (ldAt 23 (.pointer (some ⟨w2.heap.size, 0, none⟩))).run Tryz.prog wr = .ok (.agg (u8s (leB V)).toArray) wr := ldAt_run hS 23 0 (u8s (leB V)) rfl _ Tryz.underlying23 rfl (by exact hd32)
     have HZ := qh hZ
     have HE := qh hE
     clear hA hZ hS hE hgk
     go_wp2_with (refine wpList_store_all rfl 23 (.tmp 2) (.tmp 23) rfl (w.heap.size + 1) (u8s (leB V)) (by rfl) (by rfl) 23 _ HZ.out (by exact hd32) (u8s_one _) (by rfl) ?_; intro w5 hb5 ho5; have HB5 := qh hb5; have HE5 := qh (ho5.below HE.out (Nat.le_succ _) HE.out.size); clear hb5 ho5)
     exact bodyPost_ret (res_cell rfl _ _ _ _ rfl HB5.out _ Tryz.underlying23 rfl (by exact hd32)) rfl ⟨by rw [HV.out], HE5.out⟩
end Go.Proofs.YtpgpaenloaphaaaGreat
namespace Go.Proofs.YtpgpaenloaphaaaGreat
open Go.RowKit
theorem leN_take (us : List UInt8) (i : Nat) (hi : i < us.length) : leN (us.take (i + 1)) = leN (us.take i) + (us.getD i 0).toNat * 256 ^ i := by
 have h := numL_take 256 (us.map (·.toNat)) i (by simpa using hi)
 simp only [leN, List.map_take]
 rw [h]
 congr 2
 simp only [List.getD_eq_getElem?_getD, List.getElem?_map, List.getElem?_eq_getElem hi]
 rfl
theorem leN_lt (us : List UInt8) : leN us < 256 ^ us.length := by
 have h := numL_lt 256 (us.map (·.toNat)) (by intro x hx; obtain ⟨c, _, rfl⟩ := List.mem_map.1 hx; exact c.toNat_lt)
 rw [List.length_map] at h
 exact h
theorem l4c {a b c d a' b' c' d' : Nat} (h0 : a = a') (h1 : b = b') (h2 : c = c') (h3 : d = d') : l4 a b c d = l4 a' b' c' d' := by subst h0; subst h1; subst h2; subst h3; rfl
theorem elc_add (V m c q : Nat) (hq : q < 4) (hV : V < 18446744073709551616 ^ q * c) (hm : m + c ≤ 18446744073709551616) :
   (elc V).set q (.int .u64 ((limb V q + m : Nat) : Int)) = elc (V + 18446744073709551616 ^ q * m) := by
 rcases q with _ | _ | _ | _ | q
 · simp only [limb, Nat.pow_zero, Nat.one_mul, Nat.div_one] at *
   refine l4c ?_ ?_ ?_ ?_ <;> omega
 · simp only [limb, Nat.zero_add, Nat.reducePow] at *
   refine l4c ?_ ?_ ?_ ?_ <;> omega
 · simp only [limb, Nat.zero_add, Nat.reducePow, Nat.reduceAdd] at *
   refine l4c ?_ ?_ ?_ ?_ <;> omega
 · simp only [limb, Nat.zero_add, Nat.reducePow, Nat.reduceAdd] at *
   refine l4c ?_ ?_ ?_ ?_ <;> omega
 · omega
theorem elc_cut (V : Nat) : (elc V).set 3 (.int .u64 ((limb V 3 % 9223372036854775808 : Nat) : Int)) = elc (V % 57896044618658097711785492504343953926634992332820282019728792003956564819968) := by
 simp only [limb, Nat.reducePow]
 refine l4c ?_ ?_ ?_ ?_ <;> omega
theorem or_low (L x s : Nat) (hL : L < 2 ^ s) (hx : x < 256) (hs : s ≤ 56) : bits .or .u64 (L : Int) ((x * 2 ^ s : Nat) : Int) = ((L + x * 2 ^ s : Nat) : Int) := by
 have h1 : 2 ^ s ≤ 2 ^ 56 := Nat.pow_le_pow_right (by omega) hs
 have h2 : x * 2 ^ s ≤ 255 * 2 ^ s := Nat.mul_le_mul_right _ (by omega)
 rw [show (2 : Nat) ^ 56 = 72057594037927936 by rfl] at h1
 rw [bits_or_u64_nat _ _ (by omega) (by omega), Nat.or_comm, Nat.mul_comm x, ← Nat.two_pow_add_eq_or_of_lt hL, Nat.add_comm]
attribute [local go_sem ↓] ldq_el
set_option maxRecDepth 100000 in
set_option maxHeartbeats 1000000 in
theorem read_el (A : Option Addr) (n c : Nat) (us : List UInt8) (w : World) (h : Rd w A n (u8s us)) (hn : n = 32) :
   Calls Tryz.prog 111 #[.slice A n c] w fun e w' => e = .returned (.tuple #[.agg (elc (readN us)).toArray, .int .i64 0]) ∧ Below w.heap.size w w' := by
 have HR := qh h
 have HL := qh h.len
 have HM0 : Hid (Blk ((w.alloc (.cells (l4 0 0 0 0).toArray 184)).alloc (.cells (l4 0 0 0 0).toArray 184)) w.heap.size 184 (l4 0 0 0 0) ∧ Blk ((w.alloc (.cells (l4 0 0 0 0).toArray 184)).alloc (.cells (l4 0 0 0 0).toArray 184)) (w.heap.size + 1) 184 (elc 0) ∧ Below w.heap.size w ((w.alloc (.cells (l4 0 0 0 0).toArray 184)).alloc (.cells (l4 0 0 0 0).toArray 184))) :=
   ⟨(Blk.new w _ _).alloc _, Blk.new' (by simp) rfl, ((Below.refl _ w).alloc (Nat.le_refl _) _).alloc (by simp) _⟩
 have hn2 : (n : Int) = 32 := by omega
 clear h
 go_enter Tryz.func111, Tryz.ntmps111
 go_wp2
 go_loopg [13] 32 (fun kk q wr => ∃ i : Nat, kk = 32 - i ∧ q = .int .i64 (i : Int) ∧ i ≤ 32 ∧ Blk wr w.heap.size 184 (l4 0 0 0 0) ∧ Blk wr (w.heap.size + 1) 184 (elc (leN (us.take i))) ∧ Below w.heap.size w wr)
 case atStart => exact ⟨0, rfl, rfl, by omega, HM0.out.1, by rw [List.take_zero]; exact HM0.out.2.1, HM0.out.2.2⟩
 case round =>
   clear HM0
   obtain ⟨i, hgk, rfl, hi, hZ, hS, hE⟩ := hrel
   rcases Nat.lt_or_ge i 32 with hlt | hge
   · have hlt2 : (i : Int) < 32 := by omega
     have hln : i < us.length := by rw [HL.out, hn]; exact hlt
     obtain ⟨b, off, x, rfl, hbw, hux, hcw⟩ := HR.out.u8 (k := i) (by omega)
     have hcx : wr.cell? ⟨b, off + i, none⟩ = some (.int .u8 ((x.toNat : Nat) : Int)) := (hE.cell hbw).trans hcw
     obtain ⟨q, hq⟩ : ∃ q, q = i / 8 := ⟨_, rfl⟩
     obtain ⟨r, hr⟩ : ∃ r, r = i % 8 := ⟨_, rfl⟩
     obtain ⟨s, hs⟩ : ∃ s, s = 8 * r := ⟨_, rfl⟩
     obtain ⟨V, hV⟩ : ∃ V, V = leN (us.take i) := ⟨_, rfl⟩
     rw [← hV] at hS
     obtain ⟨L, hL⟩ : ∃ L, L = limb V q := ⟨_, rfl⟩
     have hVl : V < 18446744073709551616 ^ q * 2 ^ s := by
       have h1 := leN_lt (us.take i)
       rw [List.length_take, Nat.min_eq_left (Nat.le_of_lt hln), ← hV] at h1
       have h2 : (256 : Nat) ^ i = 18446744073709551616 ^ q * 2 ^ s := by
         rw [hq, hs, hr, show (256 : Nat) = 2 ^ 8 by rfl, show (18446744073709551616 : Nat) = 2 ^ 64 by rfl, ← Nat.pow_mul, ← Nat.pow_mul, ← Nat.pow_add]
         congr 1
         omega
       rw [← h2]; exact h1
     have hLs : L < 2 ^ s := by
       rw [hL, limb]
       exact Nat.lt_of_le_of_lt (Nat.mod_le _ _) (Nat.div_lt_of_lt_mul hVl)
     have hx8 := x.toNat_lt
     have hs56 : s ≤ 56 := by omega
     have cl : wr.cell? ⟨w.heap.size + 1, q, none⟩ = some (.int .u64 (L : Int)) := (hS.cell q).trans (hL ▸ elc_limb V q (by omega))
     have ff : wr.frozen? ⟨w.heap.size + 1, q, none⟩ = false := hS.frozen q
     have hqi : (i : Int) / 8 = (q : Int) := by omega
     have hri : (i : Int) % 8 = (r : Int) := by omega
     have hsi : (8 : Int) * (r : Int) = (s : Int) := by omega
     have hq4 : (q : Int) < 4 := by omega
     have hr8 : (r : Int) < 8 := by omega
     have hs64 : (s : Int) < 64 := by omega
     obtain ⟨X, hX⟩ : ∃ X, X = x.toNat := ⟨_, rfl⟩
     rw [← hX] at hcx hx8
     obtain ⟨m, hm⟩ : ∃ m, m = X * 2 ^ s := ⟨_, rfl⟩
     have hmi : (X : Int) * 2 ^ s = (m : Int) := by rw [hm]; push_cast; rfl
     have hor : bits .or .u64 (L : Int) (m : Int) = ((L + m : Nat) : Int) := by rw [hm]; exact or_low L X s hLs hx8 hs56
     have HVN : Hid (leN (us.take (i + 1)) = V + 18446744073709551616 ^ q * m) := by
       show _ = _
       have h2 : (256 : Nat) ^ i = 18446744073709551616 ^ q * 2 ^ s := by
         rw [hq, hs, hr, show (256 : Nat) = 2 ^ 8 by rfl, show (18446744073709551616 : Nat) = 2 ^ 64 by rfl, ← Nat.pow_mul, ← Nat.pow_mul, ← Nat.pow_add]
         congr 1
         omega
       rw [leN_take us i hln, ← hV, List.getD_eq_getElem?_getD, hux, h2, hm, hX, Nat.mul_left_comm]
       rfl
     have HSET : Hid ((elc V).set q (.int .u64 ((L + m : Nat) : Int)) = elc (V + 18446744073709551616 ^ q * m)) := by
       show _ = _
       rw [hL]
       refine elc_add V m (2 ^ s) q (by omega) hVl ?_
       have h1 : 2 ^ s ≤ 2 ^ 56 := Nat.pow_le_pow_right (by omega) hs56
       have h2 : X * 2 ^ s ≤ 255 * 2 ^ s := Nat.mul_le_mul_right _ (by omega)
       rw [show (2 : Nat) ^ 56 = 72057594037927936 by rfl] at h1
       omega
     have hml : m < 18446744073709551616 := by
       have h1 : 2 ^ s ≤ 2 ^ 56 := Nat.pow_le_pow_right (by omega) hs56
       have h2 : X * 2 ^ s ≤ 255 * 2 ^ s := Nat.mul_le_mul_right _ (by omega)
       rw [show (2 : Nat) ^ 56 = 72057594037927936 by rfl] at h1
       omega
     have HGK := qh hgk
     have HZ := qh (hZ.far (p := ⟨w.heap.size + 1, q, none⟩) (by simp) (.int .u64 ((L + m : Nat) : Int)))
     have HS : Hid (Blk (wr.setCell ⟨w.heap.size + 1, q, none⟩ (.int .u64 ((L + m : Nat) : Int))) (w.heap.size + 1) 184 (elc (leN (us.take (i + 1))))) := by
       rw [HVN.out, ← HSET.out]
       exact hS.set_ q _
     have HE := qh (hE.setCell (p := ⟨w.heap.size + 1, q, none⟩) (Nat.le_succ _) (.int .u64 ((L + m : Nat) : Int)))
     have hsm : (X : Int) % 18446744073709551616 = (X : Int) := by omega
     clear hZ hS hE hgk hm hL hs hr hq hX hcw hux hV hVl hLs HVN HSET hln hbw
     go_wp2
     go_roundg (32 - (i + 1))
     case measure => have := HGK.out; omega
     case rel => exact ⟨i + 1, rfl, by go_num, by omega, HZ.out, HS.out, HE.out⟩
   · obtain rfl : i = 32 := by omega
     have hlt2 : ¬ ((32 : Nat) : Int) < 32 := by omega
     rw [List.take_of_length_le (by rw [HL.out, hn]; exact Nat.le_refl _)] at hS
     obtain ⟨V, hV⟩ : ∃ V, V = leN us := ⟨_, rfl⟩
     rw [← hV] at hS
     have hVl : V < 115792089237316195423570985008687907853269984665640564039457584007913129639936 := by
       have := leN_lt us
       rw [HL.out, hn, ← hV] at this
       exact this
     obtain ⟨L, hL⟩ : ∃ L, L = limb V 3 := ⟨_, rfl⟩
     have hL64 : L < 18446744073709551616 := by rw [hL]; exact Nat.mod_lt _ (by omega)
     have cl : wr.cell? ⟨w.heap.size + 1, 3, none⟩ = some (.int .u64 (L : Int)) := (hS.cell 3).trans (hL ▸ elc_limb V 3 (by omega))
     have ff : wr.frozen? ⟨w.heap.size + 1, 3, none⟩ = false := hS.frozen 3
     have hand := and63 L hL64
     have HS := hS.set_ 3 (.int .u64 ((L : Int) % 9223372036854775808))
     rw [show (elc V).set 3 (.int .u64 ((L : Int) % 9223372036854775808)) = elc (V % 57896044618658097711785492504343953926634992332820282019728792003956564819968) by rw [show (L : Int) % 9223372036854775808 = ((L % 9223372036854775808 : Nat) : Int) by omega, hL]; exact elc_cut V] at HS
     have HS := qh HS
     have HZ := qh (hZ.far (p := ⟨w.heap.size + 1, 3, none⟩) (by simp) (.int .u64 ((L : Int) % 9223372036854775808)))
     have HE := qh (hE.setCell (p := ⟨w.heap.size + 1, 3, none⟩) (Nat.le_succ _) (.int .u64 ((L : Int) % 9223372036854775808)))
     have hld := elc_ld HS.out
     have HN := qh (fun W => norm_el (V % 57896044618658097711785492504343953926634992332820282019728792003956564819968) (by omega) W)
     have HV := qh hV
     clear hZ hS hE hgk hL hV hVl
     go_wp2_with (first
       | ((with_reducible refine (HN.out _).mono ?_); rintro e w4 ⟨rfl, hB1⟩; have HZ4 := qbl HZ hB1; have HE4 := qtr HE hB1; clear hB1)
       | (refine wpList_store_all rfl 184 (.tmp 2) (.tmp 37) rfl w.heap.size (elc (V % 57896044618658097711785492504343953926634992332820282019728792003956564819968 % pr)) (by rfl) (by rfl) 184 _ HZ4.out (by exact hdEl) (elc_one _) rfl ?_; intro w5 hb5 ho5; have HB5 := qh hb5; have HE5 := qh (ho5.below HE4.out (Nat.le_refl _) HE4.out.size); clear hb5 ho5))
     exact bodyPost_ret (res_cell_tmp rfl _ _ _ _ rfl HB5.out _ Tryz.underlying184 rfl (by exact hdEl)) rfl ⟨by rw [readN, HV.out]; rfl, HE5.out⟩
end Go.Proofs.YtpgpaenloaphaaaGreat
