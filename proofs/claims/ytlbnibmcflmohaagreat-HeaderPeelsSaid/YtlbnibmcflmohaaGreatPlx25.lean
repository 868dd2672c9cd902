/- Part of the proof: Prd, Pow. -/
import Derived.Test.YtlbnibmcflmohaaGreatPlx23
namespace Go.Proofs.YtlbnibmcflmohaaGreat
open Go.RowKit
def prodT (ns : List Nat) : Nat → Nat
  | 0 => 1
  | k + 1 => prodT ns k * ns.getD k 0
attribute [local go_sem ↓] ldq_el
set_option maxRecDepth 100000 in
set_option maxHeartbeats 1000000 in
theorem prod_el (A : Option Addr) (n c : Nat) (ns : List Nat) (w : World) (hn2 : 2 ≤ n) (hn9 : n < 1000) (hnc : n ≤ c) (h : RdS 4 w A n (ns.flatMap elc)) (hl : ns.length = n) (hs : ∀ x ∈ ns, x < 115792089237316195423570985008687907853269984665640564039457584007913129639936) :
    Calls Tryz.prog 70 #[.slice A n c] w fun e w' => e = .returned (.agg (elc (prodT ns n % pr)).toArray) ∧ Below w.heap.size w w' := by
  have HR := Lib.hid h
  have HL := Lib.hid hl
  have HS := Lib.hid hs
  have HM0 : Hid (Blk (w.alloc (.cells (l4 0 0 0 0).toArray 80)) w.heap.size 80 (l4 0 0 0 0) ∧ Below w.heap.size w (w.alloc (.cells (l4 0 0 0 0).toArray 80))) :=
    ⟨Blk.new w _ _, (Below.refl _ w).alloc (Nat.le_refl _) _⟩
  obtain ⟨x0, hsi⟩ : ∃ x, ns[0]? = some x := ⟨_, List.getElem?_eq_getElem (by omega)⟩
  have hxP := hs x0 (List.mem_of_getElem? hsi)
  obtain ⟨b2, o2, rfl, hb2, hrg⟩ := el_range (HR.out.bel' HM0.out.2 (Nat.le_refl _)) hsi (by omega)
  have hld : ∀ o, (ldAt 80 (.pointer (some ⟨b2, o2, none⟩))).run Tryz.prog (w.alloc o) = .ok (.agg (elc x0).toArray) (w.alloc o) := fun o => by
    obtain ⟨b3, o3, e, _, hrg⟩ := el_range (w := w.alloc o) (HR.out.bel' ((Below.refl _ w).alloc (Nat.le_refl _) o) (Nat.le_refl _)) hsi (by omega)
    injection e with e
    injection e with e2 e3
    subst e2
    subst e3
    exact run_loadAt_mid _ b2 o2 80 (elc x0) _ (by rw [Nat.zero_mul, Nat.add_zero] at hrg; exact hrg) Tryz.underlying80 rfl (by exact hdEl)
  have HX0 : Hid (prodT ns 1 % pr = x0 % pr) := by
    show _ = _
    rw [prodT, prodT, Nat.one_mul, List.getD_eq_getElem?_getD, hsi]; rfl
  have HN := Lib.hid (fun W => norm_el x0 hxP W)
  have hn0 : ¬ (n : Int) = 0 := by omega
  have hn1 : (1 : Int) ≤ (n : Int) := by omega
  have hn3 : (n : Int) ≤ (c : Int) := by omega
  clear h hl hs hsi hb2 hrg hxP
  go_enter Tryz.func70, Tryz.ntmps70
  go_upto_region 4 with (first
    | ((with_reducible refine (HN.out _).mono ?_); rintro e w1 ⟨rfl, hB1⟩; have HZ1 := Lib.hid (HM0.out.1.below hB1 HM0.out.1.lt); have HE1 := Lib.hid (HM0.out.2.trans (hB1.mono HM0.out.2.size)); clear hB1)
    | (refine wpList_store_all rfl 80 (.tmp 3) (.tmp 13) rfl w1.heap.size (elc (x0 % pr)) (by rfl) (by rfl) 80 (l4 0 0 0 0) (by exact Blk.new' rfl rfl) (by exact hdEl) (elc_one _) rfl ?_; intro w2 hb2 ho2))
  have HB2 := Lib.hid hb2
  have HZ2 := qal ho2 HZ1 (by have := HZ1.out.lt; omega)
  have HE2 := Lib.hid (ho2.below (HE1.out.alloc HE1.out.size _) HE1.out.size (by have := HE1.out.size; simp; omega))
  have HG : Hid (w.heap.size < w1.heap.size) := HZ1.out.lt
  clear hb2 ho2 HZ1 HE1 hld
  go_wp2
  go_loopg [17] n (fun kk q wr => ∃ i : Nat, kk = n - i ∧ q = .int .i64 (i : Int) ∧ i ≤ n - 1 ∧ Blk wr w.heap.size 80 (l4 0 0 0 0) ∧ Blk wr w1.heap.size 80 (elc (prodT ns (i + 1) % pr)) ∧ Below w.heap.size w wr)
  case atStart => exact ⟨0, rfl, rfl, by omega, HZ2.out, by rw [HX0.out]; exact HB2.out, HE2.out⟩
  case round =>
    clear HM0 HN hn0 hn1 hn3 HX0 HB2 HZ2 HE2
    obtain ⟨i, hgk, rfl, hi, hz, hb, hB⟩ := hrel
    have HGK := Lib.hid hgk
    clear hgk
    rcases Nat.lt_or_ge i (n - 1) with hlt | hge
    · have hlt2 : (i : Int) < ((n - 1 : Nat) : Int) := by omega
      obtain ⟨x, hsi⟩ : ∃ x, ns[i + 1]? = some x := ⟨_, List.getElem?_eq_getElem (by rw [HL.out]; omega)⟩
      have hxP := HS.out x (List.mem_of_getElem? hsi)
      obtain ⟨b3, o3, e, hb3, hrg⟩ := el_range (HR.out.bel' hB (Nat.le_refl _)) hsi (by omega)
      injection e with e
      injection e with e2 e3
      subst e2
      subst e3
      have hld : (ldAt 80 (.pointer (some ⟨b2, o2 + 4 + i * 4, none⟩))).run Tryz.prog wr = .ok (.agg (elc x).toArray) wr := run_loadAt_mid wr b2 (o2 + 4 + i * 4) 80 (elc x) _ (by rw [show o2 + 4 + i * 4 = o2 + (i + 1) * 4 by omega]; exact hrg) Tryz.underlying80 rfl (by exact hdEl)
      have HX : Hid (prodT ns (i + 1 + 1) % pr = prodT ns (i + 1) % pr * x % pr) := by
        show _ = _
        rw [prodT, List.getD_eq_getElem?_getD, hsi]
        exact (Nat.mod_mul_mod _ _ _).symm
      have HM := Lib.hid (fun W => mul_el (prodT ns (i + 1) % pr) x (pr_lt _) hxP W)
      rw [← HX.out] at HM
      have HB := Lib.hid hb
      have HZ := Lib.hid hz
      have HBB := Lib.hid hB
      clear hsi hrg hb hz hB hxP hb3
      go_upto_region 7 with (refine wpList_store_all rfl 80 (.tmp 5) (.tmp 20) rfl wr.heap.size (elc x) (by rfl) (by rfl) 80 (l4 0 0 0 0) (by exact Blk.new' rfl rfl) (by exact hdEl) (elc_one _) rfl ?_; intro w3 hb1 ho1)
      have hgl := HG.out
      have hbl := HB.out.lt
      have HZ3 := Lib.hid (ho1.blk (HZ.out.alloc _) (by omega))
      have HS3 := Lib.hid (ho1.blk (HB.out.alloc _) (by omega))
      have HE3 := Lib.hid (ho1.below (HBB.out.alloc HBB.out.size _) HBB.out.size (by simp; omega))
      have hl1 := elc_ld HS3.out
      have hl2 := elc_ld hb1
      clear hb1 ho1 hgl hbl hld
      go_wp2_with (first
        | ((with_reducible refine (HM.out _).mono ?_); rintro e w4 ⟨rfl, hB1⟩; have HZ4 := qbl HZ3 hB1; have HS4 := qbl HS3 hB1; have HE4 := qtr HE3 hB1; clear hB1)
        | (refine wpList_store_all rfl 80 (.tmp 3) (.tmp 23) rfl w1.heap.size (elc (prodT ns (i + 1 + 1) % pr)) (by rfl) (by rfl) 80 _ HS4.out (by exact hdEl) (elc_one _) rfl ?_; intro w5 hb5 ho5; have HS5 := Lib.hid hb5; have HZ5 := Lib.hid (ho5.blk HZ4.out (by have := HG.out; omega)); have HE5 := Lib.hid (ho5.below HE4.out (Nat.le_of_lt HG.out) HE4.out.size); clear hb5 ho5))
      go_roundg (n - (i + 1))
      case measure => have := HGK.out; omega
      case rel => exact ⟨i + 1, rfl, by go_num, by omega, HZ5.out, HS5.out, HE5.out⟩
    · obtain rfl : i = n - 1 := by omega
      have hlt2 : ¬ ((n - 1 : Nat) : Int) < ((n - 1 : Nat) : Int) := by omega
      rw [show n - 1 + 1 = n by omega] at hb
      have hld := elc_ld hb
      have HZ := Lib.hid hz
      have HBB := Lib.hid hB
      clear hb hz hB
      go_wp2_with (refine wpList_store_all rfl 80 (.tmp 2) (.tmp 25) rfl w.heap.size (elc (prodT ns n % pr)) (by rfl) (by rfl) 80 (l4 0 0 0 0) HZ.out (by exact hdEl) (elc_one _) rfl ?_; intro w5 hb5 ho5; have HB5 := Lib.hid hb5; have HE5 := Lib.hid (ho5.below HBB.out (Nat.le_refl _) HBB.out.size); clear hb5 ho5)
      exact bodyPost_ret (res_cell rfl _ _ _ _ rfl HB5.out _ Tryz.underlying80 rfl (by exact hdEl)) rfl ⟨rfl, HE5.out⟩
end Go.Proofs.YtlbnibmcflmohaaGreat
namespace Go.Proofs.YtlbnibmcflmohaaGreat
open Go.RowKit
def leN (b : List UInt8) : Nat := numL 256 (b.map (·.toNat))
theorem leN_drop (b : List UInt8) (j : Nat) (hj : j < b.length) : leN (b.drop j) = leN (b.drop (j + 1)) * 256 + (b.getD j 0).toNat := by
  have h : b.drop j = b.getD j 0 :: b.drop (j + 1) := by
    rw [List.drop_eq_getElem_cons hj, List.getD_eq_getElem?_getD, List.getElem?_eq_getElem hj]; rfl
  rw [h]
  simp only [leN, List.map_cons, numL]
  omega
theorem pow_sq (a X : Nat) : a ^ X % pr * (a ^ X % pr) % pr = a ^ (2 * X) % pr := by
  rw [← Nat.mul_mod, ← Nat.pow_add, Nat.two_mul]
theorem pow_st (a X : Nat) : a ^ X % pr * a % pr = a ^ (X + 1) % pr := by
  rw [Nat.pow_succ, Nat.mod_mul_mod]
theorem half_bit (x s : Nat) : x / 2 ^ s = 2 * (x / 2 ^ (s + 1)) + x / 2 ^ s % 2 := by
  rw [Nat.pow_succ, ← Nat.div_div_eq_div_mul]; omega
attribute [local go_sem ↓] ldq_el
set_option maxRecDepth 100000 in
set_option maxHeartbeats 1000000 in
theorem pow_el (a : Nat) (A : Option Addr) (n c : Nat) (es : List UInt8) (w : World) (ha : a < 115792089237316195423570985008687907853269984665640564039457584007913129639936) (hn9 : n < 1000) (h : Rd w A n (u8s es)) (hl : es.length = n) :
    Calls Tryz.prog 88 #[.agg (elc a).toArray, .slice A n c] w fun e w' => e = .returned (.agg (elc (a ^ leN es % pr)).toArray) ∧ Below w.heap.size w w' := by
  have HR := Lib.hid h
  have HL := Lib.hid hl
  have HO : Hid (∀ W, Calls Tryz.prog 35 #[.int .u64 1] W fun e w' => e = .returned (.agg (elc 1).toArray) ∧ Below W.heap.size W w') := fun W => of_el 1 (by omega) W
  obtain ⟨W1, hW1⟩ : ∃ W1, W1 = (w.alloc (.cells (elc a).toArray 80)).alloc (.cells (l4 0 0 0 0).toArray 80) := ⟨_, rfl⟩
  have HM0 : Hid (Blk W1 w.heap.size 80 (elc a) ∧ Blk W1 (w.heap.size + 1) 80 (l4 0 0 0 0) ∧ Below w.heap.size w W1) :=
    hW1 ▸ ⟨(Blk.new w _ _).alloc _, Blk.new' (by simp) rfl, ((Below.refl _ w).alloc (Nat.le_refl _) _).alloc (by simp) _⟩
  clear h hl
  go_enter Tryz.func88, Tryz.ntmps88
  go_upto_region 2 with (first
    | ((with_reducible refine (HO.out _).mono ?_); rintro e w1 ⟨rfl, hB0⟩; have hB1 : Below W1.heap.size W1 w1 := hW1 ▸ hB0; have HA1 := Lib.hid (HM0.out.1.below hB1 HM0.out.1.lt); have HZ1 := Lib.hid (HM0.out.2.1.below hB1 HM0.out.2.1.lt); have HE1 := Lib.hid (HM0.out.2.2.trans (hB1.mono HM0.out.2.2.size)); clear hB0 hB1)
    | (refine wpList_store_all rfl 80 (.tmp 5) (.tmp 8) rfl w1.heap.size (elc 1) (by rfl) (by rfl) 80 (l4 0 0 0 0) (by exact Blk.new' rfl rfl) (by exact hdEl) (elc_one _) rfl ?_; intro w2 hb2 ho2))
  have hg1 := HZ1.out.lt
  have HA2 := Lib.hid (ho2.blk (HA1.out.alloc _) (by omega))
  have HZ2 := Lib.hid (ho2.blk (HZ1.out.alloc _) (by omega))
  have HE2 := Lib.hid (ho2.below (HE1.out.alloc HE1.out.size _) HE1.out.size (by simp; omega))
  have HG := Lib.hid hg1
  have HB2 := Lib.hid hb2
  clear hb2 ho2 hg1 HA1 HZ1 HE1 HM0 hW1
  go_wp2
  go_loopg [6] n (fun kk q wr => ∃ (m : Nat) (z : Int), kk = m ∧ q = .int .i64 z ∧ z = (m : Int) - 1 ∧ m ≤ n ∧ Blk wr w.heap.size 80 (elc a) ∧ Blk wr (w.heap.size + 1) 80 (l4 0 0 0 0) ∧ Blk wr w1.heap.size 80 (elc (a ^ leN (es.drop m) % pr)) ∧ Below w.heap.size w wr)
  case atStart => exact ⟨n, _, rfl, rfl, rfl, Nat.le_refl _, HA2.out, HZ2.out, by rw [List.drop_of_length_le (by rw [HL.out]; exact Nat.le_refl _)]; exact HB2.out, HE2.out⟩
  case round =>
    clear HA2 HZ2 HE2 HB2 HO
    obtain ⟨m, z, hgk, rfl, hz, hm, hA, hZ, hS, hE⟩ := hrel
    rcases m with _ | j
    · obtain rfl : z = -1 := by omega
      rw [List.drop_zero] at hS
      have hld := elc_ld hS
      have HZ := Lib.hid hZ
      have HE := Lib.hid hE
      clear hA hZ hS hE hz
      go_wp2_with (refine wpList_store_all rfl 80 (.tmp 4) (.tmp 34) rfl (w.heap.size + 1) (elc (a ^ leN es % pr)) (by rfl) (by rfl) 80 (l4 0 0 0 0) HZ.out (by exact hdEl) (elc_one _) rfl ?_; intro w5 hb5 ho5; have HB5 := Lib.hid hb5; have HE5 := Lib.hid (ho5.below HE.out (by omega) HE.out.size); clear hb5 ho5)
      exact bodyPost_ret (res_cell rfl _ _ _ _ rfl HB5.out _ Tryz.underlying80 rfl (by exact hdEl)) rfl ⟨rfl, HE5.out⟩
    · obtain rfl : z = (j : Int) := by omega
      have hge : (0 : Int) ≤ (j : Int) := by omega
      have HGK := Lib.hid hgk
      have HA := Lib.hid hA
      have HZ := Lib.hid hZ
      have HS := Lib.hid hS
      have HE := Lib.hid hE
      clear hA hZ hS hE hz hgk
      obtain ⟨b, off, rfl, hbw, hbc⟩ := HR.out.2 (by omega)
      obtain ⟨x, hx⟩ : ∃ x, x = (es.getD j 0).toNat := ⟨_, rfl⟩
      obtain ⟨E, hE⟩ : ∃ E, E = leN (es.drop (j + 1)) := ⟨_, rfl⟩
      have HEQ : Hid (leN (es.drop j) = E * 256 + x) := by
        show _ = _
        rw [hE, hx]; exact leN_drop es j (by rw [HL.out]; omega)
      have hx8 : x < 256 := by rw [hx]; exact (es.getD j 0).toNat_lt
      have hcw : w.cell? ⟨b, off + j, none⟩ = some (.int .u8 (x : Int)) := by
        refine hbc j _ ?_
        rw [hx]
        rw [u8s_getElem?, List.getD_eq_getElem?_getD, List.getElem?_eq_getElem (by rw [HL.out]; omega)]
        rfl
      have HCW := Lib.hid hcw
      have HBW := Lib.hid hbw
      have hjn : (j : Int) < (n : Int) := by omega
      rw [← hE] at HS
      clear hE hx hcw hbw hbc
      go_wp2
      go_loopg [7] 8 (fun kk q wr2 => ∃ (r : Nat) (z : Int), kk = r ∧ q = .int .i64 z ∧ z = (r : Int) - 1 ∧ r ≤ 8 ∧ Blk wr2 w.heap.size 80 (elc a) ∧ Blk wr2 (w.heap.size + 1) 80 (l4 0 0 0 0) ∧ Blk wr2 w1.heap.size 80 (elc (a ^ (E * 2 ^ (8 - r) + x / 2 ^ r) % pr)) ∧ Below w.heap.size w wr2)
      case atStart => exact ⟨8, 7, rfl, rfl, by omega, by omega, HA.out, HZ.out, by rw [show E * 2 ^ (8 - 8) + x / 2 ^ 8 = E by simp; omega]; exact HS.out, HE.out⟩
      case round =>
        clear HA HZ HS HE
        obtain ⟨r, z, hgk2, rfl, hz, hr8, hA, hZ, hS, hE⟩ := hrel
        rcases r with _ | s
        · obtain rfl : z = -1 := by omega
          rw [show E * 2 ^ (8 - 0) + x / 2 ^ 0 = leN (es.drop j) by rw [HEQ.out]; simp] at hS
          have HA := Lib.hid hA
          have HZ := Lib.hid hZ
          have HS := Lib.hid hS
          have HE := Lib.hid hE
          clear hA hZ hS hE hz hgk2
          go_wp2
          go_roundg j
          case measure => have := HGK.out; omega
          case rel => exact ⟨j, _, rfl, rfl, by go_num, by omega, HA.out, HZ.out, HS.out, HE.out⟩
        · obtain rfl : z = (s : Int) := by omega
          have hge2 : (0 : Int) ≤ (s : Int) := by omega
          have hs8 : (s : Int) < 8 := by omega
          have hld := elc_ld hS
          have HQ := Lib.hid (fun W => sq_el (a ^ (E * 2 ^ (8 - (s + 1)) + x / 2 ^ (s + 1)) % pr) (pr_lt _) W)
          obtain ⟨X, hX⟩ : ∃ X, X = E * 2 ^ (8 - (s + 1)) + x / 2 ^ (s + 1) := ⟨_, rfl⟩
          have HXN : Hid (E * 2 ^ (8 - s) + x / 2 ^ s = 2 * X + x / 2 ^ s % 2) := by
            show _ = _
            have h1 := half_bit x s
            have h2 : E * 2 ^ (8 - s) = 2 * (E * 2 ^ (8 - (s + 1))) := by
              rw [show 8 - s = 8 - (s + 1) + 1 by omega, Nat.pow_succ, ← Nat.mul_assoc, Nat.mul_comm]
            rw [hX, h2]
            omega
          rw [← hX] at HQ hS hld
          simp only [pow_sq] at HQ
          have HMM := Lib.hid (fun W => mul_el (a ^ (2 * X) % pr) a (pr_lt _) ha W)
          simp only [pow_st] at HMM
          have HA := Lib.hid hA
          have HZ := Lib.hid hZ
          have HS := Lib.hid hS
          have HE := Lib.hid hE
          have HGK2 := Lib.hid hgk2
          clear hA hZ hS hE hz hX hgk2
          go_upto_region 9 with (first
            | ((with_reducible refine (HQ.out _).mono ?_); rintro e w3 ⟨rfl, hB1⟩; have HZ3 := qbl HZ hB1; have HA3 := qbl HA hB1; have HS3 := qbl HS hB1; have HE3 := qtr HE hB1; clear hB1)
            | (refine wpList_store_all rfl 80 (.tmp 5) (.tmp 21) rfl w1.heap.size (elc (a ^ (2 * X) % pr)) (by rfl) (by rfl) 80 _ HS3.out (by exact hdEl) (elc_one _) rfl ?_; intro w4 hb5 ho5; have HS4 := Lib.hid hb5; have HZ4 := Lib.hid (ho5.blk HZ3.out (by have := HG.out; omega)); have HA4 := Lib.hid (ho5.blk HA3.out (by have := HG.out; omega)); have HE4 := Lib.hid (ho5.below HE3.out (by have := HG.out; omega) HE3.out.size); clear hb5 ho5))
          have hc4 : w4.cell? ⟨b, off + j, none⟩ = some (.int .u8 (x : Int)) := (HE4.out.cell HBW.out).trans HCW.out
          obtain ⟨y, hyd⟩ : ∃ y, y = x / 2 ^ s := ⟨_, rfl⟩
          have hy : (x : Int) / 2 ^ s = (y : Int) := by rw [hyd]; push_cast; rfl
          have hy8 : y < 256 := by rw [hyd]; exact Nat.lt_of_le_of_lt (Nat.div_le_self _ _) hx8
          have hyb : bits .and .u8 (y : Int) 1 = ((y % 2 : Nat) : Int) := by rw [← Nat.and_one_is_mod]; exact u8_and_nat y 1 hy8 (by omega)
          rw [← hyd] at HXN
          have hl4 := elc_ld HS4.out
          have hl5 := elc_ld HA4.out
          have HYD := Lib.hid hyd
          clear hld hyd
          rcases Nat.mod_two_eq_zero_or_one y with h01 | h01
          · rw [h01] at hyb HXN
            clear h01
            go_wp2
            go_roundg s
            case measure => have := HGK2.out; omega
            case rel => exact ⟨s, _, rfl, rfl, by go_num, by omega, HA4.out, HZ4.out, by rw [← HYD.out, HXN.out]; exact HS4.out, HE4.out⟩
          · rw [h01] at hyb HXN
            clear h01
            go_wp2_with (first
              | ((with_reducible refine (HMM.out _).mono ?_); rintro e w5 ⟨rfl, hB1⟩; have HZ5 := qbl HZ4 hB1; have HA5 := qbl HA4 hB1; have HS5 := qbl HS4 hB1; have HE5 := qtr HE4 hB1; clear hB1)
              | (refine wpList_store_all rfl 80 (.tmp 5) (.tmp 33) rfl w1.heap.size (elc (a ^ (2 * X + 1) % pr)) (by rfl) (by rfl) 80 _ HS5.out (by exact hdEl) (elc_one _) rfl ?_; intro w6 hb5 ho5; have HS6 := Lib.hid hb5; have HZ6 := Lib.hid (ho5.blk HZ5.out (by have := HG.out; omega)); have HA6 := Lib.hid (ho5.blk HA5.out (by have := HG.out; omega)); have HE6 := Lib.hid (ho5.below HE5.out (by have := HG.out; omega) HE5.out.size); clear hb5 ho5))
            go_roundg s
            case measure => have := HGK2.out; omega
            case rel => exact ⟨s, _, rfl, rfl, by go_num, by omega, HA6.out, HZ6.out, by rw [← HYD.out, HXN.out]; exact HS6.out, HE6.out⟩
end Go.Proofs.YtlbnibmcflmohaaGreat
