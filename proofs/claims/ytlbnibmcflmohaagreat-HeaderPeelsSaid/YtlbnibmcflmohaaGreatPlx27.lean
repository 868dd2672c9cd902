/- Part of the proof: Inv, Byt, Pri, Prc. -/
import Derived.Test.YtlbnibmcflmohaaGreatPlx25
namespace Go.Proofs.YtlbnibmcflmohaaGreat
open Go.RowKit
def fz : Nat → List UInt8
  | 0 => List.replicate 32 0
  | i + 1 => (fz i).set i 255
theorem fz_len (i : Nat) : (fz i).length = 32 := by
  induction i with
  | zero => rfl
  | succ i ih => rw [fz, List.length_set, ih]
def eP : List UInt8 := ((fz 32).set 0 235).set 31 127
theorem eP_num : leN eP = pr - 2 := by kernel_rfl
theorem has_pE : ∃ E, leN eP = E := ⟨_, rfl⟩
noncomputable def pE : Nat := Classical.choose has_pE
theorem pE_eq : leN eP = pE := Classical.choose_spec has_pE
theorem Blk.rdA {w : World} {g : Nat} {t : TypeId} {l : List UInt8} {n : Nat} (h : Blk w g t (u8s l)) (hn : l.length = n) : Rd w (some ⟨g, 0, none⟩) n (u8s l) := by
  have := h.rd 0 n (by rw [u8s_length]; omega)
  rw [List.drop_zero, List.take_of_length_le (by rw [u8s_length]; omega)] at this
  exact this
attribute [local go_sem ↓] ldq_el
set_option maxRecDepth 100000 in
set_option maxHeartbeats 1000000 in
theorem inv_el (a : Nat) (w : World) (ha : a < 115792089237316195423570985008687907853269984665640564039457584007913129639936) :
    Calls Tryz.prog 72 #[.agg (elc a).toArray] w fun e w' => e = .returned (.agg (elc (a ^ pE % pr)).toArray) ∧ Below w.heap.size w w' := by
  have HMK : Hid (∀ W, (Instr.makeSlice 23 (.int .i64 32) (.int .i64 32)).run Tryz.prog W = .ok (.slice (some ⟨W.heap.size, 0, none⟩) 32 32) (W.alloc (.cells (u8s (fz 0)).toArray 5))) := fun W => by kernel_rfl
  obtain ⟨W1, hW1⟩ : ∃ W1, W1 = ((w.alloc (.cells (elc a).toArray 80)).alloc (.cells (l4 0 0 0 0).toArray 80)).alloc (.cells (u8s (fz 0)).toArray 5) := ⟨_, rfl⟩
  have HM0 : Hid (Blk W1 w.heap.size 80 (elc a) ∧ Blk W1 (w.heap.size + 1) 80 (l4 0 0 0 0) ∧ Blk W1 (w.heap.size + 2) 5 (u8s (fz 0)) ∧ Below w.heap.size w W1) :=
    hW1 ▸ ⟨((Blk.new w _ _).alloc _).alloc _, (Blk.new' (by simp) rfl).alloc _, Blk.new' (by simp) rfl, (((Below.refl _ w).alloc (Nat.le_refl _) _).alloc (by simp) _).alloc (by simp <;> omega) _⟩
  have hmk := HMK.out
  go_enter Tryz.func72, Tryz.ntmps72
  go_wp2
  go_loopg [8] 32 (fun kk q wr => ∃ i : Nat, kk = 32 - i ∧ q = .int .i64 (i : Int) ∧ i ≤ 32 ∧ Blk wr w.heap.size 80 (elc a) ∧ Blk wr (w.heap.size + 1) 80 (l4 0 0 0 0) ∧ Blk wr (w.heap.size + 2) 5 (u8s (fz i)) ∧ Below w.heap.size w wr)
  case atStart => exact ⟨0, rfl, rfl, by omega, hW1 ▸ HM0.out⟩
  case round =>
    clear HM0 hW1
    obtain ⟨i, hgk, rfl, hi, hA, hZ, hS, hE⟩ := hrel
    rcases Nat.lt_or_ge i 32 with hlt | hge
    · have hlt2 : (i : Int) < 32 := by omega
      have cc : wr.cell? ⟨w.heap.size + 1 + 1, i, none⟩ = some (.int .u8 (((fz i).getD i 0).toNat : Int)) := by
        refine (hS.cell i).trans ?_
        rw [u8s_getElem?, List.getD_eq_getElem?_getD, List.getElem?_eq_getElem (by rw [fz_len]; exact hlt)]
        rfl
      have ff : wr.frozen? ⟨w.heap.size + 1 + 1, i, none⟩ = false := hS.frozen i
      have HA := Lib.hid (hA.far (p := ⟨w.heap.size + 2, i, none⟩) (by simp) (.int .u8 255))
      have HZ := Lib.hid (hZ.far (p := ⟨w.heap.size + 2, i, none⟩) (by simp) (.int .u8 255))
      have HS : Hid (Blk (wr.setCell ⟨w.heap.size + 2, i, none⟩ (.int .u8 255)) (w.heap.size + 2) 5 (u8s (fz (i + 1)))) := (u8s_set (fz i) i 255) ▸ hS.set_ i (.int .u8 255)
      have HE := Lib.hid (hE.setCell (p := ⟨w.heap.size + 2, i, none⟩) (Nat.le_add_right _ _) (.int .u8 255))
      clear hA hZ hS hE
      go_wp2
      go_roundg (32 - (i + 1))
      case measure => omega
      case rel => exact ⟨i + 1, rfl, by go_num, by omega, HA.out, HZ.out, HS.out, HE.out⟩
    · obtain rfl : i = 32 := by omega
      have hlt2 : ¬ (32 : Int) < 32 := by omega
      have cc0 : wr.cell? ⟨w.heap.size + 1 + 1, 0, none⟩ = some (.int .u8 255) := (hS.cell 0).trans rfl
      have ff0 : wr.frozen? ⟨w.heap.size + 1 + 1, 0, none⟩ = false := hS.frozen 0
      have hS1 := hS.set_ 0 (.int .u8 235)
      have cc1 : (wr.setCell ⟨w.heap.size + 1 + 1, 0, none⟩ (.int .u8 235)).cell? ⟨w.heap.size + 1 + 1, 31, none⟩ = some (.int .u8 255) := (hS1.cell 31).trans rfl
      have ff1 : (wr.setCell ⟨w.heap.size + 1 + 1, 0, none⟩ (.int .u8 235)).frozen? ⟨w.heap.size + 1 + 1, 31, none⟩ = false := hS1.frozen 31
      have HS : Hid (Blk ((wr.setCell ⟨w.heap.size + 1 + 1, 0, none⟩ (.int .u8 235)).setCell ⟨w.heap.size + 1 + 1, 31, none⟩ (.int .u8 127)) (w.heap.size + 2) 5 (u8s eP)) := hS1.set_ 31 (.int .u8 127)
      have HA : Hid (Blk ((wr.setCell ⟨w.heap.size + 1 + 1, 0, none⟩ (.int .u8 235)).setCell ⟨w.heap.size + 1 + 1, 31, none⟩ (.int .u8 127)) w.heap.size 80 (elc a)) := (hA.far (p := ⟨w.heap.size + 2, 0, none⟩) (by simp) (.int .u8 235)).far (p := ⟨w.heap.size + 2, 31, none⟩) (by simp) (.int .u8 127)
      have HZ : Hid (Blk ((wr.setCell ⟨w.heap.size + 1 + 1, 0, none⟩ (.int .u8 235)).setCell ⟨w.heap.size + 1 + 1, 31, none⟩ (.int .u8 127)) (w.heap.size + 1) 80 (l4 0 0 0 0)) := (hZ.far (p := ⟨w.heap.size + 2, 0, none⟩) (by simp) (.int .u8 235)).far (p := ⟨w.heap.size + 2, 31, none⟩) (by simp) (.int .u8 127)
      have HE : Hid (Below w.heap.size w ((wr.setCell ⟨w.heap.size + 1 + 1, 0, none⟩ (.int .u8 235)).setCell ⟨w.heap.size + 1 + 1, 31, none⟩ (.int .u8 127))) := (hE.setCell (p := ⟨w.heap.size + 2, 0, none⟩) (Nat.le_add_right _ _) (.int .u8 235)).setCell (p := ⟨w.heap.size + 2, 31, none⟩) (Nat.le_add_right _ _) (.int .u8 127)
      have HP : Hid (∀ c, Calls Tryz.prog 88 #[.agg (elc a).toArray, .slice (some ⟨w.heap.size + 1 + 1, 0, none⟩) 32 c] ((wr.setCell ⟨w.heap.size + 1 + 1, 0, none⟩ (.int .u8 235)).setCell ⟨w.heap.size + 1 + 1, 31, none⟩ (.int .u8 127)) fun e w' => e = .returned (.agg (elc (a ^ pE % pr)).toArray) ∧ Below ((wr.setCell ⟨w.heap.size + 1 + 1, 0, none⟩ (.int .u8 235)).setCell ⟨w.heap.size + 1 + 1, 31, none⟩ (.int .u8 127)).heap.size ((wr.setCell ⟨w.heap.size + 1 + 1, 0, none⟩ (.int .u8 235)).setCell ⟨w.heap.size + 1 + 1, 31, none⟩ (.int .u8 127)) w') := fun c =>
        pE_eq ▸ pow_el a _ 32 c eP ((wr.setCell ⟨w.heap.size + 1 + 1, 0, none⟩ (.int .u8 235)).setCell ⟨w.heap.size + 1 + 1, 31, none⟩ (.int .u8 127)) ha (by omega) (HS.out.rdA (by rw [eP, List.length_set, List.length_set, fz_len])) (by rw [eP, List.length_set, List.length_set, fz_len])
      have hld := elc_ld HA.out
      clear hA hZ hS hE hS1 hgk hmk
      go_wp2_with (first
        | (go_at_call 88; (with_reducible refine (HP.out _).mono ?_); rintro e w4 ⟨rfl, hB1⟩; have HZ4 := qbl HZ hB1; have HE4 := qtr HE hB1; clear hB1)
        | (refine wpList_store_all rfl 80 (.tmp 2) (.tmp 21) rfl (w.heap.size + 1) (elc (a ^ pE % pr)) (by rfl) (by rfl) 80 _ HZ4.out (by exact hdEl) (elc_one _) rfl ?_; intro w5 hb5 ho5; have HB5 := Lib.hid hb5; have HE5 := Lib.hid (ho5.below HE4.out (by omega) HE4.out.size); clear hb5 ho5))
      exact bodyPost_ret (res_cell rfl _ _ _ _ rfl HB5.out _ Tryz.underlying80 rfl (by exact hdEl)) rfl ⟨rfl, HE5.out⟩
end Go.Proofs.YtlbnibmcflmohaaGreat
namespace Go.Proofs.YtlbnibmcflmohaaGreat
open Go.RowKit
def leB (n : Nat) : List UInt8 := (List.range 32).map fun i => UInt8.ofNat (n / 256 ^ i)
def leBi (n : Nat) : Nat → List UInt8
  | 0 => List.replicate 32 0
  | i + 1 => (leBi n i).set i (UInt8.ofNat (n / 256 ^ i))
theorem leBi_len (n i : Nat) : (leBi n i).length = 32 := by
  induction i with
  | zero => rfl
  | succ i ih => rw [leBi, List.length_set, ih]
theorem leBi_get (n i j : Nat) (hi : i ≤ 32) (hj : j < i) : (leBi n i)[j]? = some (UInt8.ofNat (n / 256 ^ j)) := by
  induction i with
  | zero => omega
  | succ i ih =>
    rw [leBi]
    by_cases h : i = j
    · subst h
      rw [List.getElem?_set_self (by rw [leBi_len]; omega)]
    · rw [List.getElem?_set_ne h]
      exact ih (by omega) (by omega)
theorem leBi_all (n : Nat) : leBi n 32 = leB n := by
  apply List.ext_getElem?
  intro j
  by_cases hj : j < 32
  · rw [leBi_get n 32 j (Nat.le_refl _) hj, leB, List.getElem?_map, List.getElem?_range hj]; rfl
  · rw [List.getElem?_eq_none (by rw [leBi_len]; omega), List.getElem?_eq_none (by rw [leB]; simp; omega)]
def limb (n q : Nat) : Nat := n / 18446744073709551616 ^ q % 18446744073709551616
theorem elc_limb (n q : Nat) (hq : q < 4) : (elc n)[q]? = some (.int .u64 ((limb n q : Nat) : Int)) := by
  rcases q with _ | _ | _ | _ | q
  · simp [elc, l4, limb]
  · simp [elc, l4, limb]
  · simp [elc, l4, limb]
  · simp [elc, l4, limb]
  · omega
theorem limb_byte (n i : Nat) : limb n (i / 8) / 2 ^ (8 * (i % 8)) % 256 = n / 256 ^ i % 256 := by
  have h1 : (256 : Nat) ^ i = 18446744073709551616 ^ (i / 8) * 2 ^ (8 * (i % 8)) := by
    rw [show (256 : Nat) = 2 ^ 8 by rfl, show (18446744073709551616 : Nat) = 2 ^ 64 by rfl, ← Nat.pow_mul, ← Nat.pow_mul, ← Nat.pow_add]
    congr 1
    omega
  rw [h1, ← Nat.div_div_eq_div_mul]
  unfold limb
  obtain ⟨m, hm⟩ : ∃ m, m = n / 18446744073709551616 ^ (i / 8) := ⟨_, rfl⟩
  rw [← hm]
  have h2 : i % 8 < 8 := Nat.mod_lt _ (by omega)
  obtain ⟨r, hr⟩ : ∃ r, r = i % 8 := ⟨_, rfl⟩
  rw [← hr] at h2 ⊢
  have : r = 0 ∨ r = 1 ∨ r = 2 ∨ r = 3 ∨ r = 4 ∨ r = 5 ∨ r = 6 ∨ r = 7 := by omega
  rcases this with rfl | rfl | rfl | rfl | rfl | rfl | rfl | rfl <;> simp <;> omega
theorem ldq_b32 (v : Value) : Instr.loadAt 26 v = ldAt 26 v := rfl
attribute [local go_sem ↓] ldq_el ldq_b32
theorem hd32 : (Tryz.prog.info? 26).map (·.size) = some 32 := by kernel_rfl
set_option maxRecDepth 100000 in
set_option maxHeartbeats 1000000 in
theorem bytes_el (n : Nat) (w : World) (hn : n < 115792089237316195423570985008687907853269984665640564039457584007913129639936) :
    Calls Tryz.prog 34 #[.agg (elc n).toArray] w fun e w' => e = .returned (.agg (u8s (leB (n % pr))).toArray) ∧ Below w.heap.size w w' := by
  have HN := Lib.hid (fun W => norm_el n hn W)
  have hld : ∀ o, (ldAt 80 (.pointer (some ⟨w.heap.size, 0, none⟩))).run Tryz.prog ((w.alloc (.cells (elc n).toArray 80)).alloc o) = .ok (.agg (elc n).toArray) ((w.alloc (.cells (elc n).toArray 80)).alloc o) := fun o => elc_ld ((Blk.new w 80 (elc n)).alloc o)
  have HE : Hid (∀ o, Below w.heap.size w ((w.alloc (.cells (elc n).toArray 80)).alloc o)) := fun o => ((Below.refl _ w).alloc (Nat.le_refl _) _).alloc (by simp) _
  have HA : Hid (∀ o, Blk ((w.alloc (.cells (elc n).toArray 80)).alloc o) w.heap.size 80 (elc n)) := fun o => (Blk.new w _ _).alloc o
  obtain ⟨W1, hW1⟩ : ∃ W1, W1 = (w.alloc (.cells (elc n).toArray 80)).alloc (.cells (u8s (leBi (n % pr) 0)).toArray 26) := ⟨_, rfl⟩
  have HR : Hid (Blk W1 (w.heap.size + 1) 26 (u8s (leBi (n % pr) 0)) ∧ Blk W1 w.heap.size 80 (elc n) ∧ Below w.heap.size w W1) := hW1 ▸ ⟨Blk.new' (by simp) rfl, HA.out _, HE.out _⟩
  clear HE HA
  go_enter Tryz.func34, Tryz.ntmps34
  go_upto_region 2 with (first
    | ((with_reducible refine (HN.out _).mono ?_); rintro e w1 ⟨rfl, hB0⟩; have hB1 : Below W1.heap.size W1 w1 := hW1 ▸ hB0; have HA1 := Lib.hid (HR.out.2.1.below hB1 HR.out.2.1.lt); have HR1 := Lib.hid (HR.out.1.below hB1 HR.out.1.lt); have HE1 := Lib.hid (HR.out.2.2.trans (hB1.mono HR.out.2.2.size)); clear hB0 hB1)
    | (refine wpList_store_all rfl 80 (.tmp 1) (.tmp 6) rfl w.heap.size (elc (n % pr)) (by rfl) (by rfl) 80 _ HA1.out (by exact hdEl) (elc_one _) rfl ?_; intro w2 hb2 ho2))
  obtain ⟨V, hV⟩ : ∃ V, V = n % pr := ⟨_, rfl⟩
  rw [← hV] at hb2 HR1 ⊢
  have HA2 := Lib.hid hb2
  have HR2 := Lib.hid (ho2.blk HR1.out (by omega))
  have HE2 := Lib.hid (ho2.below HE1.out (Nat.le_refl _) HE1.out.size)
  have HG : Hid (w.heap.size + 1 < w2.heap.size) := HR2.out.lt
  obtain ⟨W3, hW3⟩ : ∃ W3, W3 = w2.alloc (.cells (u8s (leBi V 0)).toArray 26) := ⟨_, rfl⟩
  have HS3 : Hid (Blk W3 w.heap.size 80 (elc V) ∧ Blk W3 (w.heap.size + 1) 26 (u8s (leBi V 0)) ∧ Blk W3 w2.heap.size 26 (u8s (leBi V 0)) ∧ Below w.heap.size w W3) := hW3 ▸ ⟨HA2.out.alloc _, HR2.out.alloc _, Blk.new' rfl rfl, HE2.out.alloc HE2.out.size _⟩
  have HV := Lib.hid hV
  clear hb2 ho2 hld HA1 HR1 HE1 HR hW1 HN hV
  go_wp2
  go_loopg [7] 32 (fun kk q wr => ∃ i : Nat, kk = 32 - i ∧ q = .int .i64 (i : Int) ∧ i ≤ 32 ∧ Blk wr w.heap.size 80 (elc V) ∧ Blk wr (w.heap.size + 1) 26 (u8s (leBi V 0)) ∧ Blk wr w2.heap.size 26 (u8s (leBi V i)) ∧ Below w.heap.size w wr)
  case atStart => exact ⟨0, rfl, rfl, by omega, hW3 ▸ HS3.out⟩
  case round =>
    clear HS3 hW3 HA2 HR2 HE2
    obtain ⟨i, hgk, rfl, hi, hA, hZ, hS, hE⟩ := hrel
    rcases Nat.lt_or_ge i 32 with hlt | hge
    · have hlt2 : (i : Int) < 32 := by omega
      have cc : wr.cell? ⟨w2.heap.size, i, none⟩ = some (.int .u8 (((leBi V i).getD i 0).toNat : Int)) := by
        refine (hS.cell i).trans ?_
        rw [u8s_getElem?, List.getD_eq_getElem?_getD, List.getElem?_eq_getElem (by rw [leBi_len]; exact hlt)]
        rfl
      have ff : wr.frozen? ⟨w2.heap.size, i, none⟩ = false := hS.frozen i
      obtain ⟨q, hq⟩ : ∃ q, q = i / 8 := ⟨_, rfl⟩
      obtain ⟨r, hr⟩ : ∃ r, r = i % 8 := ⟨_, rfl⟩
      obtain ⟨s, hs⟩ : ∃ s, s = 8 * r := ⟨_, rfl⟩
      obtain ⟨L, hL⟩ : ∃ L, L = limb V q := ⟨_, rfl⟩
      have cl : wr.cell? ⟨w.heap.size, q, none⟩ = some (.int .u64 (L : Int)) := (hA.cell q).trans (hL ▸ elc_limb V q (by omega))
      have hqi : (i : Int) / 8 = (q : Int) := by omega
      have hri : (i : Int) % 8 = (r : Int) := by omega
      have hsi : (8 : Int) * (r : Int) = (s : Int) := by omega
      have hq4 : (q : Int) < 4 := by omega
      have hr8 : (r : Int) < 8 := by omega
      have hs64 : (s : Int) < 64 := by omega
      obtain ⟨y, hyd⟩ : ∃ y, y = L / 2 ^ s := ⟨_, rfl⟩
      have hy : (L : Int) / 2 ^ s = (y : Int) := by rw [hyd]; push_cast; rfl
      have HY : Hid (UInt8.ofNat (V / 256 ^ i) = UInt8.ofNat y) := by
        show _ = _
        apply UInt8.toNat_inj.1
        rw [UInt8.toNat_ofNat', UInt8.toNat_ofNat', hyd, hL, hs, hr, hq]
        exact (limb_byte V i).symm
      have HGK := Lib.hid hgk
      have hg := HG.out
      have HA := Lib.hid (hA.far (p := ⟨w2.heap.size, i, none⟩) (by show w.heap.size ≠ w2.heap.size; omega) (.int .u8 ((y : Int) % 256)))
      have HZ := Lib.hid (hZ.far (p := ⟨w2.heap.size, i, none⟩) (by show w.heap.size + 1 ≠ w2.heap.size; omega) (.int .u8 ((y : Int) % 256)))
      have HS : Hid (Blk (wr.setCell ⟨w2.heap.size, i, none⟩ (.int .u8 ((y : Int) % 256))) w2.heap.size 26 (u8s (leBi V (i + 1)))) := by
        have h1 := hS.set_ i (.int .u8 ((y : Int) % 256))
        rw [show ((y : Int) % 256) = ((UInt8.ofNat (V / 256 ^ i)).toNat : Int) by rw [HY.out, UInt8.toNat_ofNat']; omega, u8s_set] at h1
        rw [show ((y : Int) % 256) = ((UInt8.ofNat (V / 256 ^ i)).toNat : Int) by rw [HY.out, UInt8.toNat_ofNat']; omega]
        exact h1
      have HE := Lib.hid (hE.setCell (p := ⟨w2.heap.size, i, none⟩) (by show w.heap.size ≤ w2.heap.size; omega) (.int .u8 ((y : Int) % 256)))
      clear hA hZ hS hE hgk hyd hL hs hr hq hg
      go_wp2
      go_roundg (32 - (i + 1))
      case measure => have := HGK.out; omega
      case rel => exact ⟨i + 1, rfl, by go_num, by omega, HA.out, HZ.out, HS.out, HE.out⟩
    · obtain rfl : i = 32 := by omega
      have hlt2 : ¬ ((32 : Nat) : Int) < 32 := by omega
      rw [leBi_all] at hS
      have hld : (ldAt 26 (.pointer (some ⟨w2.heap.size, 0, none⟩))).run Tryz.prog wr = .ok (.agg (u8s (leB V)).toArray) wr := ldAt_run hS 26 0 (u8s (leB V)) rfl _ Tryz.underlying26 rfl (by exact hd32)
      have HZ := Lib.hid hZ
      have HE := Lib.hid hE
      clear hA hZ hS hE hgk
      go_wp2_with (refine wpList_store_all rfl 26 (.tmp 2) (.tmp 23) rfl (w.heap.size + 1) (u8s (leB V)) (by rfl) (by rfl) 26 _ HZ.out (by exact hd32) (u8s_one _) (by rfl) ?_; intro w5 hb5 ho5; have HB5 := Lib.hid hb5; have HE5 := Lib.hid (ho5.below HE.out (Nat.le_succ _) HE.out.size); clear hb5 ho5)
      exact bodyPost_ret (res_cell rfl _ _ _ _ rfl HB5.out _ Tryz.underlying26 rfl (by exact hd32)) rfl ⟨by rw [HV.out], HE5.out⟩
end Go.Proofs.YtlbnibmcflmohaaGreat
namespace Go.Proofs.YtlbnibmcflmohaaGreat
open Go.RowKit
def Prm (p : Nat) : Prop := 2 ≤ p ∧ ∀ a b, p ∣ a * b → p ∣ a ∨ p ∣ b
def cho : Nat → Nat → Nat
  | _, 0 => 1
  | 0, _ + 1 => 0
  | n + 1, k + 1 => cho n k + cho n (k + 1)
theorem cho_zero (n : Nat) : cho n 0 = 1 := by cases n <;> rfl
theorem cho_big : ∀ (n k : Nat), n < k → cho n k = 0
  | _, 0, h => by omega
  | 0, _ + 1, _ => rfl
  | n + 1, k + 1, h => by rw [cho, cho_big n k (by omega), cho_big n (k + 1) (by omega)]
theorem cho_self : ∀ n, cho n n = 1
  | 0 => rfl
  | n + 1 => by rw [cho, cho_self n, cho_big n (n + 1) (by omega)]
theorem cho_mul : ∀ (n k : Nat), (k + 1) * cho (n + 1) (k + 1) = (n + 1) * cho n k
  | 0, 0 => rfl
  | 0, k + 1 => by rw [cho_big 1 (k + 2) (by omega), cho_big 0 (k + 1) (by omega)]; simp
  | n + 1, 0 => by
      have h := cho_mul n 0
      have e : cho (n + 1 + 1) (0 + 1) = cho (n + 1) 0 + cho (n + 1) (0 + 1) := rfl
      rw [cho_zero] at h e ⊢
      omega
  | n + 1, k + 1 => by
      have h1 := cho_mul n k
      have h2 := cho_mul n (k + 1)
      have e1 : cho (n + 1 + 1) (k + 1 + 1) = cho (n + 1) (k + 1) + cho (n + 1) (k + 1 + 1) := rfl
      have e2 : cho (n + 1) (k + 1) = cho n k + cho n (k + 1) := rfl
      grind
def sumF (f : Nat → Nat) : Nat → Nat
  | 0 => 0
  | n + 1 => sumF f n + f n
theorem binom_step (a n : Nat) : ∀ m, sumF (fun k => cho (n + 1) k * a ^ k) (m + 1) = a * sumF (fun k => cho n k * a ^ k) m + sumF (fun k => cho n k * a ^ k) (m + 1)
  | 0 => by simp [sumF, cho_zero]
  | m + 1 => by
      have ih := binom_step a n m
      rw [sumF, ih]
      show _ + cho (n + 1) (m + 1) * a ^ (m + 1) = _
      have e2 : cho (n + 1) (m + 1) = cho n m + cho n (m + 1) := rfl
      rw [e2, sumF, sumF, sumF, Nat.pow_succ]
      grind
theorem binom (a : Nat) : ∀ n, sumF (fun k => cho n k * a ^ k) (n + 1) = (a + 1) ^ n
  | 0 => by simp [sumF, cho]
  | n + 1 => by
      have ih := binom a n
      have e : sumF (fun k => cho n k * a ^ k) (n + 1 + 1) = sumF (fun k => cho n k * a ^ k) (n + 1) + cho n (n + 1) * a ^ (n + 1) := rfl
      rw [binom_step, e, ih, cho_big n (n + 1) (by omega), Nat.pow_succ]
      grind
theorem prm_cho {p : Nat} (hp : Prm p) (k : Nat) (h0 : 0 < k) (hk : k < p) : p ∣ cho p k := by
  obtain ⟨m, rfl⟩ : ∃ m, p = m + 1 := ⟨p - 1, by omega⟩
  obtain ⟨j, rfl⟩ : ∃ j, k = j + 1 := ⟨k - 1, by omega⟩
  have h := cho_mul m j
  rcases hp.2 (j + 1) (cho (m + 1) (j + 1)) (by rw [h]; exact Nat.dvd_mul_right _ _) with h1 | h1
  · exact absurd (Nat.le_of_dvd (by omega) h1) (by omega)
  · exact h1
theorem binom_mid {p : Nat} (hp : Prm p) (a : Nat) : ∀ j, j < p → ∃ c, sumF (fun k => cho p k * a ^ k) (j + 1) = 1 + p * c
  | 0, _ => ⟨0, by simp [sumF, cho_zero]⟩
  | j + 1, h => by
      obtain ⟨c, hc⟩ := binom_mid hp a j (by omega)
      obtain ⟨q, hq⟩ := prm_cho hp (j + 1) (by omega) h
      refine ⟨c + q * a ^ (j + 1), ?_⟩
      rw [sumF, hc]
      show _ + cho p (j + 1) * a ^ (j + 1) = _
      rw [hq]
      grind
theorem fermat_step {p : Nat} (hp : Prm p) (a : Nat) : (a + 1) ^ p % p = (a ^ p + 1) % p := by
  have hp2 := hp.1
  rw [← binom, sumF, cho_self]
  obtain ⟨m, rfl⟩ : ∃ m, p = m + 1 := ⟨p - 1, by omega⟩
  obtain ⟨c, hc⟩ := binom_mid hp a m (by omega)
  rw [hc, show 1 + (m + 1) * c + 1 * a ^ (m + 1) = a ^ (m + 1) + 1 + (m + 1) * c by grind, Nat.add_mul_mod_self_left]
theorem fermat {p : Nat} (hp : Prm p) : ∀ a, a ^ p % p = a % p
  | 0 => by rw [Nat.zero_pow (by have := hp.1; omega)]
  | a + 1 => by rw [fermat_step hp, Nat.add_mod, fermat hp a, ← Nat.add_mod]
theorem dvd_pow_self' (b q : Nat) (h : 0 < q) : b ∣ b ^ q := by
  obtain ⟨k, rfl⟩ : ∃ k, q = k + 1 := ⟨q - 1, by omega⟩
  rw [Nat.pow_succ]
  exact Nat.dvd_mul_left _ _
theorem fermat' {p : Nat} (hp : Prm p) (a : Nat) (ha : ¬ p ∣ a) : a ^ (p - 1) % p = 1 := by
  have hp2 := hp.1
  have h0 : 0 < a := Nat.pos_of_ne_zero (fun h => ha (h ▸ Nat.dvd_zero _))
  have h := fermat hp a
  obtain ⟨m, rfl⟩ : ∃ m, p = m + 1 := ⟨p - 1, by omega⟩
  rw [Nat.pow_succ] at h
  have h1 : 1 ≤ a ^ m := Nat.pos_of_ne_zero (by simp; omega)
  have h2 : (m + 1) ∣ (a ^ m - 1) * a := by
    obtain ⟨q, hq⟩ : ∃ q, a ^ m = q + 1 := ⟨a ^ m - 1, by omega⟩
    rw [hq] at h ⊢
    have h3 := Nat.sub_mod_eq_zero_of_mod_eq h
    rw [show (q + 1) * a - a = q * a by rw [Nat.add_mul]; omega] at h3
    exact Nat.dvd_of_mod_eq_zero h3
  rcases hp.2 _ _ h2 with h3 | h3
  · obtain ⟨c, hc⟩ := h3
    rw [Nat.add_sub_cancel, show a ^ m = 1 + (m + 1) * c by omega, Nat.add_mul_mod_self_left, Nat.mod_eq_of_lt (by omega)]
  · exact absurd h3 ha
theorem bezI : ∀ (a b : Nat), ∃ u v : Int, u * (a : Int) + v * (b : Int) = (Nat.gcd a b : Int) := by
  intro a
  induction a using Nat.strongRecOn with
  | _ a ih =>
    intro b
    rcases Nat.eq_zero_or_pos a with rfl | ha
    · exact ⟨0, 1, by simp⟩
    · obtain ⟨u, v, h⟩ := ih (b % a) (Nat.mod_lt _ ha) a
      refine ⟨v - u * ((b / a : Nat) : Int), u, ?_⟩
      rw [Nat.gcd_rec, ← h]
      have e : (b : Int) = (a : Int) * ((b / a : Nat) : Int) + ((b % a : Nat) : Int) := by exact_mod_cast (Nat.div_add_mod b a).symm
      grind
theorem bez (q m : Nat) (hm : 2 ≤ m) (h : Nat.gcd q m = 1) : ∃ u v : Nat, u * q = v * m + 1 := by
  obtain ⟨x, y, e⟩ := bezI q m
  rw [h] at e
  obtain ⟨u, hu⟩ : ∃ u : Nat, (u : Int) = x % (m : Int) := ⟨(x % (m : Int)).toNat, by have := Int.emod_nonneg x (b := (m : Int)) (by omega); omega⟩
  have hx : x = (m : Int) * (x / (m : Int)) + (u : Int) := by rw [hu]; exact (Int.mul_ediv_add_emod x m).symm
  obtain ⟨t, ht⟩ : ∃ t : Int, (u : Int) * (q : Int) = t * (m : Int) + 1 := ⟨- (x / (m : Int)) * (q : Int) - y, by
    generalize x / (m : Int) = z at hx
    subst hx
    grind⟩
  have ht0 : 0 ≤ t := by
    rcases (by omega : t < 0 ∨ 0 ≤ t) with h1 | h1
    · exfalso
      have h2 : t * (m : Int) ≤ -1 * (m : Int) := Int.mul_le_mul_of_nonneg_right (by omega) (by omega)
      have h3 : 0 ≤ (u : Int) * (q : Int) := by exact_mod_cast Nat.zero_le _
      omega
    · exact h1
  refine ⟨u, t.toNat, ?_⟩
  have : (t.toNat : Int) = t := Int.toNat_of_nonneg ht0
  exact_mod_cast this ▸ ht
theorem pow_one_of (r b q m : Nat) (hr : 2 ≤ r) (hm : 2 ≤ m) (h1 : b ^ q % r = 1) (h2 : b ^ m % r = 1) (hg : Nat.gcd q m = 1) : b % r = 1 := by
  obtain ⟨u, v, e⟩ := bez q m hm hg
  have e1 : b ^ (u * q) % r = 1 := by rw [Nat.mul_comm, Nat.pow_mul, Nat.pow_mod, h1, Nat.one_pow, Nat.mod_eq_of_lt (by omega)]
  have e2 : b ^ (v * m) % r = 1 := by rw [Nat.mul_comm, Nat.pow_mul, Nat.pow_mod, h2, Nat.one_pow, Nat.mod_eq_of_lt (by omega)]
  rw [e, Nat.pow_succ, Nat.mul_mod, e2, Nat.one_mul, Nat.mod_mod] at e1
  exact e1
theorem prm_gcd {q : Nat} (hq : Prm q) (m : Nat) (h : ¬ q ∣ m) : Nat.gcd q m = 1 := by
  have h1 := Nat.gcd_dvd_left q m
  have h2 := Nat.gcd_dvd_right q m
  obtain ⟨c, hc⟩ := h1
  have hq2 := hq.1
  rcases hq.2 (Nat.gcd q m) c (by rw [← hc]; exact Nat.dvd_refl _) with h3 | h3
  · exact absurd (Nat.dvd_trans h3 h2) h
  · obtain ⟨e, he⟩ := h3
    have h4 : Nat.gcd q m * e = 1 := by
      have : q * 1 = q * (Nat.gcd q m * e) := by
        rw [Nat.mul_one]
        calc q = Nat.gcd q m * c := hc
          _ = Nat.gcd q m * (q * e) := by rw [← he]
          _ = q * (Nat.gcd q m * e) := by grind
      exact (Nat.eq_of_mul_eq_mul_left (by omega) this).symm
    exact Nat.eq_one_of_mul_eq_one_right h4
theorem pock1 {N q : Nat} (a : Nat) (hN : 2 ≤ N) (hq : Prm q) (hd : q * ((N - 1) / q) = N - 1) (h1 : a ^ (N - 1) % N = 1) (h2 : Nat.gcd (a ^ ((N - 1) / q) % N + (N - 1)) N = 1) :
    ∀ r, Prm r → r ∣ N → q ∣ r - 1 := by
  intro r hr hrN
  have hr2 := hr.1
  obtain ⟨m, hm⟩ : ∃ m, m = (N - 1) / q := ⟨_, rfl⟩
  rw [← hm] at hd h2
  have modr : ∀ x, x % N % r = x % r := fun x => Nat.mod_mod_of_dvd x hrN
  have hb1 : (a ^ m) ^ q % r = 1 := by
    rw [← Nat.pow_mul, Nat.mul_comm, hd, ← modr, h1, Nat.mod_eq_of_lt (by omega)]
  have hq2 := hq.1
  have hna : ¬ r ∣ a ^ m := by
    intro hx
    have := Nat.mod_eq_zero_of_dvd (Nat.dvd_trans hx (dvd_pow_self' (a ^ m) q (by omega)))
    omega
  by_cases hdiv : q ∣ r - 1
  · exact hdiv
  · exfalso
    have hb : a ^ m % r = 1 := by
      rcases Nat.lt_or_ge (r - 1) 2 with hlt | hge
      · obtain rfl : r = 2 := by omega
        rcases Nat.mod_two_eq_zero_or_one (a ^ m) with h0 | h0
        · exact absurd (Nat.dvd_of_mod_eq_zero h0) hna
        · exact h0
      · exact pow_one_of r (a ^ m) q (r - 1) hr2 hge hb1 (fermat' hr _ hna) (prm_gcd hq _ hdiv)
    have h3 : r ∣ Nat.gcd (a ^ m % N + (N - 1)) N := by
      refine Nat.dvd_gcd ?_ hrN
      have h5 : 1 ≤ a ^ m % N := by
        rcases Nat.eq_zero_or_pos (a ^ m % N) with h6 | h6
        · have := modr (a ^ m)
          rw [h6, hb] at this
          simp at this
        · exact h6
      have h4 : r ∣ a ^ m % N - 1 := by
        have := modr (a ^ m)
        rw [hb] at this
        exact Nat.dvd_of_mod_eq_zero (Nat.sub_mod_eq_zero_of_mod_eq (by rw [this, Nat.mod_eq_of_lt (by omega)]))
      rw [show a ^ m % N + (N - 1) = (a ^ m % N - 1) + N by omega]
      exact Nat.dvd_add h4 hrN
    rw [h2] at h3
    have := Nat.le_of_dvd (by omega) h3
    omega
theorem prm_of {n : Nat} (h2 : 2 ≤ n) (h : ∀ d, d ∣ n → d = 1 ∨ d = n) : Prm n := by
  refine ⟨h2, fun a b hab => ?_⟩
  rcases h _ (Nat.gcd_dvd_left n a) with h1 | h1
  · exact Or.inr (Nat.Coprime.dvd_of_dvd_mul_left h1 hab)
  · exact Or.inl (h1 ▸ Nat.gcd_dvd_right n a)
theorem has_prm : ∀ n, 2 ≤ n → Prm n ∨ ∃ r, Prm r ∧ r ∣ n ∧ r * r ≤ n := by
  intro n
  induction n using Nat.strongRecOn with
  | _ n ih =>
    intro h2
    by_cases h : ∀ d, d ∣ n → d = 1 ∨ d = n
    · exact Or.inl (prm_of h2 h)
    · right
      simp only [Classical.not_forall, not_or] at h
      obtain ⟨d, ⟨e, he⟩, hd1, hdn⟩ := h
      have hd0 : d ≠ 0 := fun h => by rw [h, Nat.zero_mul] at he; omega
      have he0 : e ≠ 0 := fun h => by rw [h, Nat.mul_zero] at he; omega
      have he1 : e ≠ 1 := fun h => by rw [h, Nat.mul_one] at he; exact hdn he.symm
      obtain ⟨s, hs2, hsn, hss⟩ : ∃ s, 2 ≤ s ∧ s ∣ n ∧ s * s ≤ n := by
        rcases Nat.le_total d e with hle | hle
        · exact ⟨d, by omega, ⟨e, he⟩, by rw [he]; exact Nat.mul_le_mul_left d hle⟩
        · exact ⟨e, by omega, ⟨d, by rw [he, Nat.mul_comm]⟩, by rw [he]; exact Nat.mul_le_mul_right e hle⟩
      have hsl : s < n := by
        have : s * 2 ≤ s * s := Nat.mul_le_mul_left s hs2
        omega
      rcases ih s hsl hs2 with hp | ⟨r, hr, hrs, hrr⟩
      · exact ⟨s, hp, hsn, hss⟩
      · refine ⟨r, hr, Nat.dvd_trans hrs hsn, Nat.le_trans (Nat.le_trans hrr ?_) hss⟩
        exact Nat.le_mul_of_pos_left s (by omega)
theorem pock {N : Nat} (F : Nat) (hN : 2 ≤ N) (hF : N ≤ F * F) (h : ∀ r, Prm r → r ∣ N → F ∣ r - 1) : Prm N := by
  rcases has_prm N hN with h1 | ⟨r, hr, hrN, hrr⟩
  · exact h1
  · exfalso
    have hr2 := hr.1
    have h3 := Nat.le_of_dvd (by omega) (h r hr hrN)
    have h4 : F * F < r * r := Nat.mul_lt_mul_of_lt_of_le (by omega) (by omega) (by omega)
    omega
theorem two_dvd {p q n : Nat} (hp : Prm p) (hq : Prm q) (hne : p ≠ q) (h1 : p ∣ n) (h2 : q ∣ n) : p * q ∣ n := by
  refine Nat.Coprime.mul_dvd_of_dvd_of_dvd (prm_gcd hp q ?_) h1 h2
  intro h
  obtain ⟨c, hc⟩ := h
  rcases hq.2 p c (by rw [← hc]; exact Nat.dvd_refl _) with h3 | h3
  · exact hne (Nat.dvd_antisymm ⟨c, hc⟩ h3)
  · obtain ⟨e, he⟩ := h3
    have hp2 := hp.1
    have hq2 := hq.1
    have : q * 1 = q * (p * e) := by
      rw [Nat.mul_one]
      calc q = p * c := hc
        _ = q * (p * e) := by rw [he]; grind
    have h4 := Nat.eq_of_mul_eq_mul_left (by omega) this
    have := Nat.eq_one_of_mul_eq_one_right h4.symm
    omega
def powm (n : Nat) : Nat → Nat → Nat → Nat
  | 0, _, _ => 1 % n
  | f + 1, b, e => if e % 2 = 1 then b * powm n f (b * b % n) (e / 2) % n else powm n f (b * b % n) (e / 2)
theorem powm_eq (n : Nat) : ∀ (f b e : Nat), e < 2 ^ f → powm n f b e = b ^ e % n
  | 0, b, e, h => by
      obtain rfl : e = 0 := by simp at h; omega
      simp [powm]
  | f + 1, b, e, h => by
      have ih := powm_eq n f (b * b % n) (e / 2) (by rw [Nat.pow_succ] at h; omega)
      have h1 : (b * b % n) ^ (e / 2) % n = b ^ (2 * (e / 2)) % n := by
        rw [← Nat.pow_mod, ← Nat.pow_two, ← Nat.pow_mul]
      rw [powm, ih, h1]
      split
      · next h2 =>
        rw [Nat.mul_mod_mod, show b * b ^ (2 * (e / 2)) = b ^ (2 * (e / 2) + 1) by rw [Nat.pow_succ, Nat.mul_comm], show 2 * (e / 2) + 1 = e by omega]
      · next h2 => rw [show 2 * (e / 2) = e by omega]
theorem pock2 {N q : Nat} (a m x : Nat) (hN : 2 ≤ N) (hb : N < 2 ^ 256) (hq : Prm q) (hd : q * m = N - 1) (h1 : powm N 256 a (N - 1) = 1) (h2 : powm N 256 a m = x) (h3 : Nat.gcd (x + (N - 1)) N = 1) :
    ∀ r, Prm r → r ∣ N → q ∣ r - 1 := by
  have hq2 := hq.1
  have hm : (N - 1) / q = m := by rw [← hd, Nat.mul_div_cancel_left _ (by omega)]
  have hml : m ≤ N - 1 := by rw [← hd]; exact Nat.le_mul_of_pos_left m (by omega)
  rw [powm_eq _ _ _ _ (by omega)] at h1 h2
  exact pock1 a hN hq (by rw [hm]; exact hd) h1 (by rw [hm, h2]; exact h3)
def noDiv (n : Nat) : Nat → Bool
  | 0 => true
  | k + 1 => n % (k + 2) != 0 && noDiv n k
theorem noDiv_no (n : Nat) : ∀ k, noDiv n k = true → ∀ d, 2 ≤ d → d ≤ k + 1 → ¬ d ∣ n
  | 0, _, d, h1, h2 => by omega
  | k + 1, h, d, h1, h2 => by
      rw [noDiv, Bool.and_eq_true] at h
      rcases Nat.lt_or_ge d (k + 2) with h3 | h3
      · exact noDiv_no n k h.2 d h1 (by omega)
      · obtain rfl : d = k + 2 := by omega
        intro h4
        have := Nat.mod_eq_zero_of_dvd h4
        simp [this] at h
theorem prm_small {n : Nat} (k : Nat) (h2 : 2 ≤ n) (hk : n < (k + 2) * (k + 2)) (h : noDiv n k = true) : Prm n := by
  rcases has_prm n h2 with h1 | ⟨r, hr, hrn, hrr⟩
  · exact h1
  · exfalso
    refine noDiv_no n k h r hr.1 ?_ hrn
    rcases Nat.lt_or_ge (k + 1) r with h3 | h3
    · have : (k + 2) * (k + 2) ≤ r * r := Nat.mul_le_mul h3 h3
      omega
    · exact h3
end Go.Proofs.YtlbnibmcflmohaaGreat
namespace Go.Proofs.YtlbnibmcflmohaaGreat
open Go.RowKit
theorem prm_991 : Prm 991 := prm_small 31 (by decide) (by decide) (by kernel_rfl)
theorem prm_103 : Prm 103 := prm_small 10 (by decide) (by decide) (by kernel_rfl)
theorem pk_8574133_991 : ∀ r, Prm r → r ∣ 8574133 → 991 ∣ r - 1 := pock2 2 8652 3435729 (by decide) (by decide) prm_991 (by kernel_rfl) (by kernel_rfl) (by kernel_rfl) (by kernel_rfl)
theorem pk_8574133_103 : ∀ r, Prm r → r ∣ 8574133 → 103 ∣ r - 1 := pock2 2 83244 4321357 (by decide) (by decide) prm_103 (by kernel_rfl) (by kernel_rfl) (by kernel_rfl) (by kernel_rfl)
theorem prm_8574133 : Prm 8574133 := pock (991 * 103) (by decide) (by decide) fun r h1 h2 => two_dvd prm_991 prm_103 (by decide) (pk_8574133_991 r h1 h2) (pk_8574133_103 r h1 h2)
theorem prm_127 : Prm 127 := prm_small 11 (by decide) (by decide) (by kernel_rfl)
theorem pk_1919519569386763_8574133 : ∀ r, Prm r → r ∣ 1919519569386763 → 8574133 ∣ r - 1 := pock2 2 223873314 1059928654987441 (by decide) (by decide) prm_8574133 (by kernel_rfl) (by kernel_rfl) (by kernel_rfl) (by kernel_rfl)
theorem pk_1919519569386763_127 : ∀ r, Prm r → r ∣ 1919519569386763 → 127 ∣ r - 1 := pock2 2 15114327318006 576774792492622 (by decide) (by decide) prm_127 (by kernel_rfl) (by kernel_rfl) (by kernel_rfl) (by kernel_rfl)
theorem prm_1919519569386763 : Prm 1919519569386763 := pock (8574133 * 127) (by decide) (by decide) fun r h1 h2 => two_dvd prm_8574133 prm_127 (by decide) (pk_1919519569386763_8574133 r h1 h2) (pk_1919519569386763_127 r h1 h2)
theorem prm_419 : Prm 419 := prm_small 20 (by decide) (by decide) (by kernel_rfl)
theorem prm_97 : Prm 97 := prm_small 9 (by decide) (by decide) (by kernel_rfl)
theorem pk_569003_419 : ∀ r, Prm r → r ∣ 569003 → 419 ∣ r - 1 := pock2 2 1358 236160 (by decide) (by decide) prm_419 (by kernel_rfl) (by kernel_rfl) (by kernel_rfl) (by kernel_rfl)
theorem pk_569003_97 : ∀ r, Prm r → r ∣ 569003 → 97 ∣ r - 1 := pock2 2 5866 439588 (by decide) (by decide) prm_97 (by kernel_rfl) (by kernel_rfl) (by kernel_rfl) (by kernel_rfl)
theorem prm_569003 : Prm 569003 := pock (419 * 97) (by decide) (by decide) fun r h1 h2 => two_dvd prm_419 prm_97 (by decide) (pk_569003_419 r h1 h2) (pk_569003_97 r h1 h2)
theorem pk_2773320623_569003 : ∀ r, Prm r → r ∣ 2773320623 → 569003 ∣ r - 1 := pock2 2 4874 2039232613 (by decide) (by decide) prm_569003 (by kernel_rfl) (by kernel_rfl) (by kernel_rfl) (by kernel_rfl)
theorem prm_2773320623 : Prm 2773320623 := pock 569003 (by decide) (by decide) fun r h1 h2 => pk_2773320623_569003 r h1 h2
theorem pk_72106336199_2773320623 : ∀ r, Prm r → r ∣ 72106336199 → 2773320623 ∣ r - 1 := pock2 2 26 67108864 (by decide) (by decide) prm_2773320623 (by kernel_rfl) (by kernel_rfl) (by kernel_rfl) (by kernel_rfl)
theorem prm_72106336199 : Prm 72106336199 := pock 2773320623 (by decide) (by decide) fun r h1 h2 => pk_72106336199_2773320623 r h1 h2
theorem pk_75445702479781427272750846543864801_1919519569386763 : ∀ r, Prm r → r ∣ 75445702479781427272750846543864801 → 1919519569386763 ∣ r - 1 := pock2 2 39304471641247389600 56747016255153332959347766392083459 (by decide) (by decide) prm_1919519569386763 (by kernel_rfl) (by kernel_rfl) (by kernel_rfl) (by kernel_rfl)
theorem pk_75445702479781427272750846543864801_72106336199 : ∀ r, Prm r → r ∣ 75445702479781427272750846543864801 → 72106336199 ∣ r - 1 := pock2 2 1046311689884858398375200 71619851993489548214160924360205394 (by decide) (by decide) prm_72106336199 (by kernel_rfl) (by kernel_rfl) (by kernel_rfl) (by kernel_rfl)
theorem prm_75445702479781427272750846543864801 : Prm 75445702479781427272750846543864801 := pock (1919519569386763 * 72106336199) (by decide) (by decide) fun r h1 h2 => two_dvd prm_1919519569386763 prm_72106336199 (by decide) (pk_75445702479781427272750846543864801_1919519569386763 r h1 h2) (pk_75445702479781427272750846543864801_72106336199 r h1 h2)
theorem prm_1723 : Prm 1723 := prm_small 41 (by decide) (by decide) (by kernel_rfl)
theorem pk_430751_1723 : ∀ r, Prm r → r ∣ 430751 → 1723 ∣ r - 1 := pock2 2 250 293176 (by decide) (by decide) prm_1723 (by kernel_rfl) (by kernel_rfl) (by kernel_rfl) (by kernel_rfl)
theorem prm_430751 : Prm 430751 := pock 1723 (by decide) (by decide) fun r h1 h2 => pk_430751_1723 r h1 h2
theorem prm_4153 : Prm 4153 := prm_small 64 (by decide) (by decide) (by kernel_rfl)
theorem pk_31757755568855353_430751 : ∀ r, Prm r → r ∣ 31757755568855353 → 430751 ∣ r - 1 := pock2 2 73726481352 15280470251845350 (by decide) (by decide) prm_430751 (by kernel_rfl) (by kernel_rfl) (by kernel_rfl) (by kernel_rfl)
theorem pk_31757755568855353_4153 : ∀ r, Prm r → r ∣ 31757755568855353 → 4153 ∣ r - 1 := pock2 2 7646943310584 28256283979054930 (by decide) (by decide) prm_4153 (by kernel_rfl) (by kernel_rfl) (by kernel_rfl) (by kernel_rfl)
theorem prm_31757755568855353 : Prm 31757755568855353 := pock (430751 * 4153) (by decide) (by decide) fun r h1 h2 => two_dvd prm_430751 prm_4153 (by decide) (pk_31757755568855353_430751 r h1 h2) (pk_31757755568855353_4153 r h1 h2)
theorem pk_74058212732561358302231226437062788676166966415465897661863160754340907_75445702479781427272750846543864801 : ∀ r, Prm r → r ∣ 74058212732561358302231226437062788676166966415465897661863160754340907 → 75445702479781427272750846543864801 ∣ r - 1 := pock2 2 981609426360740691344999861639072106 69490809710348678725736597923071784769591275419387514694139338586948360 (by decide) (by decide) prm_75445702479781427272750846543864801 (by kernel_rfl) (by kernel_rfl) (by kernel_rfl) (by kernel_rfl)
theorem pk_74058212732561358302231226437062788676166966415465897661863160754340907_31757755568855353 : ∀ r, Prm r → r ∣ 74058212732561358302231226437062788676166966415465897661863160754340907 → 31757755568855353 ∣ r - 1 := pock2 2 2331972502653487852620185443007392165117953542933313402 50366660687963342066214195241331738400016478712605795091965648721912165 (by decide) (by decide) prm_31757755568855353 (by kernel_rfl) (by kernel_rfl) (by kernel_rfl) (by kernel_rfl)
theorem prm_74058212732561358302231226437062788676166966415465897661863160754340907 : Prm 74058212732561358302231226437062788676166966415465897661863160754340907 := pock (75445702479781427272750846543864801 * 31757755568855353) (by decide) (by decide) fun r h1 h2 => two_dvd prm_75445702479781427272750846543864801 prm_31757755568855353 (by decide) (pk_74058212732561358302231226437062788676166966415465897661863160754340907_75445702479781427272750846543864801 r h1 h2) (pk_74058212732561358302231226437062788676166966415465897661863160754340907_31757755568855353 r h1 h2)
theorem pk_57896044618658097711785492504343953926634992332820282019728792003956564819949_74058212732561358302231226437062788676166966415465897661863160754340907 : ∀ r, Prm r → r ∣ 57896044618658097711785492504343953926634992332820282019728792003956564819949 → 74058212732561358302231226437062788676166966415465897661863160754340907 ∣ r - 1 := pock2 2 781764 427094198651976259540344842774561673889945192655078505504941250475370961481 (by decide) (by decide) prm_74058212732561358302231226437062788676166966415465897661863160754340907 (by kernel_rfl) (by kernel_rfl) (by kernel_rfl) (by kernel_rfl)
theorem prm_57896044618658097711785492504343953926634992332820282019728792003956564819949 : Prm 57896044618658097711785492504343953926634992332820282019728792003956564819949 := pock 74058212732561358302231226437062788676166966415465897661863160754340907 (by decide) (by decide) fun r h1 h2 => pk_57896044618658097711785492504343953926634992332820282019728792003956564819949_74058212732561358302231226437062788676166966415465897661863160754340907 r h1 h2
theorem prm_2551 : Prm 2551 := prm_small 50 (by decide) (by decide) (by kernel_rfl)
theorem pk_1224481_2551 : ∀ r, Prm r → r ∣ 1224481 → 2551 ∣ r - 1 := pock2 2 480 921659 (by decide) (by decide) prm_2551 (by kernel_rfl) (by kernel_rfl) (by kernel_rfl) (by kernel_rfl)
theorem prm_1224481 : Prm 1224481 := pock 2551 (by decide) (by decide) fun r h1 h2 => pk_1224481_2551 r h1 h2
theorem prm_3797 : Prm 3797 := prm_small 61 (by decide) (by decide) (by kernel_rfl)
theorem pk_531581_3797 : ∀ r, Prm r → r ∣ 531581 → 3797 ∣ r - 1 := pock2 2 140 32301 (by decide) (by decide) prm_3797 (by kernel_rfl) (by kernel_rfl) (by kernel_rfl) (by kernel_rfl)
theorem prm_531581 : Prm 531581 := pock 3797 (by decide) (by decide) fun r h1 h2 => pk_531581_3797 r h1 h2
theorem pk_1257559732178653_1224481 : ∀ r, Prm r → r ∣ 1257559732178653 → 1224481 ∣ r - 1 := pock2 2 1027014492 1252739704402215 (by decide) (by decide) prm_1224481 (by kernel_rfl) (by kernel_rfl) (by kernel_rfl) (by kernel_rfl)
theorem pk_1257559732178653_531581 : ∀ r, Prm r → r ∣ 1257559732178653 → 531581 ∣ r - 1 := pock2 2 2365697292 1139842034583224 (by decide) (by decide) prm_531581 (by kernel_rfl) (by kernel_rfl) (by kernel_rfl) (by kernel_rfl)
theorem prm_1257559732178653 : Prm 1257559732178653 := pock (1224481 * 531581) (by decide) (by decide) fun r h1 h2 => two_dvd prm_1224481 prm_531581 (by decide) (pk_1257559732178653_1224481 r h1 h2) (pk_1257559732178653_531581 r h1 h2)
theorem pk_4434155615661930479_1257559732178653 : ∀ r, Prm r → r ∣ 4434155615661930479 → 1257559732178653 ∣ r - 1 := pock2 2 3526 415787812636281767 (by decide) (by decide) prm_1257559732178653 (by kernel_rfl) (by kernel_rfl) (by kernel_rfl) (by kernel_rfl)
theorem prm_4434155615661930479 : Prm 4434155615661930479 := pock 1257559732178653 (by decide) (by decide) fun r h1 h2 => pk_4434155615661930479_1257559732178653 r h1 h2
theorem pk_172054593956031949258510691_4434155615661930479 : ∀ r, Prm r → r ∣ 172054593956031949258510691 → 4434155615661930479 ∣ r - 1 := pock2 2 38802110 81982237619807054769897707 (by decide) (by decide) prm_4434155615661930479 (by kernel_rfl) (by kernel_rfl) (by kernel_rfl) (by kernel_rfl)
theorem prm_172054593956031949258510691 : Prm 172054593956031949258510691 := pock 4434155615661930479 (by decide) (by decide) fun r h1 h2 => pk_172054593956031949258510691_4434155615661930479 r h1 h2
theorem pk_19757330305831588566944191468367130476339_172054593956031949258510691 : ∀ r, Prm r → r ∣ 19757330305831588566944191468367130476339 → 172054593956031949258510691 ∣ r - 1 := pock2 2 114831751082918 9148758478138211201771971577098600188172 (by decide) (by decide) prm_172054593956031949258510691 (by kernel_rfl) (by kernel_rfl) (by kernel_rfl) (by kernel_rfl)
theorem prm_19757330305831588566944191468367130476339 : Prm 19757330305831588566944191468367130476339 := pock 172054593956031949258510691 (by decide) (by decide) fun r h1 h2 => pk_19757330305831588566944191468367130476339_172054593956031949258510691 r h1 h2
theorem pk_276602624281642239937218680557139826668747_19757330305831588566944191468367130476339 : ∀ r, Prm r → r ∣ 276602624281642239937218680557139826668747 → 19757330305831588566944191468367130476339 ∣ r - 1 := pock2 2 14 16384 (by decide) (by decide) prm_19757330305831588566944191468367130476339 (by kernel_rfl) (by kernel_rfl) (by kernel_rfl) (by kernel_rfl)
theorem prm_276602624281642239937218680557139826668747 : Prm 276602624281642239937218680557139826668747 := pock 19757330305831588566944191468367130476339 (by decide) (by decide) fun r h1 h2 => pk_276602624281642239937218680557139826668747_19757330305831588566944191468367130476339 r h1 h2
theorem pk_7237005577332262213973186563042994240857116359379907606001950938285454250989_276602624281642239937218680557139826668747 : ∀ r, Prm r → r ∣ 7237005577332262213973186563042994240857116359379907606001950938285454250989 → 276602624281642239937218680557139826668747 ∣ r - 1 := pock2 2 26163907866482859529727157400808004 2975531125133123119648879457563281269120703404158613135195788908093573672641 (by decide) (by decide) prm_276602624281642239937218680557139826668747 (by kernel_rfl) (by kernel_rfl) (by kernel_rfl) (by kernel_rfl)
theorem prm_7237005577332262213973186563042994240857116359379907606001950938285454250989 : Prm 7237005577332262213973186563042994240857116359379907606001950938285454250989 := pock 276602624281642239937218680557139826668747 (by decide) (by decide) fun r h1 h2 => pk_7237005577332262213973186563042994240857116359379907606001950938285454250989_276602624281642239937218680557139826668747 r h1 h2
theorem pr_prm : Prm pr := prm_57896044618658097711785492504343953926634992332820282019728792003956564819949
def ordB : Nat := 7237005577332262213973186563042994240857116359379907606001950938285454250989
theorem ord_prm : Prm ordB := prm_7237005577332262213973186563042994240857116359379907606001950938285454250989
end Go.Proofs.YtlbnibmcflmohaaGreat
