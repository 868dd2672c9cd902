/- Part of the proof: Inv, Byt, Cur, Zpf. -/
import Derived.Test.YtlbnibmcflmohaaFlx31
namespace Go.Proofs.Ytlbnibmcflmohaa
open Go.RowKit
def fz : Nat → List UInt8
  | 0 => List.replicate 32 0
  | i + 1 => (fz i).set i 255
theorem fz_len (i : Nat) : (fz i).length = 32 := by
  induction i with
  | zero => rfl
  | succ i ih => rw [fz, List.length_set, ih]
def eP : List UInt8 := ((fz 32).set 0 235).set 31 127
theorem has_pE : ∃ E, leN eP = E := ⟨_, rfl⟩
noncomputable def pE : Nat := Classical.choose has_pE
theorem pE_eq : leN eP = pE := Classical.choose_spec has_pE
theorem Blk.rdA {w : World} {g : Nat} {t : TypeId} {l : List UInt8} {n : Nat} (h : Blk w g t (u8s l)) (hn : l.length = n) : Rd w (some ⟨g, 0, none⟩) n (u8s l) := by
  have := h.rd 0 n (by rw [u8s_length]; omega)
  rw [List.drop_zero, List.take_of_length_le (by rw [u8s_length]; omega)] at this
  exact this
attribute [local go_sem ↓] ldq_el
set_option maxRecDepth 100000 in
set_option maxHeartbeats 1000000 in
theorem inv_el (a : Nat) (w : World) (ha : a < 115792089237316195423570985008687907853269984665640564039457584007913129639936) :
    Calls Try.prog 71 #[.agg (elc a).toArray] w fun e w' => e = .returned (.agg (elc (a ^ pE % pr)).toArray) ∧ Below w.heap.size w w' := by
  have HMK : Hid (∀ W, (Instr.makeSlice 43 (.int .i64 32) (.int .i64 32)).run Try.prog W = .ok (.slice (some ⟨W.heap.size, 0, none⟩) 32 32) (W.alloc (.cells (u8s (fz 0)).toArray 5))) := fun W => by kernel_rfl
  obtain ⟨W1, hW1⟩ : ∃ W1, W1 = ((w.alloc (.cells (elc a).toArray 108)).alloc (.cells (l4 0 0 0 0).toArray 108)).alloc (.cells (u8s (fz 0)).toArray 5) := ⟨_, rfl⟩
  have HM0 : Hid (Blk W1 w.heap.size 108 (elc a) ∧ Blk W1 (w.heap.size + 1) 108 (l4 0 0 0 0) ∧ Blk W1 (w.heap.size + 2) 5 (u8s (fz 0)) ∧ Below w.heap.size w W1) :=
    hW1 ▸ ⟨((Blk.new w _ _).alloc _).alloc _, (Blk.new' (by simp) rfl).alloc _, Blk.new' (by simp) rfl, (((Below.refl _ w).alloc (Nat.le_refl _) _).alloc (by simp) _).alloc (by simp <;> omega) _⟩
  have hmk := HMK.out
  go_enter Try.func71, Try.ntmps71
  go_wp2
  go_loopg [8] 32 (fun kk q wr => ∃ i : Nat, kk = 32 - i ∧ q = .int .i64 (i : Int) ∧ i ≤ 32 ∧ Blk wr w.heap.size 108 (elc a) ∧ Blk wr (w.heap.size + 1) 108 (l4 0 0 0 0) ∧ Blk wr (w.heap.size + 2) 5 (u8s (fz i)) ∧ Below w.heap.size w wr)
  case atStart => exact ⟨0, rfl, rfl, by omega, hW1 ▸ HM0.out⟩
  case round =>
    clear HM0 hW1
    obtain ⟨i, hgk, rfl, hi, hA, hZ, hS, hE⟩ := hrel
    rcases Nat.lt_or_ge i 32 with hlt | hge
    · have hlt2 : (i : Int) < 32 := by omega
      have cc : wr.cell? ⟨w.heap.size + 1 + 1, i, none⟩ = some (.int .u8 (((fz i).getD i 0).toNat : Int)) := by
        refine (hS.cell i).trans ?_
        rw [u8s_getElem?, List.getD_eq_getElem?_getD, List.getElem?_eq_getElem (by rw [fz_len]; exact hlt)]
        rfl
      have ff : wr.frozen? ⟨w.heap.size + 1 + 1, i, none⟩ = false := hS.frozen i
      have HA := Lib.hid (hA.far (p := ⟨w.heap.size + 2, i, none⟩) (by simp) (.int .u8 255))
      have HZ := Lib.hid (hZ.far (p := ⟨w.heap.size + 2, i, none⟩) (by simp) (.int .u8 255))
      have HS : Hid (Blk (wr.setCell ⟨w.heap.size + 2, i, none⟩ (.int .u8 255)) (w.heap.size + 2) 5 (u8s (fz (i + 1)))) := (u8s_set (fz i) i 255) ▸ hS.set_ i (.int .u8 255)
      have HE := Lib.hid (hE.setCell (p := ⟨w.heap.size + 2, i, none⟩) (Nat.le_add_right _ _) (.int .u8 255))
      clear hA hZ hS hE
      go_wp2
      go_roundg (32 - (i + 1))
      case measure => omega
      case rel => exact ⟨i + 1, rfl, by go_num, by omega, HA.out, HZ.out, HS.out, HE.out⟩
    · obtain rfl : i = 32 := by omega
      have hlt2 : ¬ (32 : Int) < 32 := by omega
      have cc0 : wr.cell? ⟨w.heap.size + 1 + 1, 0, none⟩ = some (.int .u8 255) := (hS.cell 0).trans rfl
      have ff0 : wr.frozen? ⟨w.heap.size + 1 + 1, 0, none⟩ = false := hS.frozen 0
      have hS1 := hS.set_ 0 (.int .u8 235)
      have cc1 : (wr.setCell ⟨w.heap.size + 1 + 1, 0, none⟩ (.int .u8 235)).cell? ⟨w.heap.size + 1 + 1, 31, none⟩ = some (.int .u8 255) := (hS1.cell 31).trans rfl
      have ff1 : (wr.setCell ⟨w.heap.size + 1 + 1, 0, none⟩ (.int .u8 235)).frozen? ⟨w.heap.size + 1 + 1, 31, none⟩ = false := hS1.frozen 31
      have HS : Hid (Blk ((wr.setCell ⟨w.heap.size + 1 + 1, 0, none⟩ (.int .u8 235)).setCell ⟨w.heap.size + 1 + 1, 31, none⟩ (.int .u8 127)) (w.heap.size + 2) 5 (u8s eP)) := hS1.set_ 31 (.int .u8 127)
      have HA : Hid (Blk ((wr.setCell ⟨w.heap.size + 1 + 1, 0, none⟩ (.int .u8 235)).setCell ⟨w.heap.size + 1 + 1, 31, none⟩ (.int .u8 127)) w.heap.size 108 (elc a)) := (hA.far (p := ⟨w.heap.size + 2, 0, none⟩) (by simp) (.int .u8 235)).far (p := ⟨w.heap.size + 2, 31, none⟩) (by simp) (.int .u8 127)
      have HZ : Hid (Blk ((wr.setCell ⟨w.heap.size + 1 + 1, 0, none⟩ (.int .u8 235)).setCell ⟨w.heap.size + 1 + 1, 31, none⟩ (.int .u8 127)) (w.heap.size + 1) 108 (l4 0 0 0 0)) := (hZ.far (p := ⟨w.heap.size + 2, 0, none⟩) (by simp) (.int .u8 235)).far (p := ⟨w.heap.size + 2, 31, none⟩) (by simp) (.int .u8 127)
      have HE : Hid (Below w.heap.size w ((wr.setCell ⟨w.heap.size + 1 + 1, 0, none⟩ (.int .u8 235)).setCell ⟨w.heap.size + 1 + 1, 31, none⟩ (.int .u8 127))) := (hE.setCell (p := ⟨w.heap.size + 2, 0, none⟩) (Nat.le_add_right _ _) (.int .u8 235)).setCell (p := ⟨w.heap.size + 2, 31, none⟩) (Nat.le_add_right _ _) (.int .u8 127)
      have HP : Hid (∀ c, Calls Try.prog 84 #[.agg (elc a).toArray, .slice (some ⟨w.heap.size + 1 + 1, 0, none⟩) 32 c] ((wr.setCell ⟨w.heap.size + 1 + 1, 0, none⟩ (.int .u8 235)).setCell ⟨w.heap.size + 1 + 1, 31, none⟩ (.int .u8 127)) fun e w' => e = .returned (.agg (elc (a ^ pE % pr)).toArray) ∧ Below ((wr.setCell ⟨w.heap.size + 1 + 1, 0, none⟩ (.int .u8 235)).setCell ⟨w.heap.size + 1 + 1, 31, none⟩ (.int .u8 127)).heap.size ((wr.setCell ⟨w.heap.size + 1 + 1, 0, none⟩ (.int .u8 235)).setCell ⟨w.heap.size + 1 + 1, 31, none⟩ (.int .u8 127)) w') := fun c =>
        pE_eq ▸ pow_el a _ 32 c eP ((wr.setCell ⟨w.heap.size + 1 + 1, 0, none⟩ (.int .u8 235)).setCell ⟨w.heap.size + 1 + 1, 31, none⟩ (.int .u8 127)) ha (by omega) (HS.out.rdA (by rw [eP, List.length_set, List.length_set, fz_len])) (by rw [eP, List.length_set, List.length_set, fz_len])
      have hld := elc_ld HA.out
      clear hA hZ hS hE hS1 hgk hmk
      go_wp2_with (first
        | (go_at_call 84; (with_reducible refine (HP.out _).mono ?_); rintro e w4 ⟨rfl, hB1⟩; have HZ4 := qbl HZ hB1; have HE4 := qtr HE hB1; clear hB1)
        | (refine wpList_store_all rfl 108 (.tmp 2) (.tmp 21) rfl (w.heap.size + 1) (elc (a ^ pE % pr)) (by rfl) (by rfl) 108 _ HZ4.out (by exact hdEl) (elc_one _) rfl ?_; intro w5 hb5 ho5; have HB5 := Lib.hid hb5; have HE5 := Lib.hid (ho5.below HE4.out (by omega) HE4.out.size); clear hb5 ho5))
      exact bodyPost_ret (res_cell rfl _ _ _ _ rfl HB5.out _ Try.underlying108 rfl (by exact hdEl)) rfl ⟨rfl, HE5.out⟩
end Go.Proofs.Ytlbnibmcflmohaa
namespace Go.Proofs.Ytlbnibmcflmohaa
open Go.RowKit
def leB (n : Nat) : List UInt8 := (List.range 32).map fun i => UInt8.ofNat (n / 256 ^ i)
def leBi (n : Nat) : Nat → List UInt8
  | 0 => List.replicate 32 0
  | i + 1 => (leBi n i).set i (UInt8.ofNat (n / 256 ^ i))
theorem leBi_len (n i : Nat) : (leBi n i).length = 32 := by
  induction i with
  | zero => rfl
  | succ i ih => rw [leBi, List.length_set, ih]
theorem leBi_get (n i j : Nat) (hi : i ≤ 32) (hj : j < i) : (leBi n i)[j]? = some (UInt8.ofNat (n / 256 ^ j)) := by
  induction i with
  | zero => omega
  | succ i ih =>
    rw [leBi]
    by_cases h : i = j
    · subst h
      rw [List.getElem?_set_self (by rw [leBi_len]; omega)]
    · rw [List.getElem?_set_ne h]
      exact ih (by omega) (by omega)
theorem leBi_all (n : Nat) : leBi n 32 = leB n := by
  apply List.ext_getElem?
  intro j
  by_cases hj : j < 32
  · rw [leBi_get n 32 j (Nat.le_refl _) hj, leB, List.getElem?_map, List.getElem?_range hj]; rfl
  · rw [List.getElem?_eq_none (by rw [leBi_len]; omega), List.getElem?_eq_none (by rw [leB]; simp; omega)]
def limb (n q : Nat) : Nat := n / 18446744073709551616 ^ q % 18446744073709551616
theorem elc_limb (n q : Nat) (hq : q < 4) : (elc n)[q]? = some (.int .u64 ((limb n q : Nat) : Int)) := by
  rcases q with _ | _ | _ | _ | q
  · simp [elc, l4, limb]
  · simp [elc, l4, limb]
  · simp [elc, l4, limb]
  · simp [elc, l4, limb]
  · omega
theorem limb_byte (n i : Nat) : limb n (i / 8) / 2 ^ (8 * (i % 8)) % 256 = n / 256 ^ i % 256 := by
  have h1 : (256 : Nat) ^ i = 18446744073709551616 ^ (i / 8) * 2 ^ (8 * (i % 8)) := by
    rw [show (256 : Nat) = 2 ^ 8 by rfl, show (18446744073709551616 : Nat) = 2 ^ 64 by rfl, ← Nat.pow_mul, ← Nat.pow_mul, ← Nat.pow_add]
    congr 1
    omega
  rw [h1, ← Nat.div_div_eq_div_mul]
  unfold limb
  obtain ⟨m, hm⟩ : ∃ m, m = n / 18446744073709551616 ^ (i / 8) := ⟨_, rfl⟩
  rw [← hm]
  have h2 : i % 8 < 8 := Nat.mod_lt _ (by omega)
  obtain ⟨r, hr⟩ : ∃ r, r = i % 8 := ⟨_, rfl⟩
  rw [← hr] at h2 ⊢
  have : r = 0 ∨ r = 1 ∨ r = 2 ∨ r = 3 ∨ r = 4 ∨ r = 5 ∨ r = 6 ∨ r = 7 := by omega
  rcases this with rfl | rfl | rfl | rfl | rfl | rfl | rfl | rfl <;> simp <;> omega
theorem ldq_b32 (v : Value) : Instr.loadAt 25 v = ldAt 25 v := rfl
attribute [local go_sem ↓] ldq_el ldq_b32
theorem hd32 : (Try.prog.info? 25).map (·.size) = some 32 := by kernel_rfl
set_option maxRecDepth 100000 in
set_option maxHeartbeats 1000000 in
theorem bytes_el (n : Nat) (w : World) (hn : n < 115792089237316195423570985008687907853269984665640564039457584007913129639936) :
    Calls Try.prog 54 #[.agg (elc n).toArray] w fun e w' => e = .returned (.agg (u8s (leB (n % pr))).toArray) ∧ Below w.heap.size w w' := by
  have HN := Lib.hid (fun W => norm_el n hn W)
  have hld : ∀ o, (ldAt 108 (.pointer (some ⟨w.heap.size, 0, none⟩))).run Try.prog ((w.alloc (.cells (elc n).toArray 108)).alloc o) = .ok (.agg (elc n).toArray) ((w.alloc (.cells (elc n).toArray 108)).alloc o) := fun o => elc_ld ((Blk.new w 108 (elc n)).alloc o)
  have HE : Hid (∀ o, Below w.heap.size w ((w.alloc (.cells (elc n).toArray 108)).alloc o)) := fun o => ((Below.refl _ w).alloc (Nat.le_refl _) _).alloc (by simp) _
  have HA : Hid (∀ o, Blk ((w.alloc (.cells (elc n).toArray 108)).alloc o) w.heap.size 108 (elc n)) := fun o => (Blk.new w _ _).alloc o
  obtain ⟨W1, hW1⟩ : ∃ W1, W1 = (w.alloc (.cells (elc n).toArray 108)).alloc (.cells (u8s (leBi (n % pr) 0)).toArray 25) := ⟨_, rfl⟩
  have HR : Hid (Blk W1 (w.heap.size + 1) 25 (u8s (leBi (n % pr) 0)) ∧ Blk W1 w.heap.size 108 (elc n) ∧ Below w.heap.size w W1) := hW1 ▸ ⟨Blk.new' (by simp) rfl, HA.out _, HE.out _⟩
  clear HE HA
  go_enter Try.func54, Try.ntmps54
  go_upto_region 2 with (first
    | ((with_reducible refine (HN.out _).mono ?_); rintro e w1 ⟨rfl, hB0⟩; have hB1 : Below W1.heap.size W1 w1 := hW1 ▸ hB0; have HA1 := Lib.hid (HR.out.2.1.below hB1 HR.out.2.1.lt); have HR1 := Lib.hid (HR.out.1.below hB1 HR.out.1.lt); have HE1 := Lib.hid (HR.out.2.2.trans (hB1.mono HR.out.2.2.size)); clear hB0 hB1)
    | (refine wpList_store_all rfl 108 (.tmp 1) (.tmp 6) rfl w.heap.size (elc (n % pr)) (by rfl) (by rfl) 108 _ HA1.out (by exact hdEl) (elc_one _) rfl ?_; intro w2 hb2 ho2))
  obtain ⟨V, hV⟩ : ∃ V, V = n % pr := ⟨_, rfl⟩
  rw [← hV] at hb2 HR1 ⊢
  have HA2 := Lib.hid hb2
  have HR2 := Lib.hid (ho2.blk HR1.out (by omega))
  have HE2 := Lib.hid (ho2.below HE1.out (Nat.le_refl _) HE1.out.size)
  have HG : Hid (w.heap.size + 1 < w2.heap.size) := HR2.out.lt
  obtain ⟨W3, hW3⟩ : ∃ W3, W3 = w2.alloc (.cells (u8s (leBi V 0)).toArray 25) := ⟨_, rfl⟩
  have HS3 : Hid (Blk W3 w.heap.size 108 (elc V) ∧ Blk W3 (w.heap.size + 1) 25 (u8s (leBi V 0)) ∧ Blk W3 w2.heap.size 25 (u8s (leBi V 0)) ∧ Below w.heap.size w W3) := hW3 ▸ ⟨HA2.out.alloc _, HR2.out.alloc _, Blk.new' rfl rfl, HE2.out.alloc HE2.out.size _⟩
  have HV := Lib.hid hV
  clear hb2 ho2 hld HA1 HR1 HE1 HR hW1 HN hV
  go_wp2
  go_loopg [7] 32 (fun kk q wr => ∃ i : Nat, kk = 32 - i ∧ q = .int .i64 (i : Int) ∧ i ≤ 32 ∧ Blk wr w.heap.size 108 (elc V) ∧ Blk wr (w.heap.size + 1) 25 (u8s (leBi V 0)) ∧ Blk wr w2.heap.size 25 (u8s (leBi V i)) ∧ Below w.heap.size w wr)
  case atStart => exact ⟨0, rfl, rfl, by omega, hW3 ▸ HS3.out⟩
  case round =>
    clear HS3 hW3 HA2 HR2 HE2
    obtain ⟨i, hgk, rfl, hi, hA, hZ, hS, hE⟩ := hrel
    rcases Nat.lt_or_ge i 32 with hlt | hge
    · have hlt2 : (i : Int) < 32 := by omega
      have cc : wr.cell? ⟨w2.heap.size, i, none⟩ = some (.int .u8 (((leBi V i).getD i 0).toNat : Int)) := by
        refine (hS.cell i).trans ?_
        rw [u8s_getElem?, List.getD_eq_getElem?_getD, List.getElem?_eq_getElem (by rw [leBi_len]; exact hlt)]
        rfl
      have ff : wr.frozen? ⟨w2.heap.size, i, none⟩ = false := hS.frozen i
      obtain ⟨q, hq⟩ : ∃ q, q = i / 8 := ⟨_, rfl⟩
      obtain ⟨r, hr⟩ : ∃ r, r = i % 8 := ⟨_, rfl⟩
      obtain ⟨s, hs⟩ : ∃ s, s = 8 * r := ⟨_, rfl⟩
      obtain ⟨L, hL⟩ : ∃ L, L = limb V q := ⟨_, rfl⟩
      have cl : wr.cell? ⟨w.heap.size, q, none⟩ = some (.int .u64 (L : Int)) := (hA.cell q).trans (hL ▸ elc_limb V q (by omega))
      have hqi : (i : Int) / 8 = (q : Int) := by omega
      have hri : (i : Int) % 8 = (r : Int) := by omega
      have hsi : (8 : Int) * (r : Int) = (s : Int) := by omega
      have hq4 : (q : Int) < 4 := by omega
      have hr8 : (r : Int) < 8 := by omega
      have hs64 : (s : Int) < 64 := by omega
      obtain ⟨y, hyd⟩ : ∃ y, y = L / 2 ^ s := ⟨_, rfl⟩
      have hy : (L : Int) / 2 ^ s = (y : Int) := by rw [hyd]; push_cast; rfl
      have HY : Hid (UInt8.ofNat (V / 256 ^ i) = UInt8.ofNat y) := by
        show _ = _
        apply UInt8.toNat_inj.1
        rw [UInt8.toNat_ofNat', UInt8.toNat_ofNat', hyd, hL, hs, hr, hq]
        exact (limb_byte V i).symm
      have HGK := Lib.hid hgk
      have hg := HG.out
      have HA := Lib.hid (hA.far (p := ⟨w2.heap.size, i, none⟩) (by show w.heap.size ≠ w2.heap.size; omega) (.int .u8 ((y : Int) % 256)))
      have HZ := Lib.hid (hZ.far (p := ⟨w2.heap.size, i, none⟩) (by show w.heap.size + 1 ≠ w2.heap.size; omega) (.int .u8 ((y : Int) % 256)))
      have HS : Hid (Blk (wr.setCell ⟨w2.heap.size, i, none⟩ (.int .u8 ((y : Int) % 256))) w2.heap.size 25 (u8s (leBi V (i + 1)))) := by
        have h1 := hS.set_ i (.int .u8 ((y : Int) % 256))
        rw [show ((y : Int) % 256) = ((UInt8.ofNat (V / 256 ^ i)).toNat : Int) by rw [HY.out, UInt8.toNat_ofNat']; omega, u8s_set] at h1
        rw [show ((y : Int) % 256) = ((UInt8.ofNat (V / 256 ^ i)).toNat : Int) by rw [HY.out, UInt8.toNat_ofNat']; omega]
        exact h1
      have HE := Lib.hid (hE.setCell (p := ⟨w2.heap.size, i, none⟩) (by show w.heap.size ≤ w2.heap.size; omega) (.int .u8 ((y : Int) % 256)))
      clear hA hZ hS hE hgk hyd hL hs hr hq hg
      go_wp2
      go_roundg (32 - (i + 1))
      case measure => have := HGK.out; omega
      case rel => exact ⟨i + 1, rfl, by go_num, by omega, HA.out, HZ.out, HS.out, HE.out⟩
    · obtain rfl : i = 32 := by omega
      have hlt2 : ¬ ((32 : Nat) : Int) < 32 := by omega
      rw [leBi_all] at hS
      have hld : (ldAt 25 (.pointer (some ⟨w2.heap.size, 0, none⟩))).run Try.prog wr = .ok (.agg (u8s (leB V)).toArray) wr := ldAt_run hS 25 0 (u8s (leB V)) rfl _ Try.underlying25 rfl (by exact hd32)
      have HZ := Lib.hid hZ
      have HE := Lib.hid hE
      clear hA hZ hS hE hgk
      go_wp2_with (refine wpList_store_all rfl 25 (.tmp 2) (.tmp 23) rfl (w.heap.size + 1) (u8s (leB V)) (by rfl) (by rfl) 25 _ HZ.out (by exact hd32) (u8s_one _) (by rfl) ?_; intro w5 hb5 ho5; have HB5 := Lib.hid hb5; have HE5 := Lib.hid (ho5.below HE.out (Nat.le_succ _) HE.out.size); clear hb5 ho5)
      exact bodyPost_ret (res_cell rfl _ _ _ _ rfl HB5.out _ Try.underlying25 rfl (by exact hd32)) rfl ⟨by rw [HV.out], HE5.out⟩
end Go.Proofs.Ytlbnibmcflmohaa
namespace Go.Proofs.Ytlbnibmcflmohaa
open Go.RowKit
def fadd (a b : Nat) : Nat := (a + b) % pr
def fsub (a b : Nat) : Nat := (a + (pr - b % pr)) % pr
def fmul (a b : Nat) : Nat := a * b % pr
theorem fadd_lt (a b : Nat) : fadd a b < pr := pr_lt' _
theorem fsub_lt (a b : Nat) : fsub a b < pr := pr_lt' _
theorem fmul_lt (a b : Nat) : fmul a b < pr := pr_lt' _
theorem sum2 (a b : Nat) : sumT [a, b] 2 % pr = fadd a b := by simp [sumT, fadd]
theorem prod2 (a b : Nat) : prodT [a, b] 2 % pr = fmul a b := by simp [prodT, fmul]
structure LS where
  x2 : Nat
  z2 : Nat
  x3 : Nat
  z3 : Nat
def LS.swap (s : LS) : LS := ⟨s.x3, s.z3, s.x2, s.z2⟩
def LS.a (s : LS) : Nat := fadd s.x2 s.z2
def LS.b (s : LS) : Nat := fsub s.x2 s.z2
def LS.c (s : LS) : Nat := fadd s.x3 s.z3
def LS.d (s : LS) : Nat := fsub s.x3 s.z3
def LS.aa (s : LS) : Nat := fmul s.a s.a
def LS.bb (s : LS) : Nat := fmul s.b s.b
def LS.e (s : LS) : Nat := fsub s.aa s.bb
def LS.da (s : LS) : Nat := fmul s.d s.a
def LS.cb (s : LS) : Nat := fmul s.c s.b
def LS.step (x1 : Nat) (s : LS) : LS :=
  ⟨fmul s.aa s.bb, fmul s.e (fadd s.aa (fmul 121665 s.e)), fmul (fadd s.da s.cb) (fadd s.da s.cb), fmul x1 (fmul (fsub s.da s.cb) (fsub s.da s.cb))⟩
def LS.turn (b : Bool) (s : LS) : LS := if b then s.swap else s
def LS.round (x1 : Nat) (b : Bool) (s : LS) : LS := ((s.turn b).step x1).turn b
def kbit (n : List UInt8) (t : Nat) : Bool := (n.getD (t / 8) 0).toNat / 2 ^ (t % 8) % 2 == 1
def LS.start (x1 : Nat) : LS := ⟨1, 0, x1, 1⟩
def ladT (x1 : Nat) (f : Nat → Bool) : Nat → LS
  | 0 => LS.start x1
  | k + 1 => (ladT x1 f k).round x1 (f (254 - k))
def LS.Ok (s : LS) : Prop := s.x2 < pr ∧ s.z2 < pr ∧ s.x3 < pr ∧ s.z3 < pr
theorem LS.Ok.swap {s : LS} (h : s.Ok) : s.swap.Ok := ⟨h.2.2.1, h.2.2.2, h.1, h.2.1⟩
theorem LS.Ok.turn {s : LS} (h : s.Ok) (b : Bool) : (s.turn b).Ok := by
  cases b
  · exact h
  · exact h.swap
theorem LS.step_ok (x1 : Nat) (s : LS) : (s.step x1).Ok := ⟨fmul_lt _ _, fmul_lt _ _, fmul_lt _ _, fmul_lt _ _⟩
theorem ladT_ok (x1 : Nat) (hx : x1 < pr) (f : Nat → Bool) (k : Nat) : (ladT x1 f k).Ok := by
  cases k with
  | zero => exact ⟨by simp [ladT, LS.start, pr], by simp [ladT, LS.start, pr], hx, by simp [ladT, LS.start, pr]⟩
  | succ k => exact (LS.step_ok _ _).turn _
def clampB (k : List UInt8) : List UInt8 := (k.set 0 (k.getD 0 0 &&& 248)).set 31 (k.getD 31 0 &&& 127 ||| 64)
def readN (u : List UInt8) : Nat := leN u % 57896044618658097711785492504343953926634992332820282019728792003956564819968 % pr
noncomputable def multN (k u : List UInt8) : Nat := let s := ladT (readN u) (kbit (clampB k)) 255; fmul s.x2 (s.z2 ^ pE % pr)
end Go.Proofs.Ytlbnibmcflmohaa
namespace Go.Proofs.Ytlbnibmcflmohaa
open Go.RowKit
instance : NeZero pr := ⟨by unfold pr; decide⟩
end Go.Proofs.Ytlbnibmcflmohaa
