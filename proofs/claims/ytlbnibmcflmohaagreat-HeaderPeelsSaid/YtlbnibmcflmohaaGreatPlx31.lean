/- Part of the proof: Cur, RdF, Edw, Ldm, Zpf. -/
import Derived.Test.YtlbnibmcflmohaaGreatPlx29
namespace Go.Proofs.YtlbnibmcflmohaaGreat
open Go.RowKit
def fadd (a b : Nat) : Nat := (a + b) % pr
def fsub (a b : Nat) : Nat := (a + (pr - b % pr)) % pr
def fmul (a b : Nat) : Nat := a * b % pr
theorem fadd_lt (a b : Nat) : fadd a b < pr := pr_lt' _
theorem fsub_lt (a b : Nat) : fsub a b < pr := pr_lt' _
theorem fmul_lt (a b : Nat) : fmul a b < pr := pr_lt' _
theorem sum2 (a b : Nat) : sumT [a, b] 2 % pr = fadd a b := by simp [sumT, fadd]
theorem prod2 (a b : Nat) : prodT [a, b] 2 % pr = fmul a b := by simp [prodT, fmul]
structure LS where
  x2 : Nat
  z2 : Nat
  x3 : Nat
  z3 : Nat
def LS.swap (s : LS) : LS := ⟨s.x3, s.z3, s.x2, s.z2⟩
def LS.a (s : LS) : Nat := fadd s.x2 s.z2
def LS.b (s : LS) : Nat := fsub s.x2 s.z2
def LS.c (s : LS) : Nat := fadd s.x3 s.z3
def LS.d (s : LS) : Nat := fsub s.x3 s.z3
def LS.aa (s : LS) : Nat := fmul s.a s.a
def LS.bb (s : LS) : Nat := fmul s.b s.b
def LS.e (s : LS) : Nat := fsub s.aa s.bb
def LS.da (s : LS) : Nat := fmul s.d s.a
def LS.cb (s : LS) : Nat := fmul s.c s.b
def LS.step (x1 : Nat) (s : LS) : LS :=
  ⟨fmul s.aa s.bb, fmul s.e (fadd s.aa (fmul 121665 s.e)), fmul (fadd s.da s.cb) (fadd s.da s.cb), fmul x1 (fmul (fsub s.da s.cb) (fsub s.da s.cb))⟩
def LS.turn (b : Bool) (s : LS) : LS := if b then s.swap else s
def LS.round (x1 : Nat) (b : Bool) (s : LS) : LS := ((s.turn b).step x1).turn b
def kbit (n : List UInt8) (t : Nat) : Bool := (n.getD (t / 8) 0).toNat / 2 ^ (t % 8) % 2 == 1
def LS.start (x1 : Nat) : LS := ⟨1, 0, x1, 1⟩
def ladT (x1 : Nat) (f : Nat → Bool) : Nat → LS
  | 0 => LS.start x1
  | k + 1 => (ladT x1 f k).round x1 (f (254 - k))
def LS.Ok (s : LS) : Prop := s.x2 < pr ∧ s.z2 < pr ∧ s.x3 < pr ∧ s.z3 < pr
theorem LS.Ok.swap {s : LS} (h : s.Ok) : s.swap.Ok := ⟨h.2.2.1, h.2.2.2, h.1, h.2.1⟩
theorem LS.Ok.turn {s : LS} (h : s.Ok) (b : Bool) : (s.turn b).Ok := by
  cases b
  · exact h
  · exact h.swap
theorem LS.step_ok (x1 : Nat) (s : LS) : (s.step x1).Ok := ⟨fmul_lt _ _, fmul_lt _ _, fmul_lt _ _, fmul_lt _ _⟩
theorem ladT_ok (x1 : Nat) (hx : x1 < pr) (f : Nat → Bool) (k : Nat) : (ladT x1 f k).Ok := by
  cases k with
  | zero => exact ⟨by simp [ladT, LS.start, pr], by simp [ladT, LS.start, pr], hx, by simp [ladT, LS.start, pr]⟩
  | succ k => exact (LS.step_ok _ _).turn _
def clampB (k : List UInt8) : List UInt8 := (k.set 0 (k.getD 0 0 &&& 248)).set 31 (k.getD 31 0 &&& 127 ||| 64)
def readN (u : List UInt8) : Nat := leN u % 57896044618658097711785492504343953926634992332820282019728792003956564819968 % pr
noncomputable def multN (k u : List UInt8) : Nat := let s := ladT (readN u) (kbit (clampB k)) 255; fmul s.x2 (s.z2 ^ pE % pr)
end Go.Proofs.YtlbnibmcflmohaaGreat
namespace Go.Proofs.YtlbnibmcflmohaaGreat
open Go.RowKit
theorem leN_take (us : List UInt8) (i : Nat) (hi : i < us.length) : leN (us.take (i + 1)) = leN (us.take i) + (us.getD i 0).toNat * 256 ^ i := by
  have h := numL_take 256 (us.map (·.toNat)) i (by simpa using hi)
  simp only [leN, List.map_take]
  rw [h]
  congr 2
  simp only [List.getD_eq_getElem?_getD, List.getElem?_map, List.getElem?_eq_getElem hi]
  rfl
theorem leN_lt (us : List UInt8) : leN us < 256 ^ us.length := by
  have h := numL_lt 256 (us.map (·.toNat)) (by intro x hx; obtain ⟨c, _, rfl⟩ := List.mem_map.1 hx; exact c.toNat_lt)
  rw [List.length_map] at h
  exact h
theorem l4c {a b c d a' b' c' d' : Nat} (h0 : a = a') (h1 : b = b') (h2 : c = c') (h3 : d = d') : l4 a b c d = l4 a' b' c' d' := by subst h0; subst h1; subst h2; subst h3; rfl
theorem elc_add (V m c q : Nat) (hq : q < 4) (hV : V < 18446744073709551616 ^ q * c) (hm : m + c ≤ 18446744073709551616) :
    (elc V).set q (.int .u64 ((limb V q + m : Nat) : Int)) = elc (V + 18446744073709551616 ^ q * m) := by
  rcases q with _ | _ | _ | _ | q
  · simp only [limb, Nat.pow_zero, Nat.one_mul, Nat.div_one] at *
    refine l4c ?_ ?_ ?_ ?_ <;> omega
  · simp only [limb, Nat.zero_add, Nat.reducePow] at *
    refine l4c ?_ ?_ ?_ ?_ <;> omega
  · simp only [limb, Nat.zero_add, Nat.reducePow, Nat.reduceAdd] at *
    refine l4c ?_ ?_ ?_ ?_ <;> omega
  · simp only [limb, Nat.zero_add, Nat.reducePow, Nat.reduceAdd] at *
    refine l4c ?_ ?_ ?_ ?_ <;> omega
  · omega
theorem elc_cut (V : Nat) : (elc V).set 3 (.int .u64 ((limb V 3 % 9223372036854775808 : Nat) : Int)) = elc (V % 57896044618658097711785492504343953926634992332820282019728792003956564819968) := by
  simp only [limb, Nat.reducePow]
  refine l4c ?_ ?_ ?_ ?_ <;> omega
theorem or_low (L x s : Nat) (hL : L < 2 ^ s) (hx : x < 256) (hs : s ≤ 56) : bits .or .u64 (L : Int) ((x * 2 ^ s : Nat) : Int) = ((L + x * 2 ^ s : Nat) : Int) := by
  have h1 : 2 ^ s ≤ 2 ^ 56 := Nat.pow_le_pow_right (by omega) hs
  have h2 : x * 2 ^ s ≤ 255 * 2 ^ s := Nat.mul_le_mul_right _ (by omega)
  rw [show (2 : Nat) ^ 56 = 72057594037927936 by rfl] at h1
  rw [bits_or_u64_nat _ _ (by omega) (by omega), Nat.or_comm, Nat.mul_comm x, ← Nat.two_pow_add_eq_or_of_lt hL, Nat.add_comm]
attribute [local go_sem ↓] ldq_el
set_option maxRecDepth 100000 in
set_option maxHeartbeats 1000000 in
theorem read_el (A : Option Addr) (n c : Nat) (us : List UInt8) (w : World) (h : Rd w A n (u8s us)) (hn : n = 32) :
    Calls Tryz.prog 36 #[.slice A n c] w fun e w' => e = .returned (.tuple #[.agg (elc (readN us)).toArray, .int .i64 0]) ∧ Below w.heap.size w w' := by
  have HR := Lib.hid h
  have HL := Lib.hid h.len
  have HM0 : Hid (Blk ((w.alloc (.cells (l4 0 0 0 0).toArray 80)).alloc (.cells (l4 0 0 0 0).toArray 80)) w.heap.size 80 (l4 0 0 0 0) ∧ Blk ((w.alloc (.cells (l4 0 0 0 0).toArray 80)).alloc (.cells (l4 0 0 0 0).toArray 80)) (w.heap.size + 1) 80 (elc 0) ∧ Below w.heap.size w ((w.alloc (.cells (l4 0 0 0 0).toArray 80)).alloc (.cells (l4 0 0 0 0).toArray 80))) :=
    ⟨(Blk.new w _ _).alloc _, Blk.new' (by simp) rfl, ((Below.refl _ w).alloc (Nat.le_refl _) _).alloc (by simp) _⟩
  have hn2 : (n : Int) = 32 := by omega
  clear h
  go_enter Tryz.func36, Tryz.ntmps36
  go_wp2
  go_loopg [13] 32 (fun kk q wr => ∃ i : Nat, kk = 32 - i ∧ q = .int .i64 (i : Int) ∧ i ≤ 32 ∧ Blk wr w.heap.size 80 (l4 0 0 0 0) ∧ Blk wr (w.heap.size + 1) 80 (elc (leN (us.take i))) ∧ Below w.heap.size w wr)
  case atStart => exact ⟨0, rfl, rfl, by omega, HM0.out.1, by rw [List.take_zero]; exact HM0.out.2.1, HM0.out.2.2⟩
  case round =>
    clear HM0
    obtain ⟨i, hgk, rfl, hi, hZ, hS, hE⟩ := hrel
    rcases Nat.lt_or_ge i 32 with hlt | hge
    · have hlt2 : (i : Int) < 32 := by omega
      have hln : i < us.length := by rw [HL.out, hn]; exact hlt
      obtain ⟨b, off, x, rfl, hbw, hux, hcw⟩ := HR.out.u8 (k := i) (by omega)
      have hcx : wr.cell? ⟨b, off + i, none⟩ = some (.int .u8 ((x.toNat : Nat) : Int)) := (hE.cell hbw).trans hcw
      obtain ⟨q, hq⟩ : ∃ q, q = i / 8 := ⟨_, rfl⟩
      obtain ⟨r, hr⟩ : ∃ r, r = i % 8 := ⟨_, rfl⟩
      obtain ⟨s, hs⟩ : ∃ s, s = 8 * r := ⟨_, rfl⟩
      obtain ⟨V, hV⟩ : ∃ V, V = leN (us.take i) := ⟨_, rfl⟩
      rw [← hV] at hS
      obtain ⟨L, hL⟩ : ∃ L, L = limb V q := ⟨_, rfl⟩
      have hVl : V < 18446744073709551616 ^ q * 2 ^ s := by
        have h1 := leN_lt (us.take i)
        rw [List.length_take, Nat.min_eq_left (Nat.le_of_lt hln), ← hV] at h1
        have h2 : (256 : Nat) ^ i = 18446744073709551616 ^ q * 2 ^ s := by
          rw [hq, hs, hr, show (256 : Nat) = 2 ^ 8 by rfl, show (18446744073709551616 : Nat) = 2 ^ 64 by rfl, ← Nat.pow_mul, ← Nat.pow_mul, ← Nat.pow_add]
          congr 1
          omega
        rw [← h2]; exact h1
      have hLs : L < 2 ^ s := by
        rw [hL, limb]
        exact Nat.lt_of_le_of_lt (Nat.mod_le _ _) (Nat.div_lt_of_lt_mul hVl)
      have hx8 := x.toNat_lt
      have hs56 : s ≤ 56 := by omega
      have cl : wr.cell? ⟨w.heap.size + 1, q, none⟩ = some (.int .u64 (L : Int)) := (hS.cell q).trans (hL ▸ elc_limb V q (by omega))
      have ff : wr.frozen? ⟨w.heap.size + 1, q, none⟩ = false := hS.frozen q
      have hqi : (i : Int) / 8 = (q : Int) := by omega
      have hri : (i : Int) % 8 = (r : Int) := by omega
      have hsi : (8 : Int) * (r : Int) = (s : Int) := by omega
      have hq4 : (q : Int) < 4 := by omega
      have hr8 : (r : Int) < 8 := by omega
      have hs64 : (s : Int) < 64 := by omega
      obtain ⟨X, hX⟩ : ∃ X, X = x.toNat := ⟨_, rfl⟩
      rw [← hX] at hcx hx8
      obtain ⟨m, hm⟩ : ∃ m, m = X * 2 ^ s := ⟨_, rfl⟩
      have hmi : (X : Int) * 2 ^ s = (m : Int) := by rw [hm]; push_cast; rfl
      have hor : bits .or .u64 (L : Int) (m : Int) = ((L + m : Nat) : Int) := by rw [hm]; exact or_low L X s hLs hx8 hs56
      have HVN : Hid (leN (us.take (i + 1)) = V + 18446744073709551616 ^ q * m) := by
        show _ = _
        have h2 : (256 : Nat) ^ i = 18446744073709551616 ^ q * 2 ^ s := by
          rw [hq, hs, hr, show (256 : Nat) = 2 ^ 8 by rfl, show (18446744073709551616 : Nat) = 2 ^ 64 by rfl, ← Nat.pow_mul, ← Nat.pow_mul, ← Nat.pow_add]
          congr 1
          omega
        rw [leN_take us i hln, ← hV, List.getD_eq_getElem?_getD, hux, h2, hm, hX, Nat.mul_left_comm]
        rfl
      have HSET : Hid ((elc V).set q (.int .u64 ((L + m : Nat) : Int)) = elc (V + 18446744073709551616 ^ q * m)) := by
        show _ = _
        rw [hL]
        refine elc_add V m (2 ^ s) q (by omega) hVl ?_
        have h1 : 2 ^ s ≤ 2 ^ 56 := Nat.pow_le_pow_right (by omega) hs56
        have h2 : X * 2 ^ s ≤ 255 * 2 ^ s := Nat.mul_le_mul_right _ (by omega)
        rw [show (2 : Nat) ^ 56 = 72057594037927936 by rfl] at h1
        omega
      have hml : m < 18446744073709551616 := by
        have h1 : 2 ^ s ≤ 2 ^ 56 := Nat.pow_le_pow_right (by omega) hs56
        have h2 : X * 2 ^ s ≤ 255 * 2 ^ s := Nat.mul_le_mul_right _ (by omega)
        rw [show (2 : Nat) ^ 56 = 72057594037927936 by rfl] at h1
        omega
      have HGK := Lib.hid hgk
      have HZ := Lib.hid (hZ.far (p := ⟨w.heap.size + 1, q, none⟩) (by simp) (.int .u64 ((L + m : Nat) : Int)))
      have HS : Hid (Blk (wr.setCell ⟨w.heap.size + 1, q, none⟩ (.int .u64 ((L + m : Nat) : Int))) (w.heap.size + 1) 80 (elc (leN (us.take (i + 1))))) := by
        rw [HVN.out, ← HSET.out]
        exact hS.set_ q _
      have HE := Lib.hid (hE.setCell (p := ⟨w.heap.size + 1, q, none⟩) (Nat.le_succ _) (.int .u64 ((L + m : Nat) : Int)))
      have hsm : (X : Int) % 18446744073709551616 = (X : Int) := by omega
      clear hZ hS hE hgk hm hL hs hr hq hX hcw hux hV hVl hLs HVN HSET hln hbw
      go_wp2
      go_roundg (32 - (i + 1))
      case measure => have := HGK.out; omega
      case rel => exact ⟨i + 1, rfl, by go_num, by omega, HZ.out, HS.out, HE.out⟩
    · obtain rfl : i = 32 := by omega
      have hlt2 : ¬ ((32 : Nat) : Int) < 32 := by omega
      rw [List.take_of_length_le (by rw [HL.out, hn]; exact Nat.le_refl _)] at hS
      obtain ⟨V, hV⟩ : ∃ V, V = leN us := ⟨_, rfl⟩
      rw [← hV] at hS
      have hVl : V < 115792089237316195423570985008687907853269984665640564039457584007913129639936 := by
        have := leN_lt us
        rw [HL.out, hn, ← hV] at this
        exact this
      obtain ⟨L, hL⟩ : ∃ L, L = limb V 3 := ⟨_, rfl⟩
      have hL64 : L < 18446744073709551616 := by rw [hL]; exact Nat.mod_lt _ (by omega)
      have cl : wr.cell? ⟨w.heap.size + 1, 3, none⟩ = some (.int .u64 (L : Int)) := (hS.cell 3).trans (hL ▸ elc_limb V 3 (by omega))
      have ff : wr.frozen? ⟨w.heap.size + 1, 3, none⟩ = false := hS.frozen 3
      have hand := and63 L hL64
      have HS := hS.set_ 3 (.int .u64 ((L : Int) % 9223372036854775808))
      rw [show (elc V).set 3 (.int .u64 ((L : Int) % 9223372036854775808)) = elc (V % 57896044618658097711785492504343953926634992332820282019728792003956564819968) by rw [show (L : Int) % 9223372036854775808 = ((L % 9223372036854775808 : Nat) : Int) by omega, hL]; exact elc_cut V] at HS
      have HS := Lib.hid HS
      have HZ := Lib.hid (hZ.far (p := ⟨w.heap.size + 1, 3, none⟩) (by simp) (.int .u64 ((L : Int) % 9223372036854775808)))
      have HE := Lib.hid (hE.setCell (p := ⟨w.heap.size + 1, 3, none⟩) (Nat.le_succ _) (.int .u64 ((L : Int) % 9223372036854775808)))
      have hld := elc_ld HS.out
      have HN := Lib.hid (fun W => norm_el (V % 57896044618658097711785492504343953926634992332820282019728792003956564819968) (by omega) W)
      have HV := Lib.hid hV
      clear hZ hS hE hgk hL hV hVl
      go_wp2_with (first
        | ((with_reducible refine (HN.out _).mono ?_); rintro e w4 ⟨rfl, hB1⟩; have HZ4 := qbl HZ hB1; have HE4 := qtr HE hB1; clear hB1)
        | (refine wpList_store_all rfl 80 (.tmp 2) (.tmp 37) rfl w.heap.size (elc (V % 57896044618658097711785492504343953926634992332820282019728792003956564819968 % pr)) (by rfl) (by rfl) 80 _ HZ4.out (by exact hdEl) (elc_one _) rfl ?_; intro w5 hb5 ho5; have HB5 := Lib.hid hb5; have HE5 := Lib.hid (ho5.below HE4.out (Nat.le_refl _) HE4.out.size); clear hb5 ho5))
      exact bodyPost_ret (res_cell_tmp rfl _ _ _ _ rfl HB5.out _ Tryz.underlying80 rfl (by exact hdEl)) rfl ⟨by rw [readN, HV.out]; rfl, HE5.out⟩
end Go.Proofs.YtlbnibmcflmohaaGreat
namespace Go.Proofs.YtlbnibmcflmohaaGreat
open Go.RowKit
section
variable {F : Type} [Lean.Grind.CommRing F]
structure EdK (d i : F) (iv : F → F) : Prop where
  one : (1 : F) ≠ 0
  two : (2 : F) ≠ 0
  dom : ∀ a b : F, a * b = 0 → a = 0 ∨ b = 0
  inv : ∀ a : F, a ≠ 0 → a * iv a = 1
  sq : i * i = -1
  non : ∀ s : F, s * s ≠ d
variable {d i : F} {iv : F → F}
theorem EdK.ne (K : EdK d i iv) {a b : F} (ha : a ≠ 0) (hb : b ≠ 0) : a * b ≠ 0 := fun h => (K.dom a b h).elim ha hb
theorem EdK.cancel (K : EdK d i iv) {a b c : F} (ha : a ≠ 0) (h : b * a = c * a) : b = c := by
  have h1 : (b - c) * a = 0 := by grind
  rcases K.dom _ _ h1 with h2 | h2
  · grind
  · exact absurd h2 ha
def OnC (d x y : F) : Prop := d * x * x * y * y + 1 + x * x - y * y = 0
theorem EdK.full (K : EdK d i iv) {x1 y1 x2 y2 e : F} (h1 : OnC d x1 y1) (h2 : OnC d x2 y2) (he : e = d * (x1 * x2 * y1 * y2)) (hs : e * e = 1) : False := by
  unfold OnC at h1 h2
  have hi := K.sq
  have k1 : (i * x1 + e * y1) * (i * x1 + e * y1) = d * ((x1 * y1 * (i * x2 + y2)) * (x1 * y1 * (i * x2 + y2))) := by
    have a1 : (i * x1 + e * y1) * (i * x1 + e * y1) = (i * i) * (x1 * x1) + (e * e) * (y1 * y1) + 2 * i * e * (x1 * y1) := by grind
    have a2 : d * ((x1 * y1 * (i * x2 + y2)) * (x1 * y1 * (i * x2 + y2))) = d * x1 * x1 * y1 * y1 * ((i * i) * (x2 * x2) + y2 * y2) + 2 * i * (x1 * y1) * (d * (x1 * x2 * y1 * y2)) := by grind
    have a3 : d * x1 * x1 * y1 * y1 * (-1 * (x2 * x2) + y2 * y2) = d * x1 * x1 * y1 * y1 + e * e := by rw [he]; grind
    rw [a1, a2, ← he, hi, hs, a3, hs]
    grind
  have k2 : (i * x1 - e * y1) * (i * x1 - e * y1) = d * ((x1 * y1 * (i * x2 - y2)) * (x1 * y1 * (i * x2 - y2))) := by
    have a1 : (i * x1 - e * y1) * (i * x1 - e * y1) = (i * i) * (x1 * x1) + (e * e) * (y1 * y1) - 2 * i * e * (x1 * y1) := by grind
    have a2 : d * ((x1 * y1 * (i * x2 - y2)) * (x1 * y1 * (i * x2 - y2))) = d * x1 * x1 * y1 * y1 * ((i * i) * (x2 * x2) + y2 * y2) - 2 * i * (x1 * y1) * (d * (x1 * x2 * y1 * y2)) := by grind
    have a3 : d * x1 * x1 * y1 * y1 * (-1 * (x2 * x2) + y2 * y2) = d * x1 * x1 * y1 * y1 + e * e := by rw [he]; grind
    rw [a1, a2, ← he, hi, hs, a3, hs]
    grind
  have no : ∀ A W : F, A * A = d * (W * W) → W = 0 := by
    intro A W h
    by_cases hw : W = 0
    · exact hw
    · exfalso
      have hv := K.inv W hw
      refine K.non (A * iv W) ?_
      have : A * iv W * (A * iv W) = d * ((W * iv W) * (W * iv W)) := by
        have : A * iv W * (A * iv W) = (A * A) * (iv W * iv W) := by grind
        rw [this, h]; grind
      rw [this, hv]; grind
  have w1 := no _ _ k1
  have w2 := no _ _ k2
  have w3 : 2 * i * e = 0 := by
    have : 2 * i * e = d * y2 * (x1 * y1 * (i * x2 + y2) + x1 * y1 * (i * x2 - y2)) := by rw [he]; grind
    rw [this, w1, w2]; grind
  have w4 : (2 : F) = 0 := by
    have : (2 : F) = -(2 * i * e) * (i * e) := by
      have : -(2 * i * e) * (i * e) = -2 * ((i * i) * (e * e)) := by grind
      rw [this, hi, hs]; grind
    rw [this, w3]; grind
  exact K.two w4
theorem EdK.den (K : EdK d i iv) {x1 y1 x2 y2 : F} (h1 : OnC d x1 y1) (h2 : OnC d x2 y2) : 1 + d * (x1 * x2 * y1 * y2) ≠ 0 ∧ 1 - d * (x1 * x2 * y1 * y2) ≠ 0 := by
  constructor
  · intro h
    have e : d * (x1 * x2 * y1 * y2) = -1 := by grind
    exact K.full h1 h2 rfl (by rw [e]; grind)
  · intro h
    have e : d * (x1 * x2 * y1 * y2) = 1 := by grind
    exact K.full h1 h2 rfl (by rw [e]; grind)
structure Pt (d : F) where
  x : F
  y : F
  on : OnC d x y
theorem Pt.eq_of {P Q : Pt d} (hx : P.x = Q.x) (hy : P.y = Q.y) : P = Q := by
  cases P; cases Q; cases hx; cases hy; rfl
def Pt.O : Pt d := ⟨0, 1, by unfold OnC; grind⟩
theorem EdK.closed (K : EdK d i iv) {x1 y1 x2 y2 X Y : F} (h1 : OnC d x1 y1) (h2 : OnC d x2 y2) (hX : X * (1 + d * (x1 * x2 * y1 * y2)) = x1 * y2 + y1 * x2) (hY : Y * (1 - d * (x1 * x2 * y1 * y2)) = y1 * y2 + x1 * x2) : OnC d X Y := by
  obtain ⟨n1, n2⟩ := K.den h1 h2
  have h := id_c x1 y1 x2 y2 d h1 h2
  rw [← hX, ← hY] at h
  generalize 1 + d * (x1 * x2 * y1 * y2) = a at h n1
  generalize 1 - d * (x1 * x2 * y1 * y2) = b at h n2
  unfold OnC
  have h3 : (d * X * X * Y * Y + 1 + X * X - Y * Y) * (a * a * (b * b)) = 0 := by grind
  rcases K.dom _ _ h3 with h4 | h4
  · exact h4
  · exact absurd h4 (K.ne (K.ne n1 n1) (K.ne n2 n2))
def addX (d : F) (iv : F → F) (x1 y1 x2 y2 : F) : F := (x1 * y2 + y1 * x2) * iv (1 + d * (x1 * x2 * y1 * y2))
def addY (d : F) (iv : F → F) (x1 y1 x2 y2 : F) : F := (y1 * y2 + x1 * x2) * iv (1 - d * (x1 * x2 * y1 * y2))
theorem EdK.addX_eq (K : EdK d i iv) {x1 y1 x2 y2 : F} (h1 : OnC d x1 y1) (h2 : OnC d x2 y2) : addX d iv x1 y1 x2 y2 * (1 + d * (x1 * x2 * y1 * y2)) = x1 * y2 + y1 * x2 := by
  have h := K.inv _ (K.den h1 h2).1
  unfold addX
  generalize iv (1 + d * (x1 * x2 * y1 * y2)) = v at h
  generalize 1 + d * (x1 * x2 * y1 * y2) = a at h
  grind
theorem EdK.addY_eq (K : EdK d i iv) {x1 y1 x2 y2 : F} (h1 : OnC d x1 y1) (h2 : OnC d x2 y2) : addY d iv x1 y1 x2 y2 * (1 - d * (x1 * x2 * y1 * y2)) = y1 * y2 + x1 * x2 := by
  have h := K.inv _ (K.den h1 h2).2
  unfold addY
  generalize iv (1 - d * (x1 * x2 * y1 * y2)) = v at h
  generalize 1 - d * (x1 * x2 * y1 * y2) = a at h
  grind
def Pt.add (K : EdK d i iv) (P Q : Pt d) : Pt d := ⟨addX d iv P.x P.y Q.x Q.y, addY d iv P.x P.y Q.x Q.y, K.closed P.on Q.on (K.addX_eq P.on Q.on) (K.addY_eq P.on Q.on)⟩
theorem Pt.add_x (K : EdK d i iv) (P Q : Pt d) : (P.add K Q).x * (1 + d * (P.x * Q.x * P.y * Q.y)) = P.x * Q.y + P.y * Q.x := K.addX_eq P.on Q.on
theorem Pt.add_y (K : EdK d i iv) (P Q : Pt d) : (P.add K Q).y * (1 - d * (P.x * Q.x * P.y * Q.y)) = P.y * Q.y + P.x * Q.x := K.addY_eq P.on Q.on
theorem Pt.add_comm (K : EdK d i iv) (P Q : Pt d) : P.add K Q = Q.add K P := by
  refine Pt.eq_of (K.cancel (K.den P.on Q.on).1 ?_) (K.cancel (K.den P.on Q.on).2 ?_)
  · rw [Pt.add_x, show 1 + d * (P.x * Q.x * P.y * Q.y) = 1 + d * (Q.x * P.x * Q.y * P.y) by grind, Pt.add_x]; grind
  · rw [Pt.add_y, show 1 - d * (P.x * Q.x * P.y * Q.y) = 1 - d * (Q.x * P.x * Q.y * P.y) by grind, Pt.add_y]; grind
theorem Pt.add_O (K : EdK d i iv) (P : Pt d) : P.add K Pt.O = P := by
  refine Pt.eq_of (K.cancel (K.den P.on Pt.O.on).1 ?_) (K.cancel (K.den P.on Pt.O.on).2 ?_)
  · rw [Pt.add_x]; simp only [Pt.O]; grind
  · rw [Pt.add_y]; simp only [Pt.O]; grind
theorem Pt.O_add (K : EdK d i iv) (P : Pt d) : Pt.O.add K P = P := by rw [Pt.add_comm, Pt.add_O]
def Pt.neg (P : Pt d) : Pt d := ⟨0 - P.x, P.y, by have := P.on; unfold OnC at this ⊢; grind⟩
theorem Pt.add_neg (K : EdK d i iv) (P : Pt d) : P.add K P.neg = Pt.O := by
  have h := P.on
  unfold OnC at h
  refine Pt.eq_of (K.cancel (K.den P.on P.neg.on).1 ?_) (K.cancel (K.den P.on P.neg.on).2 ?_)
  · rw [Pt.add_x]; simp only [Pt.O, Pt.neg]; grind
  · rw [Pt.add_y]; simp only [Pt.O, Pt.neg]; grind
theorem fin_eq {L R D E u v : F} (h : L * D * u * (E * v) = R * E * v * (D * u)) : L * (D * E * u * v) = R * (D * E * u * v) := by grind
theorem EdK.assocX (K : EdK d i iv) {x1 y1 x2 y2 x3 y3 X Y X' Y' L R : F} (h1 : OnC d x1 y1) (h2 : OnC d x2 y2) (h3 : OnC d x3 y3)
    (hX : X * (1 + d * (x1 * x2 * y1 * y2)) = x1 * y2 + y1 * x2) (hY : Y * (1 - d * (x1 * x2 * y1 * y2)) = y1 * y2 + x1 * x2)
    (hX' : X' * (1 + d * (x2 * x3 * y2 * y3)) = x2 * y3 + y2 * x3) (hY' : Y' * (1 - d * (x2 * x3 * y2 * y3)) = y2 * y3 + x2 * x3)
    (hL : L * (1 + d * (X * x3 * Y * y3)) = X * y3 + Y * x3) (hR : R * (1 + d * (x1 * X' * y1 * Y')) = x1 * Y' + y1 * X') : L = R := by
  obtain ⟨n1, n2⟩ := K.den h1 h2
  obtain ⟨n3, n4⟩ := K.den h2 h3
  have n5 := (K.den (K.closed h1 h2 hX hY) h3).1
  have n6 := (K.den h1 (K.closed h2 h3 hX' hY')).1
  have h := id_x x1 y1 x2 y2 x3 y3 d h1 h2 h3
  rw [← hX, ← hY, ← hX', ← hY'] at h
  generalize 1 + d * (x1 * x2 * y1 * y2) = a at *
  generalize 1 - d * (x1 * x2 * y1 * y2) = b at *
  generalize 1 + d * (x2 * x3 * y2 * y3) = a' at *
  generalize 1 - d * (x2 * x3 * y2 * y3) = b' at *
  have e1 : (X * a * b * y3 + Y * b * a * x3) = L * (1 + d * (X * x3 * Y * y3)) * (a * b) := by rw [hL]; grind
  have e2 : (x1 * (Y' * b') * a' + y1 * (X' * a') * b') = R * (1 + d * (x1 * X' * y1 * Y')) * (a' * b') := by rw [hR]; grind
  have e3 : a' * b' + d * x1 * y1 * (X' * a') * (Y' * b') = (1 + d * (x1 * X' * y1 * Y')) * (a' * b') := by grind
  have e4 : a * b + d * x3 * y3 * (X * a) * (Y * b) = (1 + d * (X * x3 * Y * y3)) * (a * b) := by grind
  rw [e1, e2, e3, e4] at h
  generalize 1 + d * (X * x3 * Y * y3) = D at *
  generalize 1 + d * (x1 * X' * y1 * Y') = E at *
  refine K.cancel (a := D * E * (a * b) * (a' * b')) (K.ne (K.ne (K.ne n5 n6) (K.ne n1 n2)) (K.ne n3 n4)) (fin_eq h)
theorem EdK.assocY (K : EdK d i iv) {x1 y1 x2 y2 x3 y3 X Y X' Y' L R : F} (h1 : OnC d x1 y1) (h2 : OnC d x2 y2) (h3 : OnC d x3 y3)
    (hX : X * (1 + d * (x1 * x2 * y1 * y2)) = x1 * y2 + y1 * x2) (hY : Y * (1 - d * (x1 * x2 * y1 * y2)) = y1 * y2 + x1 * x2)
    (hX' : X' * (1 + d * (x2 * x3 * y2 * y3)) = x2 * y3 + y2 * x3) (hY' : Y' * (1 - d * (x2 * x3 * y2 * y3)) = y2 * y3 + x2 * x3)
    (hL : L * (1 - d * (X * x3 * Y * y3)) = Y * y3 + X * x3) (hR : R * (1 - d * (x1 * X' * y1 * Y')) = y1 * Y' + x1 * X') : L = R := by
  obtain ⟨n1, n2⟩ := K.den h1 h2
  obtain ⟨n3, n4⟩ := K.den h2 h3
  have n5 := (K.den (K.closed h1 h2 hX hY) h3).2
  have n6 := (K.den h1 (K.closed h2 h3 hX' hY')).2
  have h := id_y x1 y1 x2 y2 x3 y3 d h1 h2 h3
  rw [← hX, ← hY, ← hX', ← hY'] at h
  generalize 1 + d * (x1 * x2 * y1 * y2) = a at *
  generalize 1 - d * (x1 * x2 * y1 * y2) = b at *
  generalize 1 + d * (x2 * x3 * y2 * y3) = a' at *
  generalize 1 - d * (x2 * x3 * y2 * y3) = b' at *
  have e1 : (Y * b * a * y3 + X * a * b * x3) = L * (1 - d * (X * x3 * Y * y3)) * (a * b) := by rw [hL]; grind
  have e2 : (y1 * (Y' * b') * a' + x1 * (X' * a') * b') = R * (1 - d * (x1 * X' * y1 * Y')) * (a' * b') := by rw [hR]; grind
  have e3 : a' * b' - d * x1 * y1 * (X' * a') * (Y' * b') = (1 - d * (x1 * X' * y1 * Y')) * (a' * b') := by grind
  have e4 : a * b - d * x3 * y3 * (X * a) * (Y * b) = (1 - d * (X * x3 * Y * y3)) * (a * b) := by grind
  rw [e1, e2, e3, e4] at h
  generalize 1 - d * (X * x3 * Y * y3) = D at *
  generalize 1 - d * (x1 * X' * y1 * Y') = E at *
  refine K.cancel (a := D * E * (a * b) * (a' * b')) (K.ne (K.ne (K.ne n5 n6) (K.ne n1 n2)) (K.ne n3 n4)) (fin_eq h)
theorem Pt.assoc (K : EdK d i iv) (P Q R : Pt d) : (P.add K Q).add K R = P.add K (Q.add K R) :=
  Pt.eq_of (K.assocX P.on Q.on R.on (Pt.add_x K P Q) (Pt.add_y K P Q) (Pt.add_x K Q R) (Pt.add_y K Q R) (Pt.add_x K (P.add K Q) R) (Pt.add_x K P (Q.add K R)))
    (K.assocY P.on Q.on R.on (Pt.add_x K P Q) (Pt.add_y K P Q) (Pt.add_x K Q R) (Pt.add_y K Q R) (Pt.add_y K (P.add K Q) R) (Pt.add_y K P (Q.add K R)))
def Pt.mul (K : EdK d i iv) (P : Pt d) : Nat → Pt d
  | 0 => Pt.O
  | n + 1 => (Pt.mul K P n).add K P
theorem Pt.mul_one (K : EdK d i iv) (P : Pt d) : P.mul K 1 = P := Pt.O_add K P
theorem Pt.mul_add (K : EdK d i iv) (P : Pt d) (m : Nat) : ∀ n, P.mul K (m + n) = (P.mul K m).add K (P.mul K n)
  | 0 => (Pt.add_O K _).symm
  | n + 1 => by
      show (P.mul K (m + n)).add K P = _
      rw [Pt.mul_add K P m n, Pt.assoc]; rfl
theorem Pt.mul_mul (K : EdK d i iv) (P : Pt d) (m : Nat) : ∀ n, P.mul K (m * n) = (P.mul K m).mul K n
  | 0 => rfl
  | n + 1 => by
      rw [Nat.mul_succ, Pt.mul_add, Pt.mul_mul K P m n]; rfl
theorem Pt.mul_O (K : EdK d i iv) : ∀ n, (Pt.O (d := d)).mul K n = Pt.O
  | 0 => rfl
  | n + 1 => by
      show ((Pt.O (d := d)).mul K n).add K Pt.O = _
      rw [Pt.mul_O K n, Pt.add_O]
end
end Go.Proofs.YtlbnibmcflmohaaGreat
namespace Go.Proofs.YtlbnibmcflmohaaGreat
open Go.RowKit
section
variable {F : Type} [Lean.Grind.CommRing F] {d i : F} {iv : F → F}
def Rep (Q : Pt d) (x z : F) : Prop := ∃ l : F, l ≠ 0 ∧ x = l * (1 + Q.y) ∧ z = l * (1 - Q.y)
theorem EdK.one_d (K : EdK d i iv) : 1 + d ≠ 0 := fun h => K.non i (by rw [K.sq]; grind)
theorem EdK.dyy (K : EdK d i iv) (y : F) : 1 + d * (y * y) ≠ 0 := by
  intro h
  by_cases hy : y = 0
  · rw [hy] at h
    exact K.one (by grind)
  · have hv := K.inv y hy
    refine K.non (i * iv y) ?_
    have e : d = d * ((y * iv y) * (y * iv y)) := by rw [hv]; grind
    have e2 : d * ((y * iv y) * (y * iv y)) = (d * (y * y)) * (iv y * iv y) := by grind
    have e3 : i * iv y * (i * iv y) = (i * i) * (iv y * iv y) := by grind
    have e4 : d * (y * y) = -1 := by grind
    rw [e3, K.sq, e, e2, e4]
theorem EdK.sq0 (K : EdK d i iv) {a : F} (h : a * a = 0) : a = 0 := (K.dom a a h).elim id id
theorem EdK.four (K : EdK d i iv) : (4 : F) ≠ 0 := by
  have := K.ne K.two K.two
  intro h
  exact this ((by grind : (2 : F) * 2 = 4).trans h)
theorem EdK.eight (K : EdK d i iv) : (8 : F) ≠ 0 := by
  have := K.ne K.two K.four
  intro h
  exact this ((by grind : (2 : F) * 4 = 8).trans h)
theorem EdK.sixteen (K : EdK d i iv) : (16 : F) ≠ 0 := by
  have := K.ne K.four K.four
  intro h
  exact this ((by grind : (4 : F) * 4 = 16).trans h)
theorem cv1 {d u y : F} (h : d * u * u * y * y + 1 + u * u - y * y = 0) : 1 - d * (u * u * y * y) + (y * y + u * u) = 2 + 2 * (u * u) := by grind
theorem cv2 {d u y : F} (h : d * u * u * y * y + 1 + u * u - y * y = 0) : 1 - d * (u * u * y * y) - (y * y + u * u) = 0 - 2 * (u * u) * (1 + d * (y * y)) := by grind
theorem cv4 {d u y : F} (h : d * u * u * y * y + 1 + u * u - y * y = 0) : 1 - y * y = 0 - u * u * (1 + d * (y * y)) := by grind
theorem cv3 {d u y : F} (h : d * u * u * y * y + 1 + u * u - y * y = 0) : (1 + d * (y * y)) * (1 + u * u) = (1 + d) * (y * y) := by grind
theorem dbl_x {l x y Y c g : F} (e1 : c * (1 + Y) = 2 + 2 * (x * x)) (e3 : 121666 * g * (1 + x * x) = y * y) :
    (l * (1 + y) + l * (1 - y)) * (l * (1 + y) + l * (1 - y)) * ((l * (1 + y) - l * (1 - y)) * (l * (1 + y) - l * (1 - y))) = 8 * (l * l * (l * l)) * (121666 * g) * c * (1 + Y) := by
  have h1 : (l * (1 + y) + l * (1 - y)) * (l * (1 + y) + l * (1 - y)) * ((l * (1 + y) - l * (1 - y)) * (l * (1 + y) - l * (1 - y))) = 16 * (l * l * (l * l)) * (y * y) := by grind
  have h2 : 8 * (l * l * (l * l)) * (121666 * g) * c * (1 + Y) = 8 * (l * l * (l * l)) * (121666 * g) * (c * (1 + Y)) := by grind
  rw [h1, h2, e1, ← e3]
  grind
theorem dbl_z {l x y Y c g : F} (e2 : c * (1 - Y) = 0 - 2 * (x * x) * g) (e4 : 1 - y * y = 0 - x * x * g) (e5 : 1 + 121665 * (1 - y * y) = 121666 * g) :
    ((l * (1 + y) + l * (1 - y)) * (l * (1 + y) + l * (1 - y)) - (l * (1 + y) - l * (1 - y)) * (l * (1 + y) - l * (1 - y))) * ((l * (1 + y) + l * (1 - y)) * (l * (1 + y) + l * (1 - y)) + 121665 * ((l * (1 + y) + l * (1 - y)) * (l * (1 + y) + l * (1 - y)) - (l * (1 + y) - l * (1 - y)) * (l * (1 + y) - l * (1 - y)))) = 8 * (l * l * (l * l)) * (121666 * g) * c * (1 - Y) := by
  have h1 : (l * (1 + y) + l * (1 - y)) * (l * (1 + y) + l * (1 - y)) = 4 * (l * l) := by grind
  have h2 : (l * (1 + y) - l * (1 - y)) * (l * (1 + y) - l * (1 - y)) = 4 * (l * l) * (y * y) := by grind
  have h3 : 8 * (l * l * (l * l)) * (121666 * g) * c * (1 - Y) = 8 * (l * l * (l * l)) * (121666 * g) * (c * (1 - Y)) := by grind
  have h4 : 4 * (l * l) - 4 * (l * l) * (y * y) = 4 * (l * l) * (1 - y * y) := by grind
  have h5 : 4 * (l * l) + 121665 * (4 * (l * l) * (1 - y * y)) = 4 * (l * l) * (1 + 121665 * (1 - y * y)) := by grind
  rw [h1, h2, h3, e2, h4, h5, e5, e4]
  grind
theorem rep_dbl (K : EdK d i iv) (hd : 121666 * d = -121665) {Q : Pt d} {x z : F} (h : Rep Q x z) :
    Rep (Q.add K Q) ((x + z) * (x + z) * ((x - z) * (x - z))) (((x + z) * (x + z) - (x - z) * (x - z)) * ((x + z) * (x + z) + 121665 * ((x + z) * (x + z) - (x - z) * (x - z)))) := by
  obtain ⟨l, hl, rfl, rfl⟩ := h
  have hY := Pt.add_y K Q Q
  have hc := (K.den Q.on Q.on).2
  have hq := Q.on
  unfold OnC at hq
  have hg := K.dyy Q.y
  unfold Rep
  generalize (Q.add K Q).y = Y at *
  generalize Q.y = y at *
  generalize Q.x = u at *
  obtain ⟨c, hc0⟩ : ∃ c, c = 1 - d * (u * u * y * y) := ⟨_, rfl⟩
  obtain ⟨g, hg0⟩ : ∃ g, g = 1 + d * (y * y) := ⟨_, rfl⟩
  rw [← hc0] at hY hc
  rw [← hg0] at hg
  have h6 : (121666 : F) ≠ 0 := by
    intro h
    have : (121666 : F) * (1 + d) = 1 := by grind
    rw [h] at this
    exact K.one (by grind)
  have e1 : c * (1 + Y) = 2 + 2 * (u * u) := by
    have : c * (1 + Y) = c + Y * c := by grind
    rw [this, hY, hc0]; exact cv1 hq
  have e2 : c * (1 - Y) = 0 - 2 * (u * u) * g := by
    have : c * (1 - Y) = c - Y * c := by grind
    rw [this, hY, hc0, hg0]; exact cv2 hq
  have e4 : 1 - y * y = 0 - u * u * g := by rw [hg0]; exact cv4 hq
  have e5 : 1 + 121665 * (1 - y * y) = 121666 * g := by
    have : 121666 * g = 121666 + (121666 * d) * (y * y) := by rw [hg0]; grind
    rw [this, hd]; grind
  have e3 : 121666 * g * (1 + u * u) = y * y := by
    have h1 : g * (1 + u * u) = (1 + d) * (y * y) := by rw [hg0]; exact cv3 hq
    have h2 : 121666 * g * (1 + u * u) = (121666 + 121666 * d) * (y * y) := by
      have : 121666 * g * (1 + u * u) = 121666 * (g * (1 + u * u)) := by grind
      rw [this, h1]; grind
    rw [h2, hd]; grind
  refine ⟨8 * (l * l * (l * l)) * (121666 * g) * c, ?_, dbl_x e1 e3, dbl_z e2 e4 e5⟩
  exact K.ne (K.ne (K.ne K.eight (K.ne (K.ne hl hl) (K.ne hl hl))) (K.ne h6 hg)) hc
theorem Pt.diff (K : EdK d i iv) {P Q R : Pt d} (h : R = Q.add K P) : R.add K Q.neg = P := by
  rw [h, Pt.add_comm K Q P, Pt.assoc, Pt.add_neg, Pt.add_O]
theorem cancel2 (K : EdK d i iv) {a b s t : F} (ha : a ≠ 0) (hb : b ≠ 0) (h : s * a * b = t * a * b) : s = t := by
  refine K.cancel (K.ne ha hb) ?_
  grind
theorem add_fx {l m y1 y2 k v w yS : F} (hv : w * v = 1) (h : (y2 + y1) * (y2 + y1) * w = k * (1 + yS)) :
    ((m * (1 + y2) - m * (1 - y2)) * (l * (1 + y1) + l * (1 - y1)) + (m * (1 + y2) + m * (1 - y2)) * (l * (1 + y1) - l * (1 - y1))) * ((m * (1 + y2) - m * (1 - y2)) * (l * (1 + y1) + l * (1 - y1)) + (m * (1 + y2) + m * (1 - y2)) * (l * (1 + y1) - l * (1 - y1))) = 16 * (l * l * (m * m)) * k * v * (1 + yS) := by
  have h1 : 16 * (l * l * (m * m)) * k * v * (1 + yS) = 16 * (l * l * (m * m)) * v * (k * (1 + yS)) := by grind
  have h2 : 16 * (l * l * (m * m)) * v * ((y2 + y1) * (y2 + y1) * w) = 16 * (l * l * (m * m)) * ((y2 + y1) * (y2 + y1)) * (w * v) := by grind
  rw [h1, ← h, h2, hv]
  grind
theorem add_fz {l m y1 y2 k v w yS yP u : F} (hv : w * v = 1) (hu : u * w = 1 + yP) (h : (y2 - y1) * (y2 - y1) * (1 + yP) = k * (1 - yS)) :
    u * (((m * (1 + y2) - m * (1 - y2)) * (l * (1 + y1) + l * (1 - y1)) - (m * (1 + y2) + m * (1 - y2)) * (l * (1 + y1) - l * (1 - y1))) * ((m * (1 + y2) - m * (1 - y2)) * (l * (1 + y1) + l * (1 - y1)) - (m * (1 + y2) + m * (1 - y2)) * (l * (1 + y1) - l * (1 - y1)))) = 16 * (l * l * (m * m)) * k * v * (1 - yS) := by
  have h1 : 16 * (l * l * (m * m)) * k * v * (1 - yS) = 16 * (l * l * (m * m)) * v * (k * (1 - yS)) := by grind
  have h2 : 16 * (l * l * (m * m)) * v * ((y2 - y1) * (y2 - y1) * (u * w)) = 16 * (l * l * (m * m)) * ((y2 - y1) * (y2 - y1)) * u * (w * v) := by grind
  rw [h1, ← h, ← hu, h2, hv]
  grind
theorem pf {yP d s1 s2 y1 y2 : F} (h : yP * (1 - d * (s2 * (0 - s1) * y2 * y1)) = y2 * y1 + s2 * (0 - s1)) : yP * (1 + d * (s1 * s2 * y1 * y2)) = y1 * y2 - s1 * s2 := by grind
theorem rep_addP (K : EdK d i iv) {P Q R : Pt d} (hR : R = Q.add K P) (hp1 : 1 - P.y ≠ 0) (hp2 : 1 + P.y ≠ 0) {u : F} (hu : u * (1 - P.y) = 1 + P.y) {x2 z2 x3 z3 : F} (h1 : Rep Q x2 z2) (h2 : Rep R x3 z3) :
    Rep (Q.add K R) (((x3 - z3) * (x2 + z2) + (x3 + z3) * (x2 - z2)) * ((x3 - z3) * (x2 + z2) + (x3 + z3) * (x2 - z2))) (u * (((x3 - z3) * (x2 + z2) - (x3 + z3) * (x2 - z2)) * ((x3 - z3) * (x2 + z2) - (x3 + z3) * (x2 - z2)))) := by
  obtain ⟨l, hl, rfl, rfl⟩ := h1
  obtain ⟨m, hm, rfl, rfl⟩ := h2
  have hP := Pt.add_y K R Q.neg
  rw [Pt.diff K hR] at hP
  have hS := Pt.add_y K Q R
  obtain ⟨na, nb⟩ := K.den Q.on R.on
  have ip := id_p Q.x Q.y R.x R.y d Q.on R.on
  have im := id_m Q.x Q.y R.x R.y d Q.on R.on
  have q1 := Q.on
  have q2 := R.on
  unfold OnC at q1 q2
  simp only [Pt.neg] at hP
  unfold Rep
  generalize (Q.add K R).y = yS at *
  clear hR
  generalize P.y = yP at *
  generalize Q.y = y1 at *
  generalize Q.x = s1 at *
  generalize R.y = y2 at *
  generalize R.x = s2 at *
  have hP2 : yP * (1 + d * (s1 * s2 * y1 * y2)) = y1 * y2 - s1 * s2 := pf hP
  obtain ⟨k, hk⟩ : ∃ k, k = y2 * y2 + y1 * y1 - 2 * yP * (y1 * y2) := ⟨_, rfl⟩
  rw [← hP2, ← hS] at ip im
  clear hP
  obtain ⟨a, ha⟩ : ∃ a, a = 1 + d * (s1 * s2 * y1 * y2) := ⟨_, rfl⟩
  obtain ⟨b, hb⟩ : ∃ b, b = 1 - d * (s1 * s2 * y1 * y2) := ⟨_, rfl⟩
  rw [← ha] at ip im hP2 na
  rw [← hb] at ip im hS nb
  have e1 : (y2 + y1) * (y2 + y1) * (1 - yP) = k * (1 + yS) := by
    refine cancel2 K na nb ?_
    rw [hk]
    clear hP2 hS q1 q2 hu hk ha hb im
    grind
  have e2 : (y2 - y1) * (y2 - y1) * (1 + yP) = k * (1 - yS) := by
    refine cancel2 K na nb ?_
    rw [hk]
    clear hP2 hS q1 q2 hu hk ha hb ip
    grind
  have hv := K.inv _ hp1
  refine ⟨16 * (l * l * (m * m)) * k * iv (1 - yP), ?_, add_fx hv e1, add_fz hv hu e2⟩
  have hk0 : k ≠ 0 := by
    intro h0
    rw [h0] at e1 e2
    have f1 : y2 + y1 = 0 := by
      rcases K.dom _ _ (show (y2 + y1) * (y2 + y1) * (1 - yP) = 0 by rw [e1]; grind) with h | h
      · exact K.sq0 h
      · exact absurd h hp1
    have f2 : y2 - y1 = 0 := by
      rcases K.dom _ _ (show (y2 - y1) * (y2 - y1) * (1 + yP) = 0 by rw [e2]; grind) with h | h
      · exact K.sq0 h
      · exact absurd h hp2
    have g2 : y2 = 0 := by
      rcases K.dom 2 y2 (by grind) with h | h
      · exact absurd h K.two
      · exact h
    have g1 : y1 = 0 := by grind
    rw [g1, g2] at hP2
    rw [g1] at q1
    rw [g2] at q2
    have c1 : a = 1 := by rw [ha, g1]; grind
    have c2 : yP = 0 - s1 * s2 := by rw [c1] at hP2; grind
    have c3 : (1 - yP) * (1 + yP) = 0 := by
      have : (1 - yP) * (1 + yP) = 1 - (s1 * s1) * (s2 * s2) := by rw [c2]; grind
      have r1 : s1 * s1 = -1 := by grind
      have r2 : s2 * s2 = -1 := by grind
      rw [this, r1, r2]; grind
    exact (K.dom _ _ c3).elim hp1 hp2
  have hvn : iv (1 - yP) ≠ 0 := by
    intro h0
    rw [h0] at hv
    exact K.one (by grind)
  exact K.ne (K.ne (K.ne K.sixteen (K.ne (K.ne hl hl) (K.ne hm hm))) hk0) hvn
theorem rep_addP' (K : EdK d i iv) {P Q R : Pt d} (hR : R = Q.add K P) (hp1 : 1 - P.y ≠ 0) (hp2 : 1 + P.y ≠ 0) {u : F} (hu : u * (1 - P.y) = 1 + P.y) {x2 z2 x3 z3 : F} (h1 : Rep R x2 z2) (h2 : Rep Q x3 z3) :
    Rep (Q.add K R) (((x3 - z3) * (x2 + z2) + (x3 + z3) * (x2 - z2)) * ((x3 - z3) * (x2 + z2) + (x3 + z3) * (x2 - z2))) (u * (((x3 - z3) * (x2 + z2) - (x3 + z3) * (x2 - z2)) * ((x3 - z3) * (x2 + z2) - (x3 + z3) * (x2 - z2)))) := by
  obtain ⟨l, hl, e1, e2⟩ := rep_addP K hR hp1 hp2 hu h2 h1
  refine ⟨l, hl, ?_, ?_⟩
  · rw [← e1]; grind
  · rw [← e2]; grind
theorem Rep.start (K : EdK d i iv) : Rep (Pt.O (d := d)) 1 0 := by
  have h := K.inv _ K.two
  refine ⟨iv 2, fun h0 => ?_, ?_, ?_⟩
  · rw [h0] at h; exact K.one (by grind)
  · simp only [Pt.O]; grind
  · simp only [Pt.O]; grind
theorem Rep.self (K : EdK d i iv) {P : Pt d} (hp1 : 1 - P.y ≠ 0) {u : F} (hu : u * (1 - P.y) = 1 + P.y) : Rep P u 1 := by
  have h := K.inv _ hp1
  refine ⟨iv (1 - P.y), fun h0 => ?_, ?_, ?_⟩
  · rw [h0] at h; exact K.one (by grind)
  · rw [← hu]
    have : iv (1 - P.y) * (u * (1 - P.y)) = u * ((1 - P.y) * iv (1 - P.y)) := by grind
    rw [this, h]; grind
  · rw [← h]; grind
end
end Go.Proofs.YtlbnibmcflmohaaGreat
namespace Go.Proofs.YtlbnibmcflmohaaGreat
open Go.RowKit
theorem pE_num : pE = pr - 2 := pE_eq.symm.trans eP_num
instance : NeZero pr := ⟨by unfold pr; decide⟩
abbrev Fp := Fin pr
def toF (n : Nat) : Fp := Fin.ofNat pr n
theorem ne_of_beq {a b : Nat} (h : Nat.beq a b = false) : a ≠ b := fun e => by rw [e, Nat.beq_refl] at h; cases h
theorem toF_val (n : Nat) : (toF n).val = n % pr := rfl
theorem toF_eq {a b : Nat} (h : a % pr = b % pr) : toF a = toF b := Fin.ext h
theorem toF_inj {a b : Nat} (h : toF a = toF b) : a % pr = b % pr := congrArg Fin.val h
theorem toF_add (a b : Nat) : toF (a + b) = toF a + toF b := Fin.ext (Nat.add_mod a b pr)
theorem toF_mul (a b : Nat) : toF (a * b) = toF a * toF b := Fin.ext (Nat.mul_mod a b pr)
theorem toF_mod (a : Nat) : toF (a % pr) = toF a := toF_eq (Nat.mod_mod a pr)
theorem toF_zero : toF 0 = 0 := rfl
theorem toF_one : toF 1 = 1 := rfl
theorem toF_self (a : Fp) : toF a.val = a := Fin.ext (Nat.mod_eq_of_lt a.isLt)
theorem toF_ne {a : Nat} (h : a % pr ≠ 0) : toF a ≠ 0 := fun e => h (toF_inj (b := 0) e)
theorem toF_eq0 {a : Nat} (h : a % pr = 0) : toF a = 0 := toF_eq (b := 0) h
theorem toF_fadd (a b : Nat) : toF (fadd a b) = toF a + toF b := by rw [fadd, toF_mod, toF_add]
theorem toF_fmul (a b : Nat) : toF (fmul a b) = toF a * toF b := by rw [fmul, toF_mod, toF_mul]
theorem toF_fsub (a b : Nat) : toF (fsub a b) = toF a - toF b := by
  rw [fsub, toF_mod, toF_add]
  have h : toF (pr - b % pr) + toF b = 0 := by
    rw [← toF_mod b, ← toF_add, Nat.sub_add_cancel (Nat.le_of_lt (pr_lt' b))]
    exact toF_eq0 (Nat.mod_self pr)
  grind
noncomputable def ivF (a : Fp) : Fp := toF (a.val ^ pE)
theorem toF_iv (z : Nat) : toF (z ^ pE % pr) = ivF (toF z) := by
  rw [toF_mod, ivF, toF_val]
  exact toF_eq (Nat.pow_mod z pE pr)
def dF : Fp := toF 37095705934669439343138083508754565189542113879843219016388785533085940283555
def iF : Fp := toF 19681161376707505956807079304988542015446066515923890162744021073123829784752
theorem nonsq (D E : Nat) (hE : 2 * E = pr - 1) (hb : E < 2 ^ 256) (h : powm pr 256 D E ≠ 1) (h0 : D % pr ≠ 0) (v : Nat) (hv : v * v % pr = D % pr) : False := by
  have hn : ¬ pr ∣ v := by
    intro hx
    have := Nat.mod_eq_zero_of_dvd (Nat.dvd_mul_right_of_dvd hx v)
    omega
  have h1 := fermat' pr_prm v hn
  rw [powm_eq _ _ _ _ hb] at h
  apply h
  rw [Nat.pow_mod, ← hv, ← Nat.pow_mod, ← Nat.pow_two, ← Nat.pow_mul, hE, h1]
theorem pr_two : 2 ≤ pr := Nat.le_of_ble_eq_true (by kernel_rfl)
theorem edK : EdK dF iF ivF where
  one := toF_ne (a := 1) (ne_of_beq (by kernel_rfl))
  two := toF_ne (a := 2) (ne_of_beq (by kernel_rfl))
  dom a b h := by
    have h1 : (a.val * b.val) % pr = 0 := congrArg Fin.val h
    rcases pr_prm.2 _ _ (Nat.dvd_of_mod_eq_zero h1) with h2 | h2
    · left
      rw [← toF_self a]; exact toF_eq0 (Nat.mod_eq_zero_of_dvd h2)
    · right
      rw [← toF_self b]; exact toF_eq0 (Nat.mod_eq_zero_of_dvd h2)
  inv a ha := by
    have hn : ¬ pr ∣ a.val := by
      intro hx
      apply ha
      rw [← toF_self a]; exact toF_eq0 (Nat.mod_eq_zero_of_dvd hx)
    have h1 := fermat' pr_prm a.val hn
    have h2 := pr_two
    rw [ivF, pE_num]
    have e : a * toF (a.val ^ (pr - 2)) = toF (a.val ^ (pr - 1)) := by
      rw [show pr - 1 = pr - 2 + 1 by omega, Nat.pow_succ, toF_mul, toF_self]
      grind
    rw [e]
    exact toF_eq (b := 1) (by rw [h1, Nat.mod_eq_of_lt (by omega)])
  sq := by
    have h : iF * iF + 1 = 0 := by
      rw [iF, ← toF_one, ← toF_mul, ← toF_add]
      exact toF_eq0 (by kernel_rfl)
    grind
  non s h := by
    refine nonsq 37095705934669439343138083508754565189542113879843219016388785533085940283555 28948022309329048855892746252171976963317496166410141009864396001978282409974 (by kernel_rfl) (Nat.le_of_ble_eq_true (by kernel_rfl)) (ne_of_beq (by kernel_rfl)) (ne_of_beq (by kernel_rfl)) s.val ?_
    have h1 := congrArg Fin.val h
    rw [dF, toF_val] at h1
    exact h1
theorem hdF : (121666 : Fp) * dF = -121665 := by
  have h : (121666 : Fp) * dF + 121665 = 0 := by
    rw [show (121666 : Fp) = toF 121666 from rfl, show (121665 : Fp) = toF 121665 from rfl, dF, ← toF_mul, ← toF_add]
    exact toF_eq0 (by kernel_rfl)
  grind
def xB : Nat := 15112221349535400772501151409588531511454012693041857206046113283949847762202
def yB : Nat := 46316835694926478169428394003475163141307993866256225615783033603165251855960
def ptB : Pt dF := ⟨toF xB, toF yB, by
  unfold OnC
  have h : dF * toF xB * toF xB * toF yB * toF yB + 1 + toF xB * toF xB = toF yB * toF yB := by
    rw [dF, ← toF_one]
    simp only [← toF_mul, ← toF_add]
    exact toF_eq (by kernel_rfl)
  rw [h]; grind⟩
end Go.Proofs.YtlbnibmcflmohaaGreat
