/- Part of the proof: Lad, Mlu, Rgg, SlE, Clp. -/
import Derived.Great.BuildSlice
import Derived.Deep.DeepCutAuto
import Derived.Test.YtlbnibmcflmohaaGreatPlx30
import Derived.Test.YtlbnibmcflmohaaGreatPlx31
namespace Go.Proofs.YtlbnibmcflmohaaGreat
open Go.RowKit
section
variable {F : Type} [Lean.Grind.CommRing F]
theorem zero_sub0 (x : F) (h : x = 0) : 0 - x = x := by grind
theorem one_sub_one : (1 : F) - 1 = 0 := by grind
end
def RepL (P : Pt dF) (m : Nat) (s : LS) : Prop := Rep (P.mul edK m) (toF s.x2) (toF s.z2) ∧ Rep (P.mul edK (m + 1)) (toF s.x3) (toF s.z3)
def HasU (P : Pt dF) (n : Nat) : Prop := n < pr ∧ 1 - P.y ≠ 0 ∧ toF n * (1 - P.y) = 1 + P.y
theorem step_rep {P : Pt dF} {n : Nat} (hU : HasU P n) (hp2 : 1 + P.y ≠ 0) {m : Nat} {s : LS} (h : RepL P m s) : RepL P (2 * m) (s.step n) := by
  have h1 := rep_dbl edK hdF h.1
  have h2 := rep_addP edK (P := P) (Q := P.mul edK m) (R := P.mul edK (m + 1)) rfl hU.2.1 hp2 hU.2.2 h.1 h.2
  rw [← Pt.mul_add] at h1 h2
  refine ⟨?_, ?_⟩
  · rw [show 2 * m = m + m by omega]
    simp only [LS.step, LS.aa, LS.bb, LS.a, LS.b, LS.e, toF_fmul, toF_fadd, toF_fsub]
    exact h1
  · rw [show 2 * m + 1 = m + (m + 1) by omega]
    simp only [LS.step, LS.da, LS.cb, LS.a, LS.b, LS.c, LS.d, toF_fmul, toF_fadd, toF_fsub]
    exact h2
theorem step_rep' {P : Pt dF} {n : Nat} (hU : HasU P n) (hp2 : 1 + P.y ≠ 0) {m : Nat} {s : LS} (h : RepL P m s) : RepL P (2 * m + 1) ((s.swap.step n).swap) := by
  have h1 := rep_dbl edK hdF h.2
  have h2 := rep_addP' edK (P := P) (Q := P.mul edK m) (R := P.mul edK (m + 1)) rfl hU.2.1 hp2 hU.2.2 h.2 h.1
  rw [← Pt.mul_add] at h1 h2
  refine ⟨?_, ?_⟩
  · rw [show 2 * m + 1 = m + (m + 1) by omega]
    simp only [LS.swap, LS.step, LS.da, LS.cb, LS.a, LS.b, LS.c, LS.d, toF_fmul, toF_fadd, toF_fsub]
    exact h2
  · rw [show 2 * m + 1 + 1 = m + 1 + (m + 1) by omega]
    simp only [LS.swap, LS.step, LS.aa, LS.bb, LS.a, LS.b, LS.e, toF_fmul, toF_fadd, toF_fsub]
    exact h1
def nf (f : Nat → Bool) : Nat → Nat
  | 0 => 0
  | k + 1 => 2 * nf f k + (f (254 - k)).toNat
theorem lad_rep {P : Pt dF} {n : Nat} (hU : HasU P n) (hp2 : 1 + P.y ≠ 0) (f : Nat → Bool) : ∀ k, RepL P (nf f k) (ladT n f k)
  | 0 => ⟨by simp only [ladT, LS.start, toF_one, toF_zero]; exact Rep.start edK, by
      simp only [ladT, LS.start, toF_one, nf, Nat.zero_add]
      rw [Pt.mul_one]
      exact Rep.self edK hU.2.1 hU.2.2⟩
  | k + 1 => by
      have ih := lad_rep hU hp2 f k
      rw [ladT, nf, LS.round]
      cases f (254 - k)
      · exact step_rep hU hp2 ih
      · exact step_rep' hU hp2 ih
theorem nf_of (K : Nat) (f : Nat → Bool) (hf : ∀ t, t < 255 → (f t).toNat = K / 2 ^ t % 2) : ∀ k, k ≤ 255 → nf f k = K / 2 ^ (255 - k) % 2 ^ k
  | 0, _ => by rw [nf, Nat.pow_zero, Nat.mod_one]
  | k + 1, h => by
      have ih := nf_of K f hf k (by omega)
      rw [nf, ih, hf (254 - k) (by omega), show 255 - k = 254 - k + 1 by omega, show 255 - (k + 1) = 254 - k by omega, Nat.pow_succ, ← Nat.div_div_eq_div_mul, Nat.pow_succ, Nat.mul_comm (2 ^ k) 2, Nat.mod_mul]
      omega
theorem has_unique {P : Pt dF} {m n : Nat} (h1 : HasU P m) (h2 : HasU P n) : m = n := by
  have e : toF m = toF n := edK.cancel h1.2.1 (h1.2.2.trans h2.2.2.symm)
  have := toF_inj e
  rwa [Nat.mod_eq_of_lt h1.1, Nat.mod_eq_of_lt h2.1] at this
theorem lad_has {P : Pt dF} {n : Nat} (hU : HasU P n) (hp2 : 1 + P.y ≠ 0) (f : Nat → Bool) (hne : 1 - (P.mul edK (nf f 255)).y ≠ 0) :
    HasU (P.mul edK (nf f 255)) (fmul (ladT n f 255).x2 ((ladT n f 255).z2 ^ pE % pr)) := by
  obtain ⟨l, hl, hx, hz⟩ := (lad_rep hU hp2 f 255).1
  refine ⟨fmul_lt _ _, hne, ?_⟩
  rw [toF_fmul, toF_iv, hx, hz]
  have hv := edK.inv _ (edK.ne hl hne)
  generalize ivF (l * (1 - (P.mul edK (nf f 255)).y)) = v at *
  generalize (P.mul edK (nf f 255)).y = y at *
  have : l * (1 + y) * v * (1 - y) = (1 + y) * (l * (1 - y) * v) := by grind
  rw [this, hv]; grind
theorem y_one {P : Pt dF} (h : 1 - P.y = 0) : P = Pt.O := by
  have hy : P.y = 1 := by grind
  have ho := P.on
  unfold OnC at ho
  rw [hy] at ho
  have h2 : (1 + dF) * (P.x * P.x) = 0 := by grind
  refine Pt.eq_of ?_ hy
  rcases edK.dom _ _ h2 with h3 | h3
  · exact absurd h3 edK.one_d
  · exact edK.sq0 h3
theorem y_neg {P : Pt dF} (h : 1 + P.y = 0) : P.add edK P = Pt.O := by
  have hy : P.y = -1 := by grind
  have ho := P.on
  unfold OnC at ho
  rw [hy] at ho
  have h2 : (1 + dF) * (P.x * P.x) = 0 := by grind
  have hx : P.x = 0 := by
    rcases edK.dom _ _ h2 with h3 | h3
    · exact absurd h3 edK.one_d
    · exact edK.sq0 h3
  have hn : P.neg = P := Pt.eq_of (zero_sub0 P.x hx) rfl
  have := Pt.add_neg edK P
  rwa [hn] at this
theorem hasB : HasU ptB 9 := by
  refine ⟨Nat.le_of_ble_eq_true (by kernel_rfl), ?_, ?_⟩
  · intro h
    have h2 : toF yB = toF 1 := by
      have h3 : ptB.y = 1 := by grind
      exact h3
    exact absurd (toF_inj h2) (ne_of_beq (by kernel_rfl))
  · have h : toF 9 = 1 + toF yB + toF 9 * toF yB := by
      rw [← toF_one]
      simp only [← toF_mul, ← toF_add]
      exact toF_eq (by kernel_rfl)
    show toF 9 * (1 - toF yB) = 1 + toF yB
    grind
theorem negB : 1 + ptB.y ≠ 0 := by
  have h : 1 + ptB.y = toF (1 + yB) := by rw [toF_add]; rfl
  rw [h]
  exact toF_ne (ne_of_beq (by kernel_rfl))
def ordF (t : Nat) : Bool := Nat.beq (ordB / 2 ^ t % 2) 1
theorem beq_bit (x : Nat) : (Nat.beq (x % 2) 1).toNat = x % 2 := by
  rcases Nat.mod_two_eq_zero_or_one x with h | h <;> rw [h] <;> rfl
theorem ord_lad : (ladT 9 ordF 255).z2 = 0 := by kernel_rfl
theorem ord_lt : Nat.ble (ordB + 1) (2 ^ 255) = true := by kernel_rfl
theorem ord_num : nf ordF 255 = ordB := by
  rw [nf_of ordB ordF (fun t _ => beq_bit _) 255 (Nat.le_refl _)]
  simp only [Nat.sub_self, Nat.pow_zero, Nat.div_one]
  exact Nat.mod_eq_of_lt (Nat.le_of_ble_eq_true ord_lt)
theorem ord_O : ptB.mul edK ordB = Pt.O := by
  obtain ⟨l, hl, hx, hz⟩ := (lad_rep hasB negB ordF 255).1
  rw [ord_lad, ord_num, toF_zero] at hz
  apply y_one
  rcases edK.dom _ _ hz.symm with h | h
  · exact absurd h hl
  · exact h
theorem B_ne : ptB ≠ Pt.O := by
  intro h
  apply hasB.2.1
  rw [h]
  exact one_sub_one (F := Fp)
theorem mul_ord (j : Nat) : ptB.mul edK (ordB * j) = Pt.O := by rw [Pt.mul_mul, ord_O, Pt.mul_O]
theorem ord_dvd {k : Nat} (h : ptB.mul edK k = Pt.O) : ordB ∣ k := by
  by_cases hd : ordB ∣ k
  · exact hd
  · exfalso
    rcases Nat.lt_or_ge k 2 with h1 | h1
    · have : k = 0 ∨ k = 1 := by omega
      rcases this with rfl | rfl
      · exact hd (Nat.dvd_zero _)
      · rw [Pt.mul_one] at h; exact B_ne h
    · obtain ⟨u, v, e⟩ := bez ordB k h1 (prm_gcd ord_prm k hd)
      have h2 : ptB.mul edK (u * ordB) = Pt.O := by rw [Nat.mul_comm, mul_ord]
      rw [e, Pt.mul_add, Nat.mul_comm v k, Pt.mul_mul, h, Pt.mul_O, Pt.O_add, Pt.mul_one] at h2
      exact B_ne h2
theorem ord_y {k : Nat} (hk : ¬ ordB ∣ k) : 1 - (ptB.mul edK k).y ≠ 0 ∧ 1 + (ptB.mul edK k).y ≠ 0 := by
  constructor
  · intro h
    exact hk (ord_dvd (y_one h))
  · intro h
    have h2 := y_neg h
    rw [← Pt.mul_add] at h2
    have h3 := ord_dvd h2
    rcases ord_prm.2 2 k (by rw [show 2 * k = k + k by omega]; exact h3) with h4 | h4
    · have := Nat.le_of_dvd (by omega) h4
      exact absurd this (by have h5 : Nat.ble 3 ordB = true := by kernel_rfl
                            have := Nat.le_of_ble_eq_true h5
                            omega)
    · exact hk h4
noncomputable def uB (j : Nat) : Nat := ((1 + (ptB.mul edK j).y) * ivF (1 - (ptB.mul edK j).y)).val
theorem has_uB {j : Nat} (hj : ¬ ordB ∣ j) : HasU (ptB.mul edK j) (uB j) := by
  have h := (ord_y hj).1
  refine ⟨((1 + (ptB.mul edK j).y) * ivF (1 - (ptB.mul edK j).y)).isLt, h, ?_⟩
  rw [uB, toF_self]
  have hv := edK.inv _ h
  generalize ivF (1 - (ptB.mul edK j).y) = v at *
  generalize (ptB.mul edK j).y = y at *
  have : (1 + y) * v * (1 - y) = (1 + y) * ((1 - y) * v) := by grind
  rw [this, hv]; grind
theorem uB_one : uB 1 = 9 := by
  have h1 : ¬ ordB ∣ 1 := by
    intro h
    have := Nat.le_of_dvd (by omega) h
    have h5 : Nat.ble 3 ordB = true := by kernel_rfl
    have := Nat.le_of_ble_eq_true h5
    omega
  have h := has_uB h1
  rw [Pt.mul_one] at h
  exact has_unique h hasB
theorem uB_ne {j : Nat} (hj : ¬ ordB ∣ j) : uB j ≠ 0 := by
  intro h
  have h2 := (has_uB hj).2.2
  rw [h, toF_zero] at h2
  exact (ord_y hj).2 (by grind)
theorem uB_lt (j : Nat) : uB j < pr := ((1 + (ptB.mul edK j).y) * ivF (1 - (ptB.mul edK j).y)).isLt
theorem lad_uB {j : Nat} (hj : ¬ ordB ∣ j) (f : Nat → Bool) (c : Nat) (hc : nf f 255 = c) (hjc : ¬ ordB ∣ j * c) :
    fmul (ladT (uB j) f 255).x2 ((ladT (uB j) f 255).z2 ^ pE % pr) = uB (j * c) := by
  have h := lad_has (has_uB hj) (ord_y hj).2 f (by rw [hc, ← Pt.mul_mul]; exact (ord_y hjc).1)
  rw [hc, ← Pt.mul_mul] at h
  exact has_unique h (has_uB hjc)
def Clm (c : Nat) : Prop := 8 ∣ c ∧ 2 ^ 254 ≤ c ∧ c < 2 ^ 255
theorem ord_two : Nat.ble (2 ^ 255) (8 * ordB) = true := by kernel_rfl
theorem ord_odd : ordB % 2 = 1 := by kernel_rfl
theorem Clm.ord {c : Nat} (h : Clm c) : ¬ ordB ∣ c := by
  intro hd
  obtain ⟨e, he⟩ := hd
  have h1 := Nat.le_of_ble_eq_true ord_two
  obtain ⟨⟨m, hm⟩, h2, h3⟩ := h
  have he8 : e < 8 := by
    rcases Nat.lt_or_ge e 8 with h4 | h4
    · exact h4
    · have : ordB * 8 ≤ ordB * e := Nat.mul_le_mul_left _ h4
      omega
  have ho := ord_odd
  have he0 : e ≠ 0 := by
    intro h0
    rw [h0, Nat.mul_zero] at he
    rw [he] at h2
    exact absurd h2 (by simp)
  obtain ⟨L, hL⟩ : ∃ L, L = ordB := ⟨_, rfl⟩
  rw [← hL] at ho he
  clear h1 h2 h3 hL
  have : e = 1 ∨ e = 2 ∨ e = 3 ∨ e = 4 ∨ e = 5 ∨ e = 6 ∨ e = 7 := by omega
  rcases this with rfl | rfl | rfl | rfl | rfl | rfl | rfl <;> omega
theorem ord_mul {j c : Nat} (hj : ¬ ordB ∣ j) (hc : Clm c) : ¬ ordB ∣ j * c := fun h => (ord_prm.2 _ _ h).elim hj hc.ord
end Go.Proofs.YtlbnibmcflmohaaGreat
namespace Go.Proofs.YtlbnibmcflmohaaGreat
open Go.RowKit
theorem leN_map (n : Nat) : ∀ k, leN ((List.range k).map fun i => UInt8.ofNat (n / 256 ^ i)) = n % 256 ^ k
  | 0 => by simp [leN, numL, Nat.mod_one]
  | k + 1 => by
      have ih := leN_map n k
      have h := leN_take ((List.range (k + 1)).map fun i => UInt8.ofNat (n / 256 ^ i)) k (by simp)
      rw [List.take_of_length_le (by simp)] at h
      rw [h, ← List.map_take, List.take_range, Nat.min_eq_left (Nat.le_succ k), ih, Nat.pow_succ, Nat.mod_mul]
      congr 1
      rw [List.getD_eq_getElem?_getD, List.getElem?_map, List.getElem?_range (Nat.lt_succ_self k)]
      show (UInt8.ofNat (n / 256 ^ k)).toNat * 256 ^ k = _
      rw [UInt8.toNat_ofNat', Nat.mul_comm]
theorem leB_len (n : Nat) : (leB n).length = 32 := by simp [leB]
theorem leN_leB {n : Nat} (h : n < 115792089237316195423570985008687907853269984665640564039457584007913129639936) : leN (leB n) = n := by
  rw [leB, leN_map]
  exact Nat.mod_eq_of_lt h
theorem readN_leB {n : Nat} (h : n < pr) : readN (leB n) = n := by
  have h2 := h
  simp only [pr] at h2
  rw [readN, leN_leB (by omega), Nat.mod_eq_of_lt (a := n) (b := 57896044618658097711785492504343953926634992332820282019728792003956564819968) (by omega), Nat.mod_eq_of_lt h]
theorem leN_byte (l : List UInt8) (q : Nat) : leN l / 256 ^ q % 256 = (l.getD q 0).toNat := by
  rcases Nat.lt_or_ge q l.length with h | h
  · have h1 : leN l = leN (l.take q) + 256 ^ q * leN (l.drop q) := by
      have := numL_cut 256 (l.map (·.toNat)) q (by simp; omega)
      simpa only [leN, List.map_take, List.map_drop] using this
    have h2 := leN_lt (l.take q)
    rw [List.length_take, Nat.min_eq_left (Nat.le_of_lt h)] at h2
    rw [h1, Nat.add_mul_div_left _ _ (by exact Nat.pow_pos (by omega)), Nat.div_eq_of_lt h2, Nat.zero_add, leN_drop l q h]
    have := (l.getD q 0).toNat_lt
    omega
  · have h1 := leN_lt l
    have h2 : 256 ^ l.length ≤ 256 ^ q := Nat.pow_le_pow_right (by omega) h
    rw [Nat.div_eq_of_lt (by omega), List.getD_eq_getElem?_getD, List.getElem?_eq_none h]
    rfl
theorem kbit_eq (l : List UInt8) (t : Nat) : (kbit l t).toNat = leN l / 2 ^ t % 2 := by
  have h := leN_byte l (t / 8)
  have h1 : (2 : Nat) ^ t = 256 ^ (t / 8) * 2 ^ (t % 8) := by
    rw [show (256 : Nat) = 2 ^ 8 by rfl, ← Nat.pow_mul, ← Nat.pow_add]
    congr 1
    omega
  rw [h1, ← Nat.div_div_eq_div_mul, kbit, ← h]
  obtain ⟨m, hm⟩ : ∃ m, m = leN l / 256 ^ (t / 8) := ⟨_, rfl⟩
  rw [← hm]
  have h2 : t % 8 < 8 := Nat.mod_lt _ (by omega)
  obtain ⟨r, hr⟩ : ∃ r, r = t % 8 := ⟨_, rfl⟩
  rw [← hr] at h2 ⊢
  have e : m % 256 / 2 ^ r % 2 = m / 2 ^ r % 2 := by
    have : r = 0 ∨ r = 1 ∨ r = 2 ∨ r = 3 ∨ r = 4 ∨ r = 5 ∨ r = 6 ∨ r = 7 := by omega
    rcases this with rfl | rfl | rfl | rfl | rfl | rfl | rfl | rfl <;> simp <;> omega
  rw [e]
  rcases Nat.mod_two_eq_zero_or_one (m / 2 ^ r) with h3 | h3 <;> rw [h3] <;> rfl
def clN (k : List UInt8) : Nat := leN (clampB k)
theorem clampB_len (k : List UInt8) : (clampB k).length = k.length := by simp [clampB]
set_option maxRecDepth 100000 in
theorem cl_lo : ∀ n, n < 256 → (n &&& 248) % 8 = 0 := by decide
set_option maxRecDepth 100000 in
theorem cl_hi : ∀ n, n < 256 → 64 ≤ (n &&& 127 ||| 64) ∧ (n &&& 127 ||| 64) < 128 := by decide
theorem clm {k : List UInt8} (hk : k.length = 32) : Clm (clN k) := by
  have hl := clampB_len k
  rw [hk] at hl
  have h0 : (clampB k).getD 0 0 = k.getD 0 0 &&& 248 := by
    rw [clampB, List.getD_eq_getElem?_getD, List.getElem?_set_ne (by omega), List.getElem?_set_self (by omega)]; rfl
  have h31 : (clampB k).getD 31 0 = k.getD 31 0 &&& 127 ||| 64 := by
    rw [clampB, List.getD_eq_getElem?_getD, List.getElem?_set_self (by simp; omega)]; rfl
  have e1 := leN_drop (clampB k) 0 (by omega)
  rw [List.drop_zero, h0] at e1
  have e2 := leN_take (clampB k) 31 (by omega)
  rw [List.take_of_length_le (by omega), h31] at e2
  have e3 := leN_lt ((clampB k).take 31)
  rw [List.length_take, hl] at e3
  have b0 := cl_lo (k.getD 0 0).toNat (k.getD 0 0).toNat_lt
  have b31 := cl_hi (k.getD 31 0).toNat (k.getD 31 0).toNat_lt
  rw [UInt8.toNat_and] at e1
  rw [UInt8.toNat_or, UInt8.toNat_and] at e2
  change leN (clampB k) = _ + ((k.getD 0 0).toNat &&& 248) at e1
  change leN (clampB k) = _ + ((k.getD 31 0).toNat &&& 127 ||| 64) * 256 ^ 31 at e2
  obtain ⟨x, hx⟩ : ∃ x, x = (k.getD 0 0).toNat &&& 248 := ⟨_, rfl⟩
  obtain ⟨y, hy⟩ : ∃ y, y = (k.getD 31 0).toNat &&& 127 ||| 64 := ⟨_, rfl⟩
  rw [← hx] at b0 e1
  rw [← hy] at b31 e2
  simp only [Nat.reducePow, show min 31 32 = 31 by rfl] at e2 e3
  unfold Clm clN
  simp only [Nat.reducePow]
  refine ⟨⟨leN (clampB k) / 8, ?_⟩, ?_, ?_⟩
  · omega
  · omega
  · omega
theorem mult_uB {j : Nat} (hj : ¬ ordB ∣ j) {k : List UInt8} (hk : k.length = 32) : multN k (leB (uB j)) = uB (j * clN k) := by
  have hc := clm hk
  show fmul (ladT (readN (leB (uB j))) (kbit (clampB k)) 255).x2 ((ladT (readN (leB (uB j))) (kbit (clampB k)) 255).z2 ^ pE % pr) = _
  rw [readN_leB (uB_lt j)]
  refine lad_uB hj (kbit (clampB k)) (clN k) ?_ (ord_mul hj hc)
  rw [nf_of (clN k) (kbit (clampB k)) (fun t _ => kbit_eq _ _) 255 (Nat.le_refl _)]
  simp only [Nat.sub_self, Nat.pow_zero, Nat.div_one]
  exact Nat.mod_eq_of_lt hc.2.2
end Go.Proofs.YtlbnibmcflmohaaGreat
namespace Go.Proofs.YtlbnibmcflmohaaGreat
open Go.RowKit
structure Flt where
  j : Nat
  d : Tmp
  ty : TypeId
  Z : List Value
  v : Nat → Value
def setJ (L : Array Bool) : List Nat → Array Bool
  | [] => L
  | j :: r => setJ (L.setIfInBounds j true) r
def doneJ : List (Flt × Option Nat) → List Nat
  | [] => []
  | (_, none) :: r => doneJ r
  | (f, some _) :: r => f.j :: doneJ r
def putF (a : Act) : List (Flt × Option Nat) → Act
  | [] => a
  | (_, none) :: r => putF a r
  | (f, some g) :: r => putF (a.put (some f.d) (f.v g)) r
def leftN : List (Flt × Option Nat) → Nat
  | [] => 0
  | (_, none) :: r => leftN r + 1
  | (_, some _) :: r => leftN r
def okF (B : Nat) (W : World) : List (Flt × Option Nat) → Prop
  | [] => True
  | (_, none) :: r => okF B W r
  | (f, some g) :: r => (B ≤ g ∧ Blk W g f.ty f.Z ∧ ∀ x ∈ r, x.2 ≠ some g) ∧ okF B W r
def subs : List Nat → List (List Nat)
  | [] => [[]]
  | j :: r => subs r ++ (subs r).map (j :: ·)
theorem doneJ_subs : ∀ F : List (Flt × Option Nat), doneJ F ∈ subs (F.map (·.1.j))
  | [] => by simp [doneJ, subs]
  | (f, none) :: r => by
      simp only [doneJ, List.map_cons, subs, List.mem_append]
      exact .inl (doneJ_subs r)
  | (f, some g) :: r => by
      simp only [doneJ, List.map_cons, subs, List.mem_append, List.mem_map]
      exact .inr ⟨_, doneJ_subs r, rfl⟩
theorem set_comm (L : Array Bool) (i j : Nat) : (L.setIfInBounds i true).setIfInBounds j true = (L.setIfInBounds j true).setIfInBounds i true := by
  by_cases h : i = j
  · rw [h]
  · exact Array.setIfInBounds_comm _ _ h
theorem setJ_set : ∀ (S : List Nat) (L : Array Bool) (i : Nat), (setJ L S).setIfInBounds i true = setJ (L.setIfInBounds i true) S
  | [], _, _ => rfl
  | j :: r, L, i => by rw [setJ, setJ_set r, setJ, set_comm]
theorem setJ_on (L : Array Bool) (f : Flt) (g : Nat) (post : List (Flt × Option Nat)) : ∀ pre, (setJ L (doneJ (pre ++ (f, none) :: post))).setIfInBounds f.j true = setJ L (doneJ (pre ++ (f, some g) :: post))
  | [] => by simp only [List.nil_append, doneJ, setJ]; rw [setJ_set]
  | (h, none) :: pre => by
      simp only [List.cons_append, doneJ]
      exact setJ_on L f g post pre
  | (h, some k) :: pre => by
      simp only [List.cons_append, doneJ, setJ]
      exact setJ_on (L.setIfInBounds h.j true) f g post pre
theorem putF_put : ∀ (F : List (Flt × Option Nat)) (a : Act) (d : Tmp) (v : Value), (∀ x ∈ F, x.1.d ≠ d) → (putF a F).put (some d) v = putF (a.put (some d) v) F
  | [], _, _, _, _ => rfl
  | (f, none) :: r, a, d, v, h => putF_put r a d v fun x hx => h x (List.mem_cons_of_mem _ hx)
  | (f, some g) :: r, a, d, v, h => by
      have hne := h (f, some g) List.mem_cons_self
      rw [putF, putF_put r _ d v fun x hx => h x (List.mem_cons_of_mem _ hx), putF]
      congr 1
      exact (Act.put_comm a _ _ (fun e h1 h2 => hne (by injection h1 with h1; injection h2 with h2; rw [h1, h2]))).symm
theorem putF_on (f : Flt) (g : Nat) (post : List (Flt × Option Nat)) (hpost : ∀ x ∈ post, x.1.d ≠ f.d) : ∀ (pre : List (Flt × Option Nat)) (a : Act), (putF a (pre ++ (f, none) :: post)).put (some f.d) (f.v g) = putF a (pre ++ (f, some g) :: post)
  | [], a => by simp only [List.nil_append, putF]; exact putF_put post a f.d (f.v g) hpost
  | (h, none) :: pre, a => by
      simp only [List.cons_append, putF]
      exact putF_on f g post hpost pre a
  | (h, some k) :: pre, a => by
      simp only [List.cons_append, putF]
      exact putF_on f g post hpost pre _
theorem leftN_on (f : Flt) (g : Nat) (post : List (Flt × Option Nat)) : ∀ pre, leftN (pre ++ (f, none) :: post) = leftN (pre ++ (f, some g) :: post) + 1
  | [] => rfl
  | (h, none) :: pre => by simp only [List.cons_append, leftN]; rw [leftN_on f g post pre]
  | (h, some k) :: pre => by simp only [List.cons_append, leftN]; rw [leftN_on f g post pre]
theorem okF_mono {B : Nat} {W W' : World} (hB : Below W.heap.size W W') : ∀ F, okF B W F → okF B W' F
  | [], _ => trivial
  | (_, none) :: r, h => okF_mono hB r h
  | (_, some _) :: r, h => ⟨⟨h.1.1, h.1.2.1.below hB h.1.2.1.lt, h.1.2.2⟩, okF_mono hB r h.2⟩
theorem okF_lt {B : Nat} {W : World} : ∀ F, okF B W F → ∀ x ∈ F, ∀ g, x.2 = some g → g < W.heap.size
  | [], _, x, hx, _, _ => by cases hx
  | (_, none) :: r, h, x, hx, g, hg => by
      rcases List.mem_cons.1 hx with rfl | hx
      · cases hg
      · exact okF_lt r h x hx g hg
  | (_, some k) :: r, h, x, hx, g, hg => by
      rcases List.mem_cons.1 hx with rfl | hx
      · injection hg with hg; subst hg; exact h.1.2.1.lt
      · exact okF_lt r h.2 x hx g hg
theorem okF_on {B : Nat} {W : World} (f : Flt) (post : List (Flt × Option Nat)) (hB : B ≤ W.heap.size) : ∀ pre, okF B W (pre ++ (f, none) :: post) → okF B (W.alloc (.cells f.Z.toArray f.ty)) (pre ++ (f, some W.heap.size) :: post)
  | [], h => by
      refine ⟨⟨hB, Blk.new _ _ _, fun x hx he => ?_⟩, okF_mono ((Below.refl _ _).alloc (Nat.le_refl _) _) post h⟩
      exact absurd (okF_lt post h x hx _ he) (by omega)
  | (_, none) :: pre, h => okF_on f post hB pre h
  | (y, some k) :: pre, h => by
      refine ⟨⟨h.1.1, h.1.2.1.alloc _, fun x hx he => ?_⟩, okF_on f post hB pre h.2⟩
      rcases List.mem_append.1 hx with hx | hx
      · exact h.1.2.2 x (List.mem_append_left _ hx) he
      · rcases List.mem_cons.1 hx with rfl | hx
        · injection he with he
          have := h.1.2.1.lt
          omega
        · exact h.1.2.2 x (List.mem_append_right _ (List.mem_cons_of_mem _ hx)) he
theorem done_on (f : Flt) (g : Nat) (post : List (Flt × Option Nat)) (x : Nat) : ∀ pre, x ∈ doneJ (pre ++ (f, none) :: post) → x ∈ doneJ (pre ++ (f, some g) :: post)
  | [], h => List.mem_cons_of_mem _ h
  | (_, none) :: pre, h => done_on f g post x pre h
  | (_, some _) :: pre, h => by
      simp only [List.cons_append, doneJ, List.mem_cons] at h ⊢
      rcases h with h | h
      · exact .inl h
      · exact .inr (done_on f g post x pre h)
theorem must_on {must : List Nat} {F F' : List (Flt × Option Nat)} (h : must.all (doneJ F).contains = true) (hg : ∀ x ∈ doneJ F, x ∈ doneJ F') : must.all (doneJ F').contains = true := by
  rw [List.all_eq_true] at h ⊢
  intro x hx
  have := h x hx
  simp only [List.contains_iff_mem] at this ⊢
  exact hg x this
theorem find_none (x : Nat) : ∀ F : List (Flt × Option Nat), x ∈ F.map (·.1.j) → x ∉ doneJ F → ∃ pre f post, F = pre ++ (f, none) :: post ∧ f.j = x
  | [], h, _ => by cases h
  | (f, none) :: r, h, hn => by
      by_cases e : f.j = x
      · exact ⟨[], f, r, rfl, e⟩
      · simp only [List.map_cons, List.mem_cons] at h
        rcases h with h | h
        · exact absurd h.symm e
        · obtain ⟨pre, f', post, rfl, e'⟩ := find_none x r h hn
          exact ⟨(f, none) :: pre, f', post, rfl, e'⟩
  | (f, some g) :: r, h, hn => by
      simp only [doneJ, List.mem_cons, not_or] at hn
      simp only [List.map_cons, List.mem_cons] at h
      rcases h with h | h
      · exact absurd h hn.1
      · obtain ⟨pre, f', post, rfl, e'⟩ := find_none x r h hn.2
        exact ⟨(f, some g) :: pre, f', post, rfl, e'⟩
section
variable {P : Program} {ops : Array Oper} {Q : Exit → Act → World → Prop} {md : Region.Mode} {T : World → Prop} {k : Nat} {B : Nat} {fs : List Flt}
def AnyG (P : Program) (md : Region.Mode) (ops : Array Oper) (Q : Exit → Act → World → Prop) (k : Nat) (T : World → Prop) (B : Nat) (fs : List Flt) (must : List Nat) (fuel : Nat) (listed : Array Bool) (a : Act) (R : World → Prop) : Prop :=
  ∀ F W, F.map (·.1) = fs → R W → okF B W F → must.all (doneJ F).contains = true → AnyK P md ops Q k T (fuel + leftN F) (setJ listed (doneJ F)) (putF a F) W
def FltRun (P : Program) (ops : Array Oper) (fs : List Flt) (a : Act) (f : Flt) : Prop :=
  ∃ oj, ops[f.j]? = some oj ∧ oj.dst = some f.d ∧ oj.guard = none ∧ ∀ F W, F.map (·.1) = fs → (execOp (putF a F).eval oj).run P W = .ok (.value (f.v W.heap.size)) (W.alloc (.cells f.Z.toArray f.ty))
theorem start_done : ∀ fs : List Flt, doneJ (fs.map fun f => (f, none)) = []
  | [] => rfl
  | _ :: r => start_done r
theorem start_put (a : Act) : ∀ fs : List Flt, putF a (fs.map fun f => (f, none)) = a
  | [] => rfl
  | _ :: r => start_put a r
theorem start_left : ∀ fs : List Flt, leftN (fs.map fun f => (f, none)) = fs.length
  | [] => rfl
  | _ :: r => congrArg (· + 1) (start_left r)
theorem start_ok (W : World) : ∀ fs : List Flt, okF B W (fs.map fun f => (f, none))
  | [] => trivial
  | _ :: r => start_ok W r
theorem AnyG.start {fuel : Nat} {listed : Array Bool} {a : Act} {w : World} (B : Nat) (fs : List Flt) (R : World → Prop) (fuel' : Nat) (hf : fuel = fuel' + fs.length) (hR : R w) (h : AnyG P md ops Q k T B fs [] fuel' listed a R) : AnyK P md ops Q k T fuel listed a w := by
  have := h (fs.map fun f => (f, none)) w (by rw [List.map_map]; exact List.map_id _) hR (start_ok w fs) rfl
  rw [start_done, start_put, start_left, ← hf] at this
  exact this
def okStep (md : Region.Mode) (ops : Array Oper) (listed : Array Bool) (js : List Nat) (must must' : List Nat) (i : Nat) : Bool :=
  (subs js).all fun S => (!(must.all S.contains)) || ((!(Region.ready md ops (setJ listed S)).isEmpty) && (Region.ready md ops (setJ listed S)).all fun x => (x == i && must'.all S.contains) || (js.contains x && !S.contains x))
theorem okStep_spec {listed : Array Bool} {i : Nat} {must must' : List Nat} (h : okStep md ops listed (fs.map (·.j)) must must' i = true) {F : List (Flt × Option Nat)} (hF : F.map (·.1) = fs) (hm : must.all (doneJ F).contains = true) :
    Region.ready md ops (setJ listed (doneJ F)) ≠ [] ∧ ∀ x ∈ Region.ready md ops (setJ listed (doneJ F)), (x = i ∧ must'.all (doneJ F).contains = true) ∨ ∃ pre f post, F = pre ++ (f, none) :: post ∧ f.j = x := by
  have e : F.map (·.1.j) = fs.map (·.j) := by rw [← hF, List.map_map]; rfl
  have h1 := List.all_eq_true.1 h (doneJ F) (e ▸ doneJ_subs F)
  rw [hm, Bool.not_true, Bool.false_or, Bool.and_eq_true] at h1
  refine ⟨fun h2 => by rw [h2] at h1; simp at h1, fun x hx => ?_⟩
  have h2 := List.all_eq_true.1 h1.2 x hx
  rw [Bool.or_eq_true, Bool.and_eq_true, Bool.and_eq_true] at h2
  rcases h2 with ⟨h2, h3⟩ | ⟨h2, h3⟩
  · exact .inl ⟨by simpa using h2, h3⟩
  · exact .inr (find_none x F (e ▸ (by simpa using h2)) (by simpa using h3))
theorem AnyG.one {fuel : Nat} {listed : Array Bool} {a : Act} {R : World → Prop} (hd : (fs.map (·.d)).Nodup) (hfl : ∀ f ∈ fs, FltRun P ops fs a f) (hRa : ∀ W o, R W → R (W.alloc o)) (hRB : ∀ W, R W → B ≤ W.heap.size) (hT : ∀ W, R W → T W)
    {F : List (Flt × Option Nat)} {W : World} (hF : F.map (·.1) = fs) (hR : R W) (hok : okF B W F) {x : Nat} (hx : ∃ pre f post, F = pre ++ (f, none) :: post ∧ f.j = x) {n : Nat} (hn : fuel + leftN F = n + 1)
    (ih : ∀ F' W', F'.map (·.1) = fs → R W' → okF B W' F' → leftN F' < leftN F → (∀ y ∈ doneJ F, y ∈ doneJ F') → AnyK P md ops Q k T (fuel + leftN F') (setJ listed (doneJ F')) (putF a F') W') :
    wpOp P ops Q x (fun a' w' => (((setJ listed (doneJ F)).setIfInBounds x true).getD k true = false → T w') ∧ AnyK P md ops Q k T n ((setJ listed (doneJ F)).setIfInBounds x true) a' w') (putF a F) W := by
  obtain ⟨pre, f, post, rfl, rfl⟩ := hx
  have hfs : f ∈ fs := by rw [← hF]; simp
  obtain ⟨oj, h1, h2, h3, h4⟩ := hfl f hfs
  unfold wpOp
  simp only [h1]
  rw [if_pos (by simp [Region.wanted, h3])]
  refine .inl ?_
  unfold Oper.wp
  rw [h4 _ W hF, Oper.upon_value, h2]
  have hpost : ∀ y ∈ post, y.1.d ≠ f.d := by
    intro y hy he
    rw [← hF] at hd
    simp only [List.map_append, List.map_cons, List.nodup_append, List.nodup_cons] at hd
    exact hd.2.1.1 (List.mem_map.2 ⟨y.1, List.mem_map.2 ⟨y, hy, rfl⟩, he⟩)
  rw [setJ_on listed f W.heap.size post pre, putF_on f W.heap.size post hpost pre a]
  have hl := leftN_on f W.heap.size post pre
  refine ⟨fun _ => hT _ (hRa _ _ hR), ?_⟩
  have h5 := ih (pre ++ (f, some W.heap.size) :: post) (W.alloc (.cells f.Z.toArray f.ty)) (by rw [← hF]; simp) (hRa _ _ hR) (okF_on f post (hRB W hR) pre hok) (by omega) (fun y hy => done_on f _ post y pre hy)
  rw [show fuel + leftN (pre ++ (f, some W.heap.size) :: post) = n by omega] at h5
  exact h5
theorem AnyG.step {fuel : Nat} {listed : Array Bool} {a : Act} {R : World → Prop} (i : Nat) {oi : Oper} {di : Tmp} {X : Type} {must : List Nat} (must' : List Nat) (v : X → Value) (R' : X → World → Prop) (hi : ops[i]? = some oi) (hig : oi.guard = none) (hdi : ∀ f ∈ fs, f.d ≠ di) (hd : (fs.map (·.d)).Nodup)
    (chk : okStep md ops listed (fs.map (·.j)) must must' i = true)
    (hmain : ∀ F W, F.map (·.1) = fs → R W → okF B W F → (Region.ready md ops (setJ listed (doneJ F))).contains i = true → ∀ K : Act → World → Prop, (∀ x w', R' x w' → Below W.heap.size W w' → K ((putF a F).put (some di) (v x)) w') → oi.wp P (putF a F) W K Q)
    (hfl : ∀ f ∈ fs, FltRun P ops fs a f) (hRa : ∀ W o, R W → R (W.alloc o)) (hRB : ∀ W, R W → B ≤ W.heap.size) (hT : ∀ W, R W → T W) (hT' : ∀ x W, R' x W → T W)
    (h : ∀ x, AnyG P md ops Q k T B fs must' fuel (listed.setIfInBounds i true) (a.put (some di) (v x)) (R' x)) : AnyG P md ops Q k T B fs must (fuel + 1) listed a R := by
  have key : ∀ n F W, leftN F = n → F.map (·.1) = fs → R W → okF B W F → must.all (doneJ F).contains = true → AnyK P md ops Q k T (fuel + 1 + leftN F) (setJ listed (doneJ F)) (putF a F) W := by
    intro n
    induction n using Nat.strongRecOn with
    | _ n ih =>
      intro F W hn hF hR hok hm
      obtain ⟨hne, hall⟩ := okStep_spec chk hF hm
      rw [show fuel + 1 + leftN F = (fuel + leftN F) + 1 by omega]
      refine ⟨fun h0 => absurd h0 hne, fun x hx => ?_⟩
      rcases hall x hx with ⟨rfl, hm'⟩ | hx
      · unfold wpOp
        simp only [hi]
        rw [if_pos (by simp [Region.wanted, hig])]
        refine .inl (hmain F W hF hR hok (by simpa using hx) _ fun y w' hR' hB => ?_)
        refine ⟨fun _ => hT' y w' hR', ?_⟩
        have h2 := h y F w' hF hR' (okF_mono hB F hok) hm'
        rw [← setJ_set, ← putF_put F a di (v y) (fun z hz => hdi z.1 (by rw [← hF]; exact List.mem_map.2 ⟨z, hz, rfl⟩))] at h2
        exact h2
      · exact AnyG.one (fuel := fuel + 1) hd hfl hRa hRB hT hF hR hok hx (by omega) fun F' W' h1 h2 h3 h4 h5 => ih (leftN F') (by omega) F' W' rfl h1 h2 h3 (must_on hm h5)
  exact fun F W hF hR hok hm => key _ F W rfl hF hR hok hm
def okEnd (md : Region.Mode) (ops : Array Oper) (listed : Array Bool) (js must : List Nat) : Bool :=
  (subs js).all fun S => (!(must.all S.contains)) || (S.length == js.length) || ((!(Region.ready md ops (setJ listed S)).isEmpty) && (Region.ready md ops (setJ listed S)).all fun x => js.contains x && !S.contains x)
theorem doneJ_len : ∀ F : List (Flt × Option Nat), (doneJ F).length + leftN F = F.length
  | [] => rfl
  | (_, none) :: r => by have := doneJ_len r; simp only [doneJ, leftN, List.length_cons]; omega
  | (_, some _) :: r => by have := doneJ_len r; simp only [doneJ, leftN, List.length_cons]; omega
theorem AnyG.fin {fuel : Nat} {listed : Array Bool} {a : Act} {R : World → Prop} (hd : (fs.map (·.d)).Nodup) {must : List Nat} (chk : okEnd md ops listed (fs.map (·.j)) must = true)
    (hfl : ∀ f ∈ fs, FltRun P ops fs a f) (hRa : ∀ W o, R W → R (W.alloc o)) (hRB : ∀ W, R W → B ≤ W.heap.size) (hT : ∀ W, R W → T W)
    (h : ∀ F W, F.map (·.1) = fs → leftN F = 0 → R W → okF B W F → AnyK P md ops Q k T fuel (setJ listed (doneJ F)) (putF a F) W) : AnyG P md ops Q k T B fs must fuel listed a R := by
  have key : ∀ n F W, leftN F = n → F.map (·.1) = fs → R W → okF B W F → must.all (doneJ F).contains = true → AnyK P md ops Q k T (fuel + leftN F) (setJ listed (doneJ F)) (putF a F) W := by
    intro n
    induction n using Nat.strongRecOn with
    | _ n ih =>
      intro F W hn hF hR hok hm
      rcases Nat.eq_zero_or_pos (leftN F) with h0 | h0
      · rw [h0]
        exact h F W hF h0 hR hok
      · have e : F.map (·.1.j) = fs.map (·.j) := by rw [← hF, List.map_map]; rfl
        have h1 := List.all_eq_true.1 chk (doneJ F) (e ▸ doneJ_subs F)
        have hl := doneJ_len F
        have hl2 : F.length = (fs.map (·.j)).length := by rw [← e, List.length_map]
        rw [hm, Bool.not_true, Bool.false_or, Bool.or_eq_true, Bool.and_eq_true] at h1
        rcases h1 with h1 | h1
        · have : (doneJ F).length = (fs.map (·.j)).length := by simpa using h1
          omega
        · rw [show fuel + leftN F = (fuel + leftN F - 1) + 1 by omega]
          refine ⟨fun h2 => by rw [h2] at h1; simp at h1, fun x hx => ?_⟩
          have h2 := List.all_eq_true.1 h1.2 x hx
          rw [Bool.and_eq_true] at h2
          refine AnyG.one (fuel := fuel) hd hfl hRa hRB hT hF hR hok (find_none x F (e ▸ (by simpa using h2.1)) (by simpa using h2.2)) (by omega) fun F' W' h1 h2 h3 h4 h5 => ih (leftN F') (by omega) F' W' rfl h1 h2 h3 (must_on hm h5)
  exact fun F W hF hR hok hm => key _ F W rfl hF hR hok hm
end
end Go.Proofs.YtlbnibmcflmohaaGreat
namespace Go.Proofs.YtlbnibmcflmohaaGreat
open Go.RowKit
section
variable {P : Program} {w : World} {o : Oper} {a : Act} {K : Act → World → Prop} {Q : Exit → Act → World → Prop}
theorem wp_enter {f : FuncId} {args : Array Value} (hrun : (execOp a.eval o).run P w = .ok (.enter f args) w) (h : Calls P f args w fun e w' => ∃ v, e = .returned v ∧ K (a.put o.dst v) w') : o.wp P a w K Q := by
  unfold Oper.wp
  rw [hrun]
  refine Calls.mono h ?_
  rintro e w' ⟨v, rfl, h2⟩
  exact h2
end
section
variable {P : Program} {ops : Array Oper} {Q : Exit → Act → World → Prop} {md : Region.Mode} {T : World → Prop} {k : Nat}
theorem AnyK.storeAt {fuel : Nat} {listed : Array Bool} {a : Act} {w : World} (i : Nat) {oi : Oper} {t : TypeId} {x y : Operand} (g off : Nat) (cs : List Value) (t' : TypeId) (Z Z' : List Value) (hi : ops[i]? = some oi) (hid : oi.dst = none) (hg : oi.guard = none) (ho : oi.op = .store t x y) (hr : Region.ready md ops listed = [i])
    (hx : a.eval x = .pointer (some ⟨g, off, none⟩)) (hy : a.eval y = .agg cs.toArray) (hb : Blk w g t' Z) (hsz : (P.info? t).map (·.size) = some cs.length) (hone : ∀ v ∈ cs, v.oneCell' = true) (hlen : off + cs.length ≤ Z.length) (hZ : splice Z off cs = Z')
    (hT : ∀ w', Blk w' g t' Z' → Only w w' g → (listed.setIfInBounds i true).getD k true = false → T w')
    (h : ∀ w', Blk w' g t' Z' → Only w w' g → AnyK P md ops Q k T fuel (listed.setIfInBounds i true) (a.put none undef) w') : AnyK P md ops Q k T (fuel + 1) listed a w := by
  subst hZ
  refine AnyK.one i hi hr hg ?_
  refine wp_store t x y ho g off cs hx hy t' Z hb hsz hone (by omega) ?_
  intro w' hb' ho'
  rw [hid]
  exact ⟨hT w' hb' ho', h w' hb' ho'⟩
theorem AnyK.main {fuel : Nat} {listed : Array Bool} {a : Act} {w : World} (i : Nat) {oi : Oper} (hi : ops[i]? = some oi) (hr : Region.ready md ops listed = [i]) (hg : oi.guard = none)
    (h : ∀ K : Act → World → Prop, (∀ a' w', ((listed.setIfInBounds i true).getD k true = false → T w') ∧ AnyK P md ops Q k T fuel (listed.setIfInBounds i true) a' w' → K a' w') → oi.wp P a w K Q) : AnyK P md ops Q k T (fuel + 1) listed a w :=
  AnyK.one i hi hr hg (h _ fun _ _ h => h)
end
theorem two_of {f1 f2 : Flt} {F : List (Flt × Option Nat)} (h : F.map (·.1) = [f1, f2]) : ∃ s1 s2, F = [(f1, s1), (f2, s2)] := by
  rcases F with _ | ⟨⟨a, s1⟩, _ | ⟨⟨b, s2⟩, _ | ⟨c, r⟩⟩⟩
  · cases h
  · cases h
  · simp only [List.map_cons, List.map_nil, List.cons.injEq] at h
    obtain ⟨rfl, rfl, _⟩ := h
    exact ⟨s1, s2, rfl⟩
  · simp at h
theorem three_of {f1 f2 f3 : Flt} {F : List (Flt × Option Nat)} (h : F.map (·.1) = [f1, f2, f3]) : ∃ s1 s2 s3, F = [(f1, s1), (f2, s2), (f3, s3)] := by
  rcases F with _ | ⟨⟨a, s1⟩, _ | ⟨⟨b, s2⟩, _ | ⟨⟨c, s3⟩, _ | ⟨d, r⟩⟩⟩⟩
  · cases h
  · cases h
  · cases h
  · simp only [List.map_cons, List.map_nil, List.cons.injEq] at h
    obtain ⟨rfl, rfl, rfl, _⟩ := h
    exact ⟨s1, s2, s3, rfl⟩
  · simp at h
theorem two_all {f1 f2 : Flt} {F : List (Flt × Option Nat)} (h : F.map (·.1) = [f1, f2]) (h0 : leftN F = 0) : ∃ g1 g2, F = [(f1, some g1), (f2, some g2)] := by
  obtain ⟨s1, s2, rfl⟩ := two_of h
  rcases s1 with _ | g1
  · simp [leftN] at h0
  rcases s2 with _ | g2
  · simp [leftN] at h0
  exact ⟨g1, g2, rfl⟩
theorem three_all {f1 f2 f3 : Flt} {F : List (Flt × Option Nat)} (h : F.map (·.1) = [f1, f2, f3]) (h0 : leftN F = 0) : ∃ g1 g2 g3, F = [(f1, some g1), (f2, some g2), (f3, some g3)] := by
  obtain ⟨s1, s2, s3, rfl⟩ := three_of h
  rcases s1 with _ | g1
  · simp [leftN] at h0
  rcases s2 with _ | g2
  · simp [leftN] at h0
  rcases s3 with _ | g3
  · simp [leftN] at h0
  exact ⟨g1, g2, g3, rfl⟩
section
variable {P : Program} {w : World} {o : Oper} {a : Act}
theorem ex_two (t e : TypeId) (x y : Operand) (ho : o.op = .buildSlice t 2 #[(0, x), (1, y)]) (cs ds : List Value) (hx : a.eval x = .agg cs.toArray) (hy : a.eval y = .agg ds.toArray) (hu : P.underlying t = some (.slice e)) (hi : (P.info? e).map (fun i => ((i.zero.map (fun z => z.cells.size)), i.size)) = some (some cs.length, cs.length)) (hl : ds.length = cs.length) (hpos : 0 < cs.length) (hsm : cs.length ≤ 1000000) :
    (execOp a.eval o).run P w = .ok (.value (.slice (some ⟨w.heap.size, 0, none⟩) 2 2)) (w.alloc (.cells (cs ++ ds).toArray e)) := by
  cases hie : P.info? e with
  | none => simp [hie] at hi
  | some ie =>
    cases hz : ie.zero with
    | none => simp [hie, hz] at hi
    | some z =>
      simp only [hie, hz, Option.map_some, Option.some.injEq, Prod.mk.injEq] at hi
      have h1 : (#[(0, x), (1, y)].map fun (p : Nat × Operand) => (p.1, a.eval p.2)).toList = [(0, .agg cs.toArray), (1, .agg ds.toArray)] := by simp [hx, hy]
      have h2 : ∃ Z : List Value, ((Array.range (2 * ie.size)).map (z.cells[· % z.cells.size]!)) = Z.toArray ∧ Z.length = cs.length + ds.length := ⟨((Array.range (2 * ie.size)).map (z.cells[· % z.cells.size]!)).toList, Array.toArray_toList.symm, by simp [hi.2]; omega⟩
      obtain ⟨Z, hZ, hZl⟩ := h2
      have hfill : Instr.fill (fun i => some (i * ie.size, ie.size)) ((Array.range (2 * ie.size)).map (z.cells[· % z.cells.size]!)) (#[(0, x), (1, y)].map fun (p : Nat × Operand) => (p.1, a.eval p.2)).toList = some (cs ++ ds).toArray := by
        rw [h1, hZ, fill_cons (cs := cs) (off := 0) rfl (by simp [hi.2]) (by omega), fill_cons (cs := ds) (off := cs.length) rfl (by simp [hi.2, hl]) (by simp [splice]; omega), splice_two Z cs ds cs.length rfl hZl]
        rfl
      have h := run_buildSlice (P := P) w t e 2 (#[(0, x), (1, y)].map fun (p : Nat × Operand) => (p.1, a.eval p.2)) (cs ++ ds).toArray ie z hu hie hz (by rw [hi.2]; omega) (by rw [hi.2]; omega) hfill
      unfold execOp
      simp only [ho]
      simp only [Sem.run_bind, h, Result.andThen_ok]
      rfl
end
theorem ex_slice2 {o : Oper} {a : Act} {w : World} {x y : Operand} (m n : Nat) (ho : o.op = .buildSlice 148 2 #[(0, x), (1, y)]) (hx : a.eval x = .agg (elc m).toArray) (hy : a.eval y = .agg (elc n).toArray) :
    (execOp a.eval o).run Tryz.prog w = .ok (.value (.slice (some ⟨w.heap.size, 0, none⟩) 2 2)) (w.alloc (.cells (elc m ++ elc n).toArray 80)) :=
  ex_two 148 80 x y ho (elc m) (elc n) hx hy Tryz.underlying148 (by kernel_rfl) rfl (by simp [elc, l4]) (by simp [elc, l4])
theorem lt2 {x y : Nat} (hx : x < pr) (hy : y < pr) : ∀ z ∈ [x, y], z < 115792089237316195423570985008687907853269984665640564039457584007913129639936 := by
  intro z hz
  simp only [pr] at hx hy
  simp only [List.mem_cons, List.not_mem_nil, or_false] at hz
  rcases hz with rfl | rfl <;> omega
theorem rd2 {w : World} {g : Nat} {t : TypeId} {x y : Nat} (h : Blk w g t (elc x ++ elc y)) : RdS 4 w (some ⟨g, 0, none⟩) 2 ([x, y].flatMap elc) := by
  refine ⟨by simp [elc, l4], fun _ => ⟨g, 0, rfl, h.lt, fun j v hv => ?_⟩⟩
  rw [Nat.zero_add, h.cell]
  simpa using hv
theorem sum2_el {W : World} {g : Nat} {t : TypeId} {x y : Nat} (h : Blk W g t (elc x ++ elc y)) (hx : x < pr) (hy : y < pr) :
    Calls Tryz.prog 67 #[.slice (some ⟨g, 0, none⟩) 2 2] W fun e w' => e = .returned (.agg (elc (fadd x y)).toArray) ∧ Below W.heap.size W w' := by
  have h1 := sum_el (some ⟨g, 0, none⟩) 2 2 [x, y] W (by omega) (rd2 h) rfl (lt2 hx hy)
  rw [sum2] at h1
  exact h1
theorem prod2_el {W : World} {g : Nat} {t : TypeId} {x y : Nat} (h : Blk W g t (elc x ++ elc y)) (hx : x < pr) (hy : y < pr) :
    Calls Tryz.prog 70 #[.slice (some ⟨g, 0, none⟩) 2 2] W fun e w' => e = .returned (.agg (elc (fmul x y)).toArray) ∧ Below W.heap.size W w' := by
  have h1 := prod_el (some ⟨g, 0, none⟩) 2 2 [x, y] W (by omega) (by omega) (by omega) (rd2 h) rfl (lt2 hx hy)
  rw [prod2] at h1
  exact h1
theorem fsub_el {W : World} {x y : Nat} (hx : x < pr) (hy : y < pr) :
    Calls Tryz.prog 68 #[.agg (elc x).toArray, .agg (elc y).toArray] W fun e w' => e = .returned (.agg (elc (fsub x y)).toArray) ∧ Below W.heap.size W w' :=
  sub_el x y (by simp only [pr] at hx; omega) (by simp only [pr] at hy; omega) W
theorem fsq_el {W : World} {x : Nat} (hx : x < pr) :
    Calls Tryz.prog 69 #[.agg (elc x).toArray] W fun e w' => e = .returned (.agg (elc (fmul x x)).toArray) ∧ Below W.heap.size W w' :=
  sq_el x (by simp only [pr] at hx; omega) W
def lcs (x1 : Nat) (s : LS) : List Value := elc x1 ++ elc s.x2 ++ elc s.z2 ++ elc s.x3 ++ elc s.z3
end Go.Proofs.YtlbnibmcflmohaaGreat
namespace Go.Proofs.YtlbnibmcflmohaaGreat
open Go.RowKit
theorem u8_and (x : UInt8) (n : Nat) (hn : n < 256) : bits .and .u8 (x.toNat : Int) (n : Int) = ((x &&& UInt8.ofNat n).toNat : Int) := by
  rw [u8_and_nat x.toNat n x.toNat_lt hn, UInt8.toNat_and, UInt8.toNat_ofNat', Nat.mod_eq_of_lt hn]
theorem u8_or (x : UInt8) (n : Nat) (hn : n < 256) : bits .or .u8 (x.toNat : Int) (n : Int) = ((x ||| UInt8.ofNat n).toNat : Int) := by
  have h := w8_or x (UInt8.ofNat n)
  rw [UInt8.toNat_ofNat', Nat.mod_eq_of_lt hn] at h
  exact h
attribute [local go_sem ↓] ldq_b32
set_option maxRecDepth 100000 in
set_option maxHeartbeats 1000000 in
theorem clamp_any (A : Option Addr) (n c : Nat) (ks : List UInt8) (w : World) (h : Rd w A n (u8s ks)) (hn : n = 32) :
    Calls Tryz.prog 47 #[.slice A n c] w fun e w' => e = .returned (.tuple #[.agg (u8s (clampB ks)).toArray, .int .i64 0]) ∧ Below w.heap.size w w' := by
  have HR := Lib.hid h
  have HL := Lib.hid h.len
  have HM0 : Hid (Blk ((w.alloc (.cells (u8s (List.replicate 32 0)).toArray 26)).alloc (.cells (u8s (List.replicate 32 0)).toArray 26)) w.heap.size 26 (u8s (List.replicate 32 0)) ∧ Blk ((w.alloc (.cells (u8s (List.replicate 32 0)).toArray 26)).alloc (.cells (u8s (List.replicate 32 0)).toArray 26)) (w.heap.size + 1) 26 (u8s (List.replicate 32 0)) ∧ Below w.heap.size w ((w.alloc (.cells (u8s (List.replicate 32 0)).toArray 26)).alloc (.cells (u8s (List.replicate 32 0)).toArray 26))) :=
    ⟨(Blk.new w _ _).alloc _, Blk.new' (by simp) rfl, ((Below.refl _ w).alloc (Nat.le_refl _) _).alloc (by simp) _⟩
  have hn2 : (n : Int) = 32 := by omega
  clear h
  go_enter Tryz.func47, Tryz.ntmps47
  go_upto_region 5 with (refine wpList_copy rfl (.tmp 9) (.tmp 10) 23 rfl 5 Tryz.underlying23 u8_one1 (w.heap.size + 1) 0 32 32 (by rfl) A _ c (by rfl) 26 _ (by exact HM0.out.2.1) (u8s ks) (by first | exact (HR.out.alloc _).alloc _ | exact hn ▸ (HR.out.alloc _).alloc _) (u8s_one _) (by simp [u8s_length]) ?_; intro w2 hb2 ho2)
  have hlen : ks.length = 32 := by rw [HL.out, hn]
  have hsp : splice (u8s (List.replicate 32 0)) 0 ((u8s ks).take 32) = u8s ks := by
    rw [List.take_of_length_le (by rw [u8s_length]; omega), splice_whole _ _ (by rw [u8s_length, u8s_length, hlen]; rfl)]
  rw [hsp] at hb2
  have HZ := Lib.hid (ho2.blk HM0.out.1 (by omega))
  have HE := Lib.hid (ho2.below HM0.out.2.2 (by omega) HM0.out.2.2.size)
  have HLn := Lib.hid hlen
  have HB := Lib.hid hb2
  clear hsp hlen hb2 ho2 HM0 HR hn
  obtain ⟨x, hx⟩ : ∃ x, x = ks.getD 0 0 := ⟨_, rfl⟩
  obtain ⟨y, hy⟩ : ∃ y, y = ks.getD 31 0 := ⟨_, rfl⟩
  have hc : w2.cell? ⟨w.heap.size + 1, 0, none⟩ = some (.int .u8 ((x.toNat : Nat) : Int)) := by
    refine (HB.out.cell 0).trans ?_
    rw [u8s_getElem?, hx, List.getD_eq_getElem?_getD, List.getElem?_eq_getElem (by rw [HLn.out]; omega)]; rfl
  have hf : w2.frozen? ⟨w.heap.size + 1, 0, none⟩ = false := HB.out.frozen 0
  obtain ⟨x2, hx2⟩ : ∃ x2, x2 = x &&& UInt8.ofNat 248 := ⟨_, rfl⟩
  have ha : bits .and .u8 (x.toNat : Int) 248 = (x2.toNat : Int) := hx2 ▸ u8_and x 248 (by omega)
  have HX2 := Lib.hid hx2
  clear hx2
  have HX := Lib.hid hx
  have HY := Lib.hid hy
  clear hx hy
  go_upto_region 6 with (fail)
  obtain ⟨w3, hw3⟩ : ∃ w3, w3 = w2.setCell ⟨w.heap.size + 1, 0, none⟩ (.int .u8 (x2.toNat : Int)) := ⟨_, rfl⟩
  have HB3 : Hid (Blk w3 (w.heap.size + 1) 26 (u8s (ks.set 0 x2))) := hw3 ▸ (u8s_set ks 0 x2) ▸ HB.out.set_ 0 _
  have HZ3 : Hid (Blk w3 w.heap.size 26 (u8s (List.replicate 32 0))) := hw3 ▸ HZ.out.far (by show w.heap.size ≠ w.heap.size + 1; omega) _
  have HE3 : Hid (Below w.heap.size w w3) := hw3 ▸ HE.out.setCell (by show w.heap.size ≤ w.heap.size + 1; omega) _
  rw [← hw3]
  clear hw3 hc hf ha HB HZ HE
  have hc : w3.cell? ⟨w.heap.size + 1, 31, none⟩ = some (.int .u8 ((y.toNat : Nat) : Int)) := by
    refine (HB3.out.cell 31).trans ?_
    rw [u8s_getElem?, List.getElem?_set_ne (by omega), HY.out, List.getD_eq_getElem?_getD, List.getElem?_eq_getElem (by rw [HLn.out]; omega)]; rfl
  have hf : w3.frozen? ⟨w.heap.size + 1, 31, none⟩ = false := HB3.out.frozen 31
  obtain ⟨y2, hy2⟩ : ∃ y2, y2 = y &&& UInt8.ofNat 127 := ⟨_, rfl⟩
  have ha : bits .and .u8 (y.toNat : Int) 127 = (y2.toNat : Int) := hy2 ▸ u8_and y 127 (by omega)
  have HY2 := Lib.hid hy2
  clear hy2
  go_upto_region 7 with (fail)
  obtain ⟨w4, hw4⟩ : ∃ w4, w4 = w3.setCell ⟨w.heap.size + 1, 31, none⟩ (.int .u8 (y2.toNat : Int)) := ⟨_, rfl⟩
  have HB4 : Hid (Blk w4 (w.heap.size + 1) 26 (u8s ((ks.set 0 x2).set 31 y2))) := hw4 ▸ (u8s_set _ 31 y2) ▸ HB3.out.set_ 31 _
  have HZ4 : Hid (Blk w4 w.heap.size 26 (u8s (List.replicate 32 0))) := hw4 ▸ HZ3.out.far (by show w.heap.size ≠ w.heap.size + 1; omega) _
  have HE4 : Hid (Below w.heap.size w w4) := hw4 ▸ HE3.out.setCell (by show w.heap.size ≤ w.heap.size + 1; omega) _
  rw [← hw4]
  clear hw4 hc hf ha HB3 HZ3 HE3
  have hc : w4.cell? ⟨w.heap.size + 1, 31, none⟩ = some (.int .u8 (y2.toNat : Int)) := by
    refine (HB4.out.cell 31).trans ?_
    rw [u8s_getElem?, List.getElem?_set_self (by rw [List.length_set, HLn.out]; omega)]; rfl
  have hf : w4.frozen? ⟨w.heap.size + 1, 31, none⟩ = false := HB4.out.frozen 31
  obtain ⟨y3, hy3⟩ : ∃ y3, y3 = y2 ||| UInt8.ofNat 64 := ⟨_, rfl⟩
  have ha : bits .or .u8 (y2.toNat : Int) 64 = (y3.toNat : Int) := hy3 ▸ u8_or y2 64 (by omega)
  have HY3 := Lib.hid hy3
  clear hy3
  go_upto_region 8 with (fail)
  obtain ⟨w5, hw5⟩ : ∃ w5, w5 = w4.setCell ⟨w.heap.size + 1, 31, none⟩ (.int .u8 (y3.toNat : Int)) := ⟨_, rfl⟩
  have HB5 : Hid (Blk w5 (w.heap.size + 1) 26 (u8s (clampB ks))) := by
    have h1 := HB4.out.set_ 31 (.int .u8 (y3.toNat : Int))
    rw [← hw5, u8s_set, List.set_set, HY3.out, HY2.out, HX2.out, HX.out, HY.out] at h1
    exact h1
  have HZ5 : Hid (Blk w5 w.heap.size 26 (u8s (List.replicate 32 0))) := hw5 ▸ HZ4.out.far (by show w.heap.size ≠ w.heap.size + 1; omega) _
  have HE5 : Hid (Below w.heap.size w w5) := hw5 ▸ HE4.out.setCell (by show w.heap.size ≤ w.heap.size + 1; omega) _
  rw [← hw5]
  clear hw5 hc hf ha HB4 HZ4 HE4
  have hcl : (clampB ks).length = 32 := by rw [clampB_len, HLn.out]
  have hld : (ldAt 26 (.pointer (some ⟨w.heap.size + 1, 0, none⟩))).run Tryz.prog w5 = .ok (.agg (u8s (clampB ks)).toArray) w5 := ldAt_run HB5.out 26 0 (u8s (clampB ks)) (by rw [List.drop_zero]; exact List.take_of_length_le (Nat.le_refl _)) _ Tryz.underlying26 rfl (by rw [u8s_length, hcl]; exact hd32)
  have HCL := Lib.hid hcl
  clear hcl
  go_wp2_with (refine wpList_store_all rfl 26 (.tmp 2) (.tmp 24) rfl w.heap.size (u8s (clampB ks)) (by rfl) (by rfl) 26 _ HZ5.out (by rw [u8s_length, HCL.out]; exact hd32) (u8s_one _) (by rw [u8s_length, u8s_length, HCL.out]; rfl) ?_; intro w6 hb6 ho6; have HB6 := Lib.hid hb6; have HE6 := Lib.hid (ho6.below HE5.out (Nat.le_refl _) HE5.out.size); clear hb6 ho6)
  exact bodyPost_ret (res_cell_tmp rfl _ _ _ _ rfl HB6.out _ Tryz.underlying26 rfl (by rw [u8s_length, HCL.out]; exact hd32)) rfl ⟨rfl, HE6.out⟩
end Go.Proofs.YtlbnibmcflmohaaGreat
