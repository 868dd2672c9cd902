/- Part of the proof: Pee, Pef, Rgw, HeaderPeelsW. -/
import Derived.Test.YtlbnibmcflmohaaGreatPlx50
namespace Go.Proofs.YtlbnibmcflmohaaGreat
open Go.RowKit
theorem be_nat' : ∀ (k n : Nat), n < 256 ^ k → beNat (Sh.beBytes n k) = n
  | 0, n, h => by
      have : n = 0 := by simpa using h
      subst this
      rfl
  | k + 1, n, h => by
      have hp : 0 < 256 ^ k := Nat.pow_pos (by omega)
      have hq : n / 256 ^ k < 256 := by
        rw [Nat.div_lt_iff_lt_mul hp, Nat.mul_comm]
        rwa [Nat.pow_succ] at h
      have e : Sh.beBytes n k = Sh.beBytes (n % 256 ^ k) k := by
        have key : ∀ j, j ≤ k → Sh.beBytes n j = Sh.beBytes (n % 256 ^ k) j := by
          intro j
          induction j with
          | zero => intro _; rfl
          | succ j ih =>
            intro hj
            rw [Sh.beBytes, Sh.beBytes, ih (by omega)]
            congr 1
            apply UInt8.toNat.inj
            rw [UInt8.toNat_ofNat', UInt8.toNat_ofNat']
            have h1 : 256 ^ k = 256 ^ j * 256 ^ (k - j) := by rw [← Nat.pow_add]; congr 1; omega
            rw [h1, Nat.mod_mul_right_div_self]
            have h2 : (256 : Nat) ∣ 256 ^ (k - j) := by
              obtain ⟨q, hq⟩ : ∃ q, k - j = q + 1 := ⟨k - j - 1, by omega⟩
              rw [hq, Nat.pow_succ]
              exact Nat.dvd_mul_left _ _
            exact (Nat.mod_mod_of_dvd _ h2).symm
        exact key k (Nat.le_refl _)
      rw [Sh.beBytes, beNat_cons, beBytes_len, e, be_nat' k _ (Nat.mod_lt _ hp), UInt8.toNat_ofNat', Nat.mod_eq_of_lt hq, Nat.mul_comm]
      exact Nat.div_add_mod _ _
theorem dcm_enc {c : Cm} (h : c.ok) : dcm c.enc = c := by
  obtain ⟨k, f, d, n, m⟩ := c
  obtain ⟨h1, h2, h3⟩ := h
  simp only at h1 h2 h3
  have e1 := beBytes_len d 4
  have e2 := beBytes_len n 8
  have a1 : ((Cm.enc ⟨k, f, d, n, m⟩).drop 2).take 4 = Sh.beBytes d 4 := by
    show (Sh.beBytes d 4 ++ _).take 4 = _
    rw [List.take_left' e1]
  have a2 : ((Cm.enc ⟨k, f, d, n, m⟩).drop 6).take 8 = Sh.beBytes n 8 := by
    show ((Sh.beBytes d 4 ++ (Sh.beBytes n 8 ++ _)).drop 4).take 8 = _
    rw [List.drop_left' e1, List.take_left' e2]
  have a3 : ((Cm.enc ⟨k, f, d, n, m⟩).drop 14).take 16 = m := by
    show ((Sh.beBytes d 4 ++ (Sh.beBytes n 8 ++ (m ++ [0, 0]))).drop 12).take 16 = _
    rw [← List.append_assoc, List.drop_left' (by rw [List.length_append, e1, e2]), List.take_left' h3]
  unfold dcm
  rw [a1, a2, a3, be_nat' 4 d (by simpa using h1), be_nat' 8 n (by simpa using h2)]
  rfl
theorem dce_enc {c : Cm} (h : c.ok) : dce c.enc = c.check := by
  have e0 : c.enc.drop 30 = [0, 0] := by
    have : c.enc = ([c.k, c.f] ++ (Sh.beBytes c.d 4 ++ (Sh.beBytes c.n 8 ++ c.m))) ++ [0, 0] := by simp [Cm.enc]
    rw [this, List.drop_left' (by simp [beBytes_len, h.2.2])]
  have z0 : c.enc.getD 30 0 = 0 := by
    have := congrArg (fun l => l.getD 0 0) e0
    simpa [List.getD_eq_getElem?_getD] using this
  have z1 : c.enc.getD 31 0 = 0 := by
    have := congrArg (fun l => l.getD 1 0) e0
    simpa [List.getD_eq_getElem?_getD] using this
  unfold dce
  rw [if_neg (fun h9 => h9.1.elim (fun q => q z0) (fun q => q z1)), dcm_enc h]
theorem xor_drop (a b : List UInt8) (k : Nat) : (Ch.xor a b).drop k = Ch.xor (a.drop k) (b.drop k) := List.drop_zipWith
theorem xor_take (a b : List UInt8) (k : Nat) : (Ch.xor a b).take k = Ch.xor (a.take k) (b.take k) := List.take_zipWith
theorem xor_noughts (b : List UInt8) : Ch.xor (List.replicate b.length 0) b = b := by
  induction b with
  | nil => rfl
  | cons x b ih =>
    show Ch.xor (0 :: List.replicate b.length 0) (x :: b) = _
    simp only [Ch.xor, List.zipWith_cons_cons] at ih ⊢
    rw [ih, UInt8.zero_xor]
theorem piece_cut (key : List UInt8) (n k : Nat) (h : k ≤ n) : (Ch.piece key 0 n).take k = Ch.piece key 0 k := by
  obtain ⟨m, rfl⟩ : ∃ m, n = k + m := ⟨n - k, by omega⟩
  rw [Ch.piece_add, List.take_left' (Ch.piece_len _ _ _)]
theorem piece_end (key : List UInt8) (n k : Nat) : (Ch.piece key 0 (n + k)).drop n = Ch.piece key n k := by
  rw [Ch.piece_add, List.drop_left' (Ch.piece_len _ _ _), Nat.zero_add]
noncomputable def hdr (cs : List Cm) (ss : List Sp) (i : Nat) : List UInt8 := hst cs ss ss.length (ss.length - i)
section
variable {cs : List Cm} {ss : List Sp} {n : Nat} (hc : ∀ c ∈ cs, c.ok) (hs : ∀ s ∈ ss, s.ok) (hcl : cs.length = n) (hsl : ss.length = n) (hn : n ≤ 5)
include hc hs hcl hsl hn
theorem tails : ∀ m, m < n → (hst cs ss n (m + 1)).drop (288 - 48 * (n - 1 - m)) = fil ss (n - 1 - m) := by
  intro m
  induction m with
  | zero =>
    intro hm
    obtain ⟨c, hci⟩ : ∃ c, cs[n - 1]? = some c := ⟨_, List.getElem?_eq_getElem (by omega)⟩
    obtain ⟨s, hsi⟩ : ∃ s, ss[n - 1]? = some s := ⟨_, List.getElem?_eq_getElem (by omega)⟩
    have hfl := fil_len ss (n - 1) (by omega)
    have hco := hc c (List.mem_of_getElem? hci)
    have hso := hs s (List.mem_of_getElem? hsi)
    rw [hst_next (i := n - 1) rfl hci hsi, headOf, betaOf, if_pos rfl, ← List.append_assoc, ← List.append_assoc]
    exact List.drop_left' (by rw [List.length_append, List.length_append, Ch.turn_len, List.length_append, List.length_replicate, Cm.enc_len hco, List.length_take, Mc.tag_len, hso.2.2.2.2.1, hfl]; omega)
  | succ m ih =>
    intro hm
    have ih := ih (by omega)
    obtain ⟨i, hi⟩ : ∃ i, i = n - 1 - (m + 1) := ⟨_, rfl⟩
    obtain ⟨c, hci⟩ : ∃ c, cs[i]? = some c := ⟨_, List.getElem?_eq_getElem (by omega)⟩
    obtain ⟨s, hsi⟩ : ∃ s, ss[i]? = some s := ⟨_, List.getElem?_eq_getElem (by omega)⟩
    have hfl := fil_len ss i (by omega)
    have hco := hc c (List.mem_of_getElem? hci)
    have hso := hs s (List.mem_of_getElem? hsi)
    have hPl := hst_len hc hs hcl hsl hn (m + 1) (by omega)
    rw [show n - 1 - m = i + 1 by omega] at ih
    rw [hst_next (i := i) hi hci hsi, ← hi]
    obtain ⟨P, hP⟩ : ∃ P, P = hst cs ss n (m + 1) := ⟨_, rfl⟩
    rw [← hP] at ih hPl ⊢
    have hX : (c.enc ++ ((P.drop 32).take 16 ++ (P.drop 48).take 192)).length = 240 := by simp [Cm.enc_len hco, hPl]
    rw [headOf, betaOf, if_neg (by omega), ← List.append_assoc, List.drop_append, List.drop_eq_nil_of_le (by rw [List.length_append, List.length_take, Mc.tag_len, hso.2.2.2.2.1]; omega), List.nil_append, List.length_append, List.length_take, Mc.tag_len, hso.2.2.2.2.1,
      show 288 - 48 * i - (32 + min 16 32) = 240 - 48 * i by omega, Ch.turn, hX, xor_drop]
    have e1 : (c.enc ++ ((P.drop 32).take 16 ++ (P.drop 48).take 192)).drop (240 - 48 * i) = (P.drop (288 - 48 * (i + 1))).take (48 * i) := by
      rw [← List.append_assoc, List.drop_append, List.drop_eq_nil_of_le (by simp [Cm.enc_len hco, hPl]; omega), List.nil_append, List.length_append, Cm.enc_len hco, List.length_take, List.length_drop, hPl,
        List.drop_take, List.drop_drop, show 192 - (240 - 48 * i - (32 + min 16 (288 - 32))) = 48 * i by omega, show 48 + (240 - 48 * i - (32 + min 16 (288 - 32))) = 288 - 48 * (i + 1) by omega]
    have e2 : (Ch.piece s.stream 0 240).drop (240 - 48 * i) = ((Ch.piece s.stream 0 288).drop (288 - (48 * i + 48))).take (48 * i) := by
      rw [show 288 - (48 * i + 48) = 240 - 48 * i by omega, ← piece_cut s.stream 288 240 (by omega), List.drop_take, show 240 - (240 - 48 * i) = 48 * i by omega]
    rw [e1, e2, ih, fil_next hsi, xor_take, List.take_left' hfl]
    exact Ch.xor_self _ _ (by rw [hfl, List.length_take, List.length_drop, Ch.piece_len]; omega)
theorem tail48 {m i : Nat} (hm : m < n) (hi : n - 1 - m = i + 1) {s : Sp} (hsi : ss[i]? = some s) : (hst cs ss n (m + 1)).drop 240 = Ch.piece s.stream 240 48 := by
  have h := tails hc hs hcl hsl hn m hm
  rw [hi] at h
  have hfl := fil_len ss i (by omega)
  have h2 := congrArg (List.drop (48 * i)) h
  rw [List.drop_drop, show 288 - 48 * (i + 1) + 48 * i = 240 by omega, fil_next hsi, xor_drop, List.drop_left' hfl, List.drop_drop, show 288 - (48 * i + 48) + 48 * i = 240 by omega, piece_end s.stream 240 48] at h2
  rw [h2]
  have h3 := xor_noughts (Ch.piece s.stream 240 48)
  rwa [Ch.piece_len] at h3
theorem plain_next {m i : Nat} (hm : m + 1 < n) (hi : n - 1 - (m + 1) = i) {c : Cm} {s : Sp} (hci : cs[i]? = some c) (hsi : ss[i]? = some s) : plainOf s (hst cs ss n (m + 2)) = c.enc ++ (hst cs ss n (m + 1)).drop 32 := by
  have hco := hc c (List.mem_of_getElem? hci)
  have hso := hs s (List.mem_of_getElem? hsi)
  have hPl := hst_len hc hs hcl hsl hn (m + 1) (by omega)
  have ht := tail48 hc hs hcl hsl hn (m := m) (i := i) (by omega) (by omega) hsi
  rw [hst_next (m := m + 1) (i := i) hi.symm hci hsi]
  obtain ⟨P, hP⟩ : ∃ P, P = hst cs ss n (m + 1) := ⟨_, rfl⟩
  rw [← hP] at hPl ht ⊢
  have hX : (c.enc ++ ((P.drop 32).take 16 ++ (P.drop 48).take 192)).length = 240 := by simp [Cm.enc_len hco, hPl]
  have e1 : ((headOf c s (fil ss (n - 1)) (m + 1) P).drop 48).take 240 = Ch.turn s.stream (c.enc ++ ((P.drop 32).take 16 ++ (P.drop 48).take 192)) := by
    rw [headOf, betaOf, if_neg (by omega), ← List.append_assoc, List.drop_left' (by rw [List.length_append, hso.2.2.2.2.1, List.length_take, Mc.tag_len]; rfl), List.take_of_length_le (by rw [Ch.turn_len, hX]; exact Nat.le_refl _)]
  rw [plainOf, e1, turn_append, Ch.turn_turn, Ch.turn_len, hX, List.length_replicate]
  have h3 := xor_noughts (Ch.piece s.stream 240 48)
  rw [Ch.piece_len] at h3
  rw [h3, ← ht, List.append_assoc, List.append_assoc]
  refine congrArg (c.enc ++ ·) ?_
  have e2 : P.drop 240 = (P.drop 48).drop 192 := by rw [List.drop_drop]
  have e3 : (P.drop 48) = (P.drop 32).drop 16 := by rw [List.drop_drop]
  rw [e2, List.take_append_drop, e3, List.take_append_drop]
end
section
variable {cs : List Cm} {ss : List Sp} {n : Nat} (hc : ∀ c ∈ cs, c.ok) (hs : ∀ s ∈ ss, s.ok) (hsl : ss.length = n) (hb : berr cs n = 0)
include hc hs hsl hb
theorem peel_head {m i : Nat} (hm : m < n) (hi : n - 1 - m = i) {c : Cm} {s : Sp} (hci : cs[i]? = some c) (hsi : ss[i]? = some s) :
    (hst cs ss n (m + 1)).take 32 = s.alpha ∧ fits s (hst cs ss n (m + 1)) = true ∧ (plainOf s (hst cs ss n (m + 1))).take 32 = c.enc := by
  obtain ⟨_, h5, hcl, _⟩ := berr_zero hb
  have hco := hc c (List.mem_of_getElem? hci)
  have hso := hs s (List.mem_of_getElem? hsi)
  have hPl := hst_len hc hs hcl.symm hsl h5 m (by omega)
  have hfl : (fil ss (n - 1)).length ≤ 208 := by rw [fil_len ss (n - 1) (by omega)]; omega
  rw [hst_next hi.symm hci hsi]
  exact ⟨by rw [headOf, List.take_left' hso.2.2.2.2.1], fits_head hco hso hfl hPl, plain_head hco hso hfl hPl⟩
theorem peel_mid {m i : Nat} (hm : m + 1 < n) (hi : n - 1 - (m + 1) = i) {c : Cm} {s : Sp} (hci : cs[i]? = some c) (hsi : ss[i]? = some s) (hE : mE s.blind s.alpha = 0) (hal : (hst cs ss n (m + 1)).take 32 = mB s.blind s.alpha) :
    fits s (hst cs ss n (m + 2)) = true ∧ opE s (hst cs ss n (m + 2)) = 0 ∧ opC s (hst cs ss n (m + 2)) = c ∧ opN s (hst cs ss n (m + 2)) = hst cs ss n (m + 1) := by
  obtain ⟨_, h5, hcl, hck⟩ := berr_zero hb
  have hco := hc c (List.mem_of_getElem? hci)
  obtain ⟨hk0, hk1⟩ := hck i c hci
  obtain ⟨_, h1, h2⟩ := peel_head hc hs hsl hb (m := m + 1) hm hi hci hsi
  have hp := plain_next hc hs hcl.symm hsl h5 hm hi hci hsi
  have hck1 : c.k = 1 := by
    have e2 : decide (i + 1 = n) = false := by rw [decide_eq_false_iff_not]; omega
    rw [e2] at hk1
    simpa using hk1
  have hd : dce c.enc = 0 := (dce_enc hco).trans hk0
  refine ⟨h1, ?_, ?_, ?_⟩
  · rw [opE, if_neg (by simp [h1]), h2, if_neg (by simp [hd]), dcm_enc hco, if_neg (by simp [hck1]), hE]
  · rw [opC, if_neg (by simp [h1]), h2, if_neg (by simp [hd]), dcm_enc hco, if_neg (by simp [hck1]), if_pos hE]
  · rw [opN, if_neg (by simp [h1]), h2, if_neg (by simp [hd]), dcm_enc hco, if_neg (by simp [hck1]), if_pos hE, hp, List.drop_left' (Cm.enc_len hco), ← hal, List.take_append_drop]
theorem peel_end {i : Nat} (hi : n - 1 = i) {c : Cm} {s : Sp} (hci : cs[i]? = some c) (hsi : ss[i]? = some s) :
    fits s (hst cs ss n 1) = true ∧ opE s (hst cs ss n 1) = 0 ∧ opC s (hst cs ss n 1) = c ∧ opN s (hst cs ss n 1) = z288 := by
  obtain ⟨hn1, h5, hcl, hck⟩ := berr_zero hb
  have hco := hc c (List.mem_of_getElem? hci)
  obtain ⟨hk0, hk1⟩ := hck i c hci
  obtain ⟨_, h1, h2⟩ := peel_head hc hs hsl hb (m := 0) (by omega) hi hci hsi
  have hck1 : c.k ≠ 1 := by
    have e2 : decide (i + 1 = n) = true := by rw [decide_eq_true_iff]; omega
    rw [e2] at hk1
    simpa using hk1
  have hd : dce c.enc = 0 := (dce_enc hco).trans hk0
  refine ⟨h1, ?_, ?_, ?_⟩
  · rw [opE, if_neg (by simp [h1]), h2, if_neg (by simp [hd]), dcm_enc hco, if_pos hck1]
  · rw [opC, if_neg (by simp [h1]), h2, if_neg (by simp [hd]), dcm_enc hco, if_pos hck1]
  · rw [opN, if_neg (by simp [h1]), h2, if_neg (by simp [hd]), dcm_enc hco, if_pos hck1]
end
theorem ord_mul' {j : Nat} {k : List UInt8} (hj : ¬ ordB ∣ j) (hk : k.length = 32) : ¬ ordB ∣ j * clN k := ord_mul hj (clm hk)
theorem nine_is : nine = leB (uB 1) := by rw [nine, uB_one, Nat.mod_eq_of_lt (by show 9 < pr; exact Nat.le_of_ble_eq_true (by kernel_rfl))]
noncomputable def peelL : List UInt8 → List (List UInt8) → List Sp
  | _, [] => []
  | al, k :: ks => stp al (mB k al) :: peelL (mB (Wd.derive (mB k al) lBlind) al) ks
theorem peelL_len : ∀ (ks : List (List UInt8)) (al : List UInt8), (peelL al ks).length = ks.length
  | [], _ => rfl
  | _ :: ks, al => by rw [peelL, List.length_cons, peelL_len ks, List.length_cons]
def Chains (sc : List (List UInt8)) (j : Nat) : Prop := ∀ i, ¬ ordB ∣ i → chV (leB (uB i)) sc = (leB (uB (i * j)), 0)
theorem Chains.nil : Chains [] 1 := fun i _ => by rw [chV, Nat.mul_one]
theorem Chains.snoc : ∀ {sc : List (List UInt8)} {j : Nat} {k : List UInt8}, Chains sc j → (∀ i, ¬ ordB ∣ i → ¬ ordB ∣ i * j) → k.length = 32 → Chains (sc ++ [k]) (j * clN k) := by
  intro sc j k h ho hk i hi
  have key : ∀ (sc : List (List UInt8)) (u v : List UInt8), chV u sc = (v, 0) → chV u (sc ++ [k]) = chV v [k] := by
    intro sc
    induction sc with
    | nil => intro u v h; rw [chV] at h; injection h with h _; subst h; rfl
    | cons a sc ih =>
      intro u v h
      rw [List.cons_append, chV]
      rw [chV] at h
      by_cases he : mE a u = 0
      · rw [if_pos he] at h ⊢
        exact ih _ _ h
      · rw [if_neg he] at h
        injection h with _ h
        exact absurd h he
  rw [key sc _ _ (h i hi), chV, if_pos (mE_uB (ho i hi) hk), chV, mB_uB (ho i hi) hk, Nat.mul_assoc]
theorem sch_peel : ∀ (ks : List (List UInt8)) (acc : List Sp) (sc : List (List UInt8)) (j : Nat), (∀ k ∈ ks, k.length = 32) → ¬ ordB ∣ j → (∀ i, ¬ ordB ∣ i → ¬ ordB ∣ i * j) → Chains sc j →
    sch acc sc (leB (uB j)) (ks.map pubB) = (acc ++ peelL (leB (uB j)) ks, 0)
  | [], acc, sc, j, _, _, _, _ => by rw [List.map_nil, sch, peelL, List.append_nil]
  | k :: ks, acc, sc, j, hks, hj, ho, hch => by
      have hk := hks k (List.mem_cons_self)
      have e1 : nrm (pubB k) = leB (uB (1 * clN k)) := by
        rw [pubB, nine_is, mB_uB one_ord hk, nrm, readN_leB (uB_lt _), Nat.mod_eq_of_lt (uB_lt _)]
      have e2 := hch (1 * clN k) (ord_mul' one_ord hk)
      have e3 : 1 * clN k * j = j * clN k := by rw [Nat.one_mul, Nat.mul_comm]
      rw [e3] at e2
      have e4 : leB (uB (j * clN k)) = mB k (leB (uB j)) := (mB_uB hj hk).symm
      have hd := Wd.derive_len (mB k (leB (uB j))) lBlind
      rw [List.map_cons, sch, e1, e2, if_pos rfl, e4, mB_uB hj hd]
      rw [sch_peel ks _ _ (j * clN (Wd.derive (mB k (leB (uB j))) lBlind)) (fun x hx => hks x (List.mem_cons_of_mem _ hx)) (ord_mul' hj hd) (fun i hi => by rw [← Nat.mul_assoc]; exact ord_mul' (ho i hi) hd) (Chains.snoc hch ho hd), peelL, mB_uB hj hd, List.append_assoc]
      rfl
theorem peelL_at : ∀ (ks : List (List UInt8)) (j : Nat), (∀ k ∈ ks, k.length = 32) → ¬ ordB ∣ j → ∀ i k s, ks[i]? = some k → (peelL (leB (uB j)) ks)[i]? = some s →
    (∃ q, ¬ ordB ∣ q ∧ s.alpha = leB (uB q)) ∧ s = stp s.alpha (mB k s.alpha) ∧ mE s.blind s.alpha = 0 ∧ ∀ s', (peelL (leB (uB j)) ks)[i + 1]? = some s' → s'.alpha = mB s.blind s.alpha
  | [], _, _, _, i, k, s, h, _ => by simp at h
  | k0 :: ks, j, hks, hj, 0, k, s, hk, hs => by
      have hk0 := hks k0 (List.mem_cons_self)
      rw [peelL, List.getElem?_cons_zero] at hs
      rw [List.getElem?_cons_zero] at hk
      injection hk with hk
      injection hs with hs
      subst hk
      subst hs
      have hd := Wd.derive_len (mB k0 (leB (uB j))) lBlind
      refine ⟨⟨j, hj, rfl⟩, rfl, mE_uB hj hd, fun s' h' => ?_⟩
      rw [peelL, List.getElem?_cons_succ] at h'
      cases ks with
      | nil => rw [peelL] at h'; simp at h'
      | cons k1 ks =>
        rw [peelL, List.getElem?_cons_zero] at h'
        injection h' with h'
        rw [← h']
        rfl
  | k0 :: ks, j, hks, hj, i + 1, k, s, hk, hs => by
      have hk0 := hks k0 (List.mem_cons_self)
      have hd := Wd.derive_len (mB k0 (leB (uB j))) lBlind
      rw [List.getElem?_cons_succ] at hk
      rw [peelL, List.getElem?_cons_succ, mB_uB hj hd] at hs
      have h := peelL_at ks _ (fun x hx => hks x (List.mem_cons_of_mem _ hx)) (ord_mul' hj hd) i k s hk hs
      refine ⟨h.1, h.2.1, h.2.2.1, fun s' h' => h.2.2.2 s' ?_⟩
      rwa [peelL, List.getElem?_cons_succ, mB_uB hj hd] at h'
end Go.Proofs.YtlbnibmcflmohaaGreat
namespace Go.Proofs.YtlbnibmcflmohaaGreat
open Go.RowKit
theorem part_rowP {e : TypeId} {sz : Nat} (ha : ∀ w, (isAgg e).run Tryz.prog w = .ok true w) (hs : ∀ w, (sizeOf e).run Tryz.prog w = .ok sz w) (l : List UInt8) (off : Nat) (w : World) : (part e (u8s l).toArray off).run Tryz.prog w = .ok (.agg (u8s ((l.drop off).take sz)).toArray) w := by
  unfold part
  simp only [Sem.run_bind, ha, hs, Result.andThen_ok, if_true, Sem.run_pure]
  congr 2
  rw [List.extract_toArray, List.extract_eq_take_drop, Nat.add_sub_cancel_left, u8s_drop, u8s_take]
theorem eqInB {t : TypeId} {n : Nat} (hu : Tryz.prog.underlying t = some (.array n 5)) (d : Nat) (x y : List UInt8) (hx : x.length = n) (hy : y.length = n) (w : World) : (Op.equalIn (d + 2) t (.agg (u8s x).toArray) (.agg (u8s y).toArray)).run Tryz.prog w = .ok (decide (x = y)) w := by
  obtain ⟨i, hi⟩ : ∃ i, Tryz.prog.info? 5 = some i := Option.isSome_iff_exists.1 (by kernel_rfl)
  have hc : Tryz.prog.cellsOf 5 = 1 := by kernel_rfl
  rw [run_equalIn_array w (d + 1) _ _ hu hi, hc, List.range_eq_range', ← hx, eqItems_bytes d 5 (by kernel_rfl) Tryz.underlying5 x y (by omega) w x.length 0 (by omega)]
  simp
theorem eqFields_off (d : Nat) (xs ys : Array Value) (w : World) (f : Field) (fs : List Field) {v u : Value} (hn : f.name ≠ "_") (h1 : (part f.type xs f.offset).run Tryz.prog w = .ok v w) (h2 : (part f.type ys f.offset).run Tryz.prog w = .ok u w) (h3 : (Op.equalIn d f.type v u).run Tryz.prog w = .ok false w) : (Op.eqFields d xs ys (f :: fs)).run Tryz.prog w = .ok false w := by
  unfold Op.eqFields
  rw [if_pos hn]
  simp only [Sem.run_bind, h1, h2, h3, Result.andThen_ok, Bool.not_false, if_true, Sem.run_pure]
set_option maxRecDepth 100000 in
theorem eq34f (x y : List UInt8) (hx : x.length = 288) (hy : y.length = 288) (hne : x.take 32 ≠ y.take 32) (w : World) : (eqAt 37 (.agg (u8s x).toArray) (.agg (u8s y).toArray)).run Tryz.prog w = .ok (.bool false) w := by
  unfold eqAt
  rw [run_eql_struct]
  have hf : Tryz.prog.underlying 37 = some (.struct (Tryz.prog.fieldsOf 37)) := by kernel_rfl
  have h5 : (Op.equalIn 10000 37 (.agg (u8s x).toArray) (.agg (u8s y).toArray)).run Tryz.prog w = .ok false w := by
    rw [run_equalIn_struct w 9999 _ _ _ hf (by kernel_rfl)]
    unfold Program.fieldsOf
    rw [Tryz.underlying37]
    refine eqFields_off 9999 _ _ w _ _ (by decide) (part_rowP (sz := 32) (fun w => by kernel_rfl) (fun w => by kernel_rfl) x 0 w) (part_rowP (sz := 32) (fun w => by kernel_rfl) (fun w => by kernel_rfl) y 0 w) ?_
    rw [eqInB Tryz.underlying26 9997 ((x.drop 0).take 32) ((y.drop 0).take 32) (by rw [List.length_take, List.length_drop, hx]; rfl) (by rw [List.length_take, List.length_drop, hy]; rfl) w, List.drop_zero, List.drop_zero, decide_eq_false hne]
  show (((Op.equalIn 10000 37 (.agg (u8s x).toArray) (.agg (u8s y).toArray)).run Tryz.prog w).andThen _) = _
  rw [h5]
  rfl
theorem neq_b32 (x y : Value) : binOp .neq 26 x y = neAt 26 x y := rfl
theorem ne32s (x : List UInt8) (hx : x.length = 32) (w : World) : (neAt 26 (.agg (u8s x).toArray) (.agg (u8s x).toArray)).run Tryz.prog w = .ok (.bool false) w := by
  unfold neAt
  rw [run_neq_struct]
  have h5 := eqInB Tryz.underlying26 9998 x x hx hx w
  rw [decide_eq_true rfl] at h5
  show (((Op.equalIn (9998 + 2) 26 (.agg (u8s x).toArray) (.agg (u8s x).toArray)).run Tryz.prog w).andThen _) = _
  rw [h5]
  rfl
end Go.Proofs.YtlbnibmcflmohaaGreat
namespace Go.Proofs.YtlbnibmcflmohaaGreat
open Go.RowKit
section
variable {P : Program} {ops : Array Oper} {Q : Exit → Act → World → Prop} {md : Region.Mode} {T : World → Prop} {k : Nat}
theorem AnyK.pureW {fuel : Nat} {listed : Array Bool} {a : Act} {w : World} (i : Nat) {oi : Oper} {v : Value} (hi : ops[i]? = some oi) (hd : takeB md ops listed k i = true)
    (hQ : ∀ c a w, Q (.panic c) (a.put oi.dst v) w → Q (.panic c) a w) (hg : Region.wanted oi (yielded ops a.tmps) = true) (hy : ∀ w, (execOp a.eval oi).run P w = .ok (.value v) w) (hT : listed.getD k true = false → T w)
    (h : AnyK P md ops Q k T fuel (listed.setIfInBounds i true) (a.put oi.dst v) w) : AnyK P md ops Q k T (fuel + 1) listed a w := by
  simp only [takeB, Bool.and_eq_true, decide_eq_true_eq] at hd
  obtain ⟨⟨⟨h1, h2⟩, h3⟩, h4⟩ := hd
  exact AnyK.first (S := fun _ => True) hi h1 (Region.noSelect_spec h2) hQ (.inl fun _ => trivial) fuel listed a w (Region.free_spec hi h3) (by simpa using h4) (.inl ⟨hg, fun w _ => hy w⟩) trivial hT (.inl fun _ => trivial) h
theorem AnyK.loadW {fuel : Nat} {listed : Array Bool} {a : Act} {w : World} (i : Nat) {oi : Oper} {v : Value} (hi : ops[i]? = some oi) (hd : takeB md ops listed k i = true) (hk : awaits md ops k i = true) (hl : listed.getD k true = false)
    (hQ : ∀ c a w, Q (.panic c) (a.put oi.dst v) w → Q (.panic c) a w) (hg : Region.wanted oi (yielded ops a.tmps) = true) (hy : ∀ w, T w → (execOp a.eval oi).run P w = .ok (.value v) w) (hT : T w)
    (h : AnyK P md ops Q k T fuel (listed.setIfInBounds i true) (a.put oi.dst v) w) : AnyK P md ops Q k T (fuel + 1) listed a w := by
  simp only [takeB, Bool.and_eq_true, decide_eq_true_eq] at hd
  obtain ⟨⟨⟨h1, h2⟩, h3⟩, h4⟩ := hd
  exact AnyK.first (S := T) hi h1 (Region.noSelect_spec h2) hQ (.inr ⟨fun _ h => h, awaits_spec hk⟩) fuel listed a w (Region.free_spec hi h3) (by simpa using h4) (.inl ⟨hg, hy⟩) hT (fun _ => hT) (.inr hl) h
theorem AnyK.turn {k' : Nat} {T' : World → Prop} : ∀ (fuel : Nat) (listed : Array Bool) (a : Act) (w : World), listed.getD k true = true → AnyK P md ops Q k' T' fuel listed a w → AnyK P md ops Q k T fuel listed a w
  | 0, _, _, _, _, h => h
  | fuel + 1, listed, a, w, hl, h => by
    refine ⟨h.1, fun i hi => wpOp_mono (fun a' w' h' => ?_) (h.2 i hi)⟩
    have hl' : (listed.setIfInBounds i true).getD k true = true := by
      by_cases hik : i = k
      · subst hik
        rcases Nat.lt_or_ge i listed.size with h' | h'
        · simp [h']
        · simp
      · rw [Go.getD_set_ne true hik]; exact hl
    exact ⟨fun h0 => (by rw [hl'] at h0; cases h0), AnyK.turn fuel _ a' w' hl' h'.2⟩
theorem AnyK.oneW {fuel : Nat} {listed : Array Bool} {a : Act} {w : World} (i : Nat) {oi : Oper} (hi : ops[i]? = some oi) (hr : Region.ready md ops listed = [i]) (hg : Region.wanted oi (yielded ops a.tmps) = true)
    (h : oi.wp P a w (fun a' w' => ((listed.setIfInBounds i true).getD k true = false → T w') ∧ AnyK P md ops Q k T fuel (listed.setIfInBounds i true) a' w') Q) : AnyK P md ops Q k T (fuel + 1) listed a w := by
  refine ⟨fun h0 => (by rw [hr] at h0; cases h0), fun j hj => ?_⟩
  rw [hr] at hj
  obtain rfl : j = i := by simpa using hj
  unfold wpOp
  simp only [hi]
  rw [if_pos hg]
  exact .inl h
theorem AnyK.enterW {fuel : Nat} {listed : Array Bool} {a : Act} {w : World} (i : Nat) {d : Option Tmp} {f : FuncId} {args : Array Value} {oi : Oper} (hi : ops[i]? = some oi) (hd : oi.dst = d) (hg : Region.wanted oi (yielded ops a.tmps) = true) (hrun : (execOp a.eval oi).run P w = .ok (.enter f args) w) (hr : Region.ready md ops listed = [i])
    (h : Calls P f args w fun e w' => ∃ v, e = .returned v ∧ ((listed.setIfInBounds i true).getD k true = false → T w') ∧ AnyK P md ops Q k T fuel (listed.setIfInBounds i true) (a.put d v) w') : AnyK P md ops Q k T (fuel + 1) listed a w := by
  subst hd
  refine AnyK.oneW i hi hr hg ?_
  unfold Oper.wp
  rw [hrun]
  refine Calls.mono h ?_
  rintro e w' ⟨v, rfl, h1, h2⟩
  exact ⟨h1, h2⟩
theorem AnyK.valW {fuel : Nat} {listed : Array Bool} {a : Act} {w : World} (i : Nat) {oi : Oper} {v : Value} (hi : ops[i]? = some oi) (hr : Region.ready md ops listed = [i]) (hg : Region.wanted oi (yielded ops a.tmps) = true) (hy : (execOp a.eval oi).run P w = .ok (.value v) w)
    (hT : (listed.setIfInBounds i true).getD k true = false → T w) (h : AnyK P md ops Q k T fuel (listed.setIfInBounds i true) (a.put oi.dst v) w) : AnyK P md ops Q k T (fuel + 1) listed a w := by
  refine AnyK.oneW i hi hr hg ?_
  unfold Oper.wp
  rw [hy, Oper.upon_value]
  exact ⟨hT, h⟩
end
end Go.Proofs.YtlbnibmcflmohaaGreat
namespace Go.Proofs.YtlbnibmcflmohaaGreat.headerPeels
open Go.RowKit
attribute [local go_sem ↓] ldq_34 ldq_cm ldq_69 ldq_b32 neq_b32 neq_cm eqq_34
theorem rdB_take {w : World} {A : Option Addr} {n : Nat} {ls : List (List UInt8)} (h : RdB w A n ls) (k : Nat) (hk : k ≤ n) : RdB w A k (ls.take k) := by
  obtain ⟨vs, hr, hl, he⟩ := h
  refine ⟨vs.take k, ?_, by rw [List.length_take, hl, Nat.min_eq_left hk], fun i v hv => ?_⟩
  · have h5 := hr.cut (A' := A) (m := k) (k := 0) (by omega) (by omega) (fun _ b off e => by rw [e]; rfl)
    rwa [List.drop_zero] at h5
  · rw [List.getElem?_take] at hv
    split at hv
    · rename_i h1
      obtain ⟨l, e, h2⟩ := he i v hv
      exact ⟨l, by rw [List.getElem?_take, if_pos h1]; exact e, h2⟩
    · cases hv
theorem eCmP : ElemIs Tryz.prog 50 20 32 := ElemIs.of (z := .agg Cm.zero.cells.toArray) (by kernel_rfl) (by show Cm.zero.cells.toArray.size = 20; rw [List.size_toArray, Cm.cells_len Cm.zero_ok]) (by omega)
theorem peel_all {cs : List Cm} {ss : List Sp} {k : Nat} (hc : ∀ c ∈ cs, c.ok) (hs : ∀ s ∈ ss, s.ok) (hsl : ss.length = k) (hb : berr cs k = 0) {i : Nat} (hi : i < k) {c : Cm} {s : Sp} (hci : cs[i]? = some c) (hsi : ss[i]? = some s) (hE : mE s.blind s.alpha = 0) (hnx : ∀ s', ss[i + 1]? = some s' → s'.alpha = mB s.blind s.alpha ∧ s'.alpha ≠ List.replicate 32 0) :
    (hst cs ss k (k - i)).take 32 = s.alpha ∧ fits s (hst cs ss k (k - i)) = true ∧ opE s (hst cs ss k (k - i)) = 0 ∧ opC s (hst cs ss k (k - i)) = c ∧ opN s (hst cs ss k (k - i)) = hst cs ss k (k - (i + 1)) ∧
    (hst cs ss k (k - (i + 1)) = z288 ∧ i + 1 = k ∨ (hst cs ss k (k - (i + 1))).take 32 ≠ z288.take 32 ∧ i + 1 ≠ k) := by
  obtain ⟨_, h5, hcl, _⟩ := berr_zero hb
  by_cases he : i + 1 = k
  · obtain ⟨h1, h2, h3, h4⟩ := peel_end hc hs hsl hb (i := i) (by omega) hci hsi
    have h6 := (peel_head hc hs hsl hb (m := 0) (by omega) (by omega) hci hsi).1
    rw [show k - i = 1 by omega, show k - (i + 1) = 0 by omega]
    exact ⟨h6, h1, h2, h3, h4, .inl ⟨rfl, he⟩⟩
  · obtain ⟨m, hm⟩ : ∃ m, m = k - (i + 2) := ⟨_, rfl⟩
    obtain ⟨s', hs'⟩ : ∃ s', ss[i + 1]? = some s' := ⟨_, List.getElem?_eq_getElem (by omega)⟩
    obtain ⟨c', hc'⟩ : ∃ c', cs[i + 1]? = some c' := ⟨_, List.getElem?_eq_getElem (by omega)⟩
    have h7 := (peel_head hc hs hsl hb (m := m) (by omega) (by omega) hc' hs').1
    obtain ⟨a1, a2⟩ := hnx s' hs'
    obtain ⟨h1, h2, h3, h4⟩ := peel_mid hc hs hsl hb (m := m) (by omega) (by omega) hci hsi hE (h7.trans a1)
    have h6 := (peel_head hc hs hsl hb (m := m + 1) (by omega) (by omega) hci hsi).1
    rw [show k - i = m + 2 by omega, show k - (i + 1) = m + 1 by omega]
    exact ⟨h6, h1, h2, h3, h4, .inr ⟨by rw [h7, z288, List.take_replicate]; exact a2, he⟩⟩
theorem alloc_st {o : Oper} {a : Act} {W : World} (ho : o.op = .alloc 43) : (execOp a.eval o).run Tryz.prog W = .ok (.value (.pointer (some ⟨W.heap.size, 0, none⟩))) (W.alloc (.cells (u8s (List.replicate 192 0)).toArray 43)) := by
  unfold execOp
  rw [ho]
  kernel_rfl
theorem copy_rd (A : Option Addr) (n c : Nat) (l : List UInt8) (w : World) (h : Rd w A n (u8s l)) (hn : n ≤ 140737488355328) :
    Calls Tryz.prog 6 #[.slice A n c] w fun e w' => ∃ A' c', e = .returned (.slice A' n c') ∧ n ≤ c' ∧ Rd w' A' n (u8s l) ∧ Below w.heap.size w w' := by
  refine (copy_any A n c l w h hn).mono ?_
  rintro e w' ⟨A', c', rfl, hc, ho, hB⟩
  exact ⟨A', c', rfl, hc, Rd.of_own ho, hB⟩
theorem ex_all32 {o : Oper} {a : Act} {w : World} {x : Operand} {g off : Nat} (ho : o.op = .slice 26 x none none none) (hx : a.eval x = .pointer (some ⟨g, off, none⟩)) : (execOp a.eval o).run Tryz.prog w = .ok (.value (.slice (some ⟨g, off, none⟩) 32 32)) w := by
  unfold execOp
  simp only [ho, hx]
  kernel_rfl
theorem ex_neqP {o : Oper} {a : Act} {w : World} {t t' : TypeId} {x y : Operand} {xs ys : Array Value} {v : Value} (ho : o.op = .binOp .neq t x y t') (hx : a.eval x = .agg xs) (hy : a.eval y = .agg ys) (hm : Tryz.prog.eqGuardType Tryz.prog.depth t = false) (h : (neAt t (.agg xs) (.agg ys)).run Tryz.prog w = .ok v w) : (execOp a.eval o).run Tryz.prog w = .ok (.value v) w := by
  unfold execOp
  have h2 : (binOp .neq t (.agg xs) (.agg ys)).run Tryz.prog w = .ok v w := h
  simp [ho, hx, hy, run_eqGuard_agg w .neq t x y xs ys hm, h2]
theorem ex_eqlP {o : Oper} {a : Act} {w : World} {t t' : TypeId} {x y : Operand} {xs ys : Array Value} {v : Value} (ho : o.op = .binOp .eql t x y t') (hx : a.eval x = .agg xs) (hy : a.eval y = .agg ys) (hm : Tryz.prog.eqGuardType Tryz.prog.depth t = false) (h : (eqAt t (.agg xs) (.agg ys)).run Tryz.prog w = .ok v w) : (execOp a.eval o).run Tryz.prog w = .ok (.value v) w := by
  unfold execOp
  have h2 : (binOp .eql t (.agg xs) (.agg ys)).run Tryz.prog w = .ok v w := h
  simp [ho, hx, hy, run_eqGuard_agg w .eql t x y xs ys hm, h2]
theorem ex_idxP {o : Oper} {a : Act} {w : World} {t e : TypeId} {x y : Operand} {g off n c p sz : Nat} (ho : o.op = .indexAddr t x y) (hx : a.eval x = .slice (some ⟨g, off, none⟩) n c) (hy : a.eval y = .int .i64 (p : Int)) (hp : p < n) (hu : Tryz.prog.underlying t = some (.slice e)) (hz : ∀ w, (sizeOf e).run Tryz.prog w = .ok sz w) : (execOp a.eval o).run Tryz.prog w = .ok (.value (.pointer (some ⟨g, off + p * sz, none⟩))) w := by
  unfold execOp
  simp [ho, hx, hy, Instr.indexAt, asIntOf, run_underlying hu, hz, hp, Addr.add]
theorem ex_sameP {o : Oper} {a : Act} {w : World} {u v : Value} (h : (execOp a.eval o).run Tryz.prog w = .ok (.value u) w) (e : u = v) : (execOp a.eval o).run Tryz.prog w = .ok (.value v) w := by rw [h, e]
theorem cms_one (l : List Cm) : ∀ v ∈ l.flatMap Cm.cells, v.oneCell' = true := by
  intro v hv
  obtain ⟨c, _, hc⟩ := List.mem_flatMap.1 hv
  exact Cm.cells_one c v hc
theorem p256P {n : Nat} (h : n < pr) : n < 115792089237316195423570985008687907853269984665640564039457584007913129639936 := by simp only [pr] at h; omega
theorem pubB_is {k : List UInt8} (hk : k.length = 32) : pubB k = leB (uB (1 * clN k)) := by rw [pubB, nine_is, mB_uB one_ord hk]
theorem peelL_ok : ∀ (ks : List (List UInt8)) (al : List UInt8), al.length = 32 → ∀ s ∈ peelL al ks, s.ok
  | [], _, _ => fun s hs => by rw [peelL] at hs; simp at hs
  | k :: ks, al, h => fun s hs => by
      rw [peelL] at hs
      rcases List.mem_cons.1 hs with rfl | hs
      · exact stp_ok h (mB_len _ _)
      · exact peelL_ok ks _ (mB_len _ _) s hs
theorem sched_pubs (nx : Nat) (xs : List UInt8) (qs : List (List UInt8)) (k : Nat) (hk : qs.length = k) (hk3 : k ≤ 3) (h32 : ∀ x ∈ qs, x.length = 32) (A C : Option Addr) (c d : Nat) (W : World) (hx : Rd W A nx (u8s xs)) (hc : nx ≤ c) (hp : RdB W C k (qs.map pubB)) :
    Calls Tryz.prog 7 #[.slice A nx c, .slice C k d] W fun e w' => ∃ A9 n9 c9, ∃ E : Nat, e = .returned (.tuple #[.slice A9 n9 c9, .int .i64 (E : Int)]) ∧ (E = 0 → n9 = k ∧ xs.length = 32 ∧ 1 ≤ k ∧ k ≤ c9 ∧ RdS 192 w' A9 k ((peelL (pubB xs) qs).flatMap Sp.cells)) ∧ Below W.heap.size W w' := by
  have hxl := hx.len
  by_cases h : nx ≠ 32 ∨ k < 1
  · refine (sched_no A C nx c k d W (by omega)).mono ?_
    rintro e w' ⟨rfl, rfl⟩
    exact ⟨_, _, _, 2, rfl, fun h => (by cases h), Below.refl _ _⟩
  · obtain rfl : nx = 32 := by omega
    have hj := ord_mul' one_ord hxl
    have hs : sch [] [xs] (pubB xs) (qs.map pubB) = (peelL (pubB xs) qs, 0) := by
      rw [pubB_is hxl]
      have h5 := sch_peel qs [] [xs] (1 * clN xs) h32 hj (fun i hi => by rw [← Nat.mul_assoc]; exact ord_mul' (by rwa [Nat.mul_one]) hxl) (Chains.snoc Chains.nil (fun i hi => by rwa [Nat.mul_one]) hxl)
      rwa [List.nil_append] at h5
    refine (sched_yes A C c k d xs (qs.map pubB) W hx hc hp (fun p hp => by
      obtain ⟨q, hq, rfl⟩ := List.mem_map.1 hp
      rw [pubB, mB_len]) (by omega) (by omega)).mono ?_
    rintro e w' ⟨A', n', c', rfl, hn, hr, hl, hB⟩
    rw [hs] at hr hl
    rw [hs]
    refine ⟨A', n', c', 0, rfl, fun _ => ?_, hB⟩
    rw [peelL_len, hk] at hl
    subst hl
    exact ⟨rfl, hxl, by omega, hn, hr⟩
theorem rdB_min {w : World} {A : Option Addr} {n : Nat} {ls : List (List UInt8)} (h : RdB w A n ls) : RdB w A (min n 3) (ls.take 3) := by
  have h5 := rdB_take h (min n 3) (Nat.min_le_left _ _)
  obtain ⟨_, _, hl, _⟩ := h
  rcases Nat.le_total n 3 with h3 | h3
  · rw [Nat.min_eq_left h3] at h5 ⊢
    rw [List.take_of_length_le (by omega)] at h5 ⊢
    exact h5
  · rw [Nat.min_eq_right h3] at h5 ⊢
    exact h5
set_option maxRecDepth 100000 in
set_option maxHeartbeats 8000000 in
theorem walk (A : Option Addr) (n c : Nat) (cs : List Cm) (X : Option Addr) (nx cx : Nat) (xs : List UInt8) (V : Option Addr) (p pc : Nat) (ps : List (List UInt8)) (w : World) (h1 : RdS 20 w A n (cs.flatMap Cm.cells)) (hcs : ∀ c ∈ cs, c.ok) (hcl : cs.length = n) (hn : n * 32 ≤ 140737488355328)
    (hx : Rd w X nx (u8s xs)) (hnx : nx ≤ cx) (hcx : cx ≤ 140737488351232) (hv : RdB w V p ps) (hps : ∀ k ∈ ps, k.length ≤ 140737488351232) (hp : p ≤ pc) :
    Calls Tryz.prog 3 #[.slice A n c, .slice X nx cx, .slice V p pc] w fun e w' => e = .returned (.bool true) ∧ Below w.heap.size w w' := by
  have HA := Lib.hid h1
  have HX := Lib.hid hx
  have HV := Lib.hid hv
  have HCS := Lib.hid hcs
  have HCL := Lib.hid hcl
  have HPS := Lib.hid hps
  have HPC := Lib.hid hp
  clear h1 hx hv hcs hcl hps
  go_enter Tryz.func3, Tryz.ntmps3
  go_upto_region 3 with (go_at_call 4; refine (awake13 _).mono ?_; rintro e w1 ⟨rfl, hB1⟩; have HE1 := Lib.hid hB1; clear hB1)
  go_cut [25] (fun v wx => v = .bool (decide ((p : Int) > 3)) ∧ Hid (Below w.heap.size w wx))
  case first =>
    go_wp2
    go_meet
    exact ⟨rfl, HE1⟩
  case rest =>
    obtain ⟨rfl, HE2⟩ := hcut
    go_step
    go_cut [2] (fun v wx => v = .slice V (min p 3) pc ∧ Hid (Below w.heap.size w wx))
    case first =>
      by_cases h3 : 3 < p
      · rw [decide_eq_true (by omega)]
        have hp3 : (3 : Int) ≤ (pc : Int) := by omega
        go_wp2
        go_meet
        exact ⟨by rw [Nat.min_eq_right (by omega)], HE2⟩
      · rw [decide_eq_false (by omega)]
        go_wp2
        go_meet
        exact ⟨by rw [Nat.min_eq_left (by omega)], HE2⟩
    case rest =>
      obtain ⟨rfl, HE3⟩ := hcut
      have HVB := Lib.hid (rdB_min HV.out)
      have HPS : Hid (∀ k ∈ ps.take 3, k.length ≤ 140737488351232) := fun k hk => HPS.out k (List.mem_of_mem_take hk)
      obtain ⟨N, hN⟩ : ∃ N, N = min p 3 := ⟨_, rfl⟩
      obtain ⟨qs, hqs⟩ : ∃ qs, qs = ps.take 3 := ⟨_, rfl⟩
      rw [← hN, ← hqs] at HVB
      rw [← hqs] at HPS
      rw [← hN]
      have hN3 : N ≤ 3 := by omega
      have hNp : N ≤ pc := by have := HPC.out; omega
      have HQL : Hid (qs.length = N) := by obtain ⟨_, _, h, _⟩ := HVB.out; exact h
      clear hN hqs HV HPC
      go_wp2
      go_loopg [7, 30] N (fun kk q7 q30 wr => ∃ (k : Nat) (A3 : Option Addr) (c3 : Nat) (vs : List Value), k ≤ N ∧ kk = N - k ∧ q30 = .int .i64 k ∧ q7 = .slice A3 k c3 ∧ Hid (OneV w.heap.size wr (.slice A3 k c3) k ((qs.take k).map pubB) vs) ∧ Hid (∀ x ∈ qs.take k, x.length = 32) ∧ Hid (Below w.heap.size w wr))
      case atStart => exact ⟨0, none, 0, [], Nat.zero_le _, rfl, rfl, rfl, OneV.nil _ _, (fun x hx => by simp at hx), HE3⟩
      case round =>
        obtain ⟨k, A3, c3, vs, hkn, hgk, rfl, rfl, HO, HQ, HE⟩ := hrel
        have HGK := Lib.hid hgk
        clear hgk
        by_cases hlt : k < N
        · have hlt2 : (k : Int) < (N : Int) := by omega
          obtain ⟨b, off, A1, n1, c1, l, rfl, _, HL, hc1, hn1, hr1⟩ := (HVB.out.below HE.out).at_ hlt
          have hll := hr1.len
          have hlm := HPS.out l (List.mem_of_getElem? HL.out)
          by_cases h32 : n1 = 32
          · subst h32
            have HNX : Hid ((qs.take k).map pubB ++ [pubB l] = (qs.take (k + 1)).map pubB) := by show _ = _; rw [List.take_add_one, HL.out]; simp
            have HQN : Hid (∀ x ∈ qs.take (k + 1), x.length = 32) := fun x hx => by
              rw [List.take_add_one, HL.out] at hx
              rcases List.mem_append.1 hx with h | h
              · exact HQ.out x h
              · simp at h; rw [h]; exact hll
            have HR := Lib.hid hr1
            have HPU : Hid (∀ W, Rd W A1 32 (u8s l) → Calls Tryz.prog 5 #[.slice A1 32 c1] W fun e w' => e = .returned (.tuple #[.agg (u8s (pubB l)).toArray, .int .i64 0]) ∧ Below W.heap.size W w') := fun W h => rpublic_yes A1 c1 l W h
            have HPL : Hid ((u8s (pubB l)).length = 32) := by show _ = _; rw [u8s_length, pubB, mB_len]
            generalize pubB l = PB at *
            clear hr1 hll hlm HL
            go_wp2_with (first
              | (go_at_call 5; (with_reducible refine (HPU.out _ (by exact HR.out)).mono ?_); rintro e w2 ⟨rfl, hB2⟩
                 have HE2 := qtr HE hB2
                 have HO2 := Lib.hid (HO.out.below hB2)
                 clear hB2)
              | (refine wpList_store_all rfl 26 (.tmp 10) (.tmp 37) rfl w2.heap.size (u8s PB) (by rfl) (by rfl) 26 o32 (by exact Blk.new' rfl rfl) (by rw [HPL.out]; exact hd24) (u8s_one _) (by rw [HPL.out]; rfl) ?_
                 intro w3 hb3 ho3
                 have HW3 := Lib.hid (ho3.below ((Below.refl _ w2).alloc (Nat.le_refl _) _) (Nat.le_refl _) (by simp))
                 have HE3 := Lib.hid (ho3.below (HE2.out.alloc HE2.out.size _) HE2.out.size (Nat.le_trans HE2.out.size (by simp)))
                 have HO3 := Lib.hid (HO2.out.below HW3.out)
                 have HR3 : Hid (Rd w3 (some ⟨w2.heap.size, 0, none⟩) 32 (u8s PB)) := by have := hb3.rd 0 32 (by rw [HPL.out]; exact Nat.le_refl _); rwa [List.drop_zero, List.take_of_length_le (by rw [HPL.out]; exact Nat.le_refl _)] at this
                 clear hb3 ho3)
              | (go_at_call 6; (refine (copy_any _ 32 32 PB _ (by exact HR3.out) (by omega)).mono ?_); rintro e w4 ⟨A2, c2, rfl, hc2, hown2, hB4⟩
                 have HE4 := qtr HE3 hB4
                 have HO4 := Lib.hid ((HO3.out.below hB4).below ((Below.refl _ w4).alloc (Nat.le_refl _) (.cells #[.slice A2 32 c2] 23)))
                 have HR4 := Lib.hid (Rd.of_own hown2)
                 have HC4 := Lib.hid hc2
                 have HA4 : Hid (∀ ad : Addr, A2 = some ad → (Value.slice A3 k c3).ownBlock ≠ some ad.block) := fun ad e e2 => by have h1 := (hown2.lt ad.block (by rw [e]; rfl)).1; have h2 := (HO3.out.1.lt _ e2).2; omega
                 clear hc2 hown2 hB4)
              | (at_builtin; refine wpList_app rfl (.tmp 41) (.tmp 44) 24 rfl w.heap.size 23 1 24 Tryz.underlying24 eSl (.slice A3 k c3) k vs (by rfl) (by exact HO4.out.1) (some ⟨w4.heap.size, 0, none⟩) 1 1 [.slice A2 32 c2] (by rfl) (by exact RdS.new w4 _ [.slice A2 32 c2] 1 rfl) (by intro v hv; simp at hv; rw [hv]; rfl) (by omega) (by omega) (by have := HE4.out.size; simp; omega) ?_
                 intro A5 c5 w5 hown5 hc5 hg5 hat5
                 have HE5 := Lib.hid ((HE4.out.alloc HE4.out.size _).grown hg5 (Nat.le_trans HE4.out.size (by simp)) (fun k hk => (HO4.out.1.lt k hk).1))
                 have HO5 := Lib.hid (HO4.out.app hown5 hg5 (by simpa using hat5) HC4.out (HR4.out.alloc _) HA4.out)
                 clear hown5 hc5 hg5 hat5))
            rw [HNX.out] at HO5
            go_roundg (N - (k + 1))
            case measure => have := HGK.out; omega
            case rel => exact ⟨k + 1, A5, c5, _, by omega, rfl, by go_num, rfl, HO5, HQN, HE5⟩
          · have HPU : Hid (∀ W, Calls Tryz.prog 5 #[.slice A1 n1 c1] W fun e w' => e = .returned (.tuple #[.agg o32.toArray, .int .i64 2]) ∧ Below W.heap.size W w') := fun W => rpublic_no A1 n1 c1 W h32
            clear hr1 hll hlm HL h32
            go_wp2_with (first
              | (go_at_call 5; (with_reducible refine (HPU.out _).mono ?_); rintro e w2 ⟨rfl, hB2⟩; have HE2 := qtr HE hB2; clear hB2)
              | (refine wpList_store_all rfl 26 (.tmp 10) (.tmp 37) rfl w2.heap.size o32 (by rfl) (by rfl) 26 o32 (by exact Blk.new' rfl rfl) (by exact hd24) o32_one (by rfl) ?_
                 intro w3 hb3 ho3
                 have HE3 := Lib.hid (ho3.below (HE2.out.alloc HE2.out.size _) HE2.out.size (Nat.le_trans HE2.out.size (by simp)))
                 clear hb3 ho3))
            go_ret
            exact ⟨rfl, HE3.out⟩
        · obtain rfl : k = N := by omega
          have hlt2 : ¬ (k : Int) < (k : Int) := by omega
          have HF : Hid (RdB wr A3 k (qs.map pubB)) := by
            have hp := HO.out
            rw [List.take_of_length_le (by rw [HQL.out]; exact Nat.le_refl _)] at hp
            exact hp.rdB
          have HQ32 : Hid (∀ x ∈ qs, x.length = 32) := by
            have hp := HQ.out
            rwa [List.take_of_length_le (by rw [HQL.out]; exact Nat.le_refl _)] at hp
          have HSC : Hid (∀ W A' cA C d, Rd W A' nx (u8s xs) → nx ≤ cA → RdB W C k (qs.map pubB) → Calls Tryz.prog 7 #[.slice A' nx cA, .slice C k d] W fun e w' => ∃ A9 n9 c9, ∃ E : Nat, e = .returned (.tuple #[.slice A9 n9 c9, .int .i64 (E : Int)]) ∧ (E = 0 → n9 = k ∧ xs.length = 32 ∧ 1 ≤ k ∧ k ≤ c9 ∧ RdS 192 w' A9 k ((peelL (pubB xs) qs).flatMap Sp.cells)) ∧ Below W.heap.size W w') :=
            fun W A' cA C d a1 a2 a3 => sched_pubs nx xs qs k HQL.out hN3 HQ32.out A' C cA d W a1 a2 a3
          have HSO : Hid (∀ s ∈ peelL (pubB xs) qs, s.ok) := peelL_ok qs _ (by rw [pubB, mB_len])
          have HSL : Hid ((peelL (pubB xs) qs).length = k) := by show _ = _; rw [peelL_len, HQL.out]
          have HPA : Hid (xs.length = 32 → ∀ i l s, qs[i]? = some l → (peelL (pubB xs) qs)[i]? = some s → (∃ q, ¬ ordB ∣ q ∧ s.alpha = leB (uB q)) ∧ s = stp s.alpha (mB l s.alpha) ∧ mE s.blind s.alpha = 0 ∧ ∀ s', (peelL (pubB xs) qs)[i + 1]? = some s' → s'.alpha = mB s.blind s.alpha) := fun hxl => by
            rw [pubB_is hxl]
            exact peelL_at qs _ HQ32.out (ord_mul' one_ord hxl)
          generalize peelL (pubB xs) qs = ss at *
          have HBD : Hid (∀ W A1 c1 A2 c2, RdS 20 W A1 n (cs.flatMap Cm.cells) → RdS 192 W A2 k (ss.flatMap Sp.cells) → k ≤ c2 → Calls Tryz.prog 8 #[.slice A1 n c1, .slice A2 k c2] W fun e w' => e = .returned (.tuple #[.agg (u8s (hB cs ss)).toArray, .int .i64 ((berr cs k : Nat) : Int)]) ∧ Below W.heap.size W w') :=
            fun W A1 c1 A2 c2 k1 k2 k3 => build_any A1 A2 n c1 k c2 cs ss W k1 k2 HCS.out HSO.out HCL.out HSL.out (by omega) (by omega) k3
          clear HO HQ
          go_upto_region 15 with (first
            | (go_at_call 6; (refine (copy_any X nx cx xs _ (by exact HX.out.below HE.out) (by omega)).mono ?_); rintro e w2 ⟨A2, c2, rfl, hc2, hown2, hB2⟩
               have HE2 := qtr HE hB2
               have HF2 := Lib.hid (HF.out.below hB2)
               have HR2 := Lib.hid (Rd.of_own hown2)
               have HC2 := Lib.hid hc2
               clear hc2 hown2 hB2)
            | (go_at_call 7; (with_reducible refine (HSC.out _ _ _ _ _ (by exact HR2.out) (by exact HC2.out) (by exact HF2.out)).mono ?_); rintro e w3 ⟨A9, n9, c9, E, rfl, hE, hB3⟩
               have HE3' := qtr HE2 hB3
               have HSE := Lib.hid hE
               clear hE hB3))
          by_cases he : ¬ E = 0
          · have hne : ((E : Int) != 0) = true := by rw [bne_iff_ne]; omega
            clear he HSE
            go_wp2
            go_ret
            exact ⟨rfl, HE3'.out⟩
          have he : E = 0 := by omega
          have hne : ((E : Int) != 0) = false := by rw [bne_eq_false_iff_eq]; omega
          obtain ⟨hn9, hxl, hk1, hk9, hrs⟩ := HSE.out he
          obtain rfl : k = n9 := hn9.symm
          clear hn9
          have HRS := Lib.hid hrs
          have HK9 := Lib.hid hk9
          have HPA := Lib.hid (HPA.out hxl)
          clear hrs hk9 hxl HSE HSC HX HF HF2 HR2
          have HC1 := Lib.hid (cms_one cs)
          have HHL : Hid ((hB cs ss).length = 288) := hB_len HCS.out HSO.out
          have HUL : Hid ((u8s (hB cs ss)).length = 288) := by show _ = _; rw [u8s_length, HHL.out]
          have HB0 : Hid (berr cs k = 0 → hB cs ss = hst cs ss k k) := fun h => by rw [hB, HSL.out, if_pos h]
          obtain ⟨E2, hE2⟩ : ∃ E2, E2 = berr cs k := ⟨_, rfl⟩
          obtain ⟨L, hL⟩ : ∃ L, L = hB cs ss := ⟨_, rfl⟩
          rw [← hE2, ← hL] at HBD
          rw [← hL] at HUL
          have HEE := Lib.hid hE2
          have HLL := Lib.hid hL
          clear hE2 hL HHL
          go_upto_region 18 with (first
            | (at_builtin; refine wpList_app rfl (.tmp 57) (.tmp 58) 22 rfl w3.heap.size 50 20 32 Tryz.underlying22 eCmP (.slice (some ⟨w3.heap.size, 0, none⟩) 0 0) 0 [] (by rfl) (by exact own_of_blk (base := w3.heap.size) (cs := []) (Blk.new' (by simp) rfl) (Nat.le_refl _) 0 0 20 (by omega) (by simp) (by omega)) A n c (cs.flatMap Cm.cells) (by rfl) (by exact HA.out.bel (HE3'.out.alloc HE3'.out.size _) (Nat.le_refl _)) HC1.out (by omega) (by omega) (by simp) ?_
               intro A4 c4 w4 hown4 hc4 hg4 hat4
               simp only [Nat.zero_add, List.nil_append] at hown4 hc4
               have HD4 := Lib.hid (((Below.refl _ w3).alloc (Nat.le_refl _) _).grown hg4 (by simp) (fun k hk => by simp [Value.ownBlock] at hk; omega))
               have HO4 := Lib.hid (RdS.ofOwn2 hown4)
               clear hown4 hc4 hg4 hat4)
            | (go_at_call 8; (with_reducible refine (HBD.out _ _ _ _ _ (by exact HO4.out) (by exact HRS.out.bel HD4.out (Nat.le_refl _)) (by exact HK9.out)).mono ?_); rintro e w5 ⟨rfl, hB5⟩
               have HD5 := qtr HD4 hB5
               clear hB5)
            | (refine wpList_store_all rfl 37 (.tmp 14) (.tmp 62) rfl w5.heap.size (u8s L) (by rfl) (by rfl) 37 (u8s z288) (by exact Blk.new' rfl zc34') (by rw [HUL.out]; exact hd34) (u8s_one _) (by rw [HUL.out, z288_len]) ?_; intro w6 hb6 ho6
               have HD6 := Lib.hid (ho6.below (HD5.out.alloc HD5.out.size _) HD5.out.size (Nat.le_trans HD5.out.size (by simp)))
               have HG5 := HD5.out.size
               have HH6 := Lib.hid hb6
               clear hb6 ho6))
          have HE6 := Lib.hid (HE3'.out.trans (HD6.out.mono HE3'.out.size))
          by_cases he2 : ¬ E2 = 0
          · have hne2 : ((E2 : Int) != 0) = true := by rw [bne_iff_ne]; omega
            clear he2
            go_wp2
            go_ret
            exact ⟨rfl, HE6.out⟩
          have he2 : E2 = 0 := by omega
          have hne2 : ((E2 : Int) != 0) = false := by rw [bne_eq_false_iff_eq]; omega
          have hbz : berr cs k = 0 := by rw [← HEE.out]; exact he2
          have HBZ := Lib.hid hbz
          have hLk : L = hst cs ss k k := by rw [HLL.out]; exact HB0.out hbz
          obtain ⟨_, hk5, hnk, _⟩ := berr_zero hbz
          have HNK : Hid (n = k) := by show _ = _; rw [← HCL.out, ← hnk]
          have HG : Hid (w.heap.size ≤ w5.heap.size) := Nat.le_trans HE3'.out.size HG5
          have HKP : Hid (∀ W, Wrote w5.heap.size w6 W → Below w.heap.size w W ∧ RdS 192 W A9 k (ss.flatMap Sp.cells)) := fun W hW =>
            ⟨hW.below HE6.out HG.out HE6.out.size, (HRS.out.bel HD6.out (Nat.le_refl _)).wr hW (fun ad e e2 => by
              obtain ⟨b, off, e3, hb, _⟩ := HRS.out.2 hk1
              rw [e] at e3
              injection e3 with e3
              rw [e3] at e2
              simp only at e2
              omega)⟩
          have HH0 : Hid (Blk w6 w5.heap.size 37 (u8s (hst cs ss k (k - 0)))) := by rw [Nat.sub_zero, ← hLk]; exact HH6.out
          clear hbz hLk hnk HH6 HBD HB0 HD4 HD5 HD6 HRS HO4 HC1 HC2 HLL HEE he2 he hne HE HE2 HE3 HE1 HE3' HUL HG5 HK9
          go_wp2
          go_loopg [68] k (fun kk q wr => ∃ i : Nat, i ≤ k ∧ kk = k - i ∧ q = .int .i64 i ∧ Hid (Blk wr w5.heap.size 37 (u8s (hst cs ss k (k - i)))) ∧ Hid (Wrote w5.heap.size w6 wr))
          case atStart => exact ⟨0, Nat.zero_le _, rfl, rfl, HH0, Wrote.refl _ _⟩
          case round =>
            obtain ⟨i, hik, hgk, rfl, HH, HW⟩ := hrel
            have HGK := Lib.hid hgk
            clear hgk HH0
            by_cases hlt : i < k
            · have hlt2 : (i : Int) < (k : Int) := by omega
              obtain ⟨hBr, hRr⟩ := HKP.out _ HW.out
              obtain ⟨b, off, A1, n1, c1, l, rfl, _, HL, hc1, hn1, hr1⟩ := (HVB.out.below hBr).at_ hlt
              obtain rfl : n1 = 32 := hr1.len.symm.trans (HQ32.out l (List.mem_of_getElem? HL.out))
              obtain ⟨s, hsi⟩ : ∃ s, ss[i]? = some s := ⟨_, List.getElem?_eq_getElem (by rw [HSL.out]; exact hlt)⟩
              obtain ⟨cc, hci⟩ : ∃ cc, cs[i]? = some cc := ⟨_, List.getElem?_eq_getElem (by rw [HCL.out, HNK.out]; exact hlt)⟩
              have hso := HSO.out s (List.mem_of_getElem? hsi)
              have hco := HCS.out cc (List.mem_of_getElem? hci)
              obtain ⟨⟨q, hq, hal⟩, hstp, hmE, hnx⟩ := HPA.out i l s HL.out hsi
              have HAL := peel_all HCS.out HSO.out HSL.out HBZ.out hlt hci hsi hmE (fun s' hs' => ⟨hnx s' hs', by
                obtain ⟨l', hl'⟩ : ∃ l', qs[i + 1]? = some l' := ⟨_, List.getElem?_eq_getElem (by have := (List.getElem?_eq_some_iff.1 hs').1; rw [HSL.out] at this; rw [HQL.out]; exact this)⟩
                obtain ⟨⟨q', hq', hal'⟩, _⟩ := HPA.out (i + 1) l' s' hl' hs'
                rw [hal']
                exact fun h => uB_ne hq' ((leB_zero (p256P (uB_lt q'))).1 h)⟩)
              obtain ⟨hta, hfi, hoe, hoc, hon, hzz⟩ := HAL
              have HHL : Hid ((hst cs ss k (k - i)).length = 288) := hst_len HCS.out HSO.out (by rw [HCL.out, HNK.out]) HSL.out hk5 _ (by omega)
              have HNL : Hid ((hst cs ss k (k - (i + 1))).length = 288) := hst_len HCS.out HSO.out (by rw [HCL.out, HNK.out]) HSL.out hk5 _ (by omega)
              have HPE : Hid (∀ W A B c d, Rd W A 32 (u8s l) → Rd W B 32 (u8s s.alpha) → Calls Tryz.prog 9 #[.slice A 32 c, .slice B 32 d] W fun e w' => e = .returned (.tuple #[.agg s.cells.toArray, .int .i64 0]) ∧ Below W.heap.size W w') := fun W A B c d a1 a2 => by
                have h5 := peel_yes A B c d l s.alpha W a1 a2 (by rw [hal]; exact mE_uB hq (HQ32.out l (List.mem_of_getElem? HL.out)))
                rwa [← hstp] at h5
              have HFI : Hid (∀ W, Calls Tryz.prog 10 #[.agg (u8s (hst cs ss k (k - i))).toArray, .agg s.cells.toArray] W fun e w' => e = .returned (.bool true) ∧ Below W.heap.size W w') := fun W => by
                have h5 := fits_any s hso _ HHL.out W
                rwa [hfi] at h5
              have HOP : Hid (∀ W, Calls Tryz.prog 11 #[.agg (u8s (hst cs ss k (k - i))).toArray, .agg s.cells.toArray] W fun e w' => e = .returned (.tuple #[.agg cc.cells.toArray, .agg (u8s (hst cs ss k (k - (i + 1)))).toArray, .int .i64 0]) ∧ Below W.heap.size W w') := fun W => by
                have h5 := hopen_any s hso _ HHL.out W
                rwa [hoc, hon, hoe] at h5
              obtain ⟨b9, o9, rfl, hb9, hrg9⟩ := sp_range hRr HSO.out hsi (by omega)
              obtain ⟨bA, oA, rfl, hbA, hrgA⟩ := cm_range (HA.out.bel hBr (Nat.le_refl _)) HCS.out hci (by rw [HNK.out]; omega)
              have HSR : Hid (∀ W, Below wr.heap.size wr W → W.rangeAt b9 (o9 + i * 192 + 128) (u8s s.alpha)) := fun W hW j v hv => by
                have hj : j < 32 := by have := (List.getElem?_eq_some_iff.1 hv).1; rwa [u8s_length, hso.2.2.2.2.1] at this
                rw [← Sp.at_alpha hso, ← u8s_take, ← u8s_drop, List.getElem?_take, if_pos hj, List.getElem?_drop] at hv
                have h6 := hrg9 (128 + j) v hv
                rw [← Nat.add_assoc] at h6
                exact (hW.cell (p := ⟨b9, o9 + i * 192 + 128 + j, none⟩) hb9).trans h6
              have HCR : Hid (∀ W, Below wr.heap.size wr W → W.rangeAt bA (oA + i * 20) cc.cells) := fun W hW j v hv =>
                (hW.cell (p := ⟨bA, oA + i * 20 + j, none⟩) hbA).trans (hrgA j v hv)
              have HHW : Hid (∀ W, Below wr.heap.size wr W → Blk W w5.heap.size 37 (u8s (hst cs ss k (k - i)))) := fun W hW => HH.out.below hW HH.out.lt
              have HRL : Hid (∀ W, Below wr.heap.size wr W → Rd W A1 32 (u8s l)) := fun W hW => hr1.below hW
              have HRA : Hid (∀ W, Below wr.heap.size wr W → Rd W (some ⟨w5.heap.size, 0, none⟩) 32 (u8s s.alpha)) := fun W hW => by
                have h5 := (HHW.out W hW).rd 0 32 (by rw [u8s_length, HHL.out]; omega)
                rwa [List.drop_zero, u8s_take, hta] at h5
              have HHR : Hid (∀ W, Below wr.heap.size wr W → W.rangeAt w5.heap.size 0 (u8s s.alpha)) := fun W hW j v hv => by
                have h5 := (HHW.out W hW).range j v (by
                  have hj : j < 32 := by have := (List.getElem?_eq_some_iff.1 hv).1; rwa [u8s_length, hso.2.2.2.2.1] at this
                  rw [← hta, ← u8s_take, List.getElem?_take, if_pos hj] at hv
                  exact hv)
                exact h5
              have HCA : Hid (∀ W, Below wr.heap.size wr W → Calls Tryz.prog 6 #[.slice (some ⟨w5.heap.size, 0, none⟩) 32 32] W fun e w' => ∃ A' c', e = .returned (.slice A' 32 c') ∧ 32 ≤ c' ∧ Rd w' A' 32 (u8s s.alpha) ∧ Below W.heap.size W w') := fun W hW => copy_rd (some ⟨w5.heap.size, 0, none⟩) 32 32 s.alpha W (HRA.out W hW) (by omega)
              have hltn : (i : Int) < (n : Int) := by rw [HNK.out]; exact hlt2
              have HSCL : Hid (s.cells.length = 192) := Sp.cells_len hso
              have HSC1 : Hid (∀ v ∈ s.cells, v.oneCell' = true) := Sp.cells_one s
              have HCCL : Hid (cc.cells.length = 20) := Cm.cells_len hco
              have HCC1 : Hid (∀ v ∈ cc.cells, v.oneCell' = true) := Cm.cells_one cc
              have HALL : Hid ((u8s s.alpha).length = 32) := by show _ = _; rw [u8s_length, hso.2.2.2.2.1]
              have HNEA : Hid (∀ W, (neAt 26 (.agg (u8s s.alpha).toArray) (.agg (u8s s.alpha).toArray)).run Tryz.prog W = .ok (.bool false) W) := fun W => ne32s s.alpha hso.2.2.2.2.1 W
              have HNEC : Hid (∀ W, (neAt 50 (.agg cc.cells.toArray) (.agg cc.cells.toArray)).run Tryz.prog W = .ok (.bool false) W) := fun W => neCm cc hco W
              have HZZ := Lib.hid hzz
              obtain ⟨H, hH⟩ : ∃ H, H = hst cs ss k (k - i) := ⟨_, rfl⟩
              obtain ⟨ND, hND⟩ : ∃ ND, ND = hst cs ss k (k - (i + 1)) := ⟨_, rfl⟩
              obtain ⟨SC, hSC⟩ : ∃ SC, SC = s.cells := ⟨_, rfl⟩
              obtain ⟨CC, hCC⟩ : ∃ CC, CC = cc.cells := ⟨_, rfl⟩
              obtain ⟨AL, hAL⟩ : ∃ AL, AL = u8s s.alpha := ⟨_, rfl⟩
              rw [← hH] at HHL HFI HOP HHW
              rw [← hND] at HNL HOP HZZ
              rw [← hSC] at HPE HFI HOP HSCL HSC1
              rw [← hCC] at HOP HCR HCCL HCC1 HNEC
              rw [← hAL] at HPE HSR HRA HALL HNEA HCA HHR
              have HNDE := Lib.hid hND
              clear hH hND hSC hCC hAL hzz hta hfi hoe hoc hon hstp hmE hnx hq hal hrg9 hrgA hr1 hRr hso hco HL hsi hci hb9 hbA
              go_upto_region 23 with fail
              go_wp2
              have HV0 : Hid (Below wr.heap.size wr { wr with drawn := wr.drawn + 1 }) := (Below.refl _ wr).drew
              refine region_K (by kernel_rfl) 10 (fun W => Below wr.heap.size wr W) ?_
              refine AnyK.pure 0 (v := .slice A1 32 c1) rfl (by kernel_rfl) (fun _ _ _ h => h) rfl (fun _ => by kernel_rfl) (fun _ => HV0.out) ?_
              refine AnyK.pure 2 (v := .pointer (some ⟨w5.heap.size, 0, none⟩)) rfl (by kernel_rfl) (fun _ _ _ h => h) rfl (fun _ => by kernel_rfl) (fun _ => HV0.out) ?_
              refine AnyK.pure 3 (v := .slice (some ⟨w5.heap.size, 0, none⟩) 32 32) rfl (by kernel_rfl) (fun _ _ _ h => h) rfl (fun _ => ex_all32 rfl (by kernel_rfl)) (fun _ => HV0.out) ?_
              refine AnyG.start wr.heap.size [⟨9, 17, 43, u8s (List.replicate 192 0), fun g => .pointer (some ⟨g, 0, none⟩)⟩] (fun W => Below wr.heap.size wr W) 8 rfl HV0.out ?_
              refine AnyG.step 1 (di := 75) [] (fun x : Option Addr × Nat => .slice x.1 32 x.2) (fun x W => Below wr.heap.size wr W ∧ Rd W x.1 32 (u8s l)) (by rfl) rfl (by simp) (by simp) (by kernel_rfl) ?_ ?_ (fun W o h => h.alloc h.size o) (fun W h => h.size) (fun W h => h) (fun _ W h => h.1) ?_
              · intro F W hF hR hok hrd K hK
                obtain ⟨s1, rfl⟩ := one_of hF
                rcases s1 with _ | k1 <;>
                  (refine wp_enter (f := 6) (args := #[.slice A1 32 c1]) (by kernel_rfl) ?_; refine (copy_rd A1 32 c1 l W (HRL.out W hR) (by omega)).mono ?_; rintro e w' ⟨A', c', rfl, hc', hr, hB⟩; exact ⟨_, rfl, hK (A', c') _ ⟨hR.trans (hB.mono hR.size), hr⟩ hB⟩)
              · intro f hf
                simp only [List.mem_cons, List.not_mem_nil, or_false] at hf
                subst hf
                exact ⟨_, rfl, rfl, rfl, fun F W _ => alloc_st rfl⟩
              intro x
              refine AnyG.step 4 (di := 78) [] (fun y : Option Addr × Nat => .slice y.1 32 y.2) (fun y W => Below wr.heap.size wr W ∧ Rd W x.1 32 (u8s l) ∧ Rd W y.1 32 AL) (by rfl) rfl (by simp) (by simp) (by kernel_rfl) ?_ ?_ (fun W o h => ⟨h.1.alloc h.1.size o, h.2.alloc o⟩) (fun W h => h.1.size) (fun W h => h.1) (fun _ W h => h.1) ?_
              · intro F W hF hR hok hrd K hK
                obtain ⟨s1, rfl⟩ := one_of hF
                rcases s1 with _ | k1 <;>
                  (refine wp_enter (f := 6) (args := #[.slice (some ⟨w5.heap.size, 0, none⟩) 32 32]) (by kernel_rfl) ?_; refine (HCA.out W hR.1).mono ?_; rintro e w' ⟨A', c', rfl, hc', hr, hB⟩; exact ⟨_, rfl, hK (A', c') _ ⟨hR.1.trans (hB.mono hR.1.size), hR.2.below hB, hr⟩ hB⟩)
              · intro f hf
                simp only [List.mem_cons, List.not_mem_nil, or_false] at hf
                subst hf
                exact ⟨_, rfl, rfl, rfl, fun F W _ => alloc_st rfl⟩
              intro y
              refine AnyG.step 5 (di := 79) [] (fun _ : Unit => .tuple #[.agg SC.toArray, .int .i64 0]) (fun _ W => Below wr.heap.size wr W) (by rfl) rfl (by simp) (by simp) (by kernel_rfl) ?_ ?_ (fun W o h => ⟨h.1.alloc h.1.size o, h.2.1.alloc o, h.2.2.alloc o⟩) (fun W h => h.1.size) (fun W h => h.1) (fun _ W h => h) ?_
              · intro F W hF hR hok hrd K hK
                obtain ⟨s1, rfl⟩ := one_of hF
                rcases s1 with _ | k1 <;>
                  (refine wp_enter (f := 9) (args := #[.slice x.1 32 x.2, .slice y.1 32 y.2]) (by kernel_rfl) ?_; refine (HPE.out W _ _ _ _ hR.2.1 hR.2.2).mono ?_; rintro e w' ⟨rfl, hB⟩; exact ⟨_, rfl, hK () _ (hR.1.trans (hB.mono hR.1.size)) hB⟩)
              · intro f hf
                simp only [List.mem_cons, List.not_mem_nil, or_false] at hf
                subst hf
                exact ⟨_, rfl, rfl, rfl, fun F W _ => alloc_st rfl⟩
              intro _
              refine AnyG.pure 6 (di := 73) (v := .tuple #[.agg SC.toArray, .int .i64 0]) rfl rfl rfl (by simp) (by kernel_rfl) (fun _ _ _ h => h) (fun F W hF => by obtain ⟨s1, rfl⟩ := one_of hF; rcases s1 with _ | k1 <;> kernel_rfl) (fun W h => h) ?_
              refine AnyG.pure 7 (di := 80) (v := .agg SC.toArray) rfl rfl rfl (by simp) (by kernel_rfl) (fun _ _ _ h => h) (fun F W hF => by obtain ⟨s1, rfl⟩ := one_of hF; rcases s1 with _ | k1 <;> kernel_rfl) (fun W h => h) ?_
              refine AnyG.pure 8 (di := 81) (v := .int .i64 0) rfl rfl rfl (by simp) (by kernel_rfl) (fun _ _ _ h => h) (fun F W hF => by obtain ⟨s1, rfl⟩ := one_of hF; rcases s1 with _ | k1 <;> kernel_rfl) (fun W h => h) ?_
              refine AnyG.fin (by simp) (by kernel_rfl) ?_ (fun W o h => h.alloc h.size o) (fun W h => h.size) (fun W h => h) ?_
              · intro f hf
                simp only [List.mem_cons, List.not_mem_nil, or_false] at hf
                subst hf
                exact ⟨_, rfl, rfl, rfl, fun F W _ => alloc_st rfl⟩
              intro F W hF h0 hR hok
              obtain ⟨gs, rfl⟩ := one_all hF h0
              obtain ⟨⟨hgs, hbs, _⟩, _⟩ := hok
              refine AnyK.storeAll 10 gs SC 43 (u8s (List.replicate 192 0)) (by rfl) rfl rfl (by rfl) (by kernel_rfl) (by kernel_rfl) (by kernel_rfl) hbs (by rw [HSCL.out]; exact hd69) HSC1.out (by rw [HSCL.out, u8s_length, List.length_replicate]) (fun _ _ _ h => (by cases h)) ?_
              intro w7 hb7 ho7
              have HB7 := Lib.hid (ho7.below hR hgs hR.size)
              have HS7 := Lib.hid hb7
              refine AnyK.val 11 (v := .int .i64 0) (by rfl) (by kernel_rfl) rfl (by kernel_rfl) (fun h => (by cases h)) ?_
              refine AnyK.done (by kernel_rfl) ?_
              have HGS := Lib.hid hgs
              clear hbs hb7 ho7 hR hF h0 hgs HV0 HRL HCA HRA HPE
              simp only [putF]
              have HD7 : Hid (∀ W, Below w7.heap.size w7 W → Below wr.heap.size wr W) := fun W hW => HB7.out.trans (hW.mono HB7.out.size)
              have HLA : Hid (∀ W, Below w7.heap.size w7 W → (ldAt 26 (.pointer (some ⟨w5.heap.size, 0, none⟩))).run Tryz.prog W = .ok (.agg AL.toArray) W) := fun W hW => run_loadAt_mid W w5.heap.size 0 26 AL _ (HHR.out W (HD7.out W hW)) Tryz.underlying26 rfl (by rw [HALL.out]; exact hd24)
              have HLB : Hid (∀ W, Below w7.heap.size w7 W → (ldAt 26 (.pointer (some ⟨b9, o9 + i * 192 + 128, none⟩))).run Tryz.prog W = .ok (.agg AL.toArray) W) := fun W hW => run_loadAt_mid W b9 (o9 + i * 192 + 128) 26 AL _ (HSR.out W (HD7.out W hW)) Tryz.underlying26 rfl (by rw [HALL.out]; exact hd24)
              have HLH : Hid (∀ W, Below w7.heap.size w7 W → (ldAt 37 (.pointer (some ⟨w5.heap.size, 0, none⟩))).run Tryz.prog W = .ok (.agg (u8s H).toArray) W) := fun W hW => hd_ld (HHW.out W (HD7.out W hW)) (by rw [u8s_length, HHL.out])
              have HLS : Hid (∀ W, Below w7.heap.size w7 W → (ldAt 43 (.pointer (some ⟨gs, 0, none⟩))).run Tryz.prog W = .ok (.agg SC.toArray) W) := fun W hW => sp_ld (HS7.out.below hW HS7.out.lt) HSCL.out
              have HV7 : Hid (Below w7.heap.size w7 { w7 with drawn := w7.drawn + 1 }) := (Below.refl _ w7).drew
              go_upto_region 24 with fail
              go_wp2
              refine region_K (by kernel_rfl) 10 (fun W => Below w7.heap.size w7 W) ?_
              refine AnyK.pure 0 (v := .int .i64 0) rfl (by kernel_rfl) (fun _ _ _ h => h) rfl (fun _ => by kernel_rfl) (fun _ => HV7.out) ?_
              refine AnyK.pure 1 (v := .bool false) rfl (by kernel_rfl) (fun _ _ _ h => h) rfl (fun _ => by kernel_rfl) (fun _ => HV7.out) ?_
              refine AnyK.pure 2 (v := .bool false) rfl (by kernel_rfl) (fun _ _ _ h => h) rfl (fun _ => by kernel_rfl) (fun _ => HV7.out) ?_
              refine AnyK.pureW 3 (v := .pointer (some ⟨w5.heap.size, 0, none⟩)) rfl (by kernel_rfl) (fun _ _ _ h => h) (by kernel_rfl) (fun _ => by kernel_rfl) (fun _ => HV7.out) ?_
              refine AnyK.loadW 4 (v := .agg AL.toArray) rfl (by kernel_rfl) (by kernel_rfl) (by kernel_rfl) (fun _ _ _ h => h) (by kernel_rfl) (fun w' hw' => ey_loadR (x := .tmp 85) (by rfl) (by kernel_rfl) (HLA.out w' hw')) HV7.out ?_
              refine AnyK.pureW 5 (v := .slice (some ⟨b9, o9, none⟩) k c9) rfl (by kernel_rfl) (fun _ _ _ h => h) (by kernel_rfl) (fun _ => by kernel_rfl) (fun _ => HV7.out) ?_
              refine AnyK.pureW 6 (v := .int .i64 (i : Int)) rfl (by kernel_rfl) (fun _ _ _ h => h) (by kernel_rfl) (fun _ => by kernel_rfl) (fun _ => HV7.out) ?_
              refine AnyK.pureW 7 (v := .pointer (some ⟨b9, o9 + i * 192, none⟩)) rfl (by kernel_rfl) (fun _ _ _ h => h) (by kernel_rfl) (fun _ => ex_idxP (p := i) (n := k) (c := c9) (sz := 192) rfl (by kernel_rfl) (by kernel_rfl) hlt Tryz.underlying30 (fun _ => by kernel_rfl)) (fun _ => HV7.out) ?_
              refine AnyK.pureW 8 (v := .pointer (some ⟨b9, o9 + i * 192 + 128, none⟩)) rfl (by kernel_rfl) (fun _ _ _ h => h) (by kernel_rfl) (fun _ => by kernel_rfl) (fun _ => HV7.out) ?_
              refine AnyK.loadW 9 (v := .agg AL.toArray) rfl (by kernel_rfl) (by kernel_rfl) (by kernel_rfl) (fun _ _ _ h => h) (by kernel_rfl) (fun w' hw' => ey_loadR (x := .tmp 90) (by rfl) (by kernel_rfl) (HLB.out w' hw')) HV7.out ?_
              refine AnyK.valW 10 (v := .bool false) rfl (by kernel_rfl) (by kernel_rfl) (ex_neqP rfl (by kernel_rfl) (by kernel_rfl) (by kernel_rfl) (HNEA.out _)) (fun _ => HV7.out) ?_
              refine AnyK.val 11 (v := .bool false) rfl (by kernel_rfl) rfl (by kernel_rfl) (fun _ => HV7.out) ?_
              refine AnyK.val 12 (v := .bool false) rfl (by kernel_rfl) rfl (by kernel_rfl) (fun _ => HV7.out) ?_
              refine AnyK.turn (k' := 15) (T' := fun W => Below w7.heap.size w7 W) _ _ _ _ (by kernel_rfl) ?_
              refine AnyK.loadW 13 (v := .agg (u8s H).toArray) rfl (by kernel_rfl) (by kernel_rfl) (by kernel_rfl) (fun _ _ _ h => h) (by kernel_rfl) (fun w' hw' => ey_loadR (x := .tmp 14) (by rfl) (by kernel_rfl) (HLH.out w' hw')) HV7.out ?_
              refine AnyK.loadW 14 (v := .agg SC.toArray) rfl (by kernel_rfl) (by kernel_rfl) (by kernel_rfl) (fun _ _ _ h => h) (by kernel_rfl) (fun w' hw' => ey_loadR (x := .tmp 17) (by rfl) (by kernel_rfl) (HLS.out w' hw')) HV7.out ?_
              refine AnyK.enterW 15 (d := some 97) (f := 10) (args := #[.agg (u8s H).toArray, .agg SC.toArray]) rfl rfl (by kernel_rfl) (by kernel_rfl) (by kernel_rfl) ((HFI.out _).mono ?_)
              rintro e w8 ⟨rfl, hB8⟩
              have HB8 := qtr HV7 hB8
              refine ⟨_, rfl, fun _ => HB8.out, ?_⟩
              refine AnyK.valW 16 (v := .bool false) rfl (by kernel_rfl) (by kernel_rfl) (by kernel_rfl) (fun _ => HB8.out) ?_
              refine AnyK.val 17 (v := .bool false) rfl (by kernel_rfl) rfl (by kernel_rfl) (fun _ => HB8.out) ?_
              refine AnyK.done (by kernel_rfl) ?_
              simp only [List.getElem_toArray, List.getElem_cons_zero, List.getElem_cons_succ, Act.put, List.setIfInBounds_toArray, List.set_cons_succ, List.set_cons_zero]
              have hlH8 := HLH.out w8 HB8.out
              have hlS8 := HLS.out w8 HB8.out
              have HN1 : Hid (∀ v ∈ u8s ND, v.oneCell' = true) := u8s_one _
              have HNU : Hid ((u8s ND).length = 288) := by show _ = _; rw [u8s_length, HNL.out]
              clear HFI HLA HLB HLH HLS HNEA HALL HSR HHR HV7 HSCL HSC1 hB8
              go_upto_region 26 with fail
              go_upto_region 27 with (first
                | (go_at_call 11; (with_reducible refine (HOP.out _).mono ?_); rintro e w9 ⟨rfl, hB9⟩; have HB9 := qtr HB8 hB9; clear hB9)
                | (refine wpList_store_all rfl 50 (.tmp 19) (.tmp 104) rfl w9.heap.size CC (by rfl) (by rfl) 50 Cm.zero.cells (by exact Blk.alloc (Blk.new' rfl rfl) _) (by rw [HCCL.out]; exact hd76c) HCC1.out (by rw [HCCL.out]; rfl) ?_; intro w10 hb10 ho10
                   have HB10 := Lib.hid (ho10.below ((HB9.out.alloc HB9.out.size _).alloc (Nat.le_trans HB9.out.size (by simp)) _) HB9.out.size (Nat.le_trans HB9.out.size (by simp; omega)))
                   have HC10 := Lib.hid hb10
                   have HZ10 : Hid (Blk w10 (w9.heap.size + 1) 37 (u8s z288)) := ho10.blk (Blk.new' (by simp) zc34') (by omega)
                   clear hb10 ho10)
                | (refine wpList_store_all rfl 37 (.tmp 20) (.tmp 105) rfl (w9.heap.size + 1) (u8s ND) (by rfl) (by rfl) 37 (u8s z288) HZ10.out (by rw [HNU.out]; exact hd34) HN1.out (by rw [HNU.out, z288_len]) ?_; intro w11 hb11 ho11
                   have HB11 := Lib.hid (ho11.below HB10.out (Nat.le_trans HB9.out.size (by omega)) HB10.out.size)
                   have HC11 := Lib.hid (ho11.blk HC10.out (by omega))
                   have HN11 := Lib.hid hb11
                   clear hb11 ho11))
              have HV11 : Hid (Below w11.heap.size w11 { w11 with drawn := w11.drawn + 1 }) := (Below.refl _ w11).drew
              have HD11 : Hid (∀ W, Below w11.heap.size w11 W → Below wr.heap.size wr W) := fun W hW => HB7.out.trans (((HB11.out.mono HB7.out.size)).trans (hW.mono (Nat.le_trans HB7.out.size HB11.out.size)))
              have HLC : Hid (∀ W, Below w11.heap.size w11 W → (ldAt 50 (.pointer (some ⟨w9.heap.size, 0, none⟩))).run Tryz.prog W = .ok (.agg CC.toArray) W) := fun W hW => cm_ld (HC11.out.below hW HC11.out.lt) HCCL.out
              have HLD : Hid (∀ W, Below w11.heap.size w11 W → (ldAt 50 (.pointer (some ⟨bA, oA + i * 20, none⟩))).run Tryz.prog W = .ok (.agg CC.toArray) W) := fun W hW => run_loadAt_mid W bA (oA + i * 20) 50 CC _ (HCR.out W (HD11.out W hW)) Tryz.underlying50 rfl (by rw [HCCL.out]; exact hd76c)
              have HLN : Hid (∀ W, Below w11.heap.size w11 W → (ldAt 37 (.pointer (some ⟨w9.heap.size + 1, 0, none⟩))).run Tryz.prog W = .ok (.agg (u8s ND).toArray) W) := fun W hW => hd_ld (HN11.out.below hW HN11.out.lt) HNU.out
              obtain ⟨bz, HQ1, HQ2⟩ : ∃ bz : Bool, Hid (∀ W, (eqAt 37 (.agg (u8s ND).toArray) (.agg (u8s z288).toArray)).run Tryz.prog W = .ok (.bool bz) W) ∧ Hid ((((i : Int) + 1) == (k : Int)) = bz) := by
                rcases HZZ.out with ⟨hz, hk⟩ | ⟨hz, hk⟩
                · refine ⟨true, fun W => ?_, ?_⟩
                  · rw [hz]; have := eq34z W; rwa [zc34'] at this
                  · show _ = _; rw [beq_iff_eq]; omega
                · exact ⟨false, fun W => eq34f ND z288 HNL.out (List.length_replicate) hz W, by show _ = _; rw [beq_eq_false_iff_ne]; omega⟩
              have hwi : IntKind.i64.wrap ((i : Int) + 1) = (i : Int) + 1 := IntWalk.i64_in _ (by omega)
              go_wp2
              refine region_K (by kernel_rfl) 8 (fun W => Below w11.heap.size w11 W) ?_
              refine AnyK.pure 0 (v := .int .i64 0) rfl (by kernel_rfl) (fun _ _ _ h => h) rfl (fun _ => by kernel_rfl) (fun _ => HV11.out) ?_
              refine AnyK.pure 1 (v := .bool false) rfl (by kernel_rfl) (fun _ _ _ h => h) rfl (fun _ => by kernel_rfl) (fun _ => HV11.out) ?_
              refine AnyK.pure 2 (v := .bool false) rfl (by kernel_rfl) (fun _ _ _ h => h) rfl (fun _ => by kernel_rfl) (fun _ => HV11.out) ?_
              refine AnyK.loadW 3 (v := .agg CC.toArray) rfl (by kernel_rfl) (by kernel_rfl) (by kernel_rfl) (fun _ _ _ h => h) (by kernel_rfl) (fun w' hw' => ey_loadR (x := .tmp 19) (by rfl) (by kernel_rfl) (HLC.out w' hw')) HV11.out ?_
              refine AnyK.pureW 4 (v := .slice (some ⟨bA, oA, none⟩) n c) rfl (by kernel_rfl) (fun _ _ _ h => h) (by kernel_rfl) (fun _ => by kernel_rfl) (fun _ => HV11.out) ?_
              refine AnyK.pureW 5 (v := .int .i64 (i : Int)) rfl (by kernel_rfl) (fun _ _ _ h => h) (by kernel_rfl) (fun _ => by kernel_rfl) (fun _ => HV11.out) ?_
              refine AnyK.pureW 6 (v := .pointer (some ⟨bA, oA + i * 20, none⟩)) rfl (by kernel_rfl) (fun _ _ _ h => h) (by kernel_rfl) (fun _ => ex_idxP (p := i) (n := n) (c := c) (sz := 20) rfl (by kernel_rfl) (by kernel_rfl) (by omega) Tryz.underlying22 (fun _ => by kernel_rfl)) (fun _ => HV11.out) ?_
              refine AnyK.loadW 7 (v := .agg CC.toArray) rfl (by kernel_rfl) (by kernel_rfl) (by kernel_rfl) (fun _ _ _ h => h) (by kernel_rfl) (fun w' hw' => ey_loadR (x := .tmp 113) (by rfl) (by kernel_rfl) (HLD.out w' hw')) HV11.out ?_
              refine AnyK.valW 8 (v := .bool false) rfl (by kernel_rfl) (by kernel_rfl) (ex_neqP rfl (by kernel_rfl) (by kernel_rfl) (by kernel_rfl) (HNEC.out _)) (fun _ => HV11.out) ?_
              refine AnyK.val 9 (v := .bool false) rfl (by kernel_rfl) rfl (by kernel_rfl) (fun _ => HV11.out) ?_
              refine AnyK.val 10 (v := .bool false) rfl (by kernel_rfl) rfl (by kernel_rfl) (fun _ => HV11.out) ?_
              refine AnyK.turn (k' := 13) (T' := fun W => Below w11.heap.size w11 W) _ _ _ _ (by kernel_rfl) ?_
              refine AnyK.loadW 11 (v := .agg (u8s ND).toArray) rfl (by kernel_rfl) (by kernel_rfl) (by kernel_rfl) (fun _ _ _ h => h) (by kernel_rfl) (fun w' hw' => ey_loadR (x := .tmp 20) (by rfl) (by kernel_rfl) (HLN.out w' hw')) HV11.out ?_
              refine AnyK.pureW 12 (v := .agg (u8s z288).toArray) rfl (by kernel_rfl) (fun _ _ _ h => h) (by kernel_rfl) (fun _ => ex_bld 37 [] rfl [] rfl (build34_z _)) (fun _ => HV11.out) ?_
              refine AnyK.pureW 14 (v := .int .i64 (i : Int)) rfl (by kernel_rfl) (fun _ _ _ h => h) (by kernel_rfl) (fun _ => by kernel_rfl) (fun _ => HV11.out) ?_
              refine AnyK.pureW 15 (v := .int .i64 ((i : Int) + 1)) rfl (by kernel_rfl) (fun _ _ _ h => h) (by kernel_rfl) (fun _ => ex_sameP (u := .int .i64 (IntKind.i64.wrap ((i : Int) + 1))) (by kernel_rfl) (by rw [hwi])) (fun _ => HV11.out) ?_
              refine AnyK.pureW 16 (v := .slice (some ⟨b, off, none⟩) k pc) rfl (by kernel_rfl) (fun _ _ _ h => h) (by kernel_rfl) (fun _ => by kernel_rfl) (fun _ => HV11.out) ?_
              refine AnyK.pureW 17 (v := .int .i64 (k : Int)) rfl (by kernel_rfl) (fun _ _ _ h => h) (by kernel_rfl) (fun _ => by kernel_rfl) (fun _ => HV11.out) ?_
              refine AnyK.pureW 18 (v := .bool bz) rfl (by kernel_rfl) (fun _ _ _ h => h) (by kernel_rfl) (fun _ => ex_sameP (u := .bool (((i : Int) + 1) == (k : Int))) (by kernel_rfl) (by rw [HQ2.out])) (fun _ => HV11.out) ?_
              refine AnyK.valW 13 (v := .bool bz) rfl (by kernel_rfl) (by kernel_rfl) (ex_eqlP rfl (by kernel_rfl) (by kernel_rfl) (by kernel_rfl) (HQ1.out _)) (fun _ => HV11.out) ?_
              refine AnyK.valW 19 (v := .bool false) rfl (by kernel_rfl) (by kernel_rfl) (by cases bz <;> kernel_rfl) (fun _ => HV11.out) ?_
              refine AnyK.val 20 (v := .bool false) rfl (by kernel_rfl) rfl (by kernel_rfl) (fun _ => HV11.out) ?_
              refine AnyK.done (by kernel_rfl) ?_
              simp only [List.getElem_toArray, List.getElem_cons_zero, List.getElem_cons_succ, Act.put, List.setIfInBounds_toArray, List.set_cons_succ, List.set_cons_zero]
              have hlN : (ldAt 37 (.pointer (some ⟨w9.heap.size + 1, 0, none⟩))).run Tryz.prog w11.drew = .ok (.agg (u8s ND).toArray) w11.drew := HLN.out _ HV11.out
              have HHd : Hid (Blk w11.drew w5.heap.size 37 (u8s H)) := HHW.out _ (HD11.out _ HV11.out)
              have HWd : Hid (Wrote w5.heap.size w6 w11.drew) := HW.out.then (HD11.out _ HV11.out)
              clear HLC HLD HLN HQ1 HQ2 HCR HCCL HCC1 HNEC
              go_upto_region 29 with fail
              go_upto_region 30 with (refine wpList_store_all rfl 37 (.tmp 14) (.tmp 128) rfl w5.heap.size (u8s ND) (by rfl) (by rfl) 37 (u8s H) HHd.out (by rw [HNU.out]; exact hd34) HN1.out (by rw [HNU.out, u8s_length, HHL.out]) ?_; intro w13 hb13 ho13; have HH13 := Lib.hid hb13; have HW13 := Lib.hid (HWd.out.only ho13); clear hb13 ho13)
              go_wp2
              go_roundg (k - (i + 1))
              case measure => have := HGK.out; omega
              case rel => exact ⟨i + 1, by omega, rfl, by go_num, by rw [← HNDE.out]; exact HH13, HW13⟩
            · obtain rfl : i = k := by omega
              have hlt2 : ¬ (i : Int) < (i : Int) := by omega
              have HEF := Lib.hid ((HKP.out _ HW.out).1)
              go_wp2
              go_ret
              exact ⟨rfl, HEF.out⟩
end Go.Proofs.YtlbnibmcflmohaaGreat.headerPeels
