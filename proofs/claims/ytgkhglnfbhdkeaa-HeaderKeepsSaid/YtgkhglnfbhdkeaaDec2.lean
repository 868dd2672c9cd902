/- surb.Decode. -/
import Derived.Test.YtgkhglnfbhdkeaaDec1
import Derived.Test.YtgkhglnfbhdkeaaFrm3
namespace Go.Proofs.Ytgkhglnfbhdkeaa
open Go.RowKit

/-- a list of keys, laid one behind the other -/
def PaysR (w : World) (A : Option Addr) (m : Nat) (ks : List (List UInt8)) : Prop :=
  ks.length = m ∧ (∀ k ∈ ks, k.length = 32) ∧ (0 < m → ∃ b off, A = some ⟨b, off, none⟩ ∧ ∀ i k, ks[i]? = some k → Rd w (some ⟨b, off + i * 32, none⟩) 32 (u8s k))
theorem PaysR.below {w w' : World} {A : Option Addr} {m : Nat} {ks : List (List UInt8)} (h : PaysR w A m ks) (hB : Below w.heap.size w w') : PaysR w' A m ks :=
  ⟨h.1, h.2.1, fun hm => by
    obtain ⟨b, off, e, hr⟩ := h.2.2 hm
    exact ⟨b, off, e, fun i k hi => (hr i k hi).below hB⟩⟩
/-- the cells of a store -/
def stC (mark own : List UInt8) (A : Option Addr) (m c : Nat) : List Value := u8s mark ++ (u8s own ++ [.slice A m c])
theorem stC_len (mark own : List UInt8) (A : Option Addr) (m c : Nat) (h1 : mark.length = 16) (h2 : own.length = 32) : (stC mark own A m c).length = 49 := by simp [stC, u8s_length, h1, h2]
theorem stC_48 (mark own : List UInt8) (A : Option Addr) (m c : Nat) (h1 : mark.length = 16) (h2 : own.length = 32) : (stC mark own A m c)[48]? = some (.slice A m c) := by
  rw [stC, ← List.append_assoc, List.getElem?_append_right (by simp [u8s_length, h1, h2])]
  simp [u8s_length, h1, h2]
theorem stC_own (mark own : List UInt8) (A : Option Addr) (m c : Nat) (h1 : mark.length = 16) (h2 : own.length = 32) : ((stC mark own A m c).drop 16).take 32 = u8s own := by
  rw [stC, List.drop_left' (by rw [u8s_length, h1]), List.take_left' (by rw [u8s_length, h2])]
def dplain (own : List UInt8) (ks : List (List UInt8)) (body : List UInt8) : List UInt8 := Wd.open_ own (sealAll ks.reverse body)
theorem rev_at {ks : List (List UInt8)} {t j : Nat} {k : List UInt8} (hl : ks.length = t + 1 + j) (h : ks[t]? = some k) : ks.reverse[j]? = some k := by
  rw [List.getElem?_reverse (by omega), show ks.length - 1 - j = t by omega]
  exact h
theorem eSl : ElemIs Try.prog 22 1 24 := ElemIs.of (z := .slice none 0 0) (by kernel_rfl) rfl (by omega)
theorem iSl : (Try.prog.info? 22).map (fun i => (i.zero, i.size, i.bytes)) = some (some (.slice none 0 0), 1, 24) := by kernel_rfl
/-- the slices of the keys, the last first -/
def turnedV (b off m : Nat) : Nat → List Value
  | 0 => []
  | j + 1 => turnedV b off m j ++ [.slice (some ⟨b, off + (m - 1 - j) * 32, none⟩) 32 32]
theorem turnedV_len (b off m j : Nat) : (turnedV b off m j).length = j := by
  induction j with
  | zero => rfl
  | succ j ih => simp [turnedV, ih]
theorem turnedV_at (b off m : Nat) : ∀ (j i : Nat) (v : Value), (turnedV b off m j)[i]? = some v → i < j ∧ v = .slice (some ⟨b, off + (m - 1 - i) * 32, none⟩) 32 32 := by
  intro j
  induction j with
  | zero => intro i v h; simp [turnedV] at h
  | succ j ih =>
    intro i v h
    unfold turnedV at h
    by_cases hij : i < j
    · rw [List.getElem?_append_left (by rw [turnedV_len]; exact hij)] at h
      have := ih i v h
      exact ⟨by omega, this.2⟩
    · rw [List.getElem?_append_right (by rw [turnedV_len]; omega), turnedV_len] at h
      have hi : i - j = 0 := by
        cases hq : i - j with
        | zero => rfl
        | succ q => rw [hq] at h; simp at h
      rw [hi] at h
      injection h with h
      obtain rfl : i = j := by omega
      exact ⟨by omega, h.symm⟩
theorem turned_rdb {w : World} {T : Option Addr} {b off m : Nat} {ks : List (List UInt8)} (hr : Rd w T m (turnedV b off m m)) (hl : ks.length = m) (hk : ∀ i k, ks[i]? = some k → Rd w (some ⟨b, off + i * 32, none⟩) 32 (u8s k)) : RdB w T m ks.reverse := by
  refine ⟨turnedV b off m m, hr, by rw [List.length_reverse, hl], fun i v hv => ?_⟩
  obtain ⟨hi, rfl⟩ := turnedV_at b off m m i v hv
  have hx : ks[m - 1 - i]? = some (ks[m - 1 - i]'(by omega)) := List.getElem?_eq_getElem (by omega)
  exact ⟨_, rev_at (t := m - 1 - i) (j := i) (by omega) hx, some ⟨b, off + (m - 1 - i) * 32, none⟩, 32, 32, rfl, Nat.le_refl _, hk _ _ hx⟩

set_option maxRecDepth 100000 in
set_option maxHeartbeats 4000000 in
theorem dec_err (mark own : List UInt8) (A : Option Addr) (m c : Nat) (ks : List (List UInt8)) (B : Option Addr) (d : Nat) (body : List UInt8) (w : World) (h1 : mark.length = 16) (h2 : own.length = 32) (hp : PaysR w A m ks) (hm : m ≤ 1000) (hb : Rd w B 480 (u8s body)) (hd : 480 ≤ d) (he : perr (dplain own ks body) ≠ 0) :
    Calls Try.prog 15 #[.agg (stC mark own A m c).toArray, .slice B 480 d] w fun e w' => e = .returned (.tuple #[.slice none 0 0, .int .i64 (perr (dplain own ks body))]) ∧ Below w.heap.size w w' := by
  have HP0 := Lib.hid hp
  have HBD := Lib.hid hb
  have hbl : body.length = 480 := hb.len
  have hsl : (sealAll ks.reverse body).length = 480 := by rw [sealAll_len _ _ (by omega), hbl]
  have C48 := Lib.hid (stC_48 mark own A m c h1 h2)
  have COW := Lib.hid (stC_own mark own A m c h1 h2)
  have CLN := Lib.hid (stC_len mark own A m c h1 h2)
  have HOP : Hid (∀ W S D y, Rd W (some ⟨S, 16, none⟩) 32 (u8s own) → Rd W D 480 (u8s (sealAll ks.reverse body)) → 480 ≤ y → Calls Try.prog 41 #[.slice (some ⟨S, 16, none⟩) 32 32, .slice D 480 y] W fun e w' => ∃ g c', e = .returned (.tuple #[.slice (some ⟨g, 0, none⟩) 480 c', .int .i64 0]) ∧ 480 ≤ c' ∧ W.heap.size ≤ g ∧ Rd w' (some ⟨g, 0, none⟩) 480 (u8s (dplain own ks body)) ∧ Below W.heap.size W w') :=
    fun W S D y h5 h6 hy => open_any (some ⟨S, 16, none⟩) D 32 y 480 own _ W h5 (by omega) h6 hy (by omega) (by omega)
  obtain ⟨X, hX⟩ : ∃ X, X = dplain own ks body := ⟨_, rfl⟩
  rw [← hX] at HOP he ⊢
  have HPS : Hid (∀ W g y, Rd W (some ⟨g, 0, none⟩) 480 (u8s X) → 480 ≤ y → Calls Try.prog 42 #[.slice (some ⟨g, 0, none⟩) 480 y] W fun e w' => e = .returned (.tuple #[.agg #[.int .u8 0, .int .u64 0, .int .i64 0, .int .i64 0, .slice none 0 0], .int .i64 (perr X)]) ∧ Below W.heap.size W w') :=
    fun W g y h5 hy => fparse_err (some ⟨g, 0, none⟩) y X W h5 hy he
  have hne : (perr X != 0) = true := by rw [bne_iff_ne]; exact he
  obtain ⟨C, hC⟩ : ∃ C, C = stC mark own A m c := ⟨_, rfl⟩
  rw [← hC] at C48 COW CLN ⊢
  have HKL := Lib.hid hp.1
  have HK32 := Lib.hid hp.2.1
  obtain ⟨bA, oA, HPA⟩ : ∃ bA oA, Hid (0 < m → A = some ⟨bA, oA, none⟩ ∧ ∀ i k, ks[i]? = some k → Rd w (some ⟨bA, oA + i * 32, none⟩) 32 (u8s k)) := by
    by_cases hm0 : 0 < m
    · obtain ⟨bA, oA, e, hr⟩ := hp.2.2 hm0
      exact ⟨bA, oA, fun _ => ⟨e, hr⟩⟩
    · exact ⟨0, 0, fun h => absurd h hm0⟩
  clear hX hC hp hb hbl hsl h1 h2 he
  go_enter Try.func15, Try.ntmps15
  have HB0 : Hid (Blk (w.alloc (.cells C.toArray 47)) w.heap.size 47 C) := Blk.new w _ _
  have HE0 : Hid (Below w.heap.size w (w.alloc (.cells C.toArray 47))) := (Below.refl _ _).alloc (Nat.le_refl _) _
  have c48 : (w.alloc (.cells C.toArray 47)).cell? ⟨w.heap.size, 48, none⟩ = some (.slice A m c) := (HB0.out.cell 48).trans C48.out
  go_wp2_with (refine wpList_make1 rfl (.const (.int .i64 0)) (.tmp 17) 84 rfl 22 (.slice none 0 0) 24 Try.underlying84 iSl rfl .i64 .i64 0 (m : Int) (by rfl) (by rfl) 0 m rfl rfl (by omega) (by omega) (by omega) ?_
               intro w1 hb1 hg1 hs1
               have HO1 := Lib.hid (show w1.ownsRow (w.heap.size + 1) 22 1 (.slice (some ⟨w.heap.size + 1, 0, none⟩) 0 m) 0 [] from (by have h5 := own_of_blk (base := w.heap.size + 1) hb1 (by simp) 0 m 1 (by omega) (by simp [rep_length]) (by omega); simpa using h5))
               have HB1 := Lib.hid (HB0.out.below (grown_below hg1) HB0.out.lt)
               have HE1 := Lib.hid (HE0.out.trans ((grown_below hg1).mono (by simp)))
               have d48 : w1.cell? ⟨w.heap.size, 48, none⟩ = some (.slice A m c) := (HB1.out.cell 48).trans C48.out
               clear hb1 hg1 hs1)
  go_loopg [6, 7] m (fun kk v q wr => ∃ (j : Nat) (x : Int), j ≤ m ∧ kk = m - j ∧ x = (m : Int) - 1 - (j : Int) ∧ q = .int .i64 x ∧ (∃ T cT, v = .slice T j cT ∧ j ≤ cT ∧ wr.ownsRow (w.heap.size + 1) 22 1 (.slice T j cT) j (turnedV bA oA m j)) ∧ Blk wr w.heap.size 47 C ∧ Below w.heap.size w wr)
  case atStart => exact ⟨0, (m : Int) - 1, by omega, rfl, by simp, rfl, ⟨_, m, rfl, by omega, HO1.out⟩, HB1.out, HE1.out⟩
  case round =>
    clear HO1 HB1 HE1 HB0 HE0 c48 d48
    obtain ⟨j, x, hj, hgk, hx, rfl, ⟨T, cT, rfl, hcT, hown⟩, hbl, hB⟩ := hrel
    have HGK := Lib.hid hgk
    clear hgk
    by_cases hlt : j < m
    · obtain ⟨t, ht⟩ : ∃ t, m = t + 1 + j := ⟨m - 1 - j, by omega⟩
      obtain rfl : x = (t : Int) := by omega
      have ht0 : (0 : Int) ≤ (t : Int) := by omega
      have htm : (t : Int) < (m : Int) := by omega
      obtain ⟨rfl, hkr⟩ := HPA.out (by omega)
      have HST : Hid (turnedV bA oA m (j + 1) = turnedV bA oA m j ++ [.slice (some ⟨bA, oA + t * 32, none⟩) 32 32]) := by show _ = _; rw [turnedV, show m - 1 - j = t by omega]
      have e48 : wr.cell? ⟨w.heap.size, 48, none⟩ = some (.slice (some ⟨bA, oA, none⟩) m c) := (hbl.cell 48).trans C48.out
      have HT := Lib.hid ht
      have HBL := Lib.hid hbl
      have HBE := Lib.hid hB
      have HOW := Lib.hid hown
      clear hx ht hbl hB hown hkr
      go_wp2_with (at_builtin; refine wpList_app rfl (.tmp 27) (.tmp 33) 84 rfl (w.heap.size + 1) 22 1 24 Try.underlying84 eSl (.slice T j cT) j (turnedV bA oA m j) (by rfl) (by exact HOW.out.alloc _) (some ⟨wr.heap.size, 0, none⟩) 1 1 [.slice (some ⟨bA, oA + t * 32, none⟩) 32 32] (by rfl) (by exact RdS.new wr 22 [.slice (some ⟨bA, oA + t * 32, none⟩) 32 32] 1 rfl) (fun v hv => by rw [List.mem_singleton] at hv; subst hv; rfl) (by omega) (by omega) (by have := HBL.out.lt; simp; omega) ?_
                   intro A4 c4 w4 hown4 hc4 hg4 hat4
                   have HO4 := Lib.hid hown4
                   rw [← HST.out] at HO4
                   have HB4 := Lib.hid ((HBL.out.alloc _).grown hg4 (fun e => by have := (HOW.out.lt _ e.symm).1; omega))
                   have HE4 := Lib.hid ((HBE.out.alloc HBE.out.size _).grown hg4 (Nat.le_trans HBE.out.size (by simp)) (fun k hk => by have := (HOW.out.lt k hk).1; omega))
                   clear hown4 hg4 hat4)
      go_roundg (m - (j + 1))
      case measure => have := HGK.out; omega
      case rel => exact ⟨j + 1, (t : Int) - 1, by omega, rfl, by have := HT.out; omega, rfl, ⟨A4, c4, rfl, by omega, HO4.out⟩, HB4.out, HE4.out⟩
    · obtain rfl : j = m := by omega
      obtain rfl : x = -1 := by omega
      have HKS : Hid (∀ k ∈ ks.reverse, k.length = 32) := fun k hk => HK32.out k (List.mem_reverse.1 hk)
      have HTD : Hid (RdB wr T j ks.reverse) := by
        by_cases hj0 : 0 < j
        · obtain ⟨_, hkr⟩ := HPA.out hj0
          exact turned_rdb (Rd.of_own hown) HKL.out (fun i k hi => (hkr i k hi).below hB)
        · obtain rfl : j = 0 := by omega
          have hk0 : ks = [] := List.length_eq_zero_iff.1 HKL.out
          subst hk0
          exact ⟨[], Rd.nil _ _, rfl, fun i v hv => by simp at hv⟩
      have HSA := Lib.hid (sealAll_any B T d 480 j cT body ks.reverse wr (HBD.out.below hB) hd HTD.out HKS.out (by omega) (by omega) hm)
      have HBL := Lib.hid hbl
      have HBE := Lib.hid hB
      clear hown hbl hB hx HKS HTD
      go_wp2_with (first
        | (go_at_call 40; (with_reducible refine HSA.out.mono ?_); rintro e w7 ⟨A7, c7, rfl, hc7, hr7, hB7⟩
           have HE7 := Lib.hid (HBE.out.trans (hB7.mono HBE.out.size))
           have HB7 := Lib.hid (HBL.out.below hB7 HBL.out.lt)
           have HR7 := Lib.hid hr7
           have HOW7 : Hid (Rd w7 (some ⟨w.heap.size, 16, none⟩) 32 (u8s own)) := (by have h8 := HB7.out.rd 16 32 (by rw [CLN.out]; omega); rw [COW.out] at h8; exact h8)
           clear hr7 hB7)
        | (go_at_call 41; (with_reducible refine (HOP.out w7 w.heap.size A7 c7 (by exact HOW7.out) (by exact HR7.out) (by omega)).mono ?_); rintro e w8 ⟨g8, c8, rfl, hc8, hg8, hr8, hB8⟩
           have HE8 := Lib.hid (HE7.out.trans (hB8.mono HE7.out.size))
           have HR8 := Lib.hid hr8
           clear hr8 hB8)
        | (go_at_call 42; (with_reducible refine (HPS.out _ g8 c8 (by exact HR8.out) (by omega)).mono ?_); rintro e w9 ⟨rfl, hB9⟩
           have HE9 := Lib.hid (HE8.out.trans (hB9.mono HE8.out.size))
           clear hB9))
      go_ret2
      exact ⟨rfl, HE9.out.alloc HE9.out.size _⟩


set_option maxRecDepth 100000 in
set_option maxHeartbeats 4000000 in
theorem dec_kind (mark own : List UInt8) (A : Option Addr) (m c : Nat) (ks : List (List UInt8)) (B : Option Addr) (d : Nat) (body : List UInt8) (w : World) (h1 : mark.length = 16) (h2 : own.length = 32) (hp : PaysR w A m ks) (hm : m ≤ 1000) (hb : Rd w B 480 (u8s body)) (hd : 480 ≤ d) (he : perr (dplain own ks body) = 0) (hk3 : fK (dplain own ks body) ≠ 3) :
    Calls Try.prog 15 #[.agg (stC mark own A m c).toArray, .slice B 480 d] w fun e w' => e = .returned (.tuple #[.slice none 0 0, .int .i64 10]) ∧ Below w.heap.size w w' := by
  have HP0 := Lib.hid hp
  have HBD := Lib.hid hb
  have hbl : body.length = 480 := hb.len
  have hsl : (sealAll ks.reverse body).length = 480 := by rw [sealAll_len _ _ (by omega), hbl]
  have C48 := Lib.hid (stC_48 mark own A m c h1 h2)
  have COW := Lib.hid (stC_own mark own A m c h1 h2)
  have CLN := Lib.hid (stC_len mark own A m c h1 h2)
  have HOP : Hid (∀ W S D y, Rd W (some ⟨S, 16, none⟩) 32 (u8s own) → Rd W D 480 (u8s (sealAll ks.reverse body)) → 480 ≤ y → Calls Try.prog 41 #[.slice (some ⟨S, 16, none⟩) 32 32, .slice D 480 y] W fun e w' => ∃ g c', e = .returned (.tuple #[.slice (some ⟨g, 0, none⟩) 480 c', .int .i64 0]) ∧ 480 ≤ c' ∧ W.heap.size ≤ g ∧ Rd w' (some ⟨g, 0, none⟩) 480 (u8s (dplain own ks body)) ∧ Below W.heap.size W w') :=
    fun W S D y h5 h6 hy => open_any (some ⟨S, 16, none⟩) D 32 y 480 own _ W h5 (by omega) h6 hy (by omega) (by omega)
  obtain ⟨X, hX⟩ : ∃ X, X = dplain own ks body := ⟨_, rfl⟩
  rw [← hX] at HOP he hk3
  have HPS : Hid (∀ W g y, Rd W (some ⟨g, 0, none⟩) 480 (u8s X) → 480 ≤ y → Calls Try.prog 42 #[.slice (some ⟨g, 0, none⟩) 480 y] W fun e w' => ∃ A' n', e = .returned (.tuple #[.agg #[.int .u8 (fK X), .int .u64 (fD X), .int .i64 (fI X), .int .i64 (fC X), .slice A' (fN X) n'], .int .i64 0]) ∧ Rd w' A' (fN X) (u8s (fData X)) ∧ Below W.heap.size W w') :=
    fun W g y h5 hy => fparse_okk (some ⟨g, 0, none⟩) y X W h5 hy he
  obtain ⟨_, hka, hkb, _, hnx, _, _⟩ := perr_ok he
  have hne : ((fK X : Int) != 3) = true := by rw [bne_iff_ne]; omega
  obtain ⟨C, hC⟩ : ∃ C, C = stC mark own A m c := ⟨_, rfl⟩
  rw [← hC] at C48 COW CLN ⊢
  have HKL := Lib.hid hp.1
  have HK32 := Lib.hid hp.2.1
  obtain ⟨bA, oA, HPA⟩ : ∃ bA oA, Hid (0 < m → A = some ⟨bA, oA, none⟩ ∧ ∀ i k, ks[i]? = some k → Rd w (some ⟨bA, oA + i * 32, none⟩) 32 (u8s k)) := by
    by_cases hm0 : 0 < m
    · obtain ⟨bA, oA, e, hr⟩ := hp.2.2 hm0
      exact ⟨bA, oA, fun _ => ⟨e, hr⟩⟩
    · exact ⟨0, 0, fun h => absurd h hm0⟩
  clear hX hC hp hb hbl hsl h1 h2 he
  go_enter Try.func15, Try.ntmps15
  have HB0 : Hid (Blk (w.alloc (.cells C.toArray 47)) w.heap.size 47 C) := Blk.new w _ _
  have HE0 : Hid (Below w.heap.size w (w.alloc (.cells C.toArray 47))) := (Below.refl _ _).alloc (Nat.le_refl _) _
  have c48 : (w.alloc (.cells C.toArray 47)).cell? ⟨w.heap.size, 48, none⟩ = some (.slice A m c) := (HB0.out.cell 48).trans C48.out
  go_wp2_with (refine wpList_make1 rfl (.const (.int .i64 0)) (.tmp 17) 84 rfl 22 (.slice none 0 0) 24 Try.underlying84 iSl rfl .i64 .i64 0 (m : Int) (by rfl) (by rfl) 0 m rfl rfl (by omega) (by omega) (by omega) ?_
               intro w1 hb1 hg1 hs1
               have HO1 := Lib.hid (show w1.ownsRow (w.heap.size + 1) 22 1 (.slice (some ⟨w.heap.size + 1, 0, none⟩) 0 m) 0 [] from (by have h5 := own_of_blk (base := w.heap.size + 1) hb1 (by simp) 0 m 1 (by omega) (by simp [rep_length]) (by omega); simpa using h5))
               have HB1 := Lib.hid (HB0.out.below (grown_below hg1) HB0.out.lt)
               have HE1 := Lib.hid (HE0.out.trans ((grown_below hg1).mono (by simp)))
               have d48 : w1.cell? ⟨w.heap.size, 48, none⟩ = some (.slice A m c) := (HB1.out.cell 48).trans C48.out
               clear hb1 hg1 hs1)
  go_loopg [6, 7] m (fun kk v q wr => ∃ (j : Nat) (x : Int), j ≤ m ∧ kk = m - j ∧ x = (m : Int) - 1 - (j : Int) ∧ q = .int .i64 x ∧ (∃ T cT, v = .slice T j cT ∧ j ≤ cT ∧ wr.ownsRow (w.heap.size + 1) 22 1 (.slice T j cT) j (turnedV bA oA m j)) ∧ Blk wr w.heap.size 47 C ∧ Below w.heap.size w wr)
  case atStart => exact ⟨0, (m : Int) - 1, by omega, rfl, by simp, rfl, ⟨_, m, rfl, by omega, HO1.out⟩, HB1.out, HE1.out⟩
  case round =>
    clear HO1 HB1 HE1 HB0 HE0 c48 d48
    obtain ⟨j, x, hj, hgk, hx, rfl, ⟨T, cT, rfl, hcT, hown⟩, hbl, hB⟩ := hrel
    have HGK := Lib.hid hgk
    clear hgk
    by_cases hlt : j < m
    · obtain ⟨t, ht⟩ : ∃ t, m = t + 1 + j := ⟨m - 1 - j, by omega⟩
      obtain rfl : x = (t : Int) := by omega
      have ht0 : (0 : Int) ≤ (t : Int) := by omega
      have htm : (t : Int) < (m : Int) := by omega
      obtain ⟨rfl, hkr⟩ := HPA.out (by omega)
      have HST : Hid (turnedV bA oA m (j + 1) = turnedV bA oA m j ++ [.slice (some ⟨bA, oA + t * 32, none⟩) 32 32]) := by show _ = _; rw [turnedV, show m - 1 - j = t by omega]
      have e48 : wr.cell? ⟨w.heap.size, 48, none⟩ = some (.slice (some ⟨bA, oA, none⟩) m c) := (hbl.cell 48).trans C48.out
      have HT := Lib.hid ht
      have HBL := Lib.hid hbl
      have HBE := Lib.hid hB
      have HOW := Lib.hid hown
      clear hx ht hbl hB hown hkr
      go_wp2_with (at_builtin; refine wpList_app rfl (.tmp 27) (.tmp 33) 84 rfl (w.heap.size + 1) 22 1 24 Try.underlying84 eSl (.slice T j cT) j (turnedV bA oA m j) (by rfl) (by exact HOW.out.alloc _) (some ⟨wr.heap.size, 0, none⟩) 1 1 [.slice (some ⟨bA, oA + t * 32, none⟩) 32 32] (by rfl) (by exact RdS.new wr 22 [.slice (some ⟨bA, oA + t * 32, none⟩) 32 32] 1 rfl) (fun v hv => by rw [List.mem_singleton] at hv; subst hv; rfl) (by omega) (by omega) (by have := HBL.out.lt; simp; omega) ?_
                   intro A4 c4 w4 hown4 hc4 hg4 hat4
                   have HO4 := Lib.hid hown4
                   rw [← HST.out] at HO4
                   have HB4 := Lib.hid ((HBL.out.alloc _).grown hg4 (fun e => by have := (HOW.out.lt _ e.symm).1; omega))
                   have HE4 := Lib.hid ((HBE.out.alloc HBE.out.size _).grown hg4 (Nat.le_trans HBE.out.size (by simp)) (fun k hk => by have := (HOW.out.lt k hk).1; omega))
                   clear hown4 hg4 hat4)
      go_roundg (m - (j + 1))
      case measure => have := HGK.out; omega
      case rel => exact ⟨j + 1, (t : Int) - 1, by omega, rfl, by have := HT.out; omega, rfl, ⟨A4, c4, rfl, by omega, HO4.out⟩, HB4.out, HE4.out⟩
    · obtain rfl : j = m := by omega
      obtain rfl : x = -1 := by omega
      have HKS : Hid (∀ k ∈ ks.reverse, k.length = 32) := fun k hk => HK32.out k (List.mem_reverse.1 hk)
      have HTD : Hid (RdB wr T j ks.reverse) := by
        by_cases hj0 : 0 < j
        · obtain ⟨_, hkr⟩ := HPA.out hj0
          exact turned_rdb (Rd.of_own hown) HKL.out (fun i k hi => (hkr i k hi).below hB)
        · obtain rfl : j = 0 := by omega
          have hk0 : ks = [] := List.length_eq_zero_iff.1 HKL.out
          subst hk0
          exact ⟨[], Rd.nil _ _, rfl, fun i v hv => by simp at hv⟩
      have HSA := Lib.hid (sealAll_any B T d 480 j cT body ks.reverse wr (HBD.out.below hB) hd HTD.out HKS.out (by omega) (by omega) hm)
      have HBL := Lib.hid hbl
      have HBE := Lib.hid hB
      clear hown hbl hB hx HKS HTD
      go_wp2_with (first
        | (go_at_call 40; (with_reducible refine HSA.out.mono ?_); rintro e w7 ⟨A7, c7, rfl, hc7, hr7, hB7⟩
           have HE7 := Lib.hid (HBE.out.trans (hB7.mono HBE.out.size))
           have HB7 := Lib.hid (HBL.out.below hB7 HBL.out.lt)
           have HR7 := Lib.hid hr7
           have HOW7 : Hid (Rd w7 (some ⟨w.heap.size, 16, none⟩) 32 (u8s own)) := (by have h8 := HB7.out.rd 16 32 (by rw [CLN.out]; omega); rw [COW.out] at h8; exact h8)
           clear hr7 hB7)
        | (go_at_call 41; (with_reducible refine (HOP.out w7 w.heap.size A7 c7 (by exact HOW7.out) (by exact HR7.out) (by omega)).mono ?_); rintro e w8 ⟨g8, c8, rfl, hc8, hg8, hr8, hB8⟩
           have HE8 := Lib.hid (HE7.out.trans (hB8.mono HE7.out.size))
           have HR8 := Lib.hid hr8
           clear hr8 hB8)
        | (go_at_call 42; (with_reducible refine (HPS.out _ g8 c8 (by exact HR8.out) (by omega)).mono ?_); rintro e w9 ⟨A9, c9, rfl, hr9, hB9⟩
           have HE9 := Lib.hid (HE8.out.trans (hB9.mono HE8.out.size))
           have HR9 := Lib.hid hr9
           clear hB9 hr9))
      go_ret2
      exact ⟨rfl, HE9.out.alloc HE9.out.size _⟩


set_option maxRecDepth 100000 in
set_option maxHeartbeats 4000000 in
theorem dec_ok (mark own : List UInt8) (A : Option Addr) (m c : Nat) (ks : List (List UInt8)) (B : Option Addr) (d : Nat) (body : List UInt8) (w : World) (h1 : mark.length = 16) (h2 : own.length = 32) (hp : PaysR w A m ks) (hm : m ≤ 1000) (hb : Rd w B 480 (u8s body)) (hd : 480 ≤ d) (he : perr (dplain own ks body) = 0) (hk3 : fK (dplain own ks body) = 3) :
    Calls Try.prog 15 #[.agg (stC mark own A m c).toArray, .slice B 480 d] w fun e w' => ∃ A' n c', e = .returned (.tuple #[.slice A' n c', .int .i64 0]) ∧ Rd w' A' n (u8s (fData (dplain own ks body))) ∧ n ≤ 450 ∧ Below w.heap.size w w' := by
  have HP0 := Lib.hid hp
  have HBD := Lib.hid hb
  have hbl : body.length = 480 := hb.len
  have hsl : (sealAll ks.reverse body).length = 480 := by rw [sealAll_len _ _ (by omega), hbl]
  have C48 := Lib.hid (stC_48 mark own A m c h1 h2)
  have COW := Lib.hid (stC_own mark own A m c h1 h2)
  have CLN := Lib.hid (stC_len mark own A m c h1 h2)
  have HOP : Hid (∀ W S D y, Rd W (some ⟨S, 16, none⟩) 32 (u8s own) → Rd W D 480 (u8s (sealAll ks.reverse body)) → 480 ≤ y → Calls Try.prog 41 #[.slice (some ⟨S, 16, none⟩) 32 32, .slice D 480 y] W fun e w' => ∃ g c', e = .returned (.tuple #[.slice (some ⟨g, 0, none⟩) 480 c', .int .i64 0]) ∧ 480 ≤ c' ∧ W.heap.size ≤ g ∧ Rd w' (some ⟨g, 0, none⟩) 480 (u8s (dplain own ks body)) ∧ Below W.heap.size W w') :=
    fun W S D y h5 h6 hy => open_any (some ⟨S, 16, none⟩) D 32 y 480 own _ W h5 (by omega) h6 hy (by omega) (by omega)
  obtain ⟨X, hX⟩ : ∃ X, X = dplain own ks body := ⟨_, rfl⟩
  rw [← hX] at HOP he hk3 ⊢
  have HPS : Hid (∀ W g y, Rd W (some ⟨g, 0, none⟩) 480 (u8s X) → 480 ≤ y → Calls Try.prog 42 #[.slice (some ⟨g, 0, none⟩) 480 y] W fun e w' => ∃ A' n', e = .returned (.tuple #[.agg #[.int .u8 3, .int .u64 (fD X), .int .i64 (fI X), .int .i64 (fC X), .slice A' (fN X) n'], .int .i64 0]) ∧ Rd w' A' (fN X) (u8s (fData X)) ∧ Below W.heap.size W w') :=
    fun W g y h5 hy => (by have h7 := fparse_okk (some ⟨g, 0, none⟩) y X W h5 hy he; rw [hk3] at h7; exact h7)
  obtain ⟨_, hka, hkb, _, hnx, _, _⟩ := perr_ok he
  obtain ⟨C, hC⟩ : ∃ C, C = stC mark own A m c := ⟨_, rfl⟩
  rw [← hC] at C48 COW CLN ⊢
  have HKL := Lib.hid hp.1
  have HK32 := Lib.hid hp.2.1
  obtain ⟨bA, oA, HPA⟩ : ∃ bA oA, Hid (0 < m → A = some ⟨bA, oA, none⟩ ∧ ∀ i k, ks[i]? = some k → Rd w (some ⟨bA, oA + i * 32, none⟩) 32 (u8s k)) := by
    by_cases hm0 : 0 < m
    · obtain ⟨bA, oA, e, hr⟩ := hp.2.2 hm0
      exact ⟨bA, oA, fun _ => ⟨e, hr⟩⟩
    · exact ⟨0, 0, fun h => absurd h hm0⟩
  clear hX hC hp hb hbl hsl h1 h2 he
  go_enter Try.func15, Try.ntmps15
  have HB0 : Hid (Blk (w.alloc (.cells C.toArray 47)) w.heap.size 47 C) := Blk.new w _ _
  have HE0 : Hid (Below w.heap.size w (w.alloc (.cells C.toArray 47))) := (Below.refl _ _).alloc (Nat.le_refl _) _
  have c48 : (w.alloc (.cells C.toArray 47)).cell? ⟨w.heap.size, 48, none⟩ = some (.slice A m c) := (HB0.out.cell 48).trans C48.out
  go_wp2_with (refine wpList_make1 rfl (.const (.int .i64 0)) (.tmp 17) 84 rfl 22 (.slice none 0 0) 24 Try.underlying84 iSl rfl .i64 .i64 0 (m : Int) (by rfl) (by rfl) 0 m rfl rfl (by omega) (by omega) (by omega) ?_
               intro w1 hb1 hg1 hs1
               have HO1 := Lib.hid (show w1.ownsRow (w.heap.size + 1) 22 1 (.slice (some ⟨w.heap.size + 1, 0, none⟩) 0 m) 0 [] from (by have h5 := own_of_blk (base := w.heap.size + 1) hb1 (by simp) 0 m 1 (by omega) (by simp [rep_length]) (by omega); simpa using h5))
               have HB1 := Lib.hid (HB0.out.below (grown_below hg1) HB0.out.lt)
               have HE1 := Lib.hid (HE0.out.trans ((grown_below hg1).mono (by simp)))
               have d48 : w1.cell? ⟨w.heap.size, 48, none⟩ = some (.slice A m c) := (HB1.out.cell 48).trans C48.out
               clear hb1 hg1 hs1)
  go_loopg [6, 7] m (fun kk v q wr => ∃ (j : Nat) (x : Int), j ≤ m ∧ kk = m - j ∧ x = (m : Int) - 1 - (j : Int) ∧ q = .int .i64 x ∧ (∃ T cT, v = .slice T j cT ∧ j ≤ cT ∧ wr.ownsRow (w.heap.size + 1) 22 1 (.slice T j cT) j (turnedV bA oA m j)) ∧ Blk wr w.heap.size 47 C ∧ Below w.heap.size w wr)
  case atStart => exact ⟨0, (m : Int) - 1, by omega, rfl, by simp, rfl, ⟨_, m, rfl, by omega, HO1.out⟩, HB1.out, HE1.out⟩
  case round =>
    clear HO1 HB1 HE1 HB0 HE0 c48 d48
    obtain ⟨j, x, hj, hgk, hx, rfl, ⟨T, cT, rfl, hcT, hown⟩, hbl, hB⟩ := hrel
    have HGK := Lib.hid hgk
    clear hgk
    by_cases hlt : j < m
    · obtain ⟨t, ht⟩ : ∃ t, m = t + 1 + j := ⟨m - 1 - j, by omega⟩
      obtain rfl : x = (t : Int) := by omega
      have ht0 : (0 : Int) ≤ (t : Int) := by omega
      have htm : (t : Int) < (m : Int) := by omega
      obtain ⟨rfl, hkr⟩ := HPA.out (by omega)
      have HST : Hid (turnedV bA oA m (j + 1) = turnedV bA oA m j ++ [.slice (some ⟨bA, oA + t * 32, none⟩) 32 32]) := by show _ = _; rw [turnedV, show m - 1 - j = t by omega]
      have e48 : wr.cell? ⟨w.heap.size, 48, none⟩ = some (.slice (some ⟨bA, oA, none⟩) m c) := (hbl.cell 48).trans C48.out
      have HT := Lib.hid ht
      have HBL := Lib.hid hbl
      have HBE := Lib.hid hB
      have HOW := Lib.hid hown
      clear hx ht hbl hB hown hkr
      go_wp2_with (at_builtin; refine wpList_app rfl (.tmp 27) (.tmp 33) 84 rfl (w.heap.size + 1) 22 1 24 Try.underlying84 eSl (.slice T j cT) j (turnedV bA oA m j) (by rfl) (by exact HOW.out.alloc _) (some ⟨wr.heap.size, 0, none⟩) 1 1 [.slice (some ⟨bA, oA + t * 32, none⟩) 32 32] (by rfl) (by exact RdS.new wr 22 [.slice (some ⟨bA, oA + t * 32, none⟩) 32 32] 1 rfl) (fun v hv => by rw [List.mem_singleton] at hv; subst hv; rfl) (by omega) (by omega) (by have := HBL.out.lt; simp; omega) ?_
                   intro A4 c4 w4 hown4 hc4 hg4 hat4
                   have HO4 := Lib.hid hown4
                   rw [← HST.out] at HO4
                   have HB4 := Lib.hid ((HBL.out.alloc _).grown hg4 (fun e => by have := (HOW.out.lt _ e.symm).1; omega))
                   have HE4 := Lib.hid ((HBE.out.alloc HBE.out.size _).grown hg4 (Nat.le_trans HBE.out.size (by simp)) (fun k hk => by have := (HOW.out.lt k hk).1; omega))
                   clear hown4 hg4 hat4)
      go_roundg (m - (j + 1))
      case measure => have := HGK.out; omega
      case rel => exact ⟨j + 1, (t : Int) - 1, by omega, rfl, by have := HT.out; omega, rfl, ⟨A4, c4, rfl, by omega, HO4.out⟩, HB4.out, HE4.out⟩
    · obtain rfl : j = m := by omega
      obtain rfl : x = -1 := by omega
      have HKS : Hid (∀ k ∈ ks.reverse, k.length = 32) := fun k hk => HK32.out k (List.mem_reverse.1 hk)
      have HTD : Hid (RdB wr T j ks.reverse) := by
        by_cases hj0 : 0 < j
        · obtain ⟨_, hkr⟩ := HPA.out hj0
          exact turned_rdb (Rd.of_own hown) HKL.out (fun i k hi => (hkr i k hi).below hB)
        · obtain rfl : j = 0 := by omega
          have hk0 : ks = [] := List.length_eq_zero_iff.1 HKL.out
          subst hk0
          exact ⟨[], Rd.nil _ _, rfl, fun i v hv => by simp at hv⟩
      have HSA := Lib.hid (sealAll_any B T d 480 j cT body ks.reverse wr (HBD.out.below hB) hd HTD.out HKS.out (by omega) (by omega) hm)
      have HBL := Lib.hid hbl
      have HBE := Lib.hid hB
      clear hown hbl hB hx HKS HTD
      go_wp2_with (first
        | (go_at_call 40; (with_reducible refine HSA.out.mono ?_); rintro e w7 ⟨A7, c7, rfl, hc7, hr7, hB7⟩
           have HE7 := Lib.hid (HBE.out.trans (hB7.mono HBE.out.size))
           have HB7 := Lib.hid (HBL.out.below hB7 HBL.out.lt)
           have HR7 := Lib.hid hr7
           have HOW7 : Hid (Rd w7 (some ⟨w.heap.size, 16, none⟩) 32 (u8s own)) := (by have h8 := HB7.out.rd 16 32 (by rw [CLN.out]; omega); rw [COW.out] at h8; exact h8)
           clear hr7 hB7)
        | (go_at_call 41; (with_reducible refine (HOP.out w7 w.heap.size A7 c7 (by exact HOW7.out) (by exact HR7.out) (by omega)).mono ?_); rintro e w8 ⟨g8, c8, rfl, hc8, hg8, hr8, hB8⟩
           have HE8 := Lib.hid (HE7.out.trans (hB8.mono HE7.out.size))
           have HR8 := Lib.hid hr8
           clear hr8 hB8)
        | (go_at_call 42; (with_reducible refine (HPS.out _ g8 c8 (by exact HR8.out) (by omega)).mono ?_); rintro e w9 ⟨A9, c9, rfl, hr9, hB9⟩
           have HE9 := Lib.hid (HE8.out.trans (hB9.mono HE8.out.size))
           have HR9 := Lib.hid hr9
           clear hB9 hr9))
      go_ret2
      exact ⟨A9, fN X, c9, rfl, HR9.out.alloc _, hnx, HE9.out.alloc HE9.out.size _⟩


end Go.Proofs.Ytgkhglnfbhdkeaa
