/- shallotref16.Decode. -/
import Derived.Test.YtgkhglnfbhdkeaaDec2
import Derived.Test.YtgkhglnfbhdkeaaR13
import Derived.Test.YtgkhglnfbhdkeaaR71
namespace Go.Proofs.Ytgkhglnfbhdkeaa
open Go.RowKit

set_option maxRecDepth 100000 in
set_option maxHeartbeats 4000000 in
theorem rdec_err (mark own : List UInt8) (A : Option Addr) (m c : Nat) (ks : List (List UInt8)) (B : Option Addr) (d : Nat) (body : List UInt8) (w : World) (h1 : mark.length = 16) (h2 : own.length = 32) (hp : PaysR w A m ks) (hm : m ≤ 1000) (hb : Rd w B 480 (u8s body)) (he : perr (dplain own ks body) ≠ 0) :
    Calls Try.prog 17 #[.agg (stC mark own A m c).toArray, .slice B 480 d] w fun e w' => e = .returned (.tuple #[.slice none 0 0, .int .i64 (perr (dplain own ks body))]) ∧ Below w.heap.size w w' := by
  have HP0 := Lib.hid hp
  have HBD := Lib.hid hb
  have hbl : body.length = 480 := hb.len
  have hsl : (sealAll ks.reverse body).length = 480 := by rw [sealAll_len _ _ (by omega), hbl]
  have C48 := Lib.hid (stC_48 mark own A m c h1 h2)
  have COW := Lib.hid (stC_own mark own A m c h1 h2)
  have CLN := Lib.hid (stC_len mark own A m c h1 h2)
  have HOP : Hid (∀ W S D y, Rd W (some ⟨S, 16, none⟩) 32 (u8s own) → Rd W D 480 (u8s (sealAll ks.reverse body)) → 480 ≤ y → Calls Try.prog 43 #[.slice (some ⟨S, 16, none⟩) 32 32, .slice D 480 y] W fun e w' => ∃ g c', e = .returned (.tuple #[.slice (some ⟨g, 0, none⟩) 480 c', .int .i64 0]) ∧ 480 ≤ c' ∧ W.heap.size ≤ g ∧ Rd w' (some ⟨g, 0, none⟩) 480 (u8s (dplain own ks body)) ∧ Below W.heap.size W w') :=
    fun W S D y h5 h6 hy => ropen_any (some ⟨S, 16, none⟩) D 32 y 480 own _ W h5 h6 hy (by omega) (by omega)
  obtain ⟨X, hX⟩ : ∃ X, X = dplain own ks body := ⟨_, rfl⟩
  rw [← hX] at HOP he ⊢
  have HPS : Hid (∀ W g y, Rd W (some ⟨g, 0, none⟩) 480 (u8s X) → 480 ≤ y → Calls Try.prog 44 #[.slice (some ⟨g, 0, none⟩) 480 y] W fun e w' => e = .returned (.tuple #[.agg #[.int .u8 0, .int .u64 0, .int .i64 0, .int .i64 0, .slice none 0 0], .int .i64 (perr X)]) ∧ Below W.heap.size W w') :=
    fun W g y h5 hy => rfparse_err (some ⟨g, 0, none⟩) y X W h5 hy he
  have hne : (perr X != 0) = true := by rw [bne_iff_ne]; exact he
  obtain ⟨C, hC⟩ : ∃ C, C = stC mark own A m c := ⟨_, rfl⟩
  rw [← hC] at C48 COW CLN ⊢
  have HKL := Lib.hid hp.1
  have HK32 := Lib.hid hp.2.1
  obtain ⟨bA, oA, HPA⟩ : ∃ bA oA, Hid (0 < m → A = some ⟨bA, oA, none⟩ ∧ ∀ i k, ks[i]? = some k → Rd w (some ⟨bA, oA + i * 32, none⟩) 32 (u8s k)) := by
    by_cases hm0 : 0 < m
    · obtain ⟨bA, oA, e, hr⟩ := hp.2.2 hm0
      exact ⟨bA, oA, fun _ => ⟨e, hr⟩⟩
    · exact ⟨0, 0, fun h => absurd h hm0⟩
  clear hX hC hp hb hbl hsl h1 h2 he
  have HC := Lib.hid (fun W (hr : Rd W B 480 (u8s body)) => copy_any B 480 d body W hr (by omega))
  go_enter Try.func17, Try.ntmps17
  have HB0 : Hid (Blk (w.alloc (.cells C.toArray 47)) w.heap.size 47 C) := Blk.new w _ _
  have HE0 : Hid (Below w.heap.size w (w.alloc (.cells C.toArray 47))) := (Below.refl _ _).alloc (Nat.le_refl _) _
  go_wp2_with (go_at_call 11; (with_reducible refine (HC.out _ (by exact HBD.out.alloc _)).mono ?_); rintro e w1 ⟨A1, c1, rfl, hc1, hown1, hB1⟩
               have HB1 := Lib.hid (HB0.out.below hB1 HB0.out.lt)
               have HE1 := Lib.hid (HE0.out.trans (hB1.mono HE0.out.size))
               have d48 : w1.cell? ⟨w.heap.size, 48, none⟩ = some (.slice A m c) := (HB1.out.cell 48).trans C48.out
               have HR1 := Lib.hid (Rd.of_own hown1)
               clear hB1 hown1)
  go_loopg [6, 7] m (fun kk v q wr => ∃ (j : Nat) (x : Int), j ≤ m ∧ kk = m - j ∧ x = (m : Int) - 1 - (j : Int) ∧ q = .int .i64 x ∧ (∃ T cT, v = .slice T 480 cT ∧ 480 ≤ cT ∧ Rd wr T 480 (u8s (sealAll (ks.reverse.take j) body))) ∧ Blk wr w.heap.size 47 C ∧ Below w.heap.size w wr)
  case atStart => exact ⟨0, (m : Int) - 1, by omega, rfl, by simp, rfl, ⟨A1, c1, rfl, hc1, HR1.out⟩, HB1.out, HE1.out⟩
  case round =>
    clear HR1 HB1 HE1 HB0 HE0 d48
    obtain ⟨j, x, hj, hgk, hx, rfl, ⟨T, cT, rfl, hcT, hrd⟩, hbl, hB⟩ := hrel
    have HGK := Lib.hid hgk
    clear hgk
    by_cases hlt : j < m
    · obtain ⟨t, ht⟩ : ∃ t, m = t + 1 + j := ⟨m - 1 - j, by omega⟩
      obtain rfl : x = (t : Int) := by omega
      have ht0 : (0 : Int) ≤ (t : Int) := by omega
      have htm : (t : Int) < (m : Int) := by omega
      obtain ⟨rfl, hkr⟩ := HPA.out (by omega)
      obtain ⟨k, hk⟩ : ∃ k, ks[t]? = some k := ⟨_, List.getElem?_eq_getElem (by have := HKL.out; omega)⟩
      have HSN := Lib.hid (sealAll_next body (rev_at (j := j) (by have := HKL.out; omega) hk))
      have e48 : wr.cell? ⟨w.heap.size, 48, none⟩ = some (.slice (some ⟨bA, oA, none⟩) m c) := (hbl.cell 48).trans C48.out
      have HSE := Lib.hid (rseal_any (some ⟨bA, oA + t * 32, none⟩) T 32 cT 480 k (sealAll (ks.reverse.take j) body) wr ((hkr t k hk).below hB) hrd hcT (by omega) (by omega))
      rw [← HSN.out] at HSE
      have HT := Lib.hid ht
      have HBL := Lib.hid hbl
      have HBE := Lib.hid hB
      clear hx ht hbl hB hrd hkr hk HSN
      go_wp2_with (go_at_call 38; (with_reducible refine HSE.out.mono ?_); rintro e w5 ⟨g5, c5, rfl, hc5, hg5, hr5, hB5⟩
                   have HR5 := Lib.hid hr5
                   have HB5 := Lib.hid (HBL.out.below hB5 HBL.out.lt)
                   have HE5 := Lib.hid (HBE.out.trans (hB5.mono HBE.out.size))
                   clear hr5 hB5 hg5)
      go_roundg (m - (j + 1))
      case measure => have := HGK.out; omega
      case rel => exact ⟨j + 1, (t : Int) - 1, by omega, rfl, by have := HT.out; omega, rfl, ⟨_, c5, rfl, hc5, HR5.out⟩, HB5.out, HE5.out⟩
    · obtain rfl : j = m := by omega
      obtain rfl : x = -1 := by omega
      rw [List.take_of_length_le (by rw [List.length_reverse, HKL.out]; exact Nat.le_refl _)] at hrd
      have HB7 := Lib.hid hbl
      have HE7 := Lib.hid hB
      have HR7 := Lib.hid hrd
      have HOW7 : Hid (Rd wr (some ⟨w.heap.size, 16, none⟩) 32 (u8s own)) := by
        have h8 := hbl.rd 16 32 (by rw [CLN.out]; omega)
        rw [COW.out] at h8
        exact h8
      clear hbl hB hx hrd
      go_wp2_with (first
        | (go_at_call 43; (with_reducible refine (HOP.out wr w.heap.size T cT (by exact HOW7.out) (by exact HR7.out) (by omega)).mono ?_); rintro e w8 ⟨g8, c8, rfl, hc8, hg8, hr8, hB8⟩
           have HE8 := Lib.hid (HE7.out.trans (hB8.mono HE7.out.size))
           have HR8 := Lib.hid hr8
           clear hr8 hB8)
        | (go_at_call 44; (with_reducible refine (HPS.out _ g8 c8 (by exact HR8.out) (by omega)).mono ?_); rintro e w9 ⟨rfl, hB9⟩
           have HE9 := Lib.hid (HE8.out.trans (hB9.mono HE8.out.size))
           clear hB9))
      go_ret2
      exact ⟨rfl, HE9.out.alloc HE9.out.size _⟩

set_option maxRecDepth 100000 in
set_option maxHeartbeats 4000000 in
theorem rdec_kind (mark own : List UInt8) (A : Option Addr) (m c : Nat) (ks : List (List UInt8)) (B : Option Addr) (d : Nat) (body : List UInt8) (w : World) (h1 : mark.length = 16) (h2 : own.length = 32) (hp : PaysR w A m ks) (hm : m ≤ 1000) (hb : Rd w B 480 (u8s body)) (he : perr (dplain own ks body) = 0) (hk3 : fK (dplain own ks body) ≠ 3) :
    Calls Try.prog 17 #[.agg (stC mark own A m c).toArray, .slice B 480 d] w fun e w' => e = .returned (.tuple #[.slice none 0 0, .int .i64 10]) ∧ Below w.heap.size w w' := by
  have HP0 := Lib.hid hp
  have HBD := Lib.hid hb
  have hbl : body.length = 480 := hb.len
  have hsl : (sealAll ks.reverse body).length = 480 := by rw [sealAll_len _ _ (by omega), hbl]
  have C48 := Lib.hid (stC_48 mark own A m c h1 h2)
  have COW := Lib.hid (stC_own mark own A m c h1 h2)
  have CLN := Lib.hid (stC_len mark own A m c h1 h2)
  have HOP : Hid (∀ W S D y, Rd W (some ⟨S, 16, none⟩) 32 (u8s own) → Rd W D 480 (u8s (sealAll ks.reverse body)) → 480 ≤ y → Calls Try.prog 43 #[.slice (some ⟨S, 16, none⟩) 32 32, .slice D 480 y] W fun e w' => ∃ g c', e = .returned (.tuple #[.slice (some ⟨g, 0, none⟩) 480 c', .int .i64 0]) ∧ 480 ≤ c' ∧ W.heap.size ≤ g ∧ Rd w' (some ⟨g, 0, none⟩) 480 (u8s (dplain own ks body)) ∧ Below W.heap.size W w') :=
    fun W S D y h5 h6 hy => ropen_any (some ⟨S, 16, none⟩) D 32 y 480 own _ W h5 h6 hy (by omega) (by omega)
  obtain ⟨X, hX⟩ : ∃ X, X = dplain own ks body := ⟨_, rfl⟩
  rw [← hX] at HOP he hk3
  have HPS : Hid (∀ W g y, Rd W (some ⟨g, 0, none⟩) 480 (u8s X) → 480 ≤ y → Calls Try.prog 44 #[.slice (some ⟨g, 0, none⟩) 480 y] W fun e w' => ∃ A' n', e = .returned (.tuple #[.agg #[.int .u8 (fK X), .int .u64 (fD X), .int .i64 (fI X), .int .i64 (fC X), .slice A' (fN X) n'], .int .i64 0]) ∧ Rd w' A' (fN X) (u8s (fData X)) ∧ Below W.heap.size W w') :=
    fun W g y h5 hy => rfparse_ok (some ⟨g, 0, none⟩) y X W h5 hy he
  obtain ⟨_, hka, hkb, _, hnx, _, _⟩ := perr_ok he
  have hne : ((fK X : Int) != 3) = true := by rw [bne_iff_ne]; omega
  obtain ⟨C, hC⟩ : ∃ C, C = stC mark own A m c := ⟨_, rfl⟩
  rw [← hC] at C48 COW CLN ⊢
  have HKL := Lib.hid hp.1
  have HK32 := Lib.hid hp.2.1
  obtain ⟨bA, oA, HPA⟩ : ∃ bA oA, Hid (0 < m → A = some ⟨bA, oA, none⟩ ∧ ∀ i k, ks[i]? = some k → Rd w (some ⟨bA, oA + i * 32, none⟩) 32 (u8s k)) := by
    by_cases hm0 : 0 < m
    · obtain ⟨bA, oA, e, hr⟩ := hp.2.2 hm0
      exact ⟨bA, oA, fun _ => ⟨e, hr⟩⟩
    · exact ⟨0, 0, fun h => absurd h hm0⟩
  clear hX hC hp hb hbl hsl h1 h2 he
  have HC := Lib.hid (fun W (hr : Rd W B 480 (u8s body)) => copy_any B 480 d body W hr (by omega))
  go_enter Try.func17, Try.ntmps17
  have HB0 : Hid (Blk (w.alloc (.cells C.toArray 47)) w.heap.size 47 C) := Blk.new w _ _
  have HE0 : Hid (Below w.heap.size w (w.alloc (.cells C.toArray 47))) := (Below.refl _ _).alloc (Nat.le_refl _) _
  go_wp2_with (go_at_call 11; (with_reducible refine (HC.out _ (by exact HBD.out.alloc _)).mono ?_); rintro e w1 ⟨A1, c1, rfl, hc1, hown1, hB1⟩
               have HB1 := Lib.hid (HB0.out.below hB1 HB0.out.lt)
               have HE1 := Lib.hid (HE0.out.trans (hB1.mono HE0.out.size))
               have d48 : w1.cell? ⟨w.heap.size, 48, none⟩ = some (.slice A m c) := (HB1.out.cell 48).trans C48.out
               have HR1 := Lib.hid (Rd.of_own hown1)
               clear hB1 hown1)
  go_loopg [6, 7] m (fun kk v q wr => ∃ (j : Nat) (x : Int), j ≤ m ∧ kk = m - j ∧ x = (m : Int) - 1 - (j : Int) ∧ q = .int .i64 x ∧ (∃ T cT, v = .slice T 480 cT ∧ 480 ≤ cT ∧ Rd wr T 480 (u8s (sealAll (ks.reverse.take j) body))) ∧ Blk wr w.heap.size 47 C ∧ Below w.heap.size w wr)
  case atStart => exact ⟨0, (m : Int) - 1, by omega, rfl, by simp, rfl, ⟨A1, c1, rfl, hc1, HR1.out⟩, HB1.out, HE1.out⟩
  case round =>
    clear HR1 HB1 HE1 HB0 HE0 d48
    obtain ⟨j, x, hj, hgk, hx, rfl, ⟨T, cT, rfl, hcT, hrd⟩, hbl, hB⟩ := hrel
    have HGK := Lib.hid hgk
    clear hgk
    by_cases hlt : j < m
    · obtain ⟨t, ht⟩ : ∃ t, m = t + 1 + j := ⟨m - 1 - j, by omega⟩
      obtain rfl : x = (t : Int) := by omega
      have ht0 : (0 : Int) ≤ (t : Int) := by omega
      have htm : (t : Int) < (m : Int) := by omega
      obtain ⟨rfl, hkr⟩ := HPA.out (by omega)
      obtain ⟨k, hk⟩ : ∃ k, ks[t]? = some k := ⟨_, List.getElem?_eq_getElem (by have := HKL.out; omega)⟩
      have HSN := Lib.hid (sealAll_next body (rev_at (j := j) (by have := HKL.out; omega) hk))
      have e48 : wr.cell? ⟨w.heap.size, 48, none⟩ = some (.slice (some ⟨bA, oA, none⟩) m c) := (hbl.cell 48).trans C48.out
      have HSE := Lib.hid (rseal_any (some ⟨bA, oA + t * 32, none⟩) T 32 cT 480 k (sealAll (ks.reverse.take j) body) wr ((hkr t k hk).below hB) hrd hcT (by omega) (by omega))
      rw [← HSN.out] at HSE
      have HT := Lib.hid ht
      have HBL := Lib.hid hbl
      have HBE := Lib.hid hB
      clear hx ht hbl hB hrd hkr hk HSN
      go_wp2_with (go_at_call 38; (with_reducible refine HSE.out.mono ?_); rintro e w5 ⟨g5, c5, rfl, hc5, hg5, hr5, hB5⟩
                   have HR5 := Lib.hid hr5
                   have HB5 := Lib.hid (HBL.out.below hB5 HBL.out.lt)
                   have HE5 := Lib.hid (HBE.out.trans (hB5.mono HBE.out.size))
                   clear hr5 hB5 hg5)
      go_roundg (m - (j + 1))
      case measure => have := HGK.out; omega
      case rel => exact ⟨j + 1, (t : Int) - 1, by omega, rfl, by have := HT.out; omega, rfl, ⟨_, c5, rfl, hc5, HR5.out⟩, HB5.out, HE5.out⟩
    · obtain rfl : j = m := by omega
      obtain rfl : x = -1 := by omega
      rw [List.take_of_length_le (by rw [List.length_reverse, HKL.out]; exact Nat.le_refl _)] at hrd
      have HB7 := Lib.hid hbl
      have HE7 := Lib.hid hB
      have HR7 := Lib.hid hrd
      have HOW7 : Hid (Rd wr (some ⟨w.heap.size, 16, none⟩) 32 (u8s own)) := by
        have h8 := hbl.rd 16 32 (by rw [CLN.out]; omega)
        rw [COW.out] at h8
        exact h8
      clear hbl hB hx hrd
      go_wp2_with (first
        | (go_at_call 43; (with_reducible refine (HOP.out wr w.heap.size T cT (by exact HOW7.out) (by exact HR7.out) (by omega)).mono ?_); rintro e w8 ⟨g8, c8, rfl, hc8, hg8, hr8, hB8⟩
           have HE8 := Lib.hid (HE7.out.trans (hB8.mono HE7.out.size))
           have HR8 := Lib.hid hr8
           clear hr8 hB8)
        | (go_at_call 44; (with_reducible refine (HPS.out _ g8 c8 (by exact HR8.out) (by omega)).mono ?_); rintro e w9 ⟨A9, c9, rfl, hr9, hB9⟩
           have HE9 := Lib.hid (HE8.out.trans (hB9.mono HE8.out.size))
           have HR9 := Lib.hid hr9
           clear hB9 hr9))
      go_ret2
      exact ⟨rfl, HE9.out.alloc HE9.out.size _⟩

set_option maxRecDepth 100000 in
set_option maxHeartbeats 4000000 in
theorem rdec_ok (mark own : List UInt8) (A : Option Addr) (m c : Nat) (ks : List (List UInt8)) (B : Option Addr) (d : Nat) (body : List UInt8) (w : World) (h1 : mark.length = 16) (h2 : own.length = 32) (hp : PaysR w A m ks) (hm : m ≤ 1000) (hb : Rd w B 480 (u8s body)) (he : perr (dplain own ks body) = 0) (hk3 : fK (dplain own ks body) = 3) :
    Calls Try.prog 17 #[.agg (stC mark own A m c).toArray, .slice B 480 d] w fun e w' => ∃ A' n c', e = .returned (.tuple #[.slice A' n c', .int .i64 0]) ∧ Rd w' A' n (u8s (fData (dplain own ks body))) ∧ n ≤ 450 ∧ Below w.heap.size w w' := by
  have HP0 := Lib.hid hp
  have HBD := Lib.hid hb
  have hbl : body.length = 480 := hb.len
  have hsl : (sealAll ks.reverse body).length = 480 := by rw [sealAll_len _ _ (by omega), hbl]
  have C48 := Lib.hid (stC_48 mark own A m c h1 h2)
  have COW := Lib.hid (stC_own mark own A m c h1 h2)
  have CLN := Lib.hid (stC_len mark own A m c h1 h2)
  have HOP : Hid (∀ W S D y, Rd W (some ⟨S, 16, none⟩) 32 (u8s own) → Rd W D 480 (u8s (sealAll ks.reverse body)) → 480 ≤ y → Calls Try.prog 43 #[.slice (some ⟨S, 16, none⟩) 32 32, .slice D 480 y] W fun e w' => ∃ g c', e = .returned (.tuple #[.slice (some ⟨g, 0, none⟩) 480 c', .int .i64 0]) ∧ 480 ≤ c' ∧ W.heap.size ≤ g ∧ Rd w' (some ⟨g, 0, none⟩) 480 (u8s (dplain own ks body)) ∧ Below W.heap.size W w') :=
    fun W S D y h5 h6 hy => ropen_any (some ⟨S, 16, none⟩) D 32 y 480 own _ W h5 h6 hy (by omega) (by omega)
  obtain ⟨X, hX⟩ : ∃ X, X = dplain own ks body := ⟨_, rfl⟩
  rw [← hX] at HOP he hk3 ⊢
  have HPS : Hid (∀ W g y, Rd W (some ⟨g, 0, none⟩) 480 (u8s X) → 480 ≤ y → Calls Try.prog 44 #[.slice (some ⟨g, 0, none⟩) 480 y] W fun e w' => ∃ A' n', e = .returned (.tuple #[.agg #[.int .u8 3, .int .u64 (fD X), .int .i64 (fI X), .int .i64 (fC X), .slice A' (fN X) n'], .int .i64 0]) ∧ Rd w' A' (fN X) (u8s (fData X)) ∧ Below W.heap.size W w') :=
    fun W g y h5 hy => (by have h7 := rfparse_ok (some ⟨g, 0, none⟩) y X W h5 hy he; rw [hk3] at h7; exact h7)
  obtain ⟨_, hka, hkb, _, hnx, _, _⟩ := perr_ok he
  obtain ⟨C, hC⟩ : ∃ C, C = stC mark own A m c := ⟨_, rfl⟩
  rw [← hC] at C48 COW CLN ⊢
  have HKL := Lib.hid hp.1
  have HK32 := Lib.hid hp.2.1
  obtain ⟨bA, oA, HPA⟩ : ∃ bA oA, Hid (0 < m → A = some ⟨bA, oA, none⟩ ∧ ∀ i k, ks[i]? = some k → Rd w (some ⟨bA, oA + i * 32, none⟩) 32 (u8s k)) := by
    by_cases hm0 : 0 < m
    · obtain ⟨bA, oA, e, hr⟩ := hp.2.2 hm0
      exact ⟨bA, oA, fun _ => ⟨e, hr⟩⟩
    · exact ⟨0, 0, fun h => absurd h hm0⟩
  clear hX hC hp hb hbl hsl h1 h2 he
  have HC := Lib.hid (fun W (hr : Rd W B 480 (u8s body)) => copy_any B 480 d body W hr (by omega))
  go_enter Try.func17, Try.ntmps17
  have HB0 : Hid (Blk (w.alloc (.cells C.toArray 47)) w.heap.size 47 C) := Blk.new w _ _
  have HE0 : Hid (Below w.heap.size w (w.alloc (.cells C.toArray 47))) := (Below.refl _ _).alloc (Nat.le_refl _) _
  go_wp2_with (go_at_call 11; (with_reducible refine (HC.out _ (by exact HBD.out.alloc _)).mono ?_); rintro e w1 ⟨A1, c1, rfl, hc1, hown1, hB1⟩
               have HB1 := Lib.hid (HB0.out.below hB1 HB0.out.lt)
               have HE1 := Lib.hid (HE0.out.trans (hB1.mono HE0.out.size))
               have d48 : w1.cell? ⟨w.heap.size, 48, none⟩ = some (.slice A m c) := (HB1.out.cell 48).trans C48.out
               have HR1 := Lib.hid (Rd.of_own hown1)
               clear hB1 hown1)
  go_loopg [6, 7] m (fun kk v q wr => ∃ (j : Nat) (x : Int), j ≤ m ∧ kk = m - j ∧ x = (m : Int) - 1 - (j : Int) ∧ q = .int .i64 x ∧ (∃ T cT, v = .slice T 480 cT ∧ 480 ≤ cT ∧ Rd wr T 480 (u8s (sealAll (ks.reverse.take j) body))) ∧ Blk wr w.heap.size 47 C ∧ Below w.heap.size w wr)
  case atStart => exact ⟨0, (m : Int) - 1, by omega, rfl, by simp, rfl, ⟨A1, c1, rfl, hc1, HR1.out⟩, HB1.out, HE1.out⟩
  case round =>
    clear HR1 HB1 HE1 HB0 HE0 d48
    obtain ⟨j, x, hj, hgk, hx, rfl, ⟨T, cT, rfl, hcT, hrd⟩, hbl, hB⟩ := hrel
    have HGK := Lib.hid hgk
    clear hgk
    by_cases hlt : j < m
    · obtain ⟨t, ht⟩ : ∃ t, m = t + 1 + j := ⟨m - 1 - j, by omega⟩
      obtain rfl : x = (t : Int) := by omega
      have ht0 : (0 : Int) ≤ (t : Int) := by omega
      have htm : (t : Int) < (m : Int) := by omega
      obtain ⟨rfl, hkr⟩ := HPA.out (by omega)
      obtain ⟨k, hk⟩ : ∃ k, ks[t]? = some k := ⟨_, List.getElem?_eq_getElem (by have := HKL.out; omega)⟩
      have HSN := Lib.hid (sealAll_next body (rev_at (j := j) (by have := HKL.out; omega) hk))
      have e48 : wr.cell? ⟨w.heap.size, 48, none⟩ = some (.slice (some ⟨bA, oA, none⟩) m c) := (hbl.cell 48).trans C48.out
      have HSE := Lib.hid (rseal_any (some ⟨bA, oA + t * 32, none⟩) T 32 cT 480 k (sealAll (ks.reverse.take j) body) wr ((hkr t k hk).below hB) hrd hcT (by omega) (by omega))
      rw [← HSN.out] at HSE
      have HT := Lib.hid ht
      have HBL := Lib.hid hbl
      have HBE := Lib.hid hB
      clear hx ht hbl hB hrd hkr hk HSN
      go_wp2_with (go_at_call 38; (with_reducible refine HSE.out.mono ?_); rintro e w5 ⟨g5, c5, rfl, hc5, hg5, hr5, hB5⟩
                   have HR5 := Lib.hid hr5
                   have HB5 := Lib.hid (HBL.out.below hB5 HBL.out.lt)
                   have HE5 := Lib.hid (HBE.out.trans (hB5.mono HBE.out.size))
                   clear hr5 hB5 hg5)
      go_roundg (m - (j + 1))
      case measure => have := HGK.out; omega
      case rel => exact ⟨j + 1, (t : Int) - 1, by omega, rfl, by have := HT.out; omega, rfl, ⟨_, c5, rfl, hc5, HR5.out⟩, HB5.out, HE5.out⟩
    · obtain rfl : j = m := by omega
      obtain rfl : x = -1 := by omega
      rw [List.take_of_length_le (by rw [List.length_reverse, HKL.out]; exact Nat.le_refl _)] at hrd
      have HB7 := Lib.hid hbl
      have HE7 := Lib.hid hB
      have HR7 := Lib.hid hrd
      have HOW7 : Hid (Rd wr (some ⟨w.heap.size, 16, none⟩) 32 (u8s own)) := by
        have h8 := hbl.rd 16 32 (by rw [CLN.out]; omega)
        rw [COW.out] at h8
        exact h8
      clear hbl hB hx hrd
      go_wp2_with (first
        | (go_at_call 43; (with_reducible refine (HOP.out wr w.heap.size T cT (by exact HOW7.out) (by exact HR7.out) (by omega)).mono ?_); rintro e w8 ⟨g8, c8, rfl, hc8, hg8, hr8, hB8⟩
           have HE8 := Lib.hid (HE7.out.trans (hB8.mono HE7.out.size))
           have HR8 := Lib.hid hr8
           clear hr8 hB8)
        | (go_at_call 44; (with_reducible refine (HPS.out _ g8 c8 (by exact HR8.out) (by omega)).mono ?_); rintro e w9 ⟨A9, c9, rfl, hr9, hB9⟩
           have HE9 := Lib.hid (HE8.out.trans (hB9.mono HE8.out.size))
           have HR9 := Lib.hid hr9
           clear hB9 hr9))
      go_ret2
      exact ⟨A9, fN X, c9, rfl, HR9.out.alloc _, hnx, HE9.out.alloc HE9.out.size _⟩

end Go.Proofs.Ytgkhglnfbhdkeaa
