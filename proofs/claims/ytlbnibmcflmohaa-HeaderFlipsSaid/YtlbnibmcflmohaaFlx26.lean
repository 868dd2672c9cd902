/- Part of the proof: RfB. -/
import Derived.StillTailTactics
import Derived.Test.YtlbnibmcflmohaaFlx11
import Derived.Test.YtlbnibmcflmohaaFlx23
namespace Go.Proofs.Ytlbnibmcflmohaa
open Go.RowKit
theorem bytes_at (s : Sh.St) (q r : Nat) (x : UInt32) (hr : r < 4) (hx : s.list[q]? = some x) : s.bytes[4 * q + r]? = (Sh.wordBytes x)[r]? := by
  have hq : q < 8 := (List.getElem?_eq_some_iff.1 hx).1
  obtain ⟨a, b, c, d, e, f, g, h⟩ := s
  obtain rfl | rfl | rfl | rfl | rfl | rfl | rfl | rfl : q = 0 ∨ q = 1 ∨ q = 2 ∨ q = 3 ∨ q = 4 ∨ q = 5 ∨ q = 6 ∨ q = 7 := by omega
  all_goals
    simp only [Sh.St.list, List.getElem?_cons_zero, List.getElem?_cons_succ, Option.some.injEq] at hx
    subst hx
    obtain rfl | rfl | rfl | rfl : r = 0 ∨ r = 1 ∨ r = 2 ∨ r = 3 := by omega
    all_goals rfl
theorem pad_mod (n : Nat) : (n + (Sh.pad n).length) % 64 = 0 := by
  have : (Sh.pad n).length = (119 - n % 64) % 64 + 9 := by simp [Sh.pad, beBytes_len]
  omega
theorem pad_ge (n : Nat) : 9 ≤ (Sh.pad n).length := by
  have : (Sh.pad n).length = (119 - n % 64) % 64 + 9 := by simp [Sh.pad, beBytes_len]
  omega
theorem pad_le (n : Nat) : (Sh.pad n).length ≤ 72 := by
  have : (Sh.pad n).length = (119 - n % 64) % 64 + 9 := by simp [Sh.pad, beBytes_len]
  omega
set_option maxRecDepth 100000 in
set_option maxHeartbeats 4000000 in
theorem rsum_any (A : Option Addr) (n c : Nat) (l : List UInt8) (w : World) (h : Rd w A n (u8s l)) (hn : n ≤ 100000000) :
    Calls Try.prog 47 #[.slice A n c] w fun e w' => e = .returned (.agg (u8s (Sh.sha l)).toArray) ∧ Below w.heap.size w w' := by
  have hll : l.length = n := h.len
  obtain ⟨P, hP⟩ : ∃ P, P = (Sh.pad n).length := ⟨_, rfl⟩
  have hp1 := pad_mod n
  have hp2 := pad_le n
  have hp3 := pad_ge n
  rw [← hP] at hp1 hp2 hp3
  obtain ⟨K, hK⟩ : ∃ K, n + P = 64 * K := ⟨(n + P) / 64, by omega⟩
  obtain ⟨L, hL⟩ : ∃ L, L = l ++ Sh.pad n := ⟨_, rfl⟩
  have hLl : L.length = n + P := by rw [hL, List.length_append, hll, hP]
  have HSH : Hid (Sh.sha l = (Sh.fold L K).bytes) := by
    show _ = _
    unfold Sh.sha
    rw [hll, ← hL, hLl, hK, Nat.mul_div_cancel_left _ (by omega)]
  have HCP := Lib.hid (fun W (hr : Rd W A n (u8s l)) => copy_any A n c l W hr (by omega))
  have HPA := Lib.hid (fun W => rpadding_any n W (by omega))
  rw [← hP] at HPA
  have HFI := Lib.hid rfirst_any
  have HRC := Lib.hid rcompress_any
  have HLE : Hid (u8s l ++ u8s (Sh.pad n) = u8s L) := by show _ = _; rw [hL, u8s_append]
  have HLL := Lib.hid hLl
  have HKN := Lib.hid hK
  have HS1 : Hid (∀ v ∈ u32s Sh.start.list, v.oneCell' = true) := u32s_one _
  have HSI : Hid ((Try.prog.info? 95).map (·.size) = some (u32s Sh.start.list).length) := hd144
  have HSL : Hid ((u32s Sh.start.list).length = 8) := rfl
  obtain ⟨U0, hU0⟩ : ∃ U0, U0 = u32s Sh.start.list := ⟨_, rfl⟩
  rw [← hU0] at HFI HS1 HSI HSL
  have HU0 : Hid (U0 = st8 (Sh.fold L 0)) := hU0
  have HM := Lib.hid h
  clear hll hP hL hLl hK hU0 h hp1
  go_enter Try.func47, Try.ntmps47
  go_wp2_with (first
    | (go_at_call 22; (with_reducible refine (HCP.out _ (by exact HM.out.alloc _)).mono ?_); rintro e w1 ⟨A1, c1, rfl, hc1, hown1, hB1⟩
       have HE1 := Lib.hid (((Below.refl _ w).alloc (Nat.le_refl _) _).trans (hB1.mono (by simp)))
       have HZ1 := Lib.hid ((Blk.new' (w := w) (cs := u8s (List.replicate 32 0)) (t := 25) rfl rfl).below hB1 (by simp))
       have HO1 := Lib.hid (own_mono hown1 (base' := w.heap.size + 1) (by simp))
       clear hown1 hB1)
    | (go_at_call 62; (with_reducible refine (HPA.out _).mono ?_); rintro e w2 ⟨A2, c2, rfl, hc2, hown2, hB2⟩
       have HE2 := qtr HE1 hB2
       have HZ2 := qbl HZ1 hB2
       have HO2 := Lib.hid (own_below HO1.out hB2)
       have HR2 := Lib.hid (Rd.of_own hown2)
       have hs2 := HZ2.out.lt
       clear hown2 hB2)
    | (at_builtin; refine wpList_app rfl (.tmp 9) (.tmp 12) 43 rfl (w.heap.size + 1) 5 1 1 Try.underlying43 eU8 (.slice A1 n c1) n (u8s l) (by rfl) (by exact HO2.out) A2 P c2 (u8s (Sh.pad n)) (by rfl) (by exact HR2.out.toS) (u8s_one _) (by omega) (by omega) (by omega) ?_
       intro A3 c3 w3 hown3 hc3 hg3 hat3
       have HO3 := Lib.hid hown3
       rw [HLE.out] at HO3
       have HE3 := Lib.hid (HE2.out.grown hg3 HE2.out.size (fun k hk => by have := (HO2.out.lt k hk).1; omega))
       have HZ3 := Lib.hid (HZ2.out.grown hg3 (fun e => by have := (HO2.out.lt _ e.symm).1; omega))
       clear hown3 hg3 hat3)
    | (go_at_call 63; (with_reducible refine (HFI.out _).mono ?_); rintro e w4 ⟨rfl, hB4⟩
       have HE4 := qtr HE3 hB4
       have HZ4 := qbl HZ3 hB4
       have HO4 := Lib.hid (own_below HO3.out hB4)
       clear hB4)
    | (refine wpList_store_all rfl 95 (.tmp 4) (.tmp 14) rfl w4.heap.size U0 (by rfl) (by rfl) 95 (u32s [0, 0, 0, 0, 0, 0, 0, 0]) (by exact Blk.new' rfl rfl) HSI.out HS1.out (by rw [HSL.out]; rfl) ?_
       intro w5 hb5 ho5
       have HE5 := Lib.hid (ho5.below (HE4.out.alloc HE4.out.size _) HE4.out.size (Nat.le_trans HE4.out.size (by simp)))
       have HZ5 := qal ho5 HZ4 (by have := HZ4.out.lt; omega)
       have HO5 := Lib.hid (own_below HO4.out ((Below.refl _ w4).alloc (Nat.le_refl _) (.cells (u32s [0, 0, 0, 0, 0, 0, 0, 0]).toArray 95)))
       have HR4 := Lib.hid (Rd.of_own HO5.out)
       have HS5 : Hid (Blk w5 w4.heap.size 95 (st8 (Sh.fold L 0))) := (by rw [← HU0.out]; exact hb5)))
  obtain ⟨g3, hA3, hg3, hg3l, hr3⟩ := own_pos HO4.out (by omega)
  subst hA3
  have HR5 : Hid (Rd w5 (some ⟨g3, 0, none⟩) (n + P) (u8s L)) := ho5.rd (hr3.alloc _) (fun ad e => by injection e with e; subst e; show g3 ≠ w4.heap.size; omega)
  have hz4 := HZ4.out.lt
  clear HO3 HO2 HO1 HO4 HO5 HR4 HR2 hr3 hb5 ho5 HE1 HE2 HE3 HE4 HZ1 HZ2 HZ3 HZ4 hs2
  obtain ⟨N, hN⟩ : ∃ N, N = n + P := ⟨_, rfl⟩
  rw [← hN] at HR5 HKN HLL hc3 ⊢
  have hNb : N ≤ 100000072 := by omega
  clear hN
  generalize w4.heap.size = g4 at *
  go_loopg [5] K (fun kk q wr => ∃ j m : Nat, j ≤ K ∧ kk = K - j ∧ m = 64 * j ∧ q = .int .i64 m ∧ Blk wr g4 95 (st8 (Sh.fold L j)) ∧ Rd wr (some ⟨g3, 0, none⟩) N (u8s L) ∧ Blk wr w.heap.size 25 (u8s (List.replicate 32 0)) ∧ Below w.heap.size w wr)
  case atStart => exact ⟨0, 0, by omega, rfl, rfl, rfl, HS5.out, HR5.out, HZ5.out, HE5.out⟩
  case round =>
    clear HS5 HR5 HZ5 HE5
    obtain ⟨j, m, hj, hgk, hm, rfl, hs, hr, hz, hB⟩ := hrel
    have HGK := Lib.hid hgk
    have hK := HKN.out
    by_cases hlt : j < K
    · have hmN : m + 64 ≤ N := by omega
      have q1 : (m : Int) < (N : Int) := by omega
      have q2 : (m : Int) + 64 ≤ (c3 : Int) := by omega
      have q3 : ¬ c3 = m := by omega
      have q4 : (m : Int) + 64 ≤ (N : Int) := by omega
      have HFS : Hid (Sh.fold L (j + 1) = Sh.comp (Sh.fold L j) ((L.drop m).take 64)) := by show _ = _; rw [hm]; rfl
      have HMJ : Hid (m + 64 = 64 * (j + 1)) := by show _ = _; omega
      have HRM : Hid (∀ W, Rd W (some ⟨g3, 0, none⟩) N (u8s L) → Rd W (some ⟨g3, m, none⟩) 64 (u8s ((L.drop m).take 64))) := fun W h5 => by
        have h6 := rd_mid h5 m 64 hmN
        rw [Nat.zero_add] at h6
        exact h6
      obtain ⟨S, hS⟩ : ∃ S, S = Sh.fold L j := ⟨_, rfl⟩
      rw [← hS] at hs HFS
      have hrc : ∀ W, Rd W (some ⟨g3, m, none⟩) 64 (u8s ((L.drop m).take 64)) → Calls Try.prog 64 #[.agg #[.int .u32 (n32 S.a), .int .u32 (n32 S.b), .int .u32 (n32 S.c), .int .u32 (n32 S.d), .int .u32 (n32 S.e), .int .u32 (n32 S.f), .int .u32 (n32 S.g), .int .u32 (n32 S.h)], .slice (some ⟨g3, m, none⟩) 64 (c3 - m)] W fun e w' => e = .returned (.agg (st8 (Sh.fold L (j + 1))).toArray) ∧ Below W.heap.size W w' := fun W h5 => by
        have h6 := HRC.out S (some ⟨g3, m, none⟩) (c3 - m) _ W h5
        rw [HFS.out]
        exact h6
      have HRCw := Lib.hid hrc
      have HVI : Hid ((Try.prog.info? 95).map (·.size) = some (st8 (Sh.fold L (j + 1))).length) := hd144
      have HV1 : Hid (∀ v ∈ st8 (Sh.fold L (j + 1)), v.oneCell' = true) := by rw [st8_list]; exact u32s_one _
      have HVL : Hid ((st8 (Sh.fold L (j + 1))).length = 8) := rfl
      have HSL8 : Hid ((st8 S).length = 8) := rfl
      obtain ⟨V, hV⟩ : ∃ V, V = st8 (Sh.fold L (j + 1)) := ⟨_, rfl⟩
      rw [← hV] at HRCw HVI HV1 HVL
      have HVE := Lib.hid hV
      have s0 := hs.cell 0
      have s1 := hs.cell 1
      have s2 := hs.cell 2
      have s3 := hs.cell 3
      have s4 := hs.cell 4
      have s5 := hs.cell 5
      have s6 := hs.cell 6
      have s7 := hs.cell 7
      simp only [st8, List.getElem?_cons_zero, List.getElem?_cons_succ] at s0 s1 s2 s3 s4 s5 s6 s7
      have HSS := Lib.hid hs
      have HRR := Lib.hid hr
      have HZ := Lib.hid hz
      have HBE := Lib.hid hB
      clear hrc hS hV hs hr hz hB hgk hm hK hj
      go_wp2_with fail
      have p1 : (0 : Int) ≤ (m : Int) + 64 := by omega
      have p2 : ((m : Int) + 64).toNat = m + 64 := by omega
      have p3 : (0 : Int) ≤ (m : Int) := by omega
      have p4 : (m : Int) ≤ (m : Int) + 64 := by omega
      have p64 : IntKind.i64.wrap ((m : Int) + 64) = (m : Int) + 64 := IntWalk.i64_in _ (by omega)
      go_still_tail 6, (by kernel_rfl)
      clear p1 p2 p3 p4 p64 s0 s1 s2 s3 s4 s5 s6 s7
      go_wp2_with (first
        | (go_at_call 64; (with_reducible refine (HRCw.out _ (by exact HRM.out _ HRR.out.drew)).mono ?_); rintro e w6 ⟨rfl, hB6⟩
           have HS6 := Lib.hid (HSS.out.drew.below hB6 HSS.out.lt)
           have HR6 := Lib.hid (HRR.out.drew.below hB6)
           have HZ6 := Lib.hid (HZ.out.drew.below hB6 HZ.out.lt)
           have HE6 := Lib.hid (HBE.out.drew.trans (hB6.mono HBE.out.size))
           clear hB6)
        | (refine wpList_store_all rfl 95 (.tmp 4) (.tmp 27) rfl g4 V (by rfl) (by rfl) 95 _ HS6.out HVI.out HV1.out (by rw [HVL.out, HSL8.out]) ?_
           intro w7 hb7 ho7
           have HS7 := Lib.hid hb7
           rw [HVE.out] at HS7
           have HR7 := Lib.hid (ho7.rd HR6.out (fun ad e => by injection e with e; subst e; show g3 ≠ g4; omega))
           have HZ7 := Lib.hid (ho7.blk HZ6.out (by omega))
           have HE7 := Lib.hid (ho7.below HE6.out (by omega) HE6.out.size)
           clear hb7 ho7))
      go_roundg (K - (j + 1))
      case measure => have := HGK.out; omega
      case rel => exact ⟨j + 1, m + 64, by omega, rfl, HMJ.out, by go_num, HS7.out, HR7.out, HZ7.out, HE7.out⟩
    · obtain rfl : j = K := by omega
      have q1 : ¬ (m : Int) < (N : Int) := by omega
      obtain ⟨F, hF⟩ : ∃ F, F = Sh.fold L j := ⟨_, rfl⟩
      rw [← hF] at hs HSH
      obtain ⟨B, hBy⟩ : ∃ B, B = F.bytes := ⟨_, rfl⟩
      have hBl : B.length = 32 := by rw [hBy]; simp [Sh.St.bytes, Sh.St.list, Sh.wordBytes]
      rw [← hBy] at HSH
      have HBY := Lib.hid hBy
      have HBL := Lib.hid hBl
      have HSS := Lib.hid hs
      have HZ := Lib.hid hz
      have HBE := Lib.hid hB
      have hg4l := hs.lt
      clear hF hBy hBl hs hr hz hB hgk hm hK hj HGK hlt
      go_wp2_with fail
      have HO0 : Hid (Blk (wr.alloc (.cells (u8s (List.replicate 32 0)).toArray 25)) wr.heap.size 25 (u8s (B.take 0 ++ rep (32 - 0) 0))) := Blk.new' rfl rfl
      have HSS0 := Lib.hid (HSS.out.alloc (.cells (u8s (List.replicate 32 0)).toArray 25))
      have HZ0 := Lib.hid (HZ.out.alloc (.cells (u8s (List.replicate 32 0)).toArray 25))
      have HE0 := Lib.hid (HBE.out.alloc HBE.out.size (.cells (u8s (List.replicate 32 0)).toArray 25))
      have hwr := HBE.out.size
      clear HSS HZ HBE
      generalize wr.heap.size = g6 at *
      go_loopg [7] 32 (fun kk q wr => ∃ i : Nat, i ≤ 32 ∧ kk = 32 - i ∧ q = .int .i64 i ∧ Blk wr g6 25 (u8s (B.take i ++ rep (32 - i) 0)) ∧ Blk wr g4 95 (st8 F) ∧ Blk wr w.heap.size 25 (u8s (List.replicate 32 0)) ∧ Below w.heap.size w wr)
      case atStart => exact ⟨0, by omega, rfl, rfl, HO0.out, HSS0.out, HZ0.out, HE0.out⟩
      case round =>
        clear HO0 HSS0 HZ0 HE0
        obtain ⟨i, hi, hgk, rfl, ho, hs, hz, hB⟩ := hrel
        have HGK2 := Lib.hid hgk
        clear hgk
        by_cases hlt : i < 32
        · have hlt3 : (i : Int) < 32 := by omega
          have hi0 : (0 : Int) ≤ (i : Int) := by omega
          obtain ⟨q, hq⟩ : ∃ q, q = i / 4 := ⟨_, rfl⟩
          have hqi : (i : Int) / 4 = (q : Int) := by omega
          have hq0 : (0 : Int) ≤ (q : Int) := by omega
          have hq8 : (q : Int) < 8 := by omega
          obtain ⟨x, hx⟩ : ∃ x, F.list[q]? = some x := ⟨_, List.getElem?_eq_getElem (by simp [Sh.St.list]; omega)⟩
          have cx : wr.cell? ⟨g4, q, none⟩ = some (.int .u32 (n32 x)) := (hs.cell q).trans (by rw [st8_list]; exact u32s_get hx)
          have HBT : Hid (∀ r, r < 4 → B[4 * q + r]? = (Sh.wordBytes x)[r]?) := fun r hr => by rw [HBY.out]; exact bytes_at F q r x hr hx
          obtain ⟨z, hzz⟩ : ∃ z, (u8s (B.take i ++ rep (32 - i) 0))[i]? = some z := ⟨_, List.getElem?_eq_getElem (by rw [u8s_length, List.length_append, List.length_take, rep_length, HBL.out]; omega)⟩
          have cz := (ho.cell i).trans hzz
          have fz := ho.frozen i
          have hgl := ho.lt
          clear hx hzz
          obtain ⟨r, hr⟩ : ∃ r, r = i % 4 := ⟨_, rfl⟩
          have hir : i = 4 * q + r := by omega
          have hr4 : r < 4 := by omega
          clear hq hr
          obtain rfl | rfl | rfl | rfl : r = 0 ∨ r = 1 ∨ r = 2 ∨ r = 3 := by omega
          · have hr4 : (i : Int) % 4 = 0 := by omega
            have hy : B[i]? = some (x >>> 24).toUInt8 := by rw [hir, HBT.out 0 (by omega)]; rfl
            have HST := Lib.hid (set_pad B 0 _ i 32 hlt hy)
            have HS2 := Lib.hid (ho.set_ i (.int .u8 ((x >>> 24).toUInt8).toNat))
            rw [u8s_set, HST.out] at HS2
            have HV2 := Lib.hid (hs.far (p := ⟨g6, i, none⟩) (by show g4 ≠ g6; omega) (.int .u8 ((x >>> 24).toUInt8).toNat))
            have HZ2 := Lib.hid (hz.far (p := ⟨g6, i, none⟩) (by show w.heap.size ≠ g6; omega) (.int .u8 ((x >>> 24).toUInt8).toNat))
            have HB2 := Lib.hid (hB.setCell (p := ⟨g6, i, none⟩) (by show w.heap.size ≤ g6; omega) (.int .u8 ((x >>> 24).toUInt8).toNat))
            have HLM := Lib.hid (b24 x)
            clear hs ho hz hB hy hir
            go_wp2_with fail
            rw [HLM.out]
            go_roundg (32 - (i + 1))
            case measure => have := HGK2.out; omega
            case rel => exact ⟨i + 1, by omega, rfl, by go_num, HS2.out, HV2.out, HZ2.out, HB2.out⟩
          · have hr4 : (i : Int) % 4 = 1 := by omega
            have hy : B[i]? = some (x >>> 16).toUInt8 := by rw [hir, HBT.out 1 (by omega)]; rfl
            have HST := Lib.hid (set_pad B 0 _ i 32 hlt hy)
            have HS2 := Lib.hid (ho.set_ i (.int .u8 ((x >>> 16).toUInt8).toNat))
            rw [u8s_set, HST.out] at HS2
            have HV2 := Lib.hid (hs.far (p := ⟨g6, i, none⟩) (by show g4 ≠ g6; omega) (.int .u8 ((x >>> 16).toUInt8).toNat))
            have HZ2 := Lib.hid (hz.far (p := ⟨g6, i, none⟩) (by show w.heap.size ≠ g6; omega) (.int .u8 ((x >>> 16).toUInt8).toNat))
            have HB2 := Lib.hid (hB.setCell (p := ⟨g6, i, none⟩) (by show w.heap.size ≤ g6; omega) (.int .u8 ((x >>> 16).toUInt8).toNat))
            have HLM := Lib.hid (b16 x)
            clear hs ho hz hB hy hir
            go_wp2_with fail
            rw [HLM.out]
            go_roundg (32 - (i + 1))
            case measure => have := HGK2.out; omega
            case rel => exact ⟨i + 1, by omega, rfl, by go_num, HS2.out, HV2.out, HZ2.out, HB2.out⟩
          · have hr4 : (i : Int) % 4 = 2 := by omega
            have hy : B[i]? = some (x >>> 8).toUInt8 := by rw [hir, HBT.out 2 (by omega)]; rfl
            have HST := Lib.hid (set_pad B 0 _ i 32 hlt hy)
            have HS2 := Lib.hid (ho.set_ i (.int .u8 ((x >>> 8).toUInt8).toNat))
            rw [u8s_set, HST.out] at HS2
            have HV2 := Lib.hid (hs.far (p := ⟨g6, i, none⟩) (by show g4 ≠ g6; omega) (.int .u8 ((x >>> 8).toUInt8).toNat))
            have HZ2 := Lib.hid (hz.far (p := ⟨g6, i, none⟩) (by show w.heap.size ≠ g6; omega) (.int .u8 ((x >>> 8).toUInt8).toNat))
            have HB2 := Lib.hid (hB.setCell (p := ⟨g6, i, none⟩) (by show w.heap.size ≤ g6; omega) (.int .u8 ((x >>> 8).toUInt8).toNat))
            have HLM := Lib.hid (b8 x)
            clear hs ho hz hB hy hir
            go_wp2_with fail
            rw [HLM.out]
            go_roundg (32 - (i + 1))
            case measure => have := HGK2.out; omega
            case rel => exact ⟨i + 1, by omega, rfl, by go_num, HS2.out, HV2.out, HZ2.out, HB2.out⟩
          · have hr4 : (i : Int) % 4 = 3 := by omega
            have hy : B[i]? = some x.toUInt8 := by rw [hir, HBT.out 3 (by omega)]; rfl
            have HST := Lib.hid (set_pad B 0 _ i 32 hlt hy)
            have HS2 := Lib.hid (ho.set_ i (.int .u8 (x.toUInt8).toNat))
            rw [u8s_set, HST.out] at HS2
            have HV2 := Lib.hid (hs.far (p := ⟨g6, i, none⟩) (by show g4 ≠ g6; omega) (.int .u8 (x.toUInt8).toNat))
            have HZ2 := Lib.hid (hz.far (p := ⟨g6, i, none⟩) (by show w.heap.size ≠ g6; omega) (.int .u8 (x.toUInt8).toNat))
            have HB2 := Lib.hid (hB.setCell (p := ⟨g6, i, none⟩) (by show w.heap.size ≤ g6; omega) (.int .u8 (x.toUInt8).toNat))
            have HLM := Lib.hid (b0 x)
            clear hs ho hz hB hy hir
            go_wp2_with fail
            rw [HLM.out]
            go_roundg (32 - (i + 1))
            case measure => have := HGK2.out; omega
            case rel => exact ⟨i + 1, by omega, rfl, by go_num, HS2.out, HV2.out, HZ2.out, HB2.out⟩
        · obtain rfl : i = 32 := by omega
          have hlt3 : ¬ ((32 : Nat) : Int) < 32 := by omega
          have hse : B.take 32 ++ rep (32 - 32) 0 = Sh.sha l := by rw [HSH.out, List.take_of_length_le (by rw [HBL.out]; exact Nat.le_refl _)]; simp [rep]
          rw [hse] at ho
          have HRI : Hid ((Try.prog.info? 25).map (·.size) = some (u8s (Sh.sha l)).length) := by rw [u8s_length, Sh.sha_len]; exact hd24
          have HR1 : Hid (∀ v ∈ u8s (Sh.sha l), v.oneCell' = true) := u8s_one _
          have HRL : Hid ((u8s (Sh.sha l)).length = (u8s (List.replicate 32 0)).length) := by show _ = _; rw [u8s_length, Sh.sha_len]; rfl
          obtain ⟨U, hU⟩ : ∃ U, U = u8s (Sh.sha l) := ⟨_, rfl⟩
          rw [← hU] at ho HRI HR1 HRL
          have HUE := Lib.hid hU
          clear hse hU HGK2 hlt hi
          go_wp2_with (first
            | refine wpList_load_mid rfl 25 (.tmp 6) rfl g6 0 (by rfl) U _ ho.range Try.underlying25 rfl HRI.out ?_
            | (refine wpList_store_all rfl 25 (.tmp 2) (.tmp 44) rfl w.heap.size U (by rfl) (by rfl) 25 _ hz HRI.out HR1.out HRL.out ?_; intro w8 hb8 ho8))
          exact bodyPost_ret (res_cell rfl _ w.heap.size _ U rfl hb8 _ Try.underlying25 rfl HRI.out) rfl ⟨by rw [HUE.out], ho8.below hB (Nat.le_refl _) hB.size⟩
end Go.Proofs.Ytlbnibmcflmohaa
/- shallotref03.block: the key as 64 bytes, each turned. -/
namespace Go.Proofs.Ytlbnibmcflmohaa
open Go.RowKit
def maskI (K : List UInt8) (m : UInt8) (i : Nat) : List UInt8 := Mc.mask (K.take i) m ++ K.drop i
theorem maskI_get (K : List UInt8) (m : UInt8) (i : Nat) (h : i < K.length) : (maskI K m i)[i]? = K[i]? := by
  unfold maskI
  have hl : (Mc.mask (K.take i) m).length = i := by rw [Mc.mask_len, List.length_take]; omega
  rw [List.getElem?_append_right (by omega), hl, Nat.sub_self, List.getElem?_drop, Nat.add_zero]
theorem maskI_set (K : List UInt8) (m : UInt8) (i : Nat) (x : UInt8) (hx : K[i]? = some x) : (maskI K m i).set i (x ^^^ m) = maskI K m (i + 1) := by
  have hi := (List.getElem?_eq_some_iff.1 hx).1
  unfold maskI
  have hl : (Mc.mask (K.take i) m).length = i := by rw [Mc.mask_len, List.length_take]; omega
  have hd : K.drop i = x :: K.drop (i + 1) := by
    rw [List.drop_eq_getElem_cons hi]; congr 1
    exact (List.getElem?_eq_some_iff.1 hx).2
  rw [List.set_append_right _ _ (by omega), hl, Nat.sub_self, hd, List.set_cons_zero, List.take_add_one, hx]
  simp [Mc.mask]
theorem maskI_end (K : List UInt8) (m : UInt8) (h : K.length = 64) : maskI K m 64 = Mc.mask K m := by
  unfold maskI
  rw [List.take_of_length_le (by omega), List.drop_of_length_le (by omega), List.append_nil]
set_option maxRecDepth 100000 in
set_option maxHeartbeats 4000000 in
theorem rblock_small (A : Option Addr) (n c : Nat) (k : List UInt8) (m : UInt8) (w : World) (h : Rd w A n (u8s k)) (hn : n ≤ 64) :
    Calls Try.prog 48 #[.slice A n c, .int .u8 m.toNat] w fun e w' => e = .returned (.slice (some ⟨w.heap.size, 0, none⟩) 64 64) ∧ Blk w' w.heap.size 5 (u8s (Mc.mask (Mc.key64 k) m)) ∧ Below w.heap.size w w' := by
  have hkl : k.length = n := h.len
  have hK : Mc.key64 k = Mc.padded k := by unfold Mc.key64; rw [if_neg (by omega)]
  have HSP := Lib.hid (splice_pad k (by omega))
  rw [← hK] at HSP
  have HKL : Hid ((Mc.key64 k).length = 64) := Mc.key64_len k
  obtain ⟨K, hKK⟩ : ∃ K, K = Mc.key64 k := ⟨_, rfl⟩
  rw [← hKK] at HSP HKL ⊢
  have HR := Lib.hid h
  have e64 : ¬ (64 : Int) < (n : Int) := by omega
  clear hkl hK hKK h
  go_enter Try.func48, Try.ntmps48
  go_wp2_with (first
    | (refine wpList_make1 rfl (.const (.int .i64 64)) (.const (.int .i64 64)) 43 rfl 5 (.int .u8 0) 1 Try.underlying43 iU8 rfl .i64 .i64 64 64 (by rfl) (by rfl) 64 64 rfl rfl (by omega) (by omega) (by omega) ?_
       intro w1 hb1 hg1 hs1
       have HB1 : Hid (Blk w1 w.heap.size 5 (u8s (List.replicate 64 0))) := hb1
       have HE1 : Hid (Below w.heap.size w w1) := grown_below hg1
       clear hb1 hg1 hs1)
    | (refine wpList_copy rfl (.tmp 17) (.tmp 18) 43 rfl 5 Try.underlying43 u8_one1 w.heap.size 0 64 64 (by rfl) A n c (by rfl) 5 _ HB1.out (u8s k) (by exact HR.out.below HE1.out) (u8s_one _) (by rw [u8s_length]; exact Nat.le_refl _) ?_
       intro w2 hb2 ho2
       rw [HSP.out] at hb2
       have HK0 : Hid (Blk w2 w.heap.size 5 (u8s (maskI K m 0))) := hb2
       have HE0 := Lib.hid (ho2.below HE1.out (Nat.le_refl _) HE1.out.size)
       clear hb2 ho2))
  go_loopg [7] 64 (fun kk q wr => ∃ i : Nat, i ≤ 64 ∧ kk = 64 - i ∧ q = .int .i64 i ∧ Blk wr w.heap.size 5 (u8s (maskI K m i)) ∧ Below w.heap.size w wr)
  case atStart => exact ⟨0, by omega, rfl, rfl, HK0.out, HE0.out⟩
  case round =>
    clear HK0 HE0
    obtain ⟨i, hi, hgk, rfl, hb, hB⟩ := hrel
    have HGK := Lib.hid hgk
    clear hgk
    by_cases hlt : i < 64
    · have hlt2 : (i : Int) < 64 := by omega
      have hi0 : (0 : Int) ≤ (i : Int) := by omega
      obtain ⟨x, hx⟩ : ∃ x, K[i]? = some x := ⟨_, List.getElem?_eq_getElem (by rw [HKL.out]; exact hlt)⟩
      have cx : wr.cell? ⟨w.heap.size, i, none⟩ = some (.int .u8 x.toNat) := by rw [hb.cell, u8s_getElem?, maskI_get K m i (by rw [HKL.out]; exact hlt), hx]; rfl
      have fx := hb.frozen i
      have HST := Lib.hid (maskI_set K m i x hx)
      have HXR := Lib.hid (w8_xor x m)
      have hb2 := Lib.hid (hb.set_ i (.int .u8 (x ^^^ m).toNat))
      rw [u8s_set, HST.out] at hb2
      have hB2 := Lib.hid (hB.setCell (p := ⟨w.heap.size, i, none⟩) (Nat.le_refl _) (.int .u8 (x ^^^ m).toNat))
      have hgl := hb.lt
      clear hb hB hx
      go_wp2_with fail
      rw [HXR.out]
      go_roundg (64 - (i + 1))
      case measure => have := HGK.out; omega
      case rel => exact ⟨i + 1, by omega, rfl, by go_num, hb2.out, hB2.out⟩
    · obtain rfl : i = 64 := by omega
      have hlt2 : ¬ ((64 : Nat) : Int) < 64 := by omega
      have HB := Lib.hid hb
      rw [maskI_end K m HKL.out] at HB
      clear hb
      go_wp2_with fail
      go_ret
      exact ⟨rfl, HB.out, hB⟩
set_option maxRecDepth 100000 in
set_option maxHeartbeats 4000000 in
theorem rblock_big (A : Option Addr) (n c : Nat) (k : List UInt8) (m : UInt8) (w : World) (h : Rd w A n (u8s k)) (hn : 64 < n) (hn2 : n ≤ 100000000) :
    Calls Try.prog 48 #[.slice A n c, .int .u8 m.toNat] w fun e w' => e = .returned (.slice (some ⟨w.heap.size, 0, none⟩) 64 64) ∧ Blk w' w.heap.size 5 (u8s (Mc.mask (Mc.key64 k) m)) ∧ Below w.heap.size w w' := by
  have hkl : k.length = n := h.len
  have hK : Mc.key64 k = Mc.padded (Sh.sha k) := by unfold Mc.key64; rw [if_pos (by omega)]
  have hsl := Sh.sha_len k
  have HSP := Lib.hid (splice_pad (Sh.sha k) (by omega))
  rw [← hK] at HSP
  have HKL : Hid ((Mc.key64 k).length = 64) := Mc.key64_len k
  have HSU := Lib.hid (fun W (hr : Rd W A n (u8s k)) => rsum_any A n c k W hr hn2)
  have HI2 : Hid ((Try.prog.info? 25).map (·.size) = some (u8s (Sh.sha k)).length) := by rw [u8s_length, hsl]; exact hd24
  have HL2 : Hid ((u8s (Sh.sha k)).length = (u8s (List.replicate 32 0)).length) := by show _ = _; rw [u8s_length, hsl]; rfl
  have HO2 : Hid (∀ v ∈ u8s (Sh.sha k), v.oneCell' = true) := u8s_one _
  have HSL := Lib.hid hsl
  obtain ⟨X, hX⟩ : ∃ X, X = Sh.sha k := ⟨_, rfl⟩
  rw [← hX] at HSP HSU HI2 HL2 HO2 HSL
  obtain ⟨U, hU⟩ : ∃ U, U = u8s X := ⟨_, rfl⟩
  rw [← hU] at HSU HI2 HL2 HO2
  have HUE := Lib.hid hU
  obtain ⟨K, hKK⟩ : ∃ K, K = Mc.key64 k := ⟨_, rfl⟩
  rw [← hKK] at HSP HKL ⊢
  have HR := Lib.hid h
  have e64 : (64 : Int) < (n : Int) := by omega
  clear hkl hK hKK h hsl hX hU
  go_enter Try.func48, Try.ntmps48
  go_wp2_with (first
    | (refine wpList_make1 rfl (.const (.int .i64 64)) (.const (.int .i64 64)) 43 rfl 5 (.int .u8 0) 1 Try.underlying43 iU8 rfl .i64 .i64 64 64 (by rfl) (by rfl) 64 64 rfl rfl (by omega) (by omega) (by omega) ?_
       intro w1 hb1 hg1 hs1
       have HB1 : Hid (Blk w1 w.heap.size 5 (u8s (List.replicate 64 0))) := hb1
       have HE1 : Hid (Below w.heap.size w w1) := grown_below hg1
       clear hb1 hg1 hs1)
    | (go_at_call 47; (with_reducible refine (HSU.out _ (by exact HR.out.below HE1.out)).mono ?_); rintro e w2 ⟨rfl, hB2⟩
       have HB2 := qbl HB1 hB2
       have HE2 := qtr HE1 hB2
       clear hB2)
    | (refine wpList_store_all rfl 25 (.tmp 6) (.tmp 13) rfl w2.heap.size U (by rfl) (by rfl) 25 (u8s (List.replicate 32 0)) (by exact Blk.new' rfl rfl) HI2.out HO2.out HL2.out ?_
       intro w3 hb3 ho3
       have hl2 := HB2.out.lt
       have HB3 := Lib.hid (ho3.blk (HB2.out.alloc _) (by omega))
       have HE3 := Lib.hid (ho3.below (HE2.out.alloc HE2.out.size _) HE2.out.size (Nat.le_trans HE2.out.size (by simp)))
       have HX3 : Hid (Rd w3 (some ⟨w2.heap.size, 0, none⟩) 32 (u8s X)) := (by have h5 := hb3; rw [HUE.out] at h5; have h6 := h5.rdAll; rw [HSL.out] at h6; exact h6)
       clear hb3 ho3)
    | (refine wpList_copy rfl (.tmp 14) (.tmp 15) 43 rfl 5 Try.underlying43 u8_one1 w.heap.size 0 64 64 (by rfl) (some ⟨w2.heap.size, 0, none⟩) 32 32 (by rfl) 5 _ HB3.out (u8s X) (by exact HX3.out) (u8s_one _) (by rw [u8s_length]; exact Nat.le_refl _) ?_
       intro w4 hb4 ho4
       rw [HSP.out] at hb4
       have HK0 : Hid (Blk w4 w.heap.size 5 (u8s (maskI K m 0))) := hb4
       have HE0 := Lib.hid (ho4.below HE3.out (Nat.le_refl _) HE3.out.size)
       clear hb4 ho4))
  go_loopg [7] 64 (fun kk q wr => ∃ i : Nat, i ≤ 64 ∧ kk = 64 - i ∧ q = .int .i64 i ∧ Blk wr w.heap.size 5 (u8s (maskI K m i)) ∧ Below w.heap.size w wr)
  case atStart => exact ⟨0, by omega, rfl, rfl, HK0.out, HE0.out⟩
  case round =>
    clear HK0 HE0
    obtain ⟨i, hi, hgk, rfl, hb, hB⟩ := hrel
    have HGK := Lib.hid hgk
    clear hgk
    by_cases hlt : i < 64
    · have hlt2 : (i : Int) < 64 := by omega
      have hi0 : (0 : Int) ≤ (i : Int) := by omega
      obtain ⟨x, hx⟩ : ∃ x, K[i]? = some x := ⟨_, List.getElem?_eq_getElem (by rw [HKL.out]; exact hlt)⟩
      have cx : wr.cell? ⟨w.heap.size, i, none⟩ = some (.int .u8 x.toNat) := by rw [hb.cell, u8s_getElem?, maskI_get K m i (by rw [HKL.out]; exact hlt), hx]; rfl
      have fx := hb.frozen i
      have HST := Lib.hid (maskI_set K m i x hx)
      have HXR := Lib.hid (w8_xor x m)
      have hb2 := Lib.hid (hb.set_ i (.int .u8 (x ^^^ m).toNat))
      rw [u8s_set, HST.out] at hb2
      have hB2 := Lib.hid (hB.setCell (p := ⟨w.heap.size, i, none⟩) (Nat.le_refl _) (.int .u8 (x ^^^ m).toNat))
      have hgl := hb.lt
      clear hb hB hx
      go_wp2_with fail
      rw [HXR.out]
      go_roundg (64 - (i + 1))
      case measure => have := HGK.out; omega
      case rel => exact ⟨i + 1, by omega, rfl, by go_num, hb2.out, hB2.out⟩
    · obtain rfl : i = 64 := by omega
      have hlt2 : ¬ ((64 : Nat) : Int) < 64 := by omega
      have HB := Lib.hid hb
      rw [maskI_end K m HKL.out] at HB
      clear hb
      go_wp2_with fail
      go_ret
      exact ⟨rfl, HB.out, hB⟩
theorem rblock_any (A : Option Addr) (n c : Nat) (k : List UInt8) (m : UInt8) (w : World) (h : Rd w A n (u8s k)) (hn2 : n ≤ 100000000) :
    Calls Try.prog 48 #[.slice A n c, .int .u8 m.toNat] w fun e w' => e = .returned (.slice (some ⟨w.heap.size, 0, none⟩) 64 64) ∧ Blk w' w.heap.size 5 (u8s (Mc.mask (Mc.key64 k) m)) ∧ Below w.heap.size w w' := by
  rcases Nat.lt_or_ge 64 n with h1 | h1
  · exact rblock_big A n c k m w h h1 hn2
  · exact rblock_small A n c k m w h h1
end Go.Proofs.Ytlbnibmcflmohaa
/- shallotref03.Inside, Tag. -/
namespace Go.Proofs.Ytlbnibmcflmohaa
open Go.RowKit
set_option maxRecDepth 100000 in
set_option maxHeartbeats 4000000 in
theorem rinside_any (A : Option Addr) (n c : Nat) (k : List UInt8) (A2 : Option Addr) (n2 c2 : Nat) (l : List UInt8) (w : World) (h : Rd w A n (u8s k)) (hn : n ≤ 100000000) (h2 : Rd w A2 n2 (u8s l)) (hn2 : n2 ≤ 10000000) :
    Calls Try.prog 46 #[.slice A n c, .slice A2 n2 c2] w fun e w' => e = .returned (.agg (u8s (Sh.sha (Mc.mask (Mc.key64 k) 54 ++ l))).toArray) ∧ Below w.heap.size w w' := by
  have hml : (Mc.mask (Mc.key64 k) 54).length = 64 := by rw [Mc.mask_len, Mc.key64_len]
  have hbk := rblock_any A n c k 54 (w.alloc (.cells (u8s (List.replicate 32 0)).toArray 25)) (h.alloc _) hn
  have e1 : (w.alloc (.cells (u8s (List.replicate 32 0)).toArray 25)).heap.size = w.heap.size + 1 := by simp
  rw [e1] at hbk
  have HBK : Hid (Calls Try.prog 48 #[.slice A n c, .int .u8 54] (w.alloc (.cells #[.int .u8 0, .int .u8 0, .int .u8 0, .int .u8 0, .int .u8 0, .int .u8 0, .int .u8 0, .int .u8 0, .int .u8 0, .int .u8 0, .int .u8 0, .int .u8 0, .int .u8 0, .int .u8 0, .int .u8 0, .int .u8 0, .int .u8 0, .int .u8 0, .int .u8 0, .int .u8 0, .int .u8 0, .int .u8 0, .int .u8 0, .int .u8 0, .int .u8 0, .int .u8 0, .int .u8 0, .int .u8 0, .int .u8 0, .int .u8 0, .int .u8 0, .int .u8 0] 25)) fun e w' => e = .returned (.slice (some ⟨w.heap.size + 1, 0, none⟩) 64 64) ∧ Blk w' (w.heap.size + 1) 5 (u8s (Mc.mask (Mc.key64 k) 54)) ∧ Below (w.heap.size + 1) (w.alloc (.cells (u8s (List.replicate 32 0)).toArray 25)) w') := hbk
  obtain ⟨M, hM⟩ : ∃ M, M = Mc.mask (Mc.key64 k) 54 := ⟨_, rfl⟩
  rw [← hM] at HBK hml ⊢
  have HML : Hid ((u8s M).length = 64) := by show _ = _; rw [u8s_length, hml]
  have HSU := Lib.hid (fun W A3 c3 (hr : Rd W A3 (64 + n2) (u8s (M ++ l))) => rsum_any A3 (64 + n2) c3 (M ++ l) W hr (by omega))
  have HI2 : Hid ((Try.prog.info? 25).map (·.size) = some (u8s (Sh.sha (M ++ l))).length) := by rw [u8s_length, Sh.sha_len]; exact hd24
  have HL2 : Hid ((u8s (Sh.sha (M ++ l))).length = (u8s (List.replicate 32 0)).length) := by show _ = _; rw [u8s_length, Sh.sha_len]; rfl
  have HO2 : Hid (∀ v ∈ u8s (Sh.sha (M ++ l)), v.oneCell' = true) := u8s_one _
  obtain ⟨U, hU⟩ : ∃ U, U = u8s (Sh.sha (M ++ l)) := ⟨_, rfl⟩
  rw [← hU] at HSU HI2 HL2 HO2 ⊢
  have HR2 := Lib.hid h2
  clear hM hU h h2 hml hbk e1
  go_enter Try.func46, Try.ntmps46
  go_wp2_with (first
    | (go_at_call 48; (with_reducible refine HBK.out.mono ?_); rintro e w1 ⟨rfl, hb1, hB1⟩
       have HE1 := Lib.hid (((Below.refl _ w).alloc (Nat.le_refl _) (.cells (u8s (List.replicate 32 0)).toArray 25)).trans (hB1.mono (Nat.le_succ _)))
       have HZ1 := Lib.hid ((Blk.new' (w := w) (cs := u8s (List.replicate 32 0)) (t := 25) rfl rfl).below hB1 (Nat.lt_succ_self _))
       have HO1 := Lib.hid (show w1.ownsRow (w.heap.size + 1) 5 1 (.slice (some ⟨w.heap.size + 1, 0, none⟩) 64 64) 64 (u8s M) from (by have h5 := own_of_blk hb1 (Nat.le_refl _) 64 64 1 (by omega) (by rw [HML.out]) (by omega); rw [List.take_of_length_le (by rw [HML.out]; omega)] at h5; exact h5))
       have hl1 := hb1.lt
       clear hb1 hB1)
    | (at_builtin; refine wpList_app rfl (.tmp 6) (.tmp 7) 43 rfl (w.heap.size + 1) 5 1 1 Try.underlying43 eU8 (.slice (some ⟨w.heap.size + 1, 0, none⟩) 64 64) 64 (u8s M) (by rfl) (by exact HO1.out) A2 n2 c2 (u8s l) (by rfl) (by exact (HR2.out.below HE1.out).toS) (u8s_one _) (by omega) (by omega) (by omega) ?_
       intro A3 c3 w3 hown3 hc3 hg3 hat3
       have HR3 := Lib.hid (Rd.of_own hown3)
       rw [← u8s_append] at HR3
       have HE3 := Lib.hid (HE1.out.grown hg3 HE1.out.size (fun k hk => by have := (HO1.out.lt k hk).1; omega))
       have HZ3 := Lib.hid (HZ1.out.grown hg3 (fun e => by have := (HO1.out.lt _ e.symm).1; omega))
       clear hown3 hg3 hat3)
    | (go_at_call 47; (with_reducible refine (HSU.out _ _ _ HR3.out).mono ?_); rintro e w4 ⟨rfl, hB4⟩
       have HE4 := qtr HE3 hB4
       have HZ4 := qbl HZ3 hB4
       clear hB4)
    | (refine wpList_store_all rfl 25 (.tmp 4) (.tmp 9) rfl w.heap.size U (by rfl) (by rfl) 25 _ HZ4.out HI2.out HO2.out HL2.out ?_; intro w8 hb8 ho8))
  exact bodyPost_ret (res_cell rfl _ w.heap.size _ U rfl hb8 _ Try.underlying25 rfl HI2.out) rfl ⟨rfl, ho8.below HE4.out (Nat.le_refl _) HE4.out.size⟩
theorem stq_24r (p v : Value) : Instr.storeAt 25 p v = stAt 25 p v := rfl
section
attribute [local go_sem ↓] stq_24r
set_option maxRecDepth 100000 in
set_option maxHeartbeats 4000000 in
theorem rtag_any (A : Option Addr) (n c : Nat) (k : List UInt8) (A2 : Option Addr) (n2 c2 : Nat) (l : List UInt8) (w : World) (h : Rd w A n (u8s k)) (hn : n ≤ 100000000) (h2 : Rd w A2 n2 (u8s l)) (hn2 : n2 ≤ 10000000) :
    Calls Try.prog 35 #[.slice A n c, .slice A2 n2 c2] w fun e w' => e = .returned (.agg (u8s (Mc.tag k l)).toArray) ∧ Below w.heap.size w w' := by
  have HIN := Lib.hid (fun W (h1 : Rd W A n (u8s k)) (h2 : Rd W A2 n2 (u8s l)) => rinside_any A n c k A2 n2 c2 l W h1 hn h2 hn2)
  have HBK : Hid (∀ W : World, Rd W A n (u8s k) → Calls Try.prog 48 #[.slice A n c, .int .u8 92] W.drew fun e w' => e = .returned (.slice (some ⟨W.heap.size, 0, none⟩) 64 64) ∧ Blk w' W.heap.size 5 (u8s (Mc.mask (Mc.key64 k) 92)) ∧ Below W.heap.size W.drew w') := fun W h1 => rblock_any A n c k 92 W.drew h1.drew hn
  have hml : (Mc.mask (Mc.key64 k) 92).length = 64 := by rw [Mc.mask_len, Mc.key64_len]
  have HT : Hid (Mc.tag k l = Sh.sha (Mc.mask (Mc.key64 k) 92 ++ Sh.sha (Mc.mask (Mc.key64 k) 54 ++ l))) := rfl
  obtain ⟨M, hM⟩ : ∃ M, M = Mc.mask (Mc.key64 k) 92 := ⟨_, rfl⟩
  obtain ⟨I, hI⟩ : ∃ I, I = Sh.sha (Mc.mask (Mc.key64 k) 54 ++ l) := ⟨_, rfl⟩
  have hil : I.length = 32 := by rw [hI]; exact Sh.sha_len _
  rw [← hM] at HBK hml HT
  rw [← hI] at HIN HT
  have HML : Hid ((u8s M).length = 64) := by show _ = _; rw [u8s_length, hml]
  have HIL := Lib.hid hil
  have HII : Hid ((Try.prog.info? 25).map (·.size) = some (u8s I).length) := by rw [u8s_length, hil]; exact hd24
  have HIJ : Hid ((u8s I).length = (u8s (List.replicate 32 0)).length) := by show _ = _; rw [u8s_length, hil]; rfl
  have HIO : Hid (∀ v ∈ u8s I, v.oneCell' = true) := u8s_one _
  have HSU := Lib.hid (fun W A3 c3 (hr : Rd W A3 (64 + 32) (u8s (M ++ I))) => rsum_any A3 (64 + 32) c3 (M ++ I) W hr (by omega))
  rw [HT.out]
  have HI2 : Hid ((Try.prog.info? 25).map (·.size) = some (u8s (Sh.sha (M ++ I))).length) := by rw [u8s_length, Sh.sha_len]; exact hd24
  have HL2 : Hid ((u8s (Sh.sha (M ++ I))).length = (u8s (List.replicate 32 0)).length) := by show _ = _; rw [u8s_length, Sh.sha_len]; rfl
  have HO2 : Hid (∀ v ∈ u8s (Sh.sha (M ++ I)), v.oneCell' = true) := u8s_one _
  obtain ⟨U, hU⟩ : ∃ U, U = u8s (Sh.sha (M ++ I)) := ⟨_, rfl⟩
  rw [← hU] at HSU HI2 HL2 HO2 ⊢
  obtain ⟨IU, hIU⟩ : ∃ IU, IU = u8s I := ⟨_, rfl⟩
  rw [← hIU] at HIN HII HIJ HIO
  have HIUE := Lib.hid hIU
  have HR := Lib.hid h
  have HR2 := Lib.hid h2
  clear hM hI hil hml hU hIU h h2 HT
  go_enter Try.func35, Try.ntmps35
  go_wp2_with (first
    | (go_at_call 46; (with_reducible refine (HIN.out _ (by exact HR.out.alloc _) (by exact HR2.out.alloc _)).mono ?_); rintro e w1 ⟨rfl, hB1⟩
       have HE1 := Lib.hid (((Below.refl _ w).alloc (Nat.le_refl _) _).trans (hB1.mono (by simp)))
       have HZ1 := Lib.hid ((Blk.new' (w := w) (cs := u8s (List.replicate 32 0)) (t := 25) rfl rfl).below hB1 (by simp))
       clear hB1)
    | (refine wpList_store_all rfl 25 (.tmp 5) (.tmp 8) rfl w1.heap.size IU (by rfl) (by rfl) 25 (u8s (List.replicate 32 0)) (by exact Blk.new' rfl rfl) HII.out HIO.out HIJ.out ?_
       intro w2 hb2 ho2
       have hl1 := HZ1.out.lt
       have HE2 := Lib.hid (ho2.below (HE1.out.alloc HE1.out.size _) HE1.out.size (Nat.le_trans HE1.out.size (by simp)))
       have HZ2 := Lib.hid (ho2.blk (HZ1.out.alloc _) (by omega))
       have HX2 : Hid (Blk w2 w1.heap.size 25 (u8s I)) := (by rw [← HIUE.out]; exact hb2)
       clear hb2 ho2))
  have HRk := Lib.hid (HR.out.below HE2.out)
  have hl2 := HZ2.out.lt
  have hx2 := HX2.out.lt
  go_region_held3 (fun _ => True) (trivial) (first
    | (go_at_call 48; (with_reducible refine (HBK.out w2 HRk.out).mono ?_); rintro e w3 ⟨rfl, hb3, hB3⟩
       have HE3 := Lib.hid (HE2.out.drew.trans (hB3.mono HE2.out.size))
       have HZ3 := Lib.hid (HZ2.out.drew.below hB3 HZ2.out.lt)
       have HX3 : Hid (Rd w3 (some ⟨w1.heap.size, 0, none⟩) 32 (u8s I)) := (by have h6 := (HX2.out.drew.below hB3 HX2.out.lt).rdAll; rw [HIL.out] at h6; exact h6)
       have HO3 := Lib.hid (show w3.ownsRow w2.heap.size 5 1 (.slice (some ⟨w2.heap.size, 0, none⟩) 64 64) 64 (u8s M) from (by have h5 := own_of_blk hb3 (Nat.le_refl _) 64 64 1 (by omega) (by rw [HML.out]) (by omega); rw [List.take_of_length_le (by rw [HML.out]; omega)] at h5; exact h5))
       have hl3 : w2.heap.size ≤ w3.heap.size := Nat.le_of_lt hb3.lt
       clear hb3 hB3)
    | (go_at_call 47; (with_reducible refine (HSU.out _ _ _ HR4.out).mono ?_); rintro e w5 ⟨rfl, hB5⟩
       have HE5 := qtr HE4 hB5
       have HZ5 := qbl HZ4 hB5
       have hst5 := stAt_run (P := Try.prog) HZ5.out 25 0 U (by rw [HL2.out]; exact Nat.le_of_eq (Nat.zero_add _)) HO2.out HI2.out
       have ht5 : w5.there w.heap.size 0 U.length := HZ5.out.there 0 U.length (by rw [HL2.out]; exact Nat.le_of_eq (Nat.zero_add _))
       clear hB5)
    | ((refine step_app rfl (.tmp 10) (.tmp 11) 43 rfl w2.heap.size 5 1 1 Try.underlying43 eU8 (.slice (some ⟨w2.heap.size, 0, none⟩) 64 64) 64 (u8s M) (by rfl) (by exact HO3.out) (some ⟨w1.heap.size, 0, none⟩) 32 32 (u8s I) (by rfl) (by exact HX3.out.toS) (u8s_one _) (by omega) (by omega) hl3 ?_; intro A4 c4 w4 hown4 hc4 hg4 hat4; have HR4 := Lib.hid (Rd.of_own hown4); rw [← u8s_append] at HR4; have HE4 := Lib.hid (HE3.out.grown hg4 HE3.out.size (fun k hk => by have := (HO3.out.lt k hk).1; have := HE2.out.size; omega)); have HZ4 := Lib.hid (HZ3.out.grown hg4 (fun e => by have := (HO3.out.lt _ e.symm).1; omega)); clear hown4 hg4 hat4)))
  have hb8 := setCells_heap w.heap.size _ U 0 _ w5 HZ5.out (by rw [HL2.out]; exact Nat.le_of_eq (Nat.zero_add _))
  rw [splice_whole _ _ HL2.out] at hb8
  have HB8 := Lib.hid hb8
  have HE8 := Lib.hid (setCells_below w.heap.size w.heap.size w U 0 w5 HE5.out (Nat.le_refl _))
  clear hb8 hst5 ht5
  go_wp2_with fail
  exact bodyPost_ret (res_cell rfl _ w.heap.size _ U rfl HB8.out _ Try.underlying25 rfl HI2.out) rfl ⟨rfl, HE8.out⟩
end
end Go.Proofs.Ytlbnibmcflmohaa
