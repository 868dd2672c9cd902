/- Part of the proof: Pub, Rpu, Chn. -/
import Derived.Test.YtlbnibmcflmohaaGreatPlx37
import Derived.Test.YtlbnibmcflmohaaGreatPlx43
namespace Go.Proofs.YtlbnibmcflmohaaGreat
open Go.RowKit
noncomputable def pubB (k : List UInt8) : List UInt8 := mB k nine
noncomputable def pubE (k : List UInt8) : Nat := mE k nine
theorem pubE_0 {k : List UInt8} (hk : k.length = 32) : pubE k = 0 := good_nine.mE hk
theorem pub_good {k : List UInt8} (hk : k.length = 32) : Good (pubB k) := good_nine.mB hk
set_option maxRecDepth 100000 in
set_option maxHeartbeats 1000000 in
theorem public_yes (A : Option Addr) (c : Nat) (ks : List UInt8) (w : World) (hk : Rd w A 32 (u8s ks)) :
    Calls Tryz.prog 14 #[.slice A 32 c] w fun e w' => e = .returned (.tuple #[.agg (u8s (pubB ks)).toArray, .int .i64 0]) ∧ Below w.heap.size w w' := by
  have HK := Lib.hid hk
  have HE : Hid ((mE ks nine : Int) = 0) := by show _ = _; rw [show mE ks nine = 0 from pubE_0 hk.len]; rfl
  have HM : Hid (∀ W B d, Rd W A 32 (u8s ks) → Rd W B 32 (u8s nine) → Calls Tryz.prog 24 #[.slice A 32 c, .slice B 32 d] W fun e w' => e = .returned (.tuple #[.agg (u8s (pubB ks)).toArray, .int .i64 0]) ∧ Below W.heap.size W w') := fun W B d h1 h2 => by
    have h5 := mult_yes A B c d ks nine W h1 h2
    rw [HE.out] at h5
    exact h5
  have HO : Hid (∀ W, Calls Tryz.prog 35 #[.int .u64 9] W fun e w' => e = .returned (.agg (elc 9).toArray) ∧ Below W.heap.size W w') := fun W => of_el 9 (by omega) W
  have HY : Hid (∀ W, Calls Tryz.prog 34 #[.agg (elc 9).toArray] W fun e w' => e = .returned (.agg (u8s nine).toArray) ∧ Below W.heap.size W w') := fun W => bytes_el 9 W (by omega)
  have HNL : Hid ((u8s nine).length = 32) := by show _ = _; rw [u8s_length, good_nine.len]
  have HN1 : Hid (∀ v ∈ u8s nine, v.oneCell' = true) := u8s_one _
  have HPL : Hid ((u8s (pubB ks)).length = 32) := by show _ = _; rw [u8s_length, pubB, mB_len]
  have HP1 : Hid (∀ v ∈ u8s (pubB ks), v.oneCell' = true) := u8s_one _
  have HB0 : Hid (Blk (w.alloc (.cells o32.toArray 26)) w.heap.size 26 o32) := Blk.new _ _ _
  have HE0 : Hid (Below w.heap.size w (w.alloc (.cells o32.toArray 26))) := (Below.refl _ w).alloc (Nat.le_refl _) _
  generalize u8s (pubB ks) = PB at *
  generalize u8s nine = NI at *
  generalize elc 9 = E9 at *
  clear hk HE
  go_enter Tryz.func14, Tryz.ntmps14
  go_wp2_with (first
    | (go_at_call 35; (with_reducible refine (HO.out _).mono ?_); rintro e w1 ⟨rfl, hB1⟩; have HE1 := qtr HE0 hB1; have HB1 := qbl HB0 hB1; clear hB1)
    | (go_at_call 34; (with_reducible refine (HY.out _).mono ?_); rintro e w2 ⟨rfl, hB2⟩; have HE2 := qtr HE1 hB2; have HB2 := qbl HB1 hB2; clear hB2)
    | (refine wpList_store_all rfl 26 (.tmp 4) (.tmp 6) rfl w2.heap.size NI (by rfl) (by rfl) 26 o32 (by exact Blk.new' rfl rfl) (by rw [HNL.out]; exact hd24) HN1.out (by rw [HNL.out]; rfl) ?_
       intro w3 hb3 ho3
       have HE3 := Lib.hid (ho3.below (HE2.out.alloc HE2.out.size _) HE2.out.size (Nat.le_trans HE2.out.size (by simp)))
       have HB3 := qal ho3 HB2 (by have := HB2.out.lt; omega)
       have HN3 : Hid (Rd w3 (some ⟨w2.heap.size, 0, none⟩) 32 NI) := by have := hb3.rd 0 32 (by rw [HNL.out]; exact Nat.le_refl _); rwa [List.drop_zero, List.take_of_length_le (by rw [HNL.out]; exact Nat.le_refl _)] at this
       clear hb3 ho3)
    | (go_at_call 24; (with_reducible refine (HM.out _ _ _ (by exact HK.out.below HE3.out) (by exact HN3.out)).mono ?_); rintro e w4 ⟨rfl, hB4⟩; have HE4 := qtr HE3 hB4; have HB4 := qbl HB3 hB4; clear hB4)
    | (refine wpList_store_all rfl 26 (.tmp 2) (.tmp 10) rfl w.heap.size PB (by rfl) (by rfl) 26 o32 (by exact HB4.out) (by rw [HPL.out]; exact hd24) HP1.out (by rw [HPL.out]; rfl) ?_
       intro w5 hb5 ho5
       have HE5 := Lib.hid (ho5.below HE4.out (Nat.le_refl _) HE4.out.size)))
  exact bodyPost_ret (res_cell_tmp rfl _ _ _ _ rfl hb5 _ Tryz.underlying26 rfl (by rw [HPL.out]; exact hd24)) rfl ⟨rfl, HE5.out⟩
end Go.Proofs.YtlbnibmcflmohaaGreat
namespace Go.Proofs.YtlbnibmcflmohaaGreat
open Go.RowKit
theorem bldN9 (w : World) : (Instr.build 56 [(0, (.int .u32 9 : Value))].toArray).run Tryz.prog w = .ok (.agg (n8 9).toArray) w := by kernel_rfl
set_option maxRecDepth 100000 in
set_option maxHeartbeats 1000000 in
theorem rpublic_yes (A : Option Addr) (c : Nat) (ks : List UInt8) (w : World) (hk : Rd w A 32 (u8s ks)) :
    Calls Tryz.prog 5 #[.slice A 32 c] w fun e w' => e = .returned (.tuple #[.agg (u8s (pubB ks)).toArray, .int .i64 0]) ∧ Below w.heap.size w w' := by
  have HK := Lib.hid hk
  have HE : Hid ((mE ks nine : Int) = 0) := by show _ = _; rw [show mE ks nine = 0 from pubE_0 hk.len]; rfl
  have HM : Hid (∀ W B d, Rd W A 32 (u8s ks) → Rd W B 32 (u8s nine) → Calls Tryz.prog 13 #[.slice A 32 c, .slice B 32 d] W fun e w' => e = .returned (.tuple #[.agg (u8s (pubB ks)).toArray, .int .i64 0]) ∧ Below W.heap.size W w') := fun W B d h1 h2 => by
    have h5 := rmult_yes A B c d ks nine W h1 h2
    rw [HE.out] at h5
    exact h5
  have HY : Hid (∀ W, Calls Tryz.prog 12 #[.agg (n8 9).toArray] W fun e w' => e = .returned (.agg (u8s nine).toArray) ∧ Below W.heap.size W w') := fun W => rbytes_n 9 W (by omega)
  have HNL : Hid ((u8s nine).length = 32) := by show _ = _; rw [u8s_length, good_nine.len]
  have HN1 : Hid (∀ v ∈ u8s nine, v.oneCell' = true) := u8s_one _
  have HPL : Hid ((u8s (pubB ks)).length = 32) := by show _ = _; rw [u8s_length, pubB, mB_len]
  have HP1 : Hid (∀ v ∈ u8s (pubB ks), v.oneCell' = true) := u8s_one _
  have HB0 : Hid (Blk (w.alloc (.cells o32.toArray 26)) w.heap.size 26 o32) := Blk.new _ _ _
  have HE0 : Hid (Below w.heap.size w (w.alloc (.cells o32.toArray 26))) := (Below.refl _ w).alloc (Nat.le_refl _) _
  generalize u8s (pubB ks) = PB at *
  generalize u8s nine = NI at *
  have HBD := Lib.hid bldN9
  generalize n8 9 = E9 at *
  clear hk HE
  go_enter Tryz.func5, Tryz.ntmps5
  go_wp2_with (first
    | (refine wpList_build rfl 56 [(0, .const (.int .u32 9))] rfl _ (by rfl) (.agg E9.toArray) (HBD.out _) ?_)
    | (go_at_call 12; (with_reducible refine (HY.out _).mono ?_); rintro e w2 ⟨rfl, hB2⟩; have HE2 := qtr HE0 hB2; have HB2 := qbl HB0 hB2; clear hB2)
    | (refine wpList_store_all rfl 26 (.tmp 4) (.tmp 6) rfl w2.heap.size NI (by rfl) (by rfl) 26 o32 (by exact Blk.new' rfl rfl) (by rw [HNL.out]; exact hd24) HN1.out (by rw [HNL.out]; rfl) ?_
       intro w3 hb3 ho3
       have HE3 := Lib.hid (ho3.below (HE2.out.alloc HE2.out.size _) HE2.out.size (Nat.le_trans HE2.out.size (by simp)))
       have HB3 := qal ho3 HB2 (by have := HB2.out.lt; omega)
       have HN3 : Hid (Rd w3 (some ⟨w2.heap.size, 0, none⟩) 32 NI) := by have := hb3.rd 0 32 (by rw [HNL.out]; exact Nat.le_refl _); rwa [List.drop_zero, List.take_of_length_le (by rw [HNL.out]; exact Nat.le_refl _)] at this
       clear hb3 ho3)
    | (go_at_call 13; (with_reducible refine (HM.out _ _ _ (by exact HK.out.below HE3.out) (by exact HN3.out)).mono ?_); rintro e w4 ⟨rfl, hB4⟩; have HE4 := qtr HE3 hB4; have HB4 := qbl HB3 hB4; clear hB4)
    | (refine wpList_store_all rfl 26 (.tmp 2) (.tmp 10) rfl w.heap.size PB (by rfl) (by rfl) 26 o32 (by exact HB4.out) (by rw [HPL.out]; exact hd24) HP1.out (by rw [HPL.out]; rfl) ?_
       intro w5 hb5 ho5
       have HE5 := Lib.hid (ho5.below HE4.out (Nat.le_refl _) HE4.out.size)))
  exact bodyPost_ret (res_cell_tmp rfl _ _ _ _ rfl hb5 _ Tryz.underlying26 rfl (by rw [HPL.out]; exact hd24)) rfl ⟨rfl, HE5.out⟩
end Go.Proofs.YtlbnibmcflmohaaGreat
namespace Go.Proofs.YtlbnibmcflmohaaGreat
open Go.RowKit
theorem stq_b32 (p v : Value) : Instr.storeAt 26 p v = stAt 26 p v := rfl
theorem ldq_elem (v : Value) : Instr.loadAt 80 v = ldAt 80 v := rfl
theorem b32_ld {w : World} {g : Nat} {t : TypeId} {C : List Value} (hb : Blk w g t C) (hl : C.length = 32) : (ldAt 26 (.pointer (some ⟨g, 0, none⟩))).run Tryz.prog w = .ok (.agg C.toArray) w :=
  ldAt_run hb _ 0 C (by rw [List.drop_zero, List.take_of_length_le (Nat.le_refl _)]) _ Tryz.underlying26 rfl (by rw [hl]; exact hd24)
attribute [local go_sem ↓] ldq_b32 ldq_elem
theorem readN_lt (u : List UInt8) : readN u < pr := Nat.mod_lt _ (Nat.le_of_ble_eq_true (by kernel_rfl))
theorem bld_z32 (w : World) : (Instr.build 26 #[]).run Tryz.prog w = .ok (.agg o32.toArray) w := by kernel_rfl
theorem RdB.only_new {w w' : World} {o : Obj} {A : Option Addr} {n : Nat} {ls : List (List UInt8)} (h : RdB w A n ls) (ho : Only (w.alloc o) w' w.heap.size) : RdB w' A n ls := by
  have hB : Below w.heap.size w w' := ho.below ((Below.refl _ w).alloc (Nat.le_refl _) o) (Nat.le_refl _) (by simp)
  exact h.below hB
set_option maxRecDepth 100000 in
set_option maxHeartbeats 4000000 in
theorem chain_yes (A C : Option Addr) (c m d : Nat) (us : List UInt8) (kss : List (List UInt8)) (w : World) (hu : Rd w A 32 (u8s us)) (hk : RdB w C m kss) (h32 : ∀ k ∈ kss, k.length = 32) (hm : m ≤ 1000) :
    Calls Tryz.prog 15 #[.slice A 32 c, .slice C m d] w fun e w' => e = .returned (.tuple #[.agg (u8s (chV (nrm us) kss).1).toArray, .int .i64 ((chV (nrm us) kss).2 : Int)]) ∧ Below w.heap.size w w' := by
  have hcl := chV_len kss (nrm us) (nrm_len us)
  obtain ⟨R, hR⟩ : ∃ R, R = chV (nrm us) kss := ⟨_, rfl⟩
  rw [← hR] at hcl ⊢
  have HRR : Hid (chV (nrm us) kss = R) := hR.symm
  have HU := Lib.hid hu
  have HK := Lib.hid hk
  have H32 := Lib.hid h32
  have HML : Hid (kss.length = m) := by obtain ⟨_, _, h, _⟩ := hk; exact h
  have HRD : Hid (∀ W, Rd W A 32 (u8s us) → Calls Tryz.prog 36 #[.slice A 32 c] W fun e w' => e = .returned (.tuple #[.agg (elc (readN us)).toArray, .int .i64 0]) ∧ Below W.heap.size W w') := fun W h => read_el A 32 c us W h rfl
  have HY : Hid (∀ W, Calls Tryz.prog 34 #[.agg (elc (readN us)).toArray] W fun e w' => e = .returned (.agg (u8s (nrm us)).toArray) ∧ Below W.heap.size W w') := fun W => bytes_el (readN us) W (Nat.lt_trans (readN_lt us) (Nat.le_of_ble_eq_true rfl))
  have HNL : Hid ((u8s (nrm us)).length = 32) := by show _ = _; rw [u8s_length, nrm_len]
  have HPL : Hid ((u8s R.1).length = 32) := by show _ = _; rw [u8s_length, hcl]
  have HB0 : Hid (Blk (w.alloc (.cells o32.toArray 26)) w.heap.size 26 o32) := Blk.new _ _ _
  have HE0 : Hid (Below w.heap.size w (w.alloc (.cells o32.toArray 26))) := (Below.refl _ w).alloc (Nat.le_refl _) _
  have HEL : Hid ((elc (readN us)).length = 4) := rfl
  have HE1' := Lib.hid (elc_one (readN us))
  generalize elc (readN us) = X at *
  clear hu hk h32 hR hcl
  go_enter Tryz.func15, Tryz.ntmps15
  go_upto_region 4 with (first
    | (go_at_call 36; (refine (HRD.out _ (by exact HU.out.alloc _)).mono ?_); rintro e w1 ⟨rfl, hB1⟩; have HE1 := qtr HE0 hB1; have HB1 := qbl HB0 hB1; clear hB1)
    | (refine wpList_store_all rfl 80 (.tmp 6) (.tmp 16) rfl w1.heap.size X (by rfl) (by rfl) 80 (l4 0 0 0 0) (by exact Blk.new' rfl rfl) (by rw [HEL.out]; exact hdEl) HE1'.out (by rw [HEL.out]; rfl) ?_
       intro w2 hb2 ho2
       have HE2 := Lib.hid (ho2.below (HE1.out.alloc HE1.out.size _) HE1.out.size (Nat.le_trans HE1.out.size (by simp)))
       have HB2 := qal ho2 HB1 (by have := HB1.out.lt; omega)
       have HX2 := Lib.hid hb2
       clear hb2 ho2))
  have HK2 := Lib.hid (HK.out.below HE2.out)
  have hml := HML.out
  clear HRD HE1 HB1 HU HE0 HB0 hml
  go_wp2
  go_loop [24] (fun q => ∃ k : Nat, k ≤ m ∧ q = .int .i64 k) (fun q => m - (intOf q).toNat)
  case atStart => exact ⟨0, Nat.zero_le _, rfl⟩
  case round =>
    obtain ⟨k, hkm, rfl⟩ := hrel
    by_cases hlt : k < m
    · have hlt2 : (k : Int) < (m : Int) := by omega
      obtain ⟨b, off, A1, n1, c1, l, rfl, hb, hkl, hc, hn1, hr1⟩ := HK2.out.at_ hlt
      have hl := hr1.len
      rw [H32.out l (List.mem_of_getElem? hkl.out)] at hl
      subst hl
      clear hr1 hkl
      go_wp2
      go_round
      case rel => exact ⟨k + 1, by omega, by go_num⟩
      case measure => simp [intOf]; omega
    · obtain rfl : k = m := by omega
      have hlt2 : ¬ (k : Int) < (k : Int) := by omega
      have hldx : (ldAt 80 (.pointer (some ⟨w1.heap.size, 0, none⟩))).run Tryz.prog w2 = .ok (.agg X.toArray) w2 := ldAt_run HX2.out _ 0 X (by rw [List.drop_zero, List.take_of_length_le (Nat.le_refl _)]) _ Tryz.underlying80 rfl (by rw [HEL.out]; exact hdEl)
      go_wp2_with (first
        | (go_at_call 34; (refine (HY.out _).mono ?_); rintro e w3 ⟨rfl, hB3⟩; have HE3 := qtr HE2 hB3; have HB3 := qbl HB2 hB3; have HK3 := Lib.hid (HK2.out.below hB3); clear hB3)
        | (refine wpList_store_all rfl 26 (.tmp 10) (.tmp 34) rfl w3.heap.size (u8s (nrm us)) (by rfl) (by rfl) 26 o32 (by exact Blk.new' rfl rfl) (by rw [HNL.out]; exact hd24) (u8s_one _) (by rw [HNL.out]; rfl) ?_
           intro w4 hb4 ho4
           have HE4 := Lib.hid (ho4.below (HE3.out.alloc HE3.out.size _) HE3.out.size (Nat.le_trans HE3.out.size (by simp)))
           have HB4 := qal ho4 HB3 (by have := HB3.out.lt; omega)
           have HK4 := Lib.hid (HK3.out.only_new ho4)
           have HG : Hid (w.heap.size ≠ w3.heap.size) := by have := HB3.out.lt; show _ ≠ _; omega
           have HG2 := Lib.hid HE3.out.size
           have HC4 := Lib.hid hb4
           clear hb4 ho4))
      have HCL4 : Hid ((nrm us).length = 32) := nrm_len us
      clear HE2 HB2 HK2 HX2 hldx HE3 HB3 HK3
      go_loopg [37] k (fun kk q wr => ∃ (j : Nat) (cur : List UInt8), j ≤ k ∧ kk = k - j ∧ q = .int .i64 j ∧ Hid (chV cur (kss.drop j) = R) ∧ Hid (cur.length = 32) ∧ Hid (Blk wr w3.heap.size 26 (u8s cur)) ∧ Hid (Blk wr w.heap.size 26 o32) ∧ Hid (Below w.heap.size w wr))
      case atStart => exact ⟨0, nrm us, Nat.zero_le _, rfl, rfl, by rw [List.drop_zero]; exact HRR, HCL4, HC4, HB4, HE4⟩
      case round =>
        clear HE4 HB4 HK4 HC4 HY HCL4 HRR HNL
        obtain ⟨j, cur, hjk, hgk, rfl, HV, HCU, HC5, HB5, HE5⟩ := hrel
        have HK5 := Lib.hid (HK.out.below HE5.out)
        have HGK := Lib.hid hgk
        clear hgk
        by_cases hlt3 : j < k
        · have hlt4 : (j : Int) < (k : Int) := by omega
          obtain ⟨b, off, A1, n1, c1, l, rfl, hb, hkl, hc, hn1, hr1⟩ := HK5.out.at_ hlt3
          have hl := hr1.len
          rw [H32.out l (List.mem_of_getElem? hkl.out)] at hl
          subst hl
          have HR1 := Lib.hid hr1
          have hdr : kss.drop j = l :: kss.drop (j + 1) := by
            obtain ⟨hj, he⟩ := List.getElem?_eq_some_iff.1 hkl.out
            rw [List.drop_eq_getElem_cons hj, he]
          have hv := HV.out
          rw [hdr, chV] at hv
          have hM := fun W h1 h2 => mult_yes A1 (some ⟨w3.heap.size, 0, none⟩) c1 32 l cur W h1 h2
          have hml := mB_len l cur
          generalize mB l cur = MB at *
          have HM := Lib.hid hM
          have HML2 : Hid ((u8s MB).length = 32) := by show _ = _; rw [u8s_length, hml]
          have HML3 := Lib.hid hml
          have HVV := Lib.hid hv
          have HRG : Hid (Rd wr (some ⟨w3.heap.size, 0, none⟩) 32 (u8s cur)) := by
            have := HC5.out.rd 0 32 (by rw [u8s_length, HCU.out]; exact Nat.le_refl _)
            rwa [List.drop_zero, List.take_of_length_le (by rw [u8s_length, HCU.out]; exact Nat.le_refl _)] at this
          have HCL5 : Hid ((u8s cur).length = 32) := by show _ = _; rw [u8s_length, HCU.out]
          clear hr1 hkl hdr hv hM hml HV
          by_cases he : mE l cur = 0
          · have hei : (mE l cur : Int) = 0 := by rw [he]; rfl
            have hv := HVV.out
            rw [if_pos he] at hv
            have HVN := Lib.hid hv
            generalize (mE l cur : Int) = E at *
            subst hei
            clear he hv HVV
            go_wp2_with (first
              | (go_at_call 24; (refine (HM.out _ (by exact HR1.out) (by exact HRG.out)).mono ?_); rintro e w6 ⟨rfl, hB6⟩
                 have HE6 := qtr HE5 hB6
                 have HB6 := qbl HB5 hB6
                 have HC6 := qbl HC5 hB6
                 clear hB6)
              | (refine wpList_store_all rfl 26 (.tmp 10) (.tmp 45) rfl w3.heap.size (u8s MB) (by rfl) (by rfl) 26 (u8s cur) (by exact HC6.out) (by rw [HML2.out]; exact hd24) (u8s_one _) (by rw [HML2.out, HCL5.out]) ?_
                 intro w7 hb7 ho7
                 have HE7 := Lib.hid (ho7.below HE6.out HG2.out HE6.out.size)
                 have HB7 := qon ho7 HB6 HG
                 have HC7 := Lib.hid hb7
                 clear hb7 ho7))
            go_roundg (k - (j + 1))
            case measure => have := HGK.out; omega
            case rel => exact ⟨j + 1, MB, by omega, rfl, by go_num, HVN, HML3, HC7, HB7, HE7⟩
          · have hei : ¬ (mE l cur : Int) = 0 := by omega
            have hv := HVV.out
            rw [if_neg he] at hv
            have HVN := Lib.hid hv
            generalize mE l cur = E at *
            have HZ32 : Hid (o32 = u8s R.1) := by show _ = _; rw [← HVN.out]; rfl
            have HER : Hid (R.2 = E) := by show _ = _; rw [← HVN.out]
            clear he hv HVV HVN
            go_wp2_with (first
              | (go_at_call 24; (refine (HM.out _ (by exact HR1.out) (by exact HRG.out)).mono ?_); rintro e w6 ⟨rfl, hB6⟩
                 have HE6 := qtr HE5 hB6
                 have HB6 := qbl HB5 hB6
                 have HC6 := qbl HC5 hB6
                 clear hB6)
              | (refine wpList_store_all rfl 26 (.tmp 10) (.tmp 45) rfl w3.heap.size (u8s MB) (by rfl) (by rfl) 26 (u8s cur) (by exact HC6.out) (by rw [HML2.out]; exact hd24) (u8s_one _) (by rw [HML2.out, HCL5.out]) ?_
                 intro w7 hb7 ho7
                 have HE7 := Lib.hid (ho7.below HE6.out HG2.out HE6.out.size)
                 have HB7 := qon ho7 HB6 HG
                 clear hb7 ho7)
              | (refine wpList_build rfl 26 [] rfl [] (by rfl) (.agg o32.toArray) (bld_z32 _) ?_)
              | (refine wpList_store_all rfl 26 (.tmp 4) (.tmp 49) rfl w.heap.size o32 (by rfl) (by rfl) 26 o32 (by exact HB7.out) (by exact hd24) (u8s_one _) rfl ?_
                 intro w8 hb8 ho8
                 have HE8 := Lib.hid (ho8.below HE7.out (Nat.le_refl _) HE7.out.size)))
            rw [HZ32.out] at hb8
            exact bodyPost_ret (res_cell_tmp rfl _ _ _ _ rfl hb8 _ Tryz.underlying26 rfl (by rw [HPL.out]; exact hd24)) rfl ⟨by rw [HER.out]; rfl, HE8.out⟩
        · obtain rfl : j = k := by omega
          have hlt4 : ¬ (j : Int) < (j : Int) := by omega
          have hv := HV.out
          rw [List.drop_eq_nil_of_le (by rw [HML.out]; exact Nat.le_refl _), chV] at hv
          have HCL5 : Hid ((u8s cur).length = 32) := by show _ = _; rw [u8s_length, HCU.out]
          have hld := b32_ld HC5.out HCL5.out
          have HVN := Lib.hid hv
          clear hv HV
          go_wp2_with (first
            | (refine wpList_store_all rfl 26 (.tmp 4) (.tmp 52) rfl w.heap.size (u8s cur) (by rfl) (by rfl) 26 o32 (by exact HB5.out) (by rw [HCL5.out]; exact hd24) (u8s_one _) (by rw [HCL5.out]; rfl) ?_
               intro w8 hb8 ho8
               have HE8 := Lib.hid (ho8.below HE5.out (Nat.le_refl _) HE5.out.size)))
          exact bodyPost_ret (res_cell_tmp rfl _ _ _ _ rfl hb8 _ Tryz.underlying26 rfl (by rw [HCL5.out]; exact hd24)) rfl ⟨by rw [← HVN.out]; rfl, HE8.out⟩
end Go.Proofs.YtlbnibmcflmohaaGreat
