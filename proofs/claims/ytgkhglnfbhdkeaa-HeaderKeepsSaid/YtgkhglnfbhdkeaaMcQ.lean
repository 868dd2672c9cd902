/- mac.Tagger.Sum, mac.Tag: the tag of what was written. -/
import Derived.Test.YtgkhglnfbhdkeaaMcP
namespace Go.Proofs.Ytgkhglnfbhdkeaa
open Go.RowKit

set_option maxRecDepth 100000 in
set_option maxHeartbeats 1000000 in
theorem tsum_any (g : Nat) (kk l : List UInt8) (w : World) (h : HashIn w g 149 (u8s kk) l) (hkl : kk.length = 64) (hl : l.length ≤ 1000000000) :
    Calls Try.prog 87 #[.pointer (some ⟨g, 0, none⟩)] w fun e w' => e = .returned (.agg (u8s (Sh.sha (Mc.mask kk 92 ++ Sh.sha l))).toArray) ∧ Below w.heap.size w w' := by
  have HHS := Lib.hid (fun W (hin : HashIn W g 149 (u8s kk) l) => hsum_any g 149 (u8s kk) l W hin (by omega))
  have HMK : Hid (∀ W : World, Calls Try.prog 106 #[.agg (u8s kk).toArray, .int .u8 92] W fun e w' => e = .returned (.slice (some ⟨W.heap.size + 1, 0, none⟩) 64 64) ∧ Blk w' (W.heap.size + 1) 5 (u8s (Mc.mask kk 92)) ∧ Below W.heap.size W w') := fun W => masked_any kk 92 W hkl
  have HKL : Hid ((u8s kk).length = 64) := by show _ = _; rw [u8s_length, hkl]
  have HML : Hid ((Mc.mask kk 92).length = 64) := by show _ = _; rw [Mc.mask_len, hkl]
  have HSL : Hid ((Sh.sha l).length = 32) := Sh.sha_len l
  have HI1 : Hid ((Try.prog.info? 24).map (·.size) = some (u8s (Sh.sha l)).length) := by rw [u8s_length, Sh.sha_len]; exact hd24
  have HL1 : Hid ((u8s (Sh.sha l)).length = (u8s (List.replicate 32 0)).length) := by show _ = _; rw [u8s_length, Sh.sha_len]; rfl
  have HI2 : Hid ((Try.prog.info? 24).map (·.size) = some (u8s (Sh.sha (Mc.mask kk 92 ++ Sh.sha l))).length) := by rw [u8s_length, Sh.sha_len]; exact hd24
  have HL2 : Hid (0 + (u8s (Sh.sha (Mc.mask kk 92 ++ Sh.sha l))).length ≤ (u8s (List.replicate 32 0)).length) := by rw [u8s_length, Sh.sha_len]; exact Nat.le_refl 32
  have HE2 : Hid (splice (u8s (List.replicate 32 0)) 0 (u8s (Sh.sha (Mc.mask kk 92 ++ Sh.sha l))) = u8s (Sh.sha (Mc.mask kk 92 ++ Sh.sha l))) := splice_whole _ _ (by rw [u8s_length, Sh.sha_len]; rfl)
  have HSU : Hid (∀ W A1, RdB W A1 2 [Mc.mask kk 92, Sh.sha l] → Calls Try.prog 109 #[.slice A1 2 2] W fun e w' => e = .returned (.agg (u8s (Sh.sha (Mc.mask kk 92 ++ Sh.sha l))).toArray) ∧ Below W.heap.size W w') := fun W A1 hr => by
    have := sum_any A1 2 2 _ W hr (by omega) (by simp [HML.out, HSL.out])
    simpa using this
  have HRB : Hid (∀ (W : World) (b1 b2 g : Nat), g = W.heap.size → Rd W (some ⟨b1, 0, none⟩) 64 (u8s (Mc.mask kk 92)) → Rd W (some ⟨b2, 0, none⟩) 32 (u8s (Sh.sha l)) → RdB (W.alloc (.cells #[.slice (some ⟨b1, 0, none⟩) 64 64, .slice (some ⟨b2, 0, none⟩) 32 32] 22)) (some ⟨g, 0, none⟩) 2 [Mc.mask kk 92, Sh.sha l]) := fun W b1 b2 g hg h1 h2 =>
    RdB.of_blk (Blk.new' (cs := [.slice (some ⟨b1, 0, none⟩) 64 64, .slice (some ⟨b2, 0, none⟩) 32 32]) hg rfl) ⟨.of_rd (h1.alloc _) (Nat.le_refl _), .of_rd (h2.alloc _) (Nat.le_refl _), trivial⟩
  obtain ⟨S1, hS1⟩ : ∃ S1, S1 = u8s (Sh.sha l) := ⟨_, rfl⟩
  obtain ⟨S2, hS2⟩ : ∃ S2, S2 = u8s (Sh.sha (Mc.mask kk 92 ++ Sh.sha l)) := ⟨_, rfl⟩
  have HO1 : Hid (∀ v ∈ S1, v.oneCell' = true) := by rw [hS1]; exact u8s_one _
  have HO2 : Hid (∀ v ∈ S2, v.oneCell' = true) := by rw [hS2]; exact u8s_one _
  rw [← hS1] at HHS HI1 HL1 HRB
  rw [← hS2] at HI2 HL2 HE2 HSU ⊢
  obtain ⟨K, hK⟩ : ∃ K, K = u8s kk := ⟨_, rfl⟩
  rw [← hK] at h HHS HMK HKL
  have HIN := Lib.hid h
  have hgl := h.lt
  have HS1 := Lib.hid hS1
  clear h hS1 hS2 hK
  go_enter Try.func87, Try.ntmps87
  go_wp2_with (first
    | (go_at_call 108; refine (HHS.out _ (by exact HIN.out.below ((Below.refl _ _).alloc (Nat.le_refl _) _))).mono ?_; rintro e w1 ⟨rfl, hB1⟩
       have hin1 := Lib.hid ((HIN.out.below ((Below.refl _ _).alloc (Nat.le_refl _) _)).below hB1)
       have HB1 : Hid (Below w.heap.size w w1) := ((Below.refl _ _).alloc (Nat.le_refl _) _).trans (hB1.mono (by simp))
       have HZ1 : Hid (Blk w1 w.heap.size 24 (u8s (List.replicate 32 0))) := (Blk.new' rfl rfl : Blk _ w.heap.size _ _).below hB1 (by simp)
       clear hB1)
    | (refine wpList_store_all rfl 24 (.tmp 3) (.tmp 7) rfl w1.heap.size S1 (by rfl) (by rfl) 24 (u8s (List.replicate 32 0)) (by exact Blk.new' rfl rfl) HI1.out HO1.out HL1.out ?_
       intro w2 hb2 ho2))
  have hin2 : Hid (HashIn w2 g 149 K l) := by
    obtain ⟨st, op, hb, hst⟩ := hin1.out
    exact ⟨st, op, ho2.blk (hb.alloc _) (by have := hb.lt; omega), hst⟩
  have HB2 : Hid (Below w.heap.size w w2) := ho2.below (HB1.out.alloc HB1.out.size _) HB1.out.size (Nat.le_trans HB1.out.size (by simp))
  have HZ2 : Hid (Blk w2 w.heap.size 24 (u8s (List.replicate 32 0))) := ho2.blk (HZ1.out.alloc _) (by have := HZ1.out.lt; omega)
  have HX2 : Hid (Rd w2 (some ⟨w1.heap.size, 0, none⟩) 32 S1) := by have h5 := hb2.rd 0 32 (by rw [HL1.out]; exact Nat.le_refl 32); rwa [List.drop_zero, List.take_of_length_le (by rw [HL1.out]; exact Nat.le_refl 32)] at h5
  have hk2 := hin2.out.key
  have ht2 : w2.there w.heap.size 0 32 := HZ2.out.there 0 32 (by rw [u8s_length]; exact Nat.le_refl 32)
  have hu145 := Try.underlying145
  have hi145 : (Try.prog.info? 145).map (·.size) = some K.length := by rw [HKL.out]; exact hd145
  have hi24 := HI2.out
  have hl24 : S2.length = 32 := by have := HI2.out; rw [hd24] at this; injection this with this; exact this.symm
  have hone2 := HO2.out
  clear hb2 ho2 hin1 HB1 HZ1
  go_region_held3 (fun W' => W'.rangeAt g 73 K ∧ W'.there w.heap.size 0 32) (first | assumption | exact ⟨hk2, ht2⟩ | exact ⟨hk3, ht3⟩ | exact ⟨rangeAt_alloc hk3 _, (HZ3.out.alloc _).there 0 32 (by rw [u8s_length]; exact Nat.le_refl 32)⟩ | exact ⟨hk4, ht4⟩ | exact ⟨hk5, ht5⟩) (first
    | (go_at_call 106; (with_reducible refine (HMK.out _).mono ?_); rintro e w3 ⟨rfl, hb3, hB3⟩; have hin3 := Lib.hid ((hin2.out.below (Below.refl _ _).drew).below hB3); have hl3 := hb3.lt; have hk3 := hin3.out.key
       have HZ3 : Hid (Blk w3 w.heap.size 24 (u8s (List.replicate 32 0))) := HZ2.out.drew.below hB3 HZ2.out.lt
       have ht3 : w3.there w.heap.size 0 32 := HZ3.out.there 0 32 (by rw [u8s_length]; exact Nat.le_refl 32)
       have hq3 : Hid (Rd w3 (some ⟨w2.heap.size + 1, 0, none⟩) 64 (u8s (Mc.mask kk 92))) := by { have h5 := hb3.rdAll; rw [HML.out] at h5; exact h5 }
       have HX3 : Hid (Rd w3 (some ⟨w1.heap.size, 0, none⟩) 32 S1) := HX2.out.drew.below hB3)
    | (go_at_call 109; (with_reducible refine (HSU.out _ _ (by exact HRB.out _ _ _ _ rfl hq3.out HX3.out)).mono ?_); rintro e w4 ⟨rfl, hB4⟩
       have hin4 := Lib.hid ((hin3.out.below ((Below.refl _ _).alloc (Nat.le_refl _) _)).below hB4)
       have hk4 := hin4.out.key
       have HZ4 : Hid (Blk w4 w.heap.size 24 (u8s (List.replicate 32 0))) := (HZ3.out.alloc _).below hB4 (by have := HZ3.out.lt; simp; omega)
       have ht4 : w4.there w.heap.size 0 32 := HZ4.out.there 0 32 (by rw [u8s_length]; exact Nat.le_refl 32)
       have hb5 : Hid (Blk (w4.setCells w.heap.size 0 S2) w.heap.size 24 S2) := by { have h5 := setCells_heap w.heap.size _ S2 0 _ _ HZ4.out HL2.out; rw [HE2.out] at h5; exact h5 }
       have ht5 : (w4.setCells w.heap.size 0 S2).there w.heap.size 0 32 := hb5.out.there 0 32 (by omega)
       have hk5 : (w4.setCells w.heap.size 0 S2).rangeAt g 73 K := by { obtain ⟨st, op, hb, hst⟩ := hin4.out; exact HashIn.key (l := l) ⟨st, op, (Only.of_setCells w4 w.heap.size 0 S2).blk hb (by omega), hst⟩ }))
  have HB4 : Hid (Below w.heap.size w w4) := ((HB2.out.drew.trans (hB3.mono HB2.out.size)).alloc (Nat.le_trans HB2.out.size hB3.size) _).trans (hB4.mono (Nat.le_trans (Nat.le_trans HB2.out.size hB3.size) (by simp)))
  clear hk2 hk3 hk4 hk5 ht2 ht3 ht4 ht5
  go_wp2_with fail
  exact bodyPost_ret (res_cell rfl _ w.heap.size _ S2 rfl hb5.out _ Try.underlying24 rfl HI2.out) rfl ⟨rfl, setCells_below w.heap.size w.heap.size w S2 0 _ HB4.out (Nat.le_refl _)⟩
end Go.Proofs.Ytgkhglnfbhdkeaa

/- mac.Tag: the tag of parts. -/
namespace Go.Proofs.Ytgkhglnfbhdkeaa
open Go.RowKit

set_option maxRecDepth 100000 in
set_option maxHeartbeats 1000000 in
theorem tag_any (A : Option Addr) (n c : Nat) (k : List UInt8) (A2 : Option Addr) (n2 c2 : Nat) (ls : List (List UInt8)) (w : World) (h : Rd w A n (u8s k)) (hc : n ≤ c) (hn : n ≤ 1000000000) (h2 : RdB w A2 n2 ls) (hn2 : n2 ≤ 1000000) (hl : ls.flatten.length ≤ 100000000) :
    Calls Try.prog 70 #[.slice A n c, .slice A2 n2 c2] w fun e w' => e = .returned (.agg (u8s (Mc.tag k ls.flatten)).toArray) ∧ Below w.heap.size w w' := by
  have hkl := Mc.key64_len k
  have hml : (Mc.mask (Mc.key64 k) 54).length = 64 := by rw [Mc.mask_len, hkl]
  have HNT := Lib.hid (fun W (h : Rd W A n (u8s k)) => newTagger_any A n c k W h hc hn)
  have HWR := Lib.hid (fun W g (hin : HashIn W g 149 (u8s (Mc.key64 k)) (Mc.mask (Mc.key64 k) 54)) (hr : RdX W g A2 n2 ls) => write_any g 149 _ _ A2 n2 c2 ls W hin hr hn2 (by rw [hml]; omega))
  have HTS := Lib.hid (fun W g (hin : HashIn W g 149 (u8s (Mc.key64 k)) (Mc.mask (Mc.key64 k) 54 ++ ls.flatten)) => tsum_any g (Mc.key64 k) _ W hin hkl (by rw [List.length_append, hml]; omega))
  have HI2 : Hid ((Try.prog.info? 24).map (·.size) = some (u8s (Mc.tag k ls.flatten)).length) := by rw [u8s_length, Mc.tag_len]; exact hd24
  have HL2 : Hid ((u8s (Mc.tag k ls.flatten)).length = (u8s (List.replicate 32 0)).length) := by show _ = _; rw [u8s_length, Mc.tag_len]; rfl
  have HO2 : Hid (∀ v ∈ u8s (Mc.tag k ls.flatten), v.oneCell' = true) := u8s_one _
  have HX : Hid (∀ W g, Below w.heap.size w W → w.heap.size ≤ g → RdX W g A2 n2 ls) := fun W g hW hg => (RdX.of h2 hg).below hW
  have HR := Lib.hid h
  obtain ⟨S2, hS2⟩ : ∃ S2, S2 = u8s (Mc.tag k ls.flatten) := ⟨_, rfl⟩
  have HTS' : Hid (∀ W g, HashIn W g 149 (u8s (Mc.key64 k)) (Mc.mask (Mc.key64 k) 54 ++ ls.flatten) → Calls Try.prog 87 #[.pointer (some ⟨g, 0, none⟩)] W fun e w' => e = .returned (.agg S2.toArray) ∧ Below W.heap.size W w') := fun W g hin => by rw [hS2]; exact HTS.out W g hin
  rw [← hS2] at HI2 HL2 HO2 ⊢
  clear hkl hml h h2 hS2 HTS
  go_enter Try.func70, Try.ntmps70
  go_wp2_with (first
    | (go_at_call 85; refine (HNT.out _ (by exact HR.out.alloc _)).mono ?_; rintro e w1 ⟨g, rfl, hg, hin1, hB1⟩
       have hg2 : w.heap.size < g := by have h5 := hg; simp at h5; omega
       have HI1 := Lib.hid hin1
       have HB1 : Hid (Below w.heap.size w w1) := ((Below.refl _ _).alloc (Nat.le_refl _) _).trans (hB1.mono (by simp))
       have HZ1 : Hid (Blk w1 w.heap.size 24 (u8s (List.replicate 32 0))) := (Blk.new' rfl rfl : Blk _ w.heap.size _ _).below hB1 (by simp)
       clear hin1 hB1 hg)
    | (go_at_call 86; refine (HWR.out _ g HI1.out (HX.out _ g HB1.out (by omega))).mono ?_; rintro e w2 ⟨rfl, hin2, hW2⟩
       have HIN2 := Lib.hid hin2
       have HB2 : Hid (Below w.heap.size w w2) := Wrote.below hW2 HB1.out (by omega) HB1.out.size
       have HZ2 : Hid (Blk w2 w.heap.size 24 (u8s (List.replicate 32 0))) := Blk.wrote HZ1.out hW2 (by omega)
       clear hin2 hW2)
    | (go_at_call 87; refine (HTS'.out _ g HIN2.out).mono ?_; rintro e w3 ⟨rfl, hB3⟩
       have HB3 : Hid (Below w.heap.size w w3) := HB2.out.trans (hB3.mono HB2.out.size)
       have HZ3 : Hid (Blk w3 w.heap.size 24 (u8s (List.replicate 32 0))) := HZ2.out.below hB3 HZ2.out.lt
       clear hB3)
    | (refine wpList_store_all rfl 24 (.tmp 4) (.tmp 14) rfl w.heap.size S2 (by rfl) (by rfl) 24 _ HZ3.out HI2.out HO2.out HL2.out ?_; intro w8 hb8 ho8))
  exact bodyPost_ret (res_cell rfl _ w.heap.size _ S2 rfl hb8 _ Try.underlying24 rfl HI2.out) rfl ⟨rfl, ho8.below HB3.out (Nat.le_refl _) HB3.out.size⟩
end Go.Proofs.Ytgkhglnfbhdkeaa

/- mac.first, mac.Short: the first 16 bytes of a tag. -/
namespace Go.Proofs.Ytgkhglnfbhdkeaa
open Go.RowKit

set_option maxRecDepth 100000 in
set_option maxHeartbeats 1000000 in
theorem first_any (t : List UInt8) (w : World) (ht : t.length = 32) :
    Calls Try.prog 69 #[.agg (u8s t).toArray] w fun e w' => e = .returned (.slice (some ⟨w.heap.size + 1, 0, none⟩) 16 16) ∧ Blk w' (w.heap.size + 1) 5 (u8s (t.take 16)) ∧ Below w.heap.size w w' := by
  have HE : Hid (splice (u8s (List.replicate 16 0)) 0 ((u8s t).take 16) = u8s (t.take 16)) := by
    show _ = _
    rw [u8s_take]
    exact splice_whole _ _ (by rw [u8s_length, u8s_length, List.length_take, ht]; rfl)
  have HT := Lib.hid ht
  obtain ⟨U, hU⟩ : ∃ U, U = u8s t := ⟨_, rfl⟩
  have HU := Lib.hid hU
  have HU1 : Hid (∀ v ∈ U, v.oneCell' = true) := by rw [hU]; exact u8s_one _
  have HUL : Hid (U.length = 32) := by rw [hU]; show _ = _; rw [u8s_length, ht]
  rw [← hU] at HE ⊢
  clear hU ht
  go_enter Try.func69, Try.ntmps69
  go_wp2_with (first
    | (refine wpList_make1 rfl (.const (.int .i64 16)) (.const (.int .i64 16)) 22 rfl 5 (.int .u8 0) 1 Try.underlying22 iU8 rfl .i64 .i64 16 16 (by rfl) (by rfl) 16 16 rfl rfl (Nat.le_refl _) (by omega) (by omega) ?_
       intro w1 hb1 hg1 hs1
       have HR1 : Hid (Rd w1 (some ⟨w.heap.size, 0, none⟩) 32 U) := by { have h5 := ((Blk.new w 24 U).below (grown_below hg1) (by simp)).rd 0 32 (by rw [HUL.out]; exact Nat.le_refl 32); rw [List.drop_zero, List.take_of_length_le (by rw [HUL.out]; exact Nat.le_refl 32)] at h5; exact h5 }
       have HB1 : Hid (Below w.heap.size w w1) := ((Below.refl _ _).alloc (Nat.le_refl _) _).trans ((grown_below hg1).mono (by simp))
       have HZ1 : Hid (Blk w1 (w.heap.size + 1) 5 (u8s (List.replicate 16 0))) := by { have h5 := hb1; rw [show (w.alloc (.cells U.toArray 24)).heap.size = w.heap.size + 1 by simp] at h5; exact h5 }
       clear hb1 hg1 hs1)
    | (refine wpList_copy rfl (.tmp 5) (.tmp 6) 22 rfl 5 Try.underlying22 u8_one1 (w.heap.size + 1) 0 16 16 (by rfl) (some ⟨w.heap.size, 0, none⟩) 32 32 (by rfl) 5 (u8s (List.replicate 16 0)) HZ1.out U HR1.out HU1.out (by rw [u8s_length]; exact Nat.le_refl _) ?_
       intro w2 hb2 ho2
       rw [HE.out] at hb2
       have HB2 : Hid (Below w.heap.size w w2) := ho2.below HB1.out (by omega) HB1.out.size))
  go_ret
  exact ⟨rfl, hb2, HB2.out⟩
theorem short_any (A : Option Addr) (n c : Nat) (k : List UInt8) (A2 : Option Addr) (n2 c2 : Nat) (ls : List (List UInt8)) (w : World) (h : Rd w A n (u8s k)) (hc : n ≤ c) (hn : n ≤ 1000000000) (h2 : RdB w A2 n2 ls) (hn2 : n2 ≤ 1000000) (hl : ls.flatten.length ≤ 100000000) :
    Calls Try.prog 48 #[.slice A n c, .slice A2 n2 c2] w fun e w' => ∃ g, e = .returned (.slice (some ⟨g, 0, none⟩) 16 16) ∧ w.heap.size ≤ g ∧ Blk w' g 5 (u8s ((Mc.tag k ls.flatten).take 16)) ∧ Below w.heap.size w w' := by
  have HT := Lib.hid (tag_any A n c k A2 n2 c2 ls w h hc hn h2 hn2 hl)
  have HF := Lib.hid (fun W => first_any (Mc.tag k ls.flatten) W (Mc.tag_len _ _))
  clear h h2
  go_enter Try.func48, Try.ntmps48
  go_wp2_with (first
    | (go_at_call 70; refine HT.out.mono ?_; rintro e w1 ⟨rfl, hB1⟩)
    | (go_at_call 69; refine (HF.out _).mono ?_; rintro e w2 ⟨rfl, hb2, hB2⟩))
  go_ret
  exact ⟨_, rfl, by have := hB1.size; omega, hb2, hB1.trans (hB2.mono hB1.size)⟩
end Go.Proofs.Ytgkhglnfbhdkeaa

/- mac.Extract: the tag of a secret by a salt. -/
namespace Go.Proofs.Ytgkhglnfbhdkeaa
open Go.RowKit

set_option maxRecDepth 100000 in
set_option maxHeartbeats 1000000 in
theorem extract_any (A : Option Addr) (n c : Nat) (k : List UInt8) (A2 : Option Addr) (n2 c2 : Nat) (l : List UInt8) (w : World) (h : Rd w A n (u8s k)) (hc : n ≤ c) (hn : n ≤ 1000000000) (h2 : Rd w A2 n2 (u8s l)) (hc2 : n2 ≤ c2) (hl : n2 ≤ 100000000) :
    Calls Try.prog 100 #[.slice A n c, .slice A2 n2 c2] w fun e w' => e = .returned (.agg (u8s (Mc.tag k l)).toArray) ∧ Below w.heap.size w w' := by
  have hll : l.length = n2 := h2.len
  have HTG : Hid (∀ W A3, Rd W A n (u8s k) → RdB W A3 1 [l] → Calls Try.prog 70 #[.slice A n c, .slice A3 1 1] W fun e w' => e = .returned (.agg (u8s (Mc.tag k l)).toArray) ∧ Below W.heap.size W w') := fun W A3 h1 hr => by
    have := tag_any A n c k A3 1 1 [l] W h1 hc hn hr (by omega) (by simp; omega)
    simpa using this
  have HRB : Hid (∀ (W : World) (g : Nat), g = W.heap.size → Rd W A2 n2 (u8s l) → RdB (W.alloc (.cells #[.slice A2 n2 c2] 22)) (some ⟨g, 0, none⟩) 1 [l]) := fun W g hg hr => RdB.of_blk (ls := [l]) (Blk.new' (cs := [.slice A2 n2 c2]) hg rfl) ⟨.of_rd (hr.alloc _) hc2, trivial⟩
  have HI2 : Hid ((Try.prog.info? 24).map (·.size) = some (u8s (Mc.tag k l)).length) := by rw [u8s_length, Mc.tag_len]; exact hd24
  have HL2 : Hid ((u8s (Mc.tag k l)).length = (u8s (List.replicate 32 0)).length) := by show _ = _; rw [u8s_length, Mc.tag_len]; rfl
  have HO2 : Hid (∀ v ∈ u8s (Mc.tag k l), v.oneCell' = true) := u8s_one _
  have HR := Lib.hid h
  have HR2 := Lib.hid h2
  obtain ⟨S2, hS2⟩ : ∃ S2, S2 = u8s (Mc.tag k l) := ⟨_, rfl⟩
  rw [← hS2] at HTG HI2 HL2 HO2 ⊢
  clear hll h h2 hS2
  go_enter Try.func100, Try.ntmps100
  go_wp2_with (first
    | (go_at_call 70; (with_reducible refine (HTG.out _ _ (by exact (HR.out.alloc _).alloc _) (by exact HRB.out _ _ (by simp) (HR2.out.alloc _))).mono ?_); rintro e w1 ⟨rfl, hB1⟩
       have HB1 : Hid (Below w.heap.size w w1) := (((Below.refl _ _).alloc (Nat.le_refl _) _).alloc (by simp) _).trans (hB1.mono (by simp; omega))
       have HZ1 : Hid (Blk w1 w.heap.size 24 (u8s (List.replicate 32 0))) := ((Blk.new' rfl rfl : Blk _ w.heap.size _ _).alloc _).below hB1 (by simp; omega))
    | (refine wpList_store_all rfl 24 (.tmp 4) (.tmp 8) rfl w.heap.size S2 (by rfl) (by rfl) 24 _ HZ1.out HI2.out HO2.out HL2.out ?_; intro w8 hb8 ho8))
  exact bodyPost_ret (res_cell rfl _ w.heap.size _ S2 rfl hb8 _ Try.underlying24 rfl HI2.out) rfl ⟨rfl, ho8.below HB1.out (Nat.le_refl _) HB1.out.size⟩
end Go.Proofs.Ytgkhglnfbhdkeaa
