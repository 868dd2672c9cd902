/- Part of the proof: Opa, PacketParsesN. -/
import Derived.Test.YtpgpaenloaphaaaGreatPpx44
import Derived.Test.YtpgpaenloaphaaaGreatPpx45
import Derived.Test.YtpgpaenloaphaaaGreatPpx49
import Derived.Test.YtpgpaenloaphaaaGreatPpx50
namespace Go.Proofs.YtpgpaenloaphaaaGreat
open Go.RowKit
noncomputable def opN (s : Sp) (h : List UInt8) : List UInt8 := if fits s h = false then z288 else if dce ((plainOf s h).take 32) ≠ 0 then z288 else if (dcm ((plainOf s h).take 32)).k ≠ 1 then z288 else if mE s.blind s.alpha = 0 then mB s.blind s.alpha ++ (plainOf s h).drop 32 else z288
theorem op_next (s : Sp) (h : List UInt8) (hh : h.length = 288) : (opL s h = [] ∧ opN s h = z288) ∨ ((opL s h).length = 288 ∧ opN s h = opL s h) := by
 unfold opL opN
 by_cases h1 : fits s h = false
 · left; rw [if_pos h1, if_pos h1]; exact ⟨rfl, rfl⟩
 · rw [if_neg h1, if_neg h1]
   by_cases h2 : dce ((plainOf s h).take 32) ≠ 0
   · left; rw [if_pos h2, if_pos h2]; exact ⟨rfl, rfl⟩
   · rw [if_neg h2, if_neg h2]
     by_cases h3 : (dcm ((plainOf s h).take 32)).k ≠ 1
     · left; rw [if_pos h3, if_pos h3]; exact ⟨rfl, rfl⟩
     · rw [if_neg h3, if_neg h3]
       by_cases h4 : mE s.blind s.alpha = 0
       · right; rw [if_pos h4, if_pos h4]; exact ⟨by rw [List.length_append, mB_len, List.length_drop, plainOf_len s hh], rfl⟩
       · left; rw [if_neg h4, if_neg h4]; exact ⟨rfl, rfl⟩
theorem opN_len (s : Sp) (h : List UInt8) (hh : h.length = 288) : (opN s h).length = 288 := by
 rcases op_next s h hh with ⟨_, h2⟩ | ⟨h1, h2⟩
 · rw [h2]; exact List.length_replicate
 · rw [h2]; exact h1
theorem opC_ok (s : Sp) (h : List UInt8) (hh : h.length = 288) : (opC s h).ok := by
 have hd : (dcm ((plainOf s h).take 32)).ok := dcm_ok (by rw [List.length_take, plainOf_len s hh]; rfl)
 unfold opC
 repeat' split
 all_goals first | exact Cm.zero_ok | exact hd
theorem hopen_any (s : Sp) (hs : s.ok) (h : List UInt8) (hh : h.length = 288) (w : World) :
   Calls Tryz.prog 16 #[.agg (u8s h).toArray, .agg s.cells.toArray] w fun e w' => e = .returned (.tuple #[.agg (opC s h).cells.toArray, .agg (u8s (opN s h)).toArray, .int .i64 (opE s h : Int)]) ∧ Below w.heap.size w w' := by
 unfold opC opN opE
 by_cases h1 : fits s h = false
 · simp only [if_pos h1]
   exact open_bad s hs h hh h1 w
 · have h1' : fits s h = true := by simpa using h1
   simp only [if_neg h1]
   by_cases h2 : dce ((plainOf s h).take 32) ≠ 0
   · simp only [if_pos h2]
     exact open_form s hs h hh h1' h2 w
   · have h2' : dce ((plainOf s h).take 32) = 0 := Decidable.not_not.1 h2
     simp only [if_neg h2]
     by_cases h3 : (dcm ((plainOf s h).take 32)).k ≠ 1
     · simp only [if_pos h3]
       exact open_last s hs h hh h1' h2' h3 w
     · have h3' : (dcm ((plainOf s h).take 32)).k = 1 := Decidable.not_not.1 h3
       simp only [if_neg h3]
       refine (open_relay s hs h hh h1' h2' h3' w).mono ?_
       rintro e w' ⟨rfl, hB⟩
       refine ⟨?_, hB⟩
       by_cases h4 : mE s.blind s.alpha = 0
       · simp only [if_pos h4]
       · simp only [if_neg h4]
end Go.Proofs.YtpgpaenloaphaaaGreat
namespace Go.Proofs.YtpgpaenloaphaaaGreat.packetParses
open Go.RowKit
attribute [local go_sem ↓] ldq_34 ldq_27 ldq_cm ldq_76 eqq_76 ldq_67 ldq_24 neq_cm
set_option maxRecDepth 100000 in
set_option maxHeartbeats 1000000 in
theorem walk_no (A : Option Addr) (n c : Nat) (l : List UInt8) (s : Sp) (w : World) (h : Rd w A n (u8s l)) (hn : n ≤ 140737488351232) (hne : ¬ n = 768) :
   Calls Tryz.prog 3 #[.slice A n c, .agg s.cells.toArray] w fun e w' => e = .returned (.bool true) ∧ Below w.heap.size w w' := by
 have hne' : ((n : Int) != 768) = true := by rw [bne_iff_ne]; omega
 obtain ⟨Z, hZ⟩ : ∃ Z, Z = u8s z768 := ⟨_, rfl⟩
 have HPN : Hid (∀ A c W, Calls Tryz.prog 11 #[.slice A n c] W fun e w' => e = .returned (.tuple #[.agg Z.toArray, .int .i64 2]) ∧ Below W.heap.size W w') := fun A c W => by
   have h5 := pparse_no A n c W hne
   rw [zc76z, ← hZ] at h5
   exact h5
 have hq : ∀ W, (eqAt 35 (.agg Z.toArray) (.agg Tryz.zeroCells35)).run Tryz.prog W = .ok (.bool true) W := fun W => by rw [hZ]; exact eq76y W
 have HZC : Hid (Tryz.zeroCells35 = Z.toArray) := by rw [hZ]; exact zc76z
 have HZ1 : Hid (∀ v ∈ Z, v.oneCell' = true) := by rw [hZ]; exact u8s_one _
 have HZL : Hid (Z.length = 768) := by show _ = _; rw [hZ, u8s_length, z768_length]
 have HLD : Hid (∀ (W : World) G, Blk W G 35 Z → (ldAt 35 (.pointer (some ⟨G, 0, none⟩))).run Tryz.prog W = .ok (.agg Z.toArray) W) := fun W G hb => by
   rw [hZ] at hb ⊢
   exact pk_ld hb z768_length
 clear hZ
 generalize s.cells = S at *
 have HR := qh h
 have HE0 : Hid (Below w.heap.size w (w.alloc (.cells S.toArray 27))) := (Below.refl _ w).alloc (Nat.le_refl _) _
 clear hne h
 go_enter Tryz.func3, Tryz.ntmps3
 go_wp2_with (first
   | (go_at_call 10; refine (awake14 _).mono ?_; rintro e w1 ⟨rfl, hB1⟩; have HE1 := qtr HE0 hB1; clear hB1)
   | (go_at_call 12; refine (copy_any A n c l _ (HR.out.below HE1.out) (by omega)).mono ?_; rintro e w2 ⟨A2, c2, rfl, hc2, hown2, hB2⟩; have HE2 := qtr HE1 hB2; clear hB2)
   | (go_at_call 11; (with_reducible refine (HPN.out _ _ _).mono ?_); rintro e w3 ⟨rfl, hB3⟩; have HE3 := qtr HE2 hB3; clear hB3)
   | (refine wpList_store_all rfl 35 (.tmp 5) (.tmp 19) rfl w3.heap.size Z (by rfl) (by rfl) 35 Z (by exact Blk.new' rfl HZC.out) (by rw [HZL.out]; exact hd76) HZ1.out rfl ?_
      intro w4 hb4 ho4
      have hld := HLD.out _ _ hb4
      have HE4 := qh (ho4.below (HE3.out.alloc HE3.out.size _) HE3.out.size (Nat.le_trans HE3.out.size (by simp)))
      clear ho4))
 go_ret
 exact ⟨rfl, HE4.out⟩
end Go.Proofs.YtpgpaenloaphaaaGreat.packetParses
