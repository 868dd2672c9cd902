/- PacketParses: every 768 bytes are a packet, and it fits and opens as the header inside it does: for every list of bytes and every step the law returns true. -/
import Derived.Test.YtpgpaenloaphaaaGreatPpx24
import Derived.Test.YtpgpaenloaphaaaGreatPpx42
import Derived.Test.YtpgpaenloaphaaaGreatPpx44
import Derived.Test.YtpgpaenloaphaaaGreatPpx45
import Derived.Test.YtpgpaenloaphaaaGreatPpx49
import Derived.Test.YtpgpaenloaphaaaGreatPpx51
namespace Go.Proofs.YtpgpaenloaphaaaGreat.packetParses
open Go.RowKit
theorem stq_cmd (p v : Value) : Instr.storeAt 47 p v = stAt 47 p v := rfl
attribute [local go_sem ↓] stq_cmd ldq_34 ldq_27 ldq_cm ldq_76 ldq_69 ldq_67 ldq_24 neq_cm
theorem _root_.Go.Proofs.YtpgpaenloaphaaaGreat.Rd.apart_blk {w : World} {A : Option Addr} {n : Nat} {xs : List Value} (h : Rd w A n xs) {g : Nat} {t : TypeId} {cs : List Value} (hb : Blk w g t cs) (hn : cs.length < n) : ∀ ad, A = some ad → ad.block ≠ g := by
 intro ad e hg
 obtain ⟨b, off, e2, _, hc⟩ := h.2 (by omega)
 rw [e2] at e
 injection e with e
 subst e
 have h1 : cs.length < xs.length := by rw [h.1]; exact hn
 have h2 := hc cs.length _ (List.getElem?_eq_getElem h1)
 have h3 : b = g := hg
 subst h3
 rw [hb.cell, List.getElem?_eq_none (by omega)] at h2
 cases h2
theorem ex_cutTo {o : Oper} {a : Act} {w : World} {x : Operand} {g off n c : Nat} (k : Nat) (ho : o.op = .slice 22 x none (some (.const (.int .i64 (k : Int)))) none) (hx : a.eval x = .slice (some ⟨g, off, none⟩) n c) (hk : k ≤ c) : (execOp a.eval o).run Tryz.prog w = .ok (.value (.slice (some ⟨g, off, none⟩) k c)) w := by
 unfold execOp
 have he : a.eval (.const (.int .i64 (k : Int))) = .int .i64 (k : Int) := rfl
 simp [ho, hx, he, Instr.sliceAt, Instr.slice, Instr.sliceBounds, Instr.sliceBound, asIntOf, run_underlying Tryz.underlying22, hk, Addr.add]
set_option maxRecDepth 100000 in
set_option maxHeartbeats 4000000 in
theorem walk_yes (A : Option Addr) (c : Nat) (l : List UInt8) (s : Sp) (hs : s.ok) (w : World) (h : Rd w A 768 (u8s l)) (hc : 768 ≤ c) :
   Calls Tryz.prog 3 #[.slice A 768 c, .agg s.cells.toArray] w fun e w' => e = .returned (.bool true) ∧ Below w.heap.size w w' := by
 have hl := h.len
 have HL := qh hl
 obtain ⟨b, off, rfl, hb, _⟩ := h.2 (by omega)
 obtain ⟨H, hH⟩ : ∃ H, H = l.take 288 := ⟨_, rfl⟩
 have hHl : H.length = 288 := by rw [hH, List.length_take, hl]; rfl
 have HHL := qh hHl
 have HR := qh h
 have HRH : Hid (∀ W, Below w.heap.size w W → Rd W (some ⟨b, off, none⟩) 288 (u8s H)) := fun W hB => by
   have := (h.below hB).cut (A' := some ⟨b, off, none⟩) (m := 288) (k := 0) (by omega) (by omega) (fun _ b' off' e => by injection e with e; injection e with e1 e2; subst e1; subst e2; rfl)
   rw [hH]
   rwa [List.drop_zero, u8s_take] at this
 have HUL : Hid ((u8s l).length = 768) := by show _ = _; rw [u8s_length, hl]
 have HSL := qh (Sp.cells_len hs)
 have HS1 := qh (Sp.cells_one s)
 have HBD := qh (fun w => bld_sp s hs w)
 have HF1 := qh (fun W => fits_any s hs H hHl W)
 have HF2 := qh (fun W (hW : Rd W (some ⟨b, off, none⟩) 288 (u8s H)) => rfits_any s hs (some ⟨b, off, none⟩) c H W hW (by omega))
 have HO1 := qh (fun W => hopen_any s hs H hHl W)
 have HO2 := qh (fun W (hW : Rd W (some ⟨b, off, none⟩) 288 (u8s H)) => ropen_any s hs (some ⟨b, off, none⟩) c H W hW (by omega))
 have hcok := opC_ok s H hHl
 have HCL : Hid ((opC s H).cells.length = 20) := Cm.cells_len hcok
 have HC1 : Hid (∀ v ∈ (opC s H).cells, v.oneCell' = true) := Cm.cells_one _
 have hneq := fun W => neCm (opC s H) hcok W
 have HNN := qh (op_next s H hHl)
 have HNL : Hid ((opN s H).length = 288) := opN_len s H hHl
 have k1 := Sp.keys_len hs
 have HL1 : Hid (∀ W, Blk W w.heap.size 27 s.cells → (ldAt 25 (.pointer (some ⟨w.heap.size, 0, none⟩))).run Tryz.prog W = .ok (.agg (u8s s.keys).toArray) W) := fun W hb =>
   ldAt_run hb _ 0 (u8s s.keys) (by rw [u8s_length, k1, Sp.cells, Sp.bytes_is, List.drop_zero, u8s_take, List.take_left' k1]) _ Tryz.underlying25 rfl (by rw [u8s_length, k1]; exact hd67)
 have HL2 : Hid (∀ W, Blk W w.heap.size 27 s.cells → (ldAt 23 (.pointer (some ⟨w.heap.size, 128, none⟩))).run Tryz.prog W = .ok (.agg (u8s s.alpha).toArray) W) := fun W hb =>
   ldAt_run hb _ 128 (u8s s.alpha) (by rw [u8s_length, hs.2.2.2.2.1, Sp.cells, u8s_drop, u8s_take, Sp.at_alpha hs]) _ Tryz.underlying23 rfl (by rw [u8s_length, hs.2.2.2.2.1]; exact hd24)
 have HL3 : Hid (∀ W, Blk W w.heap.size 27 s.cells → (ldAt 23 (.pointer (some ⟨w.heap.size, 160, none⟩))).run Tryz.prog W = .ok (.agg (u8s s.secret).toArray) W) := fun W hb =>
   ldAt_run hb _ 160 (u8s s.secret) (by
     have e : s.bytes = (s.keys ++ s.alpha) ++ s.secret := by rw [Sp.bytes_is, List.append_assoc]
     rw [u8s_length, hs.2.2.2.2.2, Sp.cells, u8s_drop, u8s_take, e, List.drop_left' (by rw [List.length_append, k1, hs.2.2.2.2.1]), List.take_of_length_le (by rw [hs.2.2.2.2.2]; exact Nat.le_refl _)]) _ Tryz.underlying23 rfl (by rw [u8s_length, hs.2.2.2.2.2]; exact hd24)
 generalize fits s H = F at *
 generalize (opC s H).cells = OC at *
 generalize opN s H = ON at *
 generalize opL s H = OL at *
 generalize opE s H = E at *
 generalize u8s s.keys = K1 at *
 generalize u8s s.alpha = K2 at *
 generalize u8s s.secret = K3 at *
 generalize s.cells = S at *
 have HB0 : Hid (Blk (w.alloc (.cells S.toArray 27)) w.heap.size 27 S) := Blk.new _ _ _
 have HE0 : Hid (Below w.heap.size w (w.alloc (.cells S.toArray 27))) := (Below.refl _ w).alloc (Nat.le_refl _) _
 have n288 : ¬ c = 288 := by omega
 have i288 : (288 : Int) ≤ (c : Int) := by omega
 have HC := qh hc
 have hPl : ∀ W G, Blk W G 35 (u8s l) → (ldAt 32 (.pointer (some ⟨G, 0, none⟩))).run Tryz.prog W = .ok (.agg (u8s H).toArray) W := fun W G hb => by rw [hH]; exact pkh_ld hb hl
 have hPk : ∀ W G, Blk W G 35 (u8s l) → (ldAt 35 (.pointer (some ⟨G, 0, none⟩))).run Tryz.prog W = .ok (.agg (u8s l).toArray) W := fun W G hb => pk_ld hb hl
 have HPL := qh hPl
 have HPK := qh hPk
 obtain ⟨U, hU⟩ : ∃ U, U = u8s l := ⟨_, rfl⟩
 rw [← hU] at HUL HR HPL HPK
 have HU1 : Hid (∀ v ∈ U, v.oneCell' = true) := by rw [hU]; exact u8s_one _
 have HCP := qh (fun W (hB : Below w.heap.size w W) => copy_any (some ⟨b, off, none⟩) 768 c l W (by rw [← hU]; exact HR.out.below hB) (by omega))
 have HPP := qh (fun A c (W : World) hr hc => pparse_yes A c l W hr hc)
 have HPB := qh (fun (W : World) => pbytes_any l W hl)
 have HEQ := qh (fun A c5 (W : World) (h1 : Rd W A 768 (u8s l)) (hB : Below w.heap.size w W) => equal_any A (some ⟨b, off, none⟩) 768 768 c5 c l l W h1 (by rw [← hU]; exact HR.out.below hB) (by omega) (by omega))
 rw [← hU] at HCP HPP HPB HEQ
 obtain ⟨Z, hZ⟩ : ∃ Z, Z = u8s z768 := ⟨_, rfl⟩
 have HZC : Hid (Tryz.zeroCells35 = Z.toArray) := by rw [hZ]; exact zc76z
 have HZN : Hid (U.length = Z.length) := by rw [hZ, u8s_length, z768_length]; exact HUL.out
 clear hU hl h hs hcok hH hHl k1 hPl hPk hZ hc
 go_enter Tryz.func3, Tryz.ntmps3
 go_upto_region 6 with (first
   | (go_at_call 10; refine (awake14 _).mono ?_; rintro e w1 ⟨rfl, hB1⟩; have HE1 := qtr HE0 hB1; have HZ1 := qbl HB0 hB1; clear hB1)
   | (go_at_call 12; refine (HCP.out _ HE1.out).mono ?_; rintro e w2 ⟨A2, c2, rfl, hc2, hown2, hB2⟩; have HE2 := qtr HE1 hB2; have HZ2 := qbl HZ1 hB2; have HO2' := qh (Rd.of_own hown2); have HC2 := qh hc2; clear hB2 hown2 hc2)
   | (go_at_call 11; (with_reducible refine (HPP.out _ _ _ HO2'.out HC2.out).mono ?_); rintro e w3 ⟨rfl, hB3⟩; have HE3 := qtr HE2 hB3; have HZ3 := qbl HZ2 hB3; clear hB3)
   | (refine wpList_store_all rfl 35 (.tmp 5) (.tmp 19) rfl w3.heap.size U (by rfl) (by rfl) 35 Z (by exact Blk.new' rfl HZC.out) (by rw [HUL.out]; exact hd76) HU1.out HZN.out ?_
      intro w4 hb4 ho4
      have HE4 := qh (ho4.below (HE3.out.alloc HE3.out.size _) HE3.out.size (Nat.le_trans HE3.out.size (by simp)))
      have HZ4 := qal ho4 HZ3 (by have := HZ3.out.lt; omega)
      have HP4 := qh hb4
      clear ho4 hb4))
 have hld1 : ∀ W, Blk W w3.heap.size 35 U → (ldAt 35 (.pointer (some ⟨w3.heap.size, 0, none⟩))).run Tryz.prog W = .ok (.agg U.toArray) W := fun W hb => HPK.out W _ hb
 have hld2 : ∀ W, Blk W w3.heap.size 35 U → (ldAt 32 (.pointer (some ⟨w3.heap.size, 0, none⟩))).run Tryz.prog W = .ok (.agg (u8s H).toArray) W := fun W hb => HPL.out W _ hb
 clear HZ1 HZ2 HZ3 HE1 HE2 HE3 HB0 HE0 HCP HPP HO2' HC2
 go_region_held3 (fun w' => Blk w' w3.heap.size 35 U)
   (first | exact HP4.out | exact HP4.out.drew | exact HP5.out | exact HP6.out.drewN _ | exact HP6.out | exact HP7.out) ((first
   | (go_at_call 14; (refine (HPB.out _).mono ?_); rintro e w5 ⟨A5, c5, rfl, hc5, hown5, hB5⟩; have HE5 := qh (HE4.out.drew.trans (hB5.mono HE4.out.drew.size)); have HZ5 := qh (HZ4.out.drew.below hB5 HZ4.out.drew.lt); have HP5 := qh (HP4.out.drew.below hB5 HP4.out.drew.lt); have HO5 := qh (Rd.of_own hown5); clear hB5 hown5)
   | (go_at_call 13; (with_reducible refine (HEQ.out _ _ _ HO5.out HE5.out).mono ?_); rintro e w6 ⟨rfl, q6, rfl⟩)
   | (go_at_call 15; (with_reducible refine (hbytes_any H _ HHL.out).mono ?_); rintro e w7 ⟨A7, c7, rfl, hc7, hown7, hB7⟩; have HE7 := qh ((below_drewN HE5.out _).trans (hB7.mono HE5.out.size)); have HZ7 := qh ((HZ5.out.drewN _).below hB7 HZ5.out.lt); have HP7 := qh ((HP5.out.drewN _).below hB7 HP5.out.lt); have HO7 := qh (Rd.of_own hown7); clear hB7 hown7)
   | (go_at_call 13; (with_reducible refine (equal_any A7 (some ⟨b, off, none⟩) 288 288 c7 c H H _ HO7.out (HRH.out _ HE7.out) (by omega) (by omega)).mono ?_); rintro e w8 ⟨rfl, q8, rfl⟩)))
 have a1 := HL1.out _ (HZ7.out.drewN q8)
 have a2 := HL2.out _ (HZ7.out.drewN q8)
 have a3 := HL3.out _ (HZ7.out.drewN q8)
 clear HZ4 HZ5 HP4 HP5 HE4 HE5 HPB HEQ HO5 HO7 hld1
 go_upto_region 10 with (first
   | (refine wpList_build rfl 43 [(0, .tmp 50), (1, .tmp 52), (2, .tmp 54)] rfl _ (by rfl) (.agg S.toArray) (HBD.out _) ?_)
   | (refine wpList_store_all rfl 43 (.tmp 7) (.tmp 55) rfl w7.heap.size S (by rfl) (by rfl) 43 (u8s (List.replicate 192 0)) (by exact Blk.new' rfl zcSp) (by rw [HSL.out]; exact hd69) HS1.out (by rw [HSL.out]; rfl) ?_
      intro w9 hb9 ho9
      have HE9 := qh (ho9.below ((below_drewN HE7.out q8).alloc HE7.out.size _) HE7.out.size (Nat.le_trans HE7.out.size (by simp)))
      have HZ9 := qh (ho9.blk ((HZ7.out.drewN q8).alloc _) (by have := HZ7.out.lt; omega))
      have HP9 := qh (ho9.blk ((HP7.out.drewN q8).alloc _) (by have := HP7.out.lt; omega))
      have HS9 := qh hb9
      have b1 := hld2 _ HP9.out
      have b2 := sp_ld HS9.out HSL.out
      clear hb9 ho9 a1 a2 a3)
   | (go_at_call 16; (refine (HO1.out _).mono ?_); rintro e w10 ⟨rfl, hB10⟩
      have HE10 := qtr HE9 hB10
      have HZ10 := qbl HZ9 hB10
      have HP10 := qbl HP9 hB10
      have HS10 := qbl HS9 hB10
      have hz11 : Blk ((w10.alloc (.cells #[.int .u8 0, .int .u8 0, .int .u32 0, .int .u64 0, .int .u8 0, .int .u8 0, .int .u8 0, .int .u8 0, .int .u8 0, .int .u8 0, .int .u8 0, .int .u8 0, .int .u8 0, .int .u8 0, .int .u8 0, .int .u8 0, .int .u8 0, .int .u8 0, .int .u8 0, .int .u8 0] 47)).alloc (.cells Tryz.zeroCells32 32)) w10.heap.size 47 Cm.zero.cells := (show Blk (w10.alloc (.cells #[.int .u8 0, .int .u8 0, .int .u32 0, .int .u64 0, .int .u8 0, .int .u8 0, .int .u8 0, .int .u8 0, .int .u8 0, .int .u8 0, .int .u8 0, .int .u8 0, .int .u8 0, .int .u8 0, .int .u8 0, .int .u8 0, .int .u8 0, .int .u8 0, .int .u8 0, .int .u8 0] 47)) w10.heap.size 47 Cm.zero.cells from Blk.new' rfl rfl).alloc _
      obtain ⟨w11, hw11⟩ : ∃ W, W = ((w10.alloc (.cells #[.int .u8 0, .int .u8 0, .int .u32 0, .int .u64 0, .int .u8 0, .int .u8 0, .int .u8 0, .int .u8 0, .int .u8 0, .int .u8 0, .int .u8 0, .int .u8 0, .int .u8 0, .int .u8 0, .int .u8 0, .int .u8 0, .int .u8 0, .int .u8 0, .int .u8 0, .int .u8 0] 47)).alloc (.cells Tryz.zeroCells32 32)).setCells w10.heap.size 0 OC := ⟨_, rfl⟩
      have hst := stAt_run hz11 47 0 OC (by rw [HCL.out]; exact Nat.le_refl _) HC1.out (by rw [HCL.out]; exact hd76c)
      have ho11 := Only.of_setCells ((w10.alloc (.cells #[.int .u8 0, .int .u8 0, .int .u32 0, .int .u64 0, .int .u8 0, .int .u8 0, .int .u8 0, .int .u8 0, .int .u8 0, .int .u8 0, .int .u8 0, .int .u8 0, .int .u8 0, .int .u8 0, .int .u8 0, .int .u8 0, .int .u8 0, .int .u8 0, .int .u8 0, .int .u8 0] 47)).alloc (.cells Tryz.zeroCells32 32)) w10.heap.size 0 OC
      have hb11 := setCells_heap _ _ OC 0 _ _ hz11 (by rw [HCL.out]; exact Nat.le_refl _)
      rw [splice_whole _ _ (by rw [HCL.out]; rfl)] at hb11
      rw [← hw11] at hst ho11 hb11
      have HE11 := qh (ho11.below ((HE10.out.alloc HE10.out.size _).alloc (Nat.le_trans HE10.out.size (by simp)) _) HE10.out.size (Nat.le_trans HE10.out.size (by simp; omega)))
      have HZ11 := qh (ho11.blk ((HZ10.out.alloc _).alloc _) (by have := HZ10.out.lt; omega))
      have HP11 := qh (ho11.blk ((HP10.out.alloc _).alloc _) (by have := HP10.out.lt; omega))
      have HS11 := qh (ho11.blk ((HS10.out.alloc _).alloc _) (by have := HS10.out.lt; omega))
      have HN11 := qh (ho11.blk (show Blk _ (w10.heap.size + 1) 32 (u8s z288) from Blk.new' (by simp) zc34') (by omega))
      have HC11 := qh hb11
      clear hB10 b1 b2 hz11 hw11 ho11 hb11)
   | (refine wpList_store_all rfl 32 (.tmp 9) (.tmp 62) rfl (w10.heap.size + 1) (u8s ON) (by rfl) (by rfl) 32 (u8s z288) (by exact HN11.out) (by rw [u8s_length, HNL.out]; exact hd34) (u8s_one _) (by rw [u8s_length, HNL.out, z288_len]) ?_
      intro w12 hb12 ho12
      have HE12 := qh (ho12.below HE11.out (Nat.le_succ_of_le HE10.out.size) HE11.out.size)
      have HZ12 := qh (ho12.blk HZ11.out (by have := HZ10.out.lt; omega))
      have HP12 := qh (ho12.blk HP11.out (by have := HP10.out.lt; omega))
      have HS12 := qh (ho12.blk HS11.out (by have := HS10.out.lt; omega))
      have HC12 := qh (ho12.blk HC11.out (by omega))
      have HN12 := qh hb12
      clear hb12 ho12))
 have hcc := HC.out
 have HV12 : Hid (Below w12.heap.size w12 { w12 with drawn := w12.drawn + 1 }) := (Below.refl _ w12).drew
 refine region_K (by kernel_rfl) 9 (fun w' => Below w12.heap.size w12 w') ?_
 refine AnyK.pure 0 (v := .slice (some ⟨b, off, none⟩) 768 c) rfl (by kernel_rfl) (fun _ _ _ h => h) rfl (fun _ => by kernel_rfl) (fun _ => HV12.out) ?_
 refine AnyK.pure 1 (v := .slice (some ⟨b, off, none⟩) 288 c) rfl (by kernel_rfl) (fun _ _ _ h => h) rfl (fun _ => ex_cutTo (x := .tmp 65) (n := 768) 288 (by rfl) (by kernel_rfl) (by omega)) (fun _ => HV12.out) ?_
 refine AnyK.load 2 (v := .agg S.toArray) rfl (by kernel_rfl) (by kernel_rfl) (by kernel_rfl) (fun _ _ _ h => h) rfl (fun w' hw' => ey_loadR (x := .tmp 3) (by rfl) (by kernel_rfl) (rsp_ld (HZ12.out.below hw' HZ12.out.lt) HSL.out)) HV12.out ?_
 refine AnyG.start w12.heap.size [⟨8, 10, 47, Cm.zero.cells, fun g => .pointer (some ⟨g, 0, none⟩)⟩] (fun W => Below w12.heap.size w12 W) 8 rfl HV12.out ?_
 refine AnyG.step 3 (di := 68) [] (fun x : Option Addr × Nat × Nat => .tuple #[.agg OC.toArray, .slice x.1 x.2.1 x.2.2, .int .i64 (E : Int)]) (fun x W => Rd W x.1 x.2.1 (u8s OL) ∧ Below w12.heap.size w12 W) (by rfl) rfl (by simp) (by simp) (by kernel_rfl) ?_ ?_ (fun W o h => h.alloc h.size o) (fun W h => h.size) (fun W h => h) (fun _ W h => h.2) ?_
 · intro F W hF hR hok hrd K hK
   obtain ⟨s1, rfl⟩ := one_of hF
   have h3 := (HO2.out W (HRH.out W (HE12.out.trans (hR.mono HE12.out.size))))
   rcases s1 with _ | k1 <;>
     (refine wp_enter (f := 17) (args := #[.slice (some ⟨b, off, none⟩) 288 c, .agg S.toArray]) (by kernel_rfl) ?_; refine h3.mono ?_; rintro e w' ⟨A', n', c', rfl, hr', hB⟩; exact ⟨_, rfl, hK (A', n', c') _ ⟨hr', hR.trans (hB.mono hR.size)⟩ hB⟩)
 · intro f hf
   simp only [List.mem_cons, List.not_mem_nil, or_false] at hf
   rcases hf with rfl
   exact ⟨_, rfl, rfl, rfl, fun F W _ => by kernel_rfl⟩
 rintro ⟨A', n', c'⟩
 refine AnyG.pure 4 (di := 64) (v := .tuple #[.agg OC.toArray, .slice A' n' c', .int .i64 (E : Int)]) rfl rfl rfl (by simp) (by kernel_rfl) (fun _ _ _ h => h) (fun F W hF => by obtain ⟨s1, rfl⟩ := one_of hF; rcases s1 with _ | k1 <;> kernel_rfl) (fun W h => h.2) ?_
 refine AnyG.pure 5 (di := 69) (v := .agg OC.toArray) rfl rfl rfl (by simp) (by kernel_rfl) (fun _ _ _ h => h) (fun F W hF => by obtain ⟨s1, rfl⟩ := one_of hF; rcases s1 with _ | k1 <;> kernel_rfl) (fun W h => h.2) ?_
 refine AnyG.pure 6 (di := 70) (v := .slice A' n' c') rfl rfl rfl (by simp) (by kernel_rfl) (fun _ _ _ h => h) (fun F W hF => by obtain ⟨s1, rfl⟩ := one_of hF; rcases s1 with _ | k1 <;> kernel_rfl) (fun W h => h.2) ?_
 refine AnyG.pure 7 (di := 71) (v := .int .i64 (E : Int)) rfl rfl rfl (by simp) (by kernel_rfl) (fun _ _ _ h => h) (fun F W hF => by obtain ⟨s1, rfl⟩ := one_of hF; rcases s1 with _ | k1 <;> kernel_rfl) (fun W h => h.2) ?_
 refine AnyG.fin (by simp) (by kernel_rfl) ?_ (fun W o h => ⟨h.1.alloc o, h.2.alloc h.2.size o⟩) (fun W h => h.2.size) (fun W h => h.2) ?_
 · intro f hf
   simp only [List.mem_cons, List.not_mem_nil, or_false] at hf
   rcases hf with rfl
   exact ⟨_, rfl, rfl, rfl, fun F W _ => by kernel_rfl⟩
 intro F W hF h0 hR hok
 obtain ⟨g10, rfl⟩ := one_all hF h0
 obtain ⟨⟨hg10, hb10, _⟩, _⟩ := hok
 refine AnyK.storeAll 9 g10 OC 47 Cm.zero.cells (by rfl) rfl rfl (by rfl) (by kernel_rfl) (by kernel_rfl) (by kernel_rfl) hb10 (by rw [HCL.out]; exact hd76c) HC1.out (by rw [HCL.out]; rfl) (fun _ _ _ h => (by cases h)) ?_
 intro w13 hb13 ho13
 have HB13 := qh (ho13.below hR.2 hg10 hR.2.size)
 have HR13 : Hid (Rd w13 A' n' (u8s OL)) := by
   have h2 := hR.1.len
   rcases HNN.out with ⟨h1, _⟩ | ⟨h1, _⟩
   · rw [h1] at h2 ⊢
     obtain rfl : n' = 0 := h2.symm
     exact Rd.nil _ _
   · exact ho13.rd hR.1 (hR.1.apart_blk hb10 (by rw [← h2, h1]; exact Nat.le_of_ble_eq_true rfl))
 refine AnyK.val 10 (v := .slice A' n' c') (by rfl) (by kernel_rfl) rfl (by kernel_rfl) (fun h => (by cases h)) ?_
 refine AnyK.val 11 (v := .int .i64 (E : Int)) (by rfl) (by kernel_rfl) rfl (by kernel_rfl) (fun h => (by cases h)) ?_
 refine AnyK.done (by kernel_rfl) ?_
 have HE13 := qh (HE12.out.trans (HB13.out.mono HE12.out.size))
 have HZ13 := qh (HZ12.out.below HB13.out HZ12.out.lt)
 have HP13 := qh (HP12.out.below HB13.out HP12.out.lt)
 have HS13 := qh (HS12.out.below HB13.out HS12.out.lt)
 have HC13 := qh (HC12.out.below HB13.out HC12.out.lt)
 have HN13 := qh (HN12.out.below HB13.out HN12.out.lt)
 have HD13 := qh hb13
 clear hb10 hb13 ho13 hR hg10 hF h0 HV12 HB13 HZ12 HP12 HS12 HC12 HN12 HE12 hcc HZ9 HP9 HS9 HE9 HZ10 HP10 HS10 HE10 HZ11 HP11 HS11 HE11 HC11 HN11 HZ7 HP7 HE7
 simp only [putF]
 have hl3 : ∀ W, Blk W w7.heap.size 43 S → (ldAt 43 (.pointer (some ⟨w7.heap.size, 0, none⟩))).run Tryz.prog W = .ok (.agg S.toArray) W := fun W hb => sp_ld hb HSL.out
 have hl4 : ∀ W, Blk W w.heap.size 27 S → (ldAt 27 (.pointer (some ⟨w.heap.size, 0, none⟩))).run Tryz.prog W = .ok (.agg S.toArray) W := fun W hb => rsp_ld hb HSL.out
 have hl5 : ∀ W, Blk W w10.heap.size 47 OC → (ldAt 47 (.pointer (some ⟨w10.heap.size, 0, none⟩))).run Tryz.prog W = .ok (.agg OC.toArray) W := fun W hb => cm_ld hb HCL.out
 have hl6 : ∀ W, Blk W g10 47 OC → (ldAt 47 (.pointer (some ⟨g10, 0, none⟩))).run Tryz.prog W = .ok (.agg OC.toArray) W := fun W hb => cm_ld hb HCL.out
 go_wp2
 go_region_held3 (fun w' => Blk w' w3.heap.size 35 U ∧ Blk w' w7.heap.size 43 S ∧ Blk w' w.heap.size 27 S ∧ Blk w' w10.heap.size 47 OC ∧ Blk w' g10 47 OC)
   (first | exact ⟨HP13.out, HS13.out, HZ13.out, HC13.out, HD13.out⟩ | exact ⟨HP14.out, HS14.out, HZ14.out, HC14.out, HD14.out⟩ | exact ⟨HP15.out, HS15.out, HZ15.out, HC15.out, HD15.out⟩) ((first
   | (go_at_call 18; (refine (HF1.out _).mono ?_); rintro e w14 ⟨rfl, hB14⟩; have HE14 := qh (HE13.out.drew.trans (hB14.mono HE13.out.size)); have HZ14 := qh (HZ13.out.drew.below hB14 HZ13.out.lt); have HP14 := qh (HP13.out.drew.below hB14 HP13.out.lt); have HS14 := qh (HS13.out.drew.below hB14 HS13.out.lt); have HC14 := qh (HC13.out.drew.below hB14 HC13.out.lt); have HD14 := qh (HD13.out.drew.below hB14 HD13.out.lt); have HN14 := qh (HN13.out.drew.below hB14 HN13.out.lt); have HR14 := qh (HR13.out.drew.below hB14); clear hB14)
   | (go_at_call 19; (refine (HF2.out _ (HRH.out _ HE14.out)).mono ?_); rintro e w15 ⟨rfl, hB15⟩; have HE15 := qtr HE14 hB15; have HZ15 := qbl HZ14 hB15; have HP15 := qbl HP14 hB15; have HS15 := qbl HS14 hB15; have HC15 := qbl HC14 hB15; have HD15 := qbl HD14 hB15; have HN15 := qbl HN14 hB15; have HR15 := qh (HR14.out.below hB15); clear hB15)))
 clear HZ13 HP13 HS13 HC13 HN13 HD13 HE13 HR13 HZ14 HP14 HS14 HC14 HN14 HD14 HE14 HR14 HF1 HF2 HO1 HO2 HRH hld2 hl3 hl4 hl5 hl6
 have hl9 := hd_ld HN15.out (by rw [u8s_length, HNL.out])
 have hlr := HR15.out.len
 rcases HNN.out with ⟨hol, _⟩ | ⟨hol, hon⟩
 · rw [hol] at hlr
   obtain rfl : n' = 0 := hlr.symm
   go_wp2
   go_ret
   exact ⟨rfl, HE15.out⟩
 · rw [hol] at hlr
   subst hlr
   rw [← hon] at HR15
   clear hol hon HNN
   go_wp2_with (first
     | (go_at_call 15; (with_reducible refine (hbytes_any ON _ HNL.out).mono ?_); rintro e w16 ⟨A16, c16, rfl, hc16, hown16, hB16⟩; have HE16 := qtr HE15 hB16; have HO16 := qh (Rd.of_own hown16); have HR16 := qh (HR15.out.below hB16); clear hB16 hown16)
     | (go_at_call 13; (with_reducible refine (equal_any A16 A' 288 288 c16 c' ON ON _ HO16.out HR16.out (by omega) (by omega)).mono ?_); rintro e w17 ⟨rfl, q17, rfl⟩))
   go_ret
   exact ⟨rfl, below_drewN HE16.out _⟩
theorem walk (A : Option Addr) (n c : Nat) (l : List UInt8) (s : Sp) (hs : s.ok) (w : World) (h : Rd w A n (u8s l)) (hn : n ≤ c) (hc : c ≤ 140737488351232) :
   Calls Tryz.prog 3 #[.slice A n c, .agg s.cells.toArray] w fun e w' => e = .returned (.bool true) ∧ Below w.heap.size w w' := by
 by_cases hne : n = 768
 · subst hne
   exact walk_yes A c l s hs w h hn
 · exact walk_no A n c l s w h (by omega) hne
end Go.Proofs.YtpgpaenloaphaaaGreat.packetParses
namespace Go.Proofs.YtpgpaenloaphaaaGreat
open Go.RowKit
theorem flat_u8 (l : List UInt8) : (l.flatMap fun x => [u8 x]) = u8s l := by
 induction l with
 | nil => rfl
 | cons a l ih => rw [List.flatMap_cons, ih]; rfl
theorem reads_bytes (B : Option Nat) (N : Nat) : Reads Tryz.prog B N 22 (fun s : Sl UInt8 => [s.val]) (fun W s => Rd W s.A s.n (u8s s.l) ∧ s.n ≤ s.c ∧ s.c ≤ 140737488351232) :=
 Reads.mono ((reads_slice (N := N) 1 1 Tryz.underlying22 (by kernel_rfl) (by kernel_rfl) (by omega) (reads_u8 Tryz.underlying5)).imp
   fun W s h => ⟨s, rfl, by
     refine ⟨?_, h.cap, ?_⟩
     · have := h.rd
       rw [flat_u8] at this
       exact this.to1
     · have h2 : s.c * 1 ≤ reachBytes := h.reach
       unfold reachBytes at h2
       omega⟩) (by omega)
end Go.Proofs.YtpgpaenloaphaaaGreat
namespace Go.Proofs.YtpgpaenloaphaaaGreat
open Go.RowKit
def toU8h : Value → UInt8
 | .int .u8 k => UInt8.ofNat k.toNat
 | _ => 0
theorem reads_arrH {P : Program} {B : Option Nat} {N n : Nat} {t e : TypeId} (ht : P.underlying t = some (.array n e)) (hu : P.underlying e = some (.int .u8)) (hc : P.cellsOf e = 1) (hct : P.cellsOf t = n) : Reads P B N t (fun l : List UInt8 => u8s l) (fun _ l => l.length = n) :=
 ⟨fun {H enc W fuel cs x} hf hx hw hb => by
   obtain ⟨xs, m, rfl, rfl, hlen, hxl, hel⟩ := DataW.trod_array ht hx
   refine ⟨cs.map toU8h, ?_, by rw [List.length_map, hlen, hct]⟩
   have hall : ∀ v ∈ cs, u8 (toU8h v) = v := by
     intro v hv
     obtain ⟨i, hi, rfl⟩ := List.getElem_of_mem hv
     have h1 := hel i (by omega)
     rw [hc, Nat.mul_one, List.getElem?_eq_getElem (by omega)] at h1
     obtain ⟨k, e1, _, hk⟩ := DataW.trod_int hu h1
     rw [List.drop_eq_getElem_cons hi, List.take_succ_cons, List.take_zero] at e1
     injection e1 with e1 _
     rw [e1]
     exact congrArg (fun z => Value.int .u8 z) (u8_of_wf hk).symm
   rw [u8s, List.map_map]
   have h2 : cs.map (u8 ∘ toU8h) = cs.map id := List.map_congr_left (fun v hv => hall v hv)
   rw [h2, List.map_id]⟩
theorem reads_keys (B : Option Nat) (N : Nat) : Reads Tryz.prog B N 25 (fun x : List UInt8 × List UInt8 × List UInt8 × List UInt8 => u8s x.1 ++ (u8s x.2.1 ++ (u8s x.2.2.1 ++ u8s x.2.2.2))) (fun _ x => x.1.length = 32 ∧ x.2.1.length = 32 ∧ x.2.2.1.length = 32 ∧ x.2.2.2.length = 32) :=
 Reads.mono ((reads_struct (N := N) Tryz.underlying25 (by kernel_rfl)
   (readsF_cons (sz := 32) rfl (by kernel_rfl) (reads_arrH Tryz.underlying23 Tryz.underlying5 (by kernel_rfl) (by kernel_rfl)) (readsF_cons (sz := 32) rfl (by kernel_rfl) (reads_arrH Tryz.underlying23 Tryz.underlying5 (by kernel_rfl) (by kernel_rfl)) (readsF_cons (sz := 32) rfl (by kernel_rfl) (reads_arrH Tryz.underlying23 Tryz.underlying5 (by kernel_rfl) (by kernel_rfl)) (readsF_cons (sz := 32) rfl (by kernel_rfl) (reads_arrH Tryz.underlying23 Tryz.underlying5 (by kernel_rfl) (by kernel_rfl)) readsF_nil))))).imp
   fun W ⟨a, b, c, d, _⟩ ⟨h1, h2, h3, h4, _⟩ => ⟨(a, b, c, d), by simp, h1, h2, h3, h4⟩) (by omega)
theorem reads_sp (B : Option Nat) (N : Nat) : Reads Tryz.prog B N 27 Sp.cells (fun _ s => s.ok) :=
 Reads.mono ((reads_struct (N := N) Tryz.underlying27 (by kernel_rfl)
   (readsF_cons (sz := 128) rfl (by kernel_rfl) (reads_keys B N) (readsF_cons (sz := 32) rfl (by kernel_rfl) (reads_arrH Tryz.underlying23 Tryz.underlying5 (by kernel_rfl) (by kernel_rfl)) (readsF_cons (sz := 32) rfl (by kernel_rfl) (reads_arrH Tryz.underlying23 Tryz.underlying5 (by kernel_rfl) (by kernel_rfl)) readsF_nil)))).imp
   fun W ⟨⟨a, b, c, d⟩, e, f, _⟩ ⟨⟨h1, h2, h3, h4⟩, h5, h6, _⟩ => ⟨⟨a, b, c, d, e, f⟩, by simp [Sp.cells, Sp.bytes, u8s_append], h1, h2, h3, h4, h5, h6⟩) (by omega)
end Go.Proofs.YtpgpaenloaphaaaGreat
namespace Go.Proofs.YtpgpaenloaphaaaGreat.packetParses
open Go.RowKit
theorem walkA {W : World} (a : Sl UInt8) (h : Rd W a.A a.n (u8s a.l) ∧ a.n ≤ a.c ∧ a.c ≤ 140737488351232) (s : Sp) (hs : s.ok) : Calls Tryz.prog 3 #[a.val, .agg s.cells.toArray] W fun e w' => e = .returned (.bool true) ∧ Below W.heap.size W w' :=
 walk a.A a.n a.c a.l s hs W h.1 h.2.1 h.2.2
end Go.Proofs.YtpgpaenloaphaaaGreat.packetParses
namespace Go.Proofs.YtpgpaenloaphaaaGreat.packetParses
open Go.ChangeShapes Go.WideShapes Go.ChangeAt Go.RowKit
set_option linter.unusedVariables false
set_option maxRecDepth 100000 in
theorem lifted (os : Os) (started : os.Started) (H : Type) (enc : TypeId × Value → H) :
   ReturnsInHanded {} Tryz.checked os 3 .any (Rows.packetParsesSpec.pre6 enc Tryz.prog Tryz.f3 Rows.packetParsesRow.domain false) (Rows.packetParsesSpec.post enc Tryz.prog Tryz.f3 false true false false) := by
 refine returnsInHanded_of_change_sized (C := Tryz.checked) own started (by kernel_rfl) Tryz.func3
   (ChangeSpec.witness6 (enc := enc) (C := Tryz.checked) false ⟨#[], #[.slice none 0 0, .agg Tryz.zeroCells27], []⟩ 8 (by kernel_rfl) (by kernel_rfl) (by kernel_rfl) (by kernel_rfl)) ?_
 intro W base args ds gs before hval0 hW hcnd hsz0 _
 have hval : ∀ (j : Nat) t v, Tryz.f3.params[j]? = some t → args[j]? = some v → Value.okWide Tryz.prog W .any base t v := hval0
 have hsz : (DataW.weightsEach Tryz.prog (Tryz.f3.params.toList ++ Rows.packetParsesSpec.plain.varTypes Tryz.prog) (ds ++ gs)).all (· ≤ reachBytes) = true := hsz0
 have hW' := hW
 obtain ⟨p, q, hA0, hV, rfl, hfz, hnd⟩ := hW
 have hA : DataW.TrodAll enc Tryz.prog W 0 (fun _ => true) true Tryz.f3.params.toList args.toList ds p := hA0
 rw [Tryz.params3] at hA hval hsz
 obtain ⟨v0, vs0, d0, ds0, p0, q0, hargs, rfl, rfl, h0, r0⟩ := trodAll_cons hA
 obtain ⟨v1, vs1, d1, ds1, p1, q1, rfl, rfl, rfl, h1, r1⟩ := trodAll_cons r0
 obtain ⟨rfl, rfl, rfl⟩ := trodAll_nil r1
 obtain rfl : args = #[v0, v1] := by cases args; simp_all
 obtain ⟨rfl, rfl⟩ := trodVars_none hV
 have hwt := List.all_eq_true.1 hsz
 simp only [List.cons_append, List.nil_append, List.append_nil, DataW.weightsEach, List.mem_append, decide_eq_true_eq] at hwt
 have k0 := h0
 have lt0 : ∀ x ∈ p0, x.block < W.heap.size := by obtain ⟨m, hm⟩ := k0; exact DataW.trod_lt m _ _ _ hm
 obtain ⟨fuel0, hf0⟩ := h0
 obtain ⟨A0, n0, c0, rfl⟩ := okWide_slice Tryz.underlying22 (hval 0 22 v0 rfl rfl)
 obtain ⟨a0, e0, q0'⟩ := (reads_bytes none (fuel0 + 1)).opens (Nat.lt_succ_self _) hf0 (fun k hk => hwt k (.inl hk)) (fun b e => by cases e)
 obtain ⟨A0', n0', c0', l0⟩ := a0
 obtain ⟨rfl, rfl, rfl⟩ : A0 = A0' ∧ n0 = n0' ∧ c0 = c0' := by simpa [Value.cells, Sl.val] using e0
 have k1 := h1
 have lt1 : ∀ x ∈ p1, x.block < W.heap.size := by obtain ⟨m, hm⟩ := k1; exact DataW.trod_lt m _ _ _ hm
 obtain ⟨fuel1, hf1⟩ := h1
 obtain ⟨a1, e1, q1'⟩ := (reads_sp none (fuel1 + 1)).opens (Nat.lt_succ_self _) hf1 (fun k hk => hwt k (.inr (.inl hk))) (fun b e => by cases e)
 obtain ⟨cs1, rfl, hcs1⟩ := okWide_struct Tryz.underlying27 (hval 1 27 v1 rfl rfl)
 have e1' : cs1.toList = _ := e1
 obtain ⟨cs1⟩ := cs1
 simp only at e1'
 subst e1'
 clear hA0 hval0
 refine (walkA _ q0' a1 q1').mono fun e W' ⟨he, bel⟩ => ?_
 subst he
 exact ⟨_, rfl, _, _, _, [], _, [], hW', trodAll_mk1 (shut_bool Tryz.underlying4 _), (trodAll_cons_mk (Below.trod laidOut (by kernel_rfl) (of_decide_eq_true (by kernel_rfl)) k0 bel lt0) (trodAll_cons_mk (Below.trod laidOut (by kernel_rfl) (of_decide_eq_true (by kernel_rfl)) k1 bel lt1) trodAll_mk0)), rfl, bel.frame _, fun h => by cases h⟩
theorem over : Rows.packetParsesRow.holds Tryz.pinned (OpenSpec.ofChange Rows.packetParsesSpec) :=
 OpenClaim.holds_of_wide 3 Tryz.f3 rfl rfl rfl rfl rfl rfl rfl ⟨rfl, rfl, rfl, rfl, rfl⟩ rfl rfl rfl rfl rfl (by kernel_rfl) Tryz.func3 (by kernel_rfl)
   (of_decide_eq_true (by kernel_rfl)) (by unfold Func.isWrapper; first | (rw [if_pos (by decide +kernel)]; kernel_rfl) | (rw [if_neg (by decide +kernel)]; exact ⟨rfl, rfl⟩))
   (fun os started H enc _ => lifted os started H enc)
theorem proved : Rows.PacketParsesSaid := over
end Go.Proofs.YtpgpaenloaphaaaGreat.packetParses
