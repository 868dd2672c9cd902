/- Block.Use: the packet of a reply. -/
import Derived.Test.YtgkhglnfbhdkeaaFrm1
import Derived.Test.YtgkhglnfbhdkeaaWdP
import Derived.Test.YtgkhglnfbhdkeaaHdA
import Derived.Test.YtgkhglnfbhdkeaaSurA
namespace Go.Proofs.Ytgkhglnfbhdkeaa
open Go.RowKit

theorem z768_len : (u8s (List.replicate 768 0)).length = 768 := by rw [u8s_length, List.length_replicate]
theorem build76_0 (w : World) : (Instr.build 37 #[]).run Try.prog w = .ok (.agg (u8s (List.replicate 768 0)).toArray) w := by rw [← zc76]; kernel_rfl
theorem build76_h (hd : List UInt8) (h : hd.length = 288) (w : World) : (Instr.build 37 #[(0, .agg (u8s hd).toArray)]).run Try.prog w = .ok (.agg (u8s (hd ++ List.replicate 480 0)).toArray) w := by
  refine run_build Try.zeroValue37 Try.underlying37 (pl76 _ Try.underlying37) ?_ w
  rw [zc76]
  show Instr.fill _ _ [(0, _)] = _
  rw [fill_cons (cs := u8s hd) rfl (by rw [u8s_length, h]; rfl) (by rw [u8s_length, u8s_length, h, List.length_replicate]; omega)]
  have : splice (u8s (List.replicate 768 0)) 0 (u8s hd) = u8s (hd ++ List.replicate 480 0) := by
    unfold splice
    rw [List.take_zero, List.nil_append, Nat.zero_add, u8s_length, h, u8s_drop, u8s_append, List.drop_replicate]
  rw [this]
  rfl
/-- the packet of a reply -/
def replyOf (l msg : List UInt8) : List UInt8 := (l.drop 8).take 288 ++ Wd.seal_ (l.drop 296) (Wd.frame 3 0 1 0 msg)
theorem frame_len (k i c : UInt8) (id : Nat) (d : List UInt8) (h : d.length ≤ 450) : (Wd.frame k i c id d).length = 480 := by
  simp [Wd.frame, beBytes_len, Ch.zeros]; omega
theorem replyOf_len (l msg : List UInt8) (hl : l.length = 328) (hm : msg.length ≤ 450) : (replyOf l msg).length = 768 := by
  unfold replyOf
  rw [List.length_append, Wd.seal_len _ _ (by rw [frame_len _ _ _ _ _ hm]; omega), frame_len _ _ _ _ _ hm, List.length_take, List.length_drop, hl]
  rfl
theorem blkCells_key (l : List UInt8) (hl : l.length = 328) : ((blkCells l).drop 289).take 32 = u8s (l.drop 296) := by
  rw [blkCells, ← List.append_assoc, List.drop_append_of_le_length (by simp [u8s_length, hl]), List.drop_eq_nil_of_le (by simp [u8s_length, hl]), List.nil_append, List.take_of_length_le (by simp [u8s_length, hl])]
theorem blkCells_head (l : List UInt8) : (blkCells l).take (u8s ((l.drop 8).take 288)).length = u8s ((l.drop 8).take 288) := by unfold blkCells; rw [List.take_left]

set_option maxRecDepth 100000 in
set_option maxHeartbeats 4000000 in
theorem use_no (l : List UInt8) (A : Option Addr) (n c : Nat) (w : World) (hn : 450 < n) :
    Calls Try.prog 10 #[.agg (blkCells l).toArray, .slice A n c] w fun e w' => e = .returned (.tuple #[.agg (u8s (List.replicate 768 0)).toArray, .int .i64 2]) ∧ Below w.heap.size w w' := by
  have hn1 : (450 : Int) < (n : Int) := by omega
  obtain ⟨C, hC⟩ : ∃ C, C = blkCells l := ⟨_, rfl⟩
  rw [← hC]
  clear hC
  go_enter Try.func10, Try.ntmps10
  go_wp2_with (first
    | refine wpList_build rfl 37 [] rfl [] (by rfl) _ (build76_0 _) ?_
    | (refine wpList_store_all rfl 37 (.tmp 4) (.tmp 13) rfl (w.heap.size + 1) (u8s (List.replicate 768 0)) (by rfl) (by rfl) 37 (u8s (List.replicate 768 0)) (Blk.new' (by simp) zc76) (by rw [z768_len]; exact hd76) (u8s_one _) rfl ?_; intro w4 hb4 ho4))
  exact bodyPost_ret (res_cell_tmp rfl _ _ _ _ rfl hb4 _ Try.underlying37 rfl (by rw [z768_len]; exact hd76)) rfl ⟨rfl, ho4.below (((Below.refl _ _).alloc (Nat.le_refl _) _).alloc (by simp) _) (Nat.le_succ _) (by simp; omega)⟩

set_option maxRecDepth 100000 in
set_option maxHeartbeats 4000000 in
theorem use_yes (l msg : List UInt8) (A : Option Addr) (n c : Nat) (w : World) (hl : l.length = 328) (h : Rd w A n (u8s msg)) (hn : n ≤ 450) :
    Calls Try.prog 10 #[.agg (blkCells l).toArray, .slice A n c] w fun e w' => e = .returned (.tuple #[.agg (u8s (replyOf l msg)).toArray, .int .i64 0]) ∧ Below w.heap.size w w' := by
  have hn1 : ¬ (450 : Int) < (n : Int) := by omega
  have hml : msg.length = n := h.len
  have HFR := Lib.hid (fun W (hr : Rd W A n (u8s msg)) => frame_back A n c msg W hr hn)
  have hfl := frame_len 3 0 1 0 msg (by omega)
  have hkl : (l.drop 296).length = 32 := by rw [List.length_drop, hl]
  have hhl : ((l.drop 8).take 288).length = 288 := by rw [List.length_take, List.length_drop, hl]; rfl
  have HRL : Hid ((replyOf l msg).length = 768) := replyOf_len l msg hl (by omega)
  have HSE := Lib.hid (fun W B g d (h1 : Rd W (some ⟨B, 289, none⟩) 32 (u8s (l.drop 296))) (h2 : Rd W (some ⟨g, 0, none⟩) 480 (u8s (Wd.frame 3 0 1 0 msg))) (hd : 480 ≤ d) => seal_any (some ⟨B, 289, none⟩) (some ⟨g, 0, none⟩) 32 d 480 (l.drop 296) (Wd.frame 3 0 1 0 msg) W h1 (by omega) h2 hd (by omega) (by omega))
  have hsl : (Wd.seal_ (l.drop 296) (Wd.frame 3 0 1 0 msg)).length = 480 := by rw [Wd.seal_len _ _ (by omega), hfl]
  have HRE : Hid (replyOf l msg = (l.drop 8).take 288 ++ Wd.seal_ (l.drop 296) (Wd.frame 3 0 1 0 msg)) := rfl
  have HBK := Lib.hid (blkCells_key l hl)
  have HBH := Lib.hid (blkCells_head l)
  have HBL := Lib.hid (blkCells_len l hl)
  obtain ⟨C, hC⟩ : ∃ C, C = blkCells l := ⟨_, rfl⟩
  rw [← hC] at HBK HBH HBL ⊢
  obtain ⟨hd, hhd⟩ : ∃ hd, hd = (l.drop 8).take 288 := ⟨_, rfl⟩
  rw [← hhd] at HBH HRE hhl
  obtain ⟨ky, hky⟩ : ∃ ky, ky = l.drop 296 := ⟨_, rfl⟩
  rw [← hky] at HBK HSE HRE hsl hkl
  obtain ⟨F, hF⟩ : ∃ F, F = Wd.frame 3 0 1 0 msg := ⟨_, rfl⟩
  rw [← hF] at HFR HSE HRE hsl hfl
  obtain ⟨S, hS⟩ : ∃ S, S = Wd.seal_ ky F := ⟨_, rfl⟩
  rw [← hS] at HSE HRE hsl
  obtain ⟨R, hR⟩ : ∃ R, R = replyOf l msg := ⟨_, rfl⟩
  rw [← hR] at HRL HRE ⊢
  have HI34 : Hid ((Try.prog.info? 28).map (·.size) = some (u8s hd).length) := by rw [u8s_length, hhl]; exact hd34
  have HBU := Lib.hid (fun W => build76_h hd hhl W)
  have HXL : Hid ((u8s (hd ++ List.replicate 480 0)).length = 768) := by show _ = _; rw [u8s_length, List.length_append, hhl]; simp
  have HX1 : Hid (∀ v ∈ u8s (hd ++ List.replicate 480 0), v.oneCell' = true) := u8s_one _
  have HSP : Hid (splice (u8s (hd ++ List.replicate 480 0)) 288 ((u8s S).take 480) = u8s R) := by
    show _ = _
    rw [HRE.out, List.take_of_length_le (by rw [u8s_length, hsl]; exact Nat.le_refl _), u8s_splice]
    have := splice_at hd (List.replicate 480 0) S [] (by rw [hsl]; simp)
    rw [List.append_nil, List.append_nil, hhl] at this
    rw [this]
  have HR1 : Hid (∀ v ∈ u8s R, v.oneCell' = true) := u8s_one _
  have HRI : Hid ((Try.prog.info? 37).map (·.size) = some (u8s R).length) := by rw [u8s_length, HRL.out]; exact hd76
  obtain ⟨X, hX⟩ : ∃ X, X = u8s (hd ++ List.replicate 480 0) := ⟨_, rfl⟩
  rw [← hX] at HBU HXL HX1 HSP
  have HXI : Hid ((Try.prog.info? 37).map (·.size) = some X.length) := by rw [HXL.out]; exact hd76
  obtain ⟨RU, hRU⟩ : ∃ RU, RU = u8s R := ⟨_, rfl⟩
  have HRUL : Hid (RU.length = 768) := by rw [hRU]; show _ = _; rw [u8s_length, HRL.out]
  rw [← hRU] at HSP HR1 HRI ⊢
  obtain ⟨HU, hHU⟩ : ∃ HU, HU = u8s hd := ⟨_, rfl⟩
  rw [← hHU] at HI34 HBU HBH
  have HFL := Lib.hid hfl
  have HSL := Lib.hid hsl
  have HM := Lib.hid h
  clear hml hfl hkl hhl hsl hC hhd hky hF hS hR hX hRU hHU h hl
  go_enter Try.func10, Try.ntmps10
  go_wp2_with (first
    | (go_at_call 35; (with_reducible refine (HFR.out _ (by exact (HM.out.alloc _).alloc _)).mono ?_); rintro e w1 ⟨g1, rfl, hg1, hb1, hB1⟩
       have HE1 := Lib.hid ((((Below.refl _ w).alloc (Nat.le_refl _) _).alloc (by simp) _).trans (hB1.mono (by simp; omega)))
       have HBC1 := Lib.hid (((Blk.new' (w := w) (cs := C) (t := 31) rfl rfl).alloc _).below hB1 (by simp; omega))
       have HP1 : Hid (Blk w1 (w.heap.size + 1) 37 (u8s (List.replicate 768 0))) := (Blk.new' (by simp) zc76 : Blk _ (w.heap.size + 1) 37 (u8s (List.replicate 768 0))).below hB1 (by simp)
       have HF1 : Hid (Rd w1 (some ⟨g1, 0, none⟩) 480 (u8s F)) := (by have h6 := hb1.rdAll; rw [HFL.out] at h6; exact h6)
       have HK1 : Hid (Rd w1 (some ⟨w.heap.size, 289, none⟩) 32 (u8s ky)) := (by have h6 := HBC1.out.rd 289 32 (by rw [HBL.out]; omega); rw [HBK.out] at h6; exact h6)
       clear hb1 hB1)
    | (go_at_call 36; (with_reducible refine (HSE.out w1 w.heap.size g1 480 HK1.out HF1.out (by omega)).mono ?_); rintro e w2 ⟨g2, c2, rfl, hc2, hg2, hr2, hB2⟩
       have HE2 := Lib.hid (HE1.out.trans (hB2.mono HE1.out.size))
       have HBC2 := Lib.hid (HBC1.out.below hB2 HBC1.out.lt)
       have HP2 := Lib.hid (HP1.out.below hB2 HP1.out.lt)
       have HS2 := Lib.hid hr2
       have hs1 : w.heap.size + 1 < w1.heap.size := HP1.out.lt
       have hs2 := hB2.size
       have HRG : Hid (w2.rangeAt w.heap.size 0 HU) := HBC2.out.mid 0 HU (fun j v hv => by rw [Nat.zero_add]; rw [← HBH.out, List.getElem?_take] at hv; split at hv; (exact hv); (cases hv))
       clear hr2 hB2)
    | refine wpList_load_mid rfl 28 (.tmp 35) rfl w.heap.size 0 (by rfl) HU _ HRG.out Try.underlying28 rfl HI34.out ?_
    | refine wpList_build rfl 37 [(0, .tmp 36)] rfl _ (by rfl) (.agg X.toArray) (HBU.out _) ?_
    | (refine wpList_store_all rfl 37 (.tmp 9) (.tmp 37) rfl w2.heap.size X (by rfl) (by rfl) 37 (u8s (List.replicate 768 0)) (by exact Blk.new' rfl zc76) HXI.out HX1.out (by rw [HXL.out, z768_len]) ?_
       intro w3 hb3 ho3
       have HE3 := Lib.hid (ho3.below (HE2.out.alloc HE2.out.size _) HE2.out.size (Nat.le_trans HE2.out.size (by simp)))
       have HP3 := Lib.hid (ho3.blk (HP2.out.alloc _) (by omega))
       have HS3 := Lib.hid (ho3.rd (HS2.out.alloc _) (fun ad e => by injection e with e; subst e; show g2 ≠ w2.heap.size; have h9 := HS2.out.2 (by omega); obtain ⟨b9, o9, e9, h9b, _⟩ := h9; injection e9 with e9; injection e9 with e10 e11; omega))
       have HX3 := Lib.hid hb3
       clear hb3 ho3)
    | (refine wpList_copy rfl (.tmp 39) (.tmp 40) 22 rfl 5 Try.underlying22 u8_one1 w2.heap.size 288 480 480 (by rfl) (some ⟨g2, 0, none⟩) 480 c2 (by rfl) 37 _ HX3.out (u8s S) HS3.out (u8s_one _) (by rw [HXL.out]; exact Nat.le_refl _) ?_
       intro w4 hb4 ho4
       rw [HSP.out] at hb4
       have HE4 := Lib.hid (ho4.below HE3.out (by omega) HE3.out.size)
       have HP4 := Lib.hid (ho4.blk HP3.out (by omega))
       have HR4 := Lib.hid hb4.range
       clear hb4 ho4)
    | refine wpList_load_mid rfl 37 (.tmp 9) rfl w2.heap.size 0 (by rfl) RU _ HR4.out Try.underlying37 rfl HRI.out ?_
    | (refine wpList_store_all rfl 37 (.tmp 4) (.tmp 42) rfl (w.heap.size + 1) RU (by rfl) (by rfl) 37 _ HP4.out HRI.out HR1.out (by rw [HRUL.out, z768_len]) ?_; intro w8 hb8 ho8))
  exact bodyPost_ret (res_cell_tmp rfl _ _ _ _ rfl hb8 _ Try.underlying37 rfl HRI.out) rfl ⟨rfl, ho8.below HE4.out (Nat.le_succ _) HE4.out.size⟩
end Go.Proofs.Ytgkhglnfbhdkeaa
