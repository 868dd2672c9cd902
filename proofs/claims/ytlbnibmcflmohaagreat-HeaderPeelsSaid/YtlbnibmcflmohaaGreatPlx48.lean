/- Part of the proof: Awk13. -/
import Derived.Test.YtlbnibmcflmohaaGreatPlx47
namespace Go.Proofs.YtlbnibmcflmohaaGreat
open Go.RowKit
attribute [local go_sem ↓] ldq_cm ldq_34 ldq_69
def al9 : List UInt8 := 9 :: List.replicate 31 0
def z32 : List UInt8 := List.replicate 32 0
def s9 : Sp := ⟨z32, z32, z32, z32, al9, z32⟩
theorem s9_ok : s9.ok := ⟨rfl, rfl, rfl, rfl, rfl, rfl⟩
def c27 : Cm := ⟨2, 0, 7, 0, List.replicate 16 0⟩
theorem c27_ok : c27.ok := ⟨by decide, by decide, rfl⟩
theorem c27_berr : berr [c27] 1 = 0 := by decide
theorem c27_dcm : dcm c27.enc = c27 := rfl
theorem c27_dce : dce c27.enc = 0 := by unfold dce; rw [c27_dcm]; rfl
theorem bld_al9 (w : World) : (Instr.build 26 #[(0, .int .u8 9)]).run Tryz.prog w = .ok (.agg (u8s al9).toArray) w := by kernel_rfl
theorem bld_s9 (w : World) : (Instr.build 43 #[(1, .agg (u8s al9).toArray)]).run Tryz.prog w = .ok (.agg s9.cells.toArray) w := by kernel_rfl
theorem bld_c27 (w : World) : (Instr.build 50 #[(0, .int .u8 2), (2, .int .u32 7)]).run Tryz.prog w = .ok (.agg c27.cells.toArray) w := by kernel_rfl
theorem eqq_34 (x y : Value) : binOp .eql 37 x y = eqAt 37 x y := rfl
theorem eqq_cm (x y : Value) : binOp .eql 50 x y = eqAt 50 x y := rfl
theorem eq34z (w : World) : (eqAt 37 (.agg (u8s z288).toArray) (.agg Tryz.zeroCells37)).run Tryz.prog w = .ok (.bool true) w := by rw [zc34']; kernel_rfl
def h9 : List UInt8 := hst [c27] [s9] 1 1
theorem h9_is : h9 = headOf c27 s9 [] 0 z288 := rfl
theorem eqc27 (w : World) : (eqAt 50 (.agg c27.cells.toArray) (.agg #[.int .u8 2, .int .u8 0, .int .u32 7, .int .u64 0, .int .u8 0, .int .u8 0, .int .u8 0, .int .u8 0, .int .u8 0, .int .u8 0, .int .u8 0, .int .u8 0, .int .u8 0, .int .u8 0, .int .u8 0, .int .u8 0, .int .u8 0, .int .u8 0, .int .u8 0, .int .u8 0])).run Tryz.prog w = .ok (.bool true) w := by kernel_rfl
theorem z288_length : z288.length = 288 := List.length_replicate
theorem h9_len : h9.length = 288 := headOf_len c27_ok s9_ok (by decide) z288_length
theorem h9_fits : fits s9 h9 = true := fits_head c27_ok s9_ok (by decide) z288_length
theorem h9_plain : (plainOf s9 h9).take 32 = c27.enc := plain_head c27_ok s9_ok (by decide) z288_length
theorem h9_open (w : World) : Calls Tryz.prog 11 #[.agg (u8s h9).toArray, .agg s9.cells.toArray] w fun e w' => e = .returned (.tuple #[.agg c27.cells.toArray, .agg (u8s z288).toArray, .int .i64 0]) ∧ Below w.heap.size w w' := by
  have h5 := open_last s9 s9_ok h9 h9_len h9_fits (by rw [h9_plain]; exact c27_dce) (by rw [h9_plain, c27_dcm]; decide) w
  rw [h9_plain, c27_dcm] at h5
  exact h5
theorem h9_build (gA gB : Nat) (w : World) (h1 : Blk w gA 50 c27.cells) (h2 : Blk w gB 43 s9.cells) : Calls Tryz.prog 8 #[.slice (some ⟨gA, 0, none⟩) 1 1, .slice (some ⟨gB, 0, none⟩) 1 1] w fun e w' => e = .returned (.tuple #[.agg (u8s h9).toArray, .int .i64 0]) ∧ Below w.heap.size w w' :=
  build_ok (some ⟨gA, 0, none⟩) (some ⟨gB, 0, none⟩) 0 1 1 [c27] [s9] w ⟨rfl, fun _ => ⟨gA, 0, rfl, h1.lt, fun j u hu => by rw [h1.cell, Nat.zero_add]; simpa using hu⟩⟩ ⟨rfl, fun _ => ⟨gB, 0, rfl, h2.lt, fun j u hu => by rw [h2.cell, Nat.zero_add]; simpa using hu⟩⟩
    (fun c hc => by simp at hc; subst hc; exact c27_ok) (fun s hs => by simp at hs; subst hs; exact s9_ok) rfl rfl (by omega) c27_berr
attribute [local go_sem ↓] eqq_34 eqq_cm
theorem s9_len : s9.cells.length = 192 := Sp.cells_len s9_ok
theorem c27_len : c27.cells.length = 20 := Cm.cells_len c27_ok
theorem h9u_len : (u8s h9).length = 288 := by rw [u8s_length, h9_len]
theorem h9_zero : (u8s h9)[0]? = some (.int .u8 9) := by rw [u8s_getElem?, h9_is]; rfl
set_option maxRecDepth 100000 in
set_option maxHeartbeats 4000000 in
theorem awake13 (w : World) : Calls Tryz.prog 4 #[] w fun e w' => e = .returned (.bool true) ∧ Below w.heap.size w w' := by
  have hq1 := eqc27
  have hq2 := eq34z
  obtain ⟨SC, hSC⟩ : ∃ SC, SC = s9.cells := ⟨_, rfl⟩
  have HSL : Hid (SC.length = 192) := by rw [hSC]; exact s9_len
  have HS1 : Hid (∀ v ∈ SC, v.oneCell' = true) := by rw [hSC]; exact Sp.cells_one _
  have HBS : Hid (∀ W, (Instr.build 43 #[(1, .agg (u8s al9).toArray)]).run Tryz.prog W = .ok (.agg SC.toArray) W) := by rw [hSC]; exact bld_s9
  obtain ⟨CC, hCC⟩ : ∃ CC, CC = c27.cells := ⟨_, rfl⟩
  have HCL : Hid (CC.length = 20) := by rw [hCC]; exact c27_len
  have HC1 : Hid (∀ v ∈ CC, v.oneCell' = true) := by rw [hCC]; exact Cm.cells_one _
  have HBC : Hid (∀ W, (Instr.build 50 #[(0, .int .u8 2), (2, .int .u32 7)]).run Tryz.prog W = .ok (.agg CC.toArray) W) := by rw [hCC]; exact bld_c27
  obtain ⟨HU, hHU⟩ : ∃ HU, HU = u8s h9 := ⟨_, rfl⟩
  have HUL : Hid (HU.length = 288) := by rw [hHU]; exact h9u_len
  have HU1 : Hid (∀ v ∈ HU, v.oneCell' = true) := by rw [hHU]; exact u8s_one _
  have HU0 : Hid (HU[0]? = some (.int .u8 9)) := by rw [hHU]; exact h9_zero
  have HOP := Lib.hid h9_open
  have HBD := Lib.hid h9_build
  rw [← hSC, ← hHU, ← hCC] at HOP
  rw [← hSC, ← hHU, ← hCC] at HBD
  rw [← hCC] at hq1
  clear hSC hCC hHU
  have HI1 : Hid ((Tryz.prog.info? 50).map (fun i => ((i.zero.map (fun z => z.cells.size)), i.size)) = some (some CC.length, CC.length)) := by rw [HCL.out]; exact z1cm
  have HI2 : Hid ((Tryz.prog.info? 43).map (fun i => ((i.zero.map (fun z => z.cells.size)), i.size)) = some (some SC.length, SC.length)) := by rw [HSL.out]; exact z1sp
  go_enter Tryz.func4, Tryz.ntmps4
  go_upto_region 4 with (first
    | refine wpList_build rfl 26 [(0, .const (.int .u8 9))] rfl _ (by rfl) _ (bld_al9 _) ?_
    | refine wpList_build rfl 43 [(1, .tmp 7)] rfl _ (by rfl) (.agg SC.toArray) (HBS.out _) ?_
    | refine wpList_build rfl 50 [(0, .const (.int .u8 2)), (2, .const (.int .u32 7))] rfl _ (by rfl) (.agg CC.toArray) (HBC.out _) ?_
    | (refine wpList_store_all rfl 43 (.tmp 1) (.tmp 8) rfl w.heap.size SC (by rfl) (by rfl) 43 (u8s (List.replicate 192 0)) (by exact Blk.new' rfl zcSp) (by rw [HSL.out]; exact hd69) HS1.out (by rw [HSL.out]; rfl) ?_; intro w1 hb1 ho1; have HB1 := Lib.hid hb1; have HE1 := Lib.hid (ho1.below ((Below.refl _ w).alloc (Nat.le_refl _) _) (Nat.le_refl _) (by simp)); have hl1 := sp_ld hb1 HSL.out; have hl1a := fun o => sp_ld (hb1.alloc o) HSL.out; clear hb1 ho1)
    | (refine wpList_slice1 rfl 22 50 (.tmp 10) rfl CC (by rfl) Tryz.underlying22 HI1.out (by rw [HCL.out]; omega) (by rw [HCL.out]; omega) ?_)
    | (refine wpList_slice1 rfl 30 43 (.tmp 12) rfl SC (by rfl) Tryz.underlying30 HI2.out (by rw [HSL.out]; omega) (by rw [HSL.out]; omega) ?_)
    | (go_at_call 8; (with_reducible refine (HBD.out _ _ _ (by exact (Blk.new _ _ _).alloc _) (by exact Blk.new' (by simp) rfl)).mono ?_); rintro e w2 ⟨rfl, hB2⟩; have hs1 := HE1.out.size; have HE2 := Lib.hid (((HE1.out.alloc hs1 _).alloc (Nat.le_trans hs1 (by simp)) _).trans (hB2.mono (Nat.le_trans hs1 (by simp; omega)))); have HB2 := Lib.hid (((HB1.out.alloc _).alloc _).below hB2 (by have := HB1.out.lt; simp; omega)); clear hB2)
    | (refine wpList_store_all rfl 37 (.tmp 2) (.tmp 15) rfl w2.heap.size HU (by rfl) (by rfl) 37 (u8s z288) (by exact Blk.new' rfl zc34') (by rw [HUL.out]; exact hd34) HU1.out (by rw [HUL.out, z288_len]) ?_; intro w3 hb3 ho3; have hs2 := HE2.out.size; have HE3 := Lib.hid (ho3.below (HE2.out.alloc hs2 _) hs2 (Nat.le_trans hs2 (by simp))); have HB3 := qal ho3 HB2 (by have := HB2.out.lt; omega); have HH3 := Lib.hid hb3; have hl3 := hd_ld hb3 HUL.out; have hl31 := sp_ld HB3.out HSL.out; clear hb3 ho3)
    | (go_at_call 11; (with_reducible refine (HOP.out _).mono ?_); rintro e w4 ⟨rfl, hB4⟩; have HE4 := qtr HE3 hB4; have HH4 := qbl HH3 hB4; have hh4 := HH4.out.lt; clear hB4)
    | (refine wpList_store_all rfl 50 (.tmp 4) (.tmp 21) rfl w4.heap.size CC (by rfl) (by rfl) 50 Cm.zero.cells (by exact Blk.alloc (Blk.new' rfl rfl) _) (by rw [HCL.out]; exact hd76c) HC1.out (by rw [HCL.out]; rfl) ?_; intro w5 hb5 ho5; have hs4 := HE4.out.size; have hs5 := Nat.le_of_eq ho5.size.symm; simp at hs5; have HE5 := Lib.hid (ho5.below ((HE4.out.alloc hs4 _).alloc (Nat.le_trans hs4 (by simp)) _) hs4 (Nat.le_trans hs4 (by simp; omega))); have HH5 := Lib.hid (ho5.blk ((HH4.out.alloc _).alloc _) (by omega)); have HC5 := Lib.hid hb5; have HZ5 : Hid (Blk w5 (w4.heap.size + 1) 37 (u8s z288)) := ho5.blk (Blk.new' (by simp) zc34') (by omega); clear hb5 ho5)
    | (refine wpList_store_all rfl 37 (.tmp 5) (.tmp 22) rfl (w4.heap.size + 1) (u8s z288) (by rfl) (by rfl) 37 (u8s z288) HZ5.out (by rw [z288_len]; exact hd34) (u8s_one _) rfl ?_; intro w6 hb6 ho6; have HE6 := Lib.hid (ho6.below HE5.out (by omega) HE5.out.size); have HH6 := Lib.hid (ho6.blk HH5.out (by omega)); have HC6 := Lib.hid (ho6.blk HC5.out (by omega)); have HZ6 := Lib.hid hb6; clear hb6 ho6))
  have hm1 := cm_ld HC6.out HCL.out
  have hm2 := hd_ld HZ6.out z288_len
  have c0 := (HH6.out.cell 0).trans HU0.out
  go_wp2_with fail
  go_ret
  exact ⟨rfl, HE6.out⟩
end Go.Proofs.YtlbnibmcflmohaaGreat
