/- Part of the proof: Dcm. -/
import Derived.Deep.DeepCutAuto
import Derived.Test.YtlbnibmcflmohaaGreatPlx09
import Derived.Test.YtlbnibmcflmohaaGreatPlx26
namespace Go.Proofs.YtlbnibmcflmohaaGreat
open Go.RowKit
def dcm (l : List UInt8) : Cm := ⟨l.getD 0 0, l.getD 1 0, beNat ((l.drop 2).take 4), beNat ((l.drop 6).take 8), (l.drop 14).take 16⟩
theorem dcm_ok {l : List UInt8} (h : l.length = 32) : (dcm l).ok := by
  refine ⟨?_, ?_, ?_⟩
  · have := beNat_lt ((l.drop 2).take 4)
    rw [List.length_take, List.length_drop, h] at this
    exact this
  · have := beNat_lt ((l.drop 6).take 8)
    rw [List.length_take, List.length_drop, h] at this
    exact this
  · simp [dcm, h]
theorem Cm.check_vals (c : Cm) : c.check = 0 ∨ c.check = 1 ∨ c.check = 3 ∨ c.check = 11 := by
  unfold Cm.check
  repeat' split
  all_goals simp
def dce (l : List UInt8) : Nat := if (l.getD 30 0 ≠ 0 ∨ l.getD 31 0 ≠ 0) ∧ ((dcm l).check = 0 ∨ 3 < (dcm l).check) then 3 else (dcm l).check
attribute [local go_sem ↓] ldq_cm
theorem n_ne8 (x : UInt8) : ((x.toNat : Int) != 0) = decide (x ≠ 0) := by
  rw [Bool.eq_iff_iff, bne_iff_ne, decide_eq_true_iff]
  exact ⟨fun h h2 => h (by rw [h2]; rfl), fun h h2 => h (UInt8.toNat_inj.1 (by show _ = 0; omega))⟩
theorem build_cm0 (w : World) : (Instr.build 50 #[]).run Tryz.prog w = .ok (.agg Cm.zero.cells.toArray) w := by kernel_rfl
set_option maxRecDepth 100000 in
set_option maxHeartbeats 4000000 in
theorem cdec_any (A : Option Addr) (c : Nat) (l : List UInt8) (w : World) (h : Rd w A 32 (u8s l)) (hc : 32 ≤ c) :
    Calls Tryz.prog 26 #[.slice A 32 c] w fun e w' => e = .returned (.tuple #[.agg (if dce l = 0 then (dcm l).cells else Cm.zero.cells).toArray, .int .i64 (dce l : Int)]) ∧ Below w.heap.size w w' := by
  have hll := h.len
  obtain ⟨b, off, rfl, hb, hcell⟩ := h.2 (by omega)
  have HR := Lib.hid h
  have HG1 : Hid (∀ W, Below w.heap.size w W → Calls Tryz.prog 52 #[.int .i64 2, .slice (some ⟨b, off, none⟩) 32 c, .int .i64 2, .int .i64 4] W fun e w' => e = .returned (.tuple #[.int .u64 (beNat ((l.drop 2).take 4)), .int .i64 0]) ∧ W = w') := fun W hB => get_2 _ 32 c 2 4 l W (h.below hB) (by omega) (by omega) (by omega) (by omega)
  have HG2 : Hid (∀ W, Below w.heap.size w W → Calls Tryz.prog 52 #[.int .i64 2, .slice (some ⟨b, off, none⟩) 32 c, .int .i64 6, .int .i64 8] W fun e w' => e = .returned (.tuple #[.int .u64 (beNat ((l.drop 6).take 8)), .int .i64 0]) ∧ W = w') := fun W hB => get_2 _ 32 c 6 8 l W (h.below hB) (by omega) (by omega) (by omega) (by omega)
  have hok := dcm_ok hll
  have hd2 : ((beNat ((l.drop 2).take 4) : Nat) : Int) < 4294967296 := by have := hok.1; simp only [dcm] at this; omega
  have hd3 : ((beNat ((l.drop 6).take 8) : Nat) : Int) < 18446744073709551616 := by have := hok.2.1; simp only [dcm] at this; omega
  have HL := Lib.hid hll
  have HCK := Lib.hid (fun W => check_cm (dcm l) hok W)
  have HCL := Lib.hid (Cm.cells_len hok)
  have HSP : Hid (splice (((Cm.cells ⟨l.getD 0 0, l.getD 1 0, 0, 0, List.replicate 16 0⟩).set 2 (.int .u32 ((beNat ((l.drop 2).take 4) : Nat) : Int))).set 3 (.int .u64 ((beNat ((l.drop 6).take 8) : Nat) : Int))) 4 ((u8s (l.drop 14)).take 16) = (dcm l).cells) := by
    show _ = _
    have e1 : (((Cm.cells ⟨l.getD 0 0, l.getD 1 0, 0, 0, List.replicate 16 0⟩).set 2 (.int .u32 ((beNat ((l.drop 2).take 4) : Nat) : Int))).set 3 (.int .u64 ((beNat ((l.drop 6).take 8) : Nat) : Int))) = [.int .u8 (l.getD 0 0).toNat, .int .u8 (l.getD 1 0).toNat, .int .u32 ((beNat ((l.drop 2).take 4) : Nat) : Int), .int .u64 ((beNat ((l.drop 6).take 8) : Nat) : Int)] ++ u8s (List.replicate 16 0) := rfl
    rw [e1, splice_back _ _ _ 4 rfl (by simp [u8s_length, hll]), u8s_take]
    rfl
  have HC30 : Hid (∀ W, Below w.heap.size w W → W.cell? ⟨b, off + 30, none⟩ = some (.int .u8 (l.getD 30 0).toNat) ∧ W.cell? ⟨b, off + 31, none⟩ = some (.int .u8 (l.getD 31 0).toNat)) := fun W hB => ⟨(h.below hB).get (i := 30) (by omega), (h.below hB).get (i := 31) (by omega)⟩
  have HDE : Hid (dce l = if (l.getD 30 0 ≠ 0 ∨ l.getD 31 0 ≠ 0) ∧ ((dcm l).check = 0 ∨ 3 < (dcm l).check) then 3 else (dcm l).check) := rfl
  have HR0 : Hid (Rd (w.alloc (.cells Cm.zero.cells.toArray 50)).drew (some ⟨b, off, none⟩) 32 (u8s l) ∧ Below w.heap.size w (w.alloc (.cells Cm.zero.cells.toArray 50)).drew ∧ Blk (w.alloc (.cells Cm.zero.cells.toArray 50)).drew w.heap.size 50 Cm.zero.cells ∧ w.heap.size + 1 ≤ (w.alloc (.cells Cm.zero.cells.toArray 50)).drew.heap.size) := ⟨(h.alloc _).drew, ((Below.refl _ w).alloc (Nat.le_refl _) _).drew, (Blk.new _ _ _).drew, by simp⟩
  have HC1 := Lib.hid (Cm.cells_one (dcm l))
  have hv := Cm.check_vals (dcm l)
  generalize dce l = DE at *
  generalize (dcm l).cells = C at *
  generalize (dcm l).check = E at *
  generalize l.getD 30 0 = x30 at *
  generalize l.getD 31 0 = x31 at *
  have HV := Lib.hid hv
  clear h hcell hok hv
  go_enter Tryz.func26, Tryz.ntmps26
  go_wp2_with fail
  refine region_K (by kernel_rfl) 8 (fun W => Rd W (some ⟨b, off, none⟩) 32 (u8s l)) ?_
  refine AnyF.start 7 4 (w.heap.size + 1) 50 Cm.zero.cells (fun W => Rd W (some ⟨b, off, none⟩) 32 (u8s l) ∧ Below w.heap.size w W ∧ Blk W w.heap.size 50 Cm.zero.cells ∧ w.heap.size + 1 ≤ W.heap.size) HR0.out ?_
  refine AnyF.pure 0 (v := .slice (some ⟨b, off, none⟩) 32 c) rfl (by decide) (fun g => by cases g <;> kernel_rfl) (fun _ _ _ h => h) rfl (by decide) (fun st _ => by cases st <;> kernel_rfl) (fun _ h => h.1) ?_
  refine AnyF.pure 1 (v := .pointer (some ⟨b, off + 0, none⟩)) rfl (by decide) (fun g => by cases g <;> kernel_rfl) (fun _ _ _ h => h) rfl (by decide) (fun st _ => by cases st <;> kernel_rfl) (fun _ h => h.1) ?_
  refine AnyF.load 2 (v := .int .u8 ((l.getD 0 0).toNat : Int)) rfl (by decide) (fun g => by cases g <;> kernel_rfl) (by kernel_rfl) (fun g => by cases g <;> kernel_rfl) (fun _ _ _ h => h) rfl (by decide) (fun st w' hw' => ex_load (p := ⟨b, off + 0, none⟩) rfl (by cases st <;> kernel_rfl) agU8 (hw'.get (i := 0) (by omega))) (fun _ h => h.1) ?_
  refine AnyF.pure 3 (v := .slice (some ⟨b, off, none⟩) 32 c) rfl (by decide) (fun g => by cases g <;> kernel_rfl) (fun _ _ _ h => h) rfl (by decide) (fun st _ => by cases st <;> kernel_rfl) (fun _ h => h.1) ?_
  refine AnyF.pure 4 (v := .pointer (some ⟨b, off + 1, none⟩)) rfl (by decide) (fun g => by cases g <;> kernel_rfl) (fun _ _ _ h => h) rfl (by decide) (fun st _ => by cases st <;> kernel_rfl) (fun _ h => h.1) ?_
  refine AnyF.load 5 (v := .int .u8 ((l.getD 1 0).toNat : Int)) rfl (by decide) (fun g => by cases g <;> kernel_rfl) (by kernel_rfl) (fun g => by cases g <;> kernel_rfl) (fun _ _ _ h => h) rfl (by decide) (fun st w' hw' => ex_load (p := ⟨b, off + 1, none⟩) rfl (by cases st <;> kernel_rfl) agU8 (hw'.get (i := 1) (by omega))) (fun _ h => h.1) ?_
  refine AnyF.pure 6 (v := .agg (Cm.cells ⟨l.getD 0 0, l.getD 1 0, 0, 0, List.replicate 16 0⟩).toArray) rfl (by decide) (fun g => by cases g <;> kernel_rfl) (fun _ _ _ h => h) rfl (by decide) (fun st _ => by cases st <;> kernel_rfl) (fun _ h => h.1) ?_
  refine AnyF.fin rfl rfl rfl (fun _ _ => by kernel_rfl) (by kernel_rfl) (fun _ o h => ⟨h.1.alloc o, h.2.1.alloc h.2.1.size o, h.2.2.1.alloc o, Nat.le_trans h.2.2.2 (by simp)⟩) (fun _ h => h.2.2.2) (fun _ h => h.1) ?_
  intro g w7 hg hp7 hU7
  refine AnyK.storeAll 8 (t := 50) (x := .tmp 4) (y := .tmp 19) g (Cm.cells ⟨l.getD 0 0, l.getD 1 0, 0, 0, List.replicate 16 0⟩) 50 Cm.zero.cells rfl rfl rfl rfl (by kernel_rfl) (by kernel_rfl) (by kernel_rfl) hp7 (by kernel_rfl) (Cm.cells_one _) rfl (fun w' hb' ho' => fun h => (by cases h)) ?_
  intro w8 hb8 ho8
  refine AnyK.done (by kernel_rfl) ?_
  have hgw : w.heap.size + 1 ≤ g := hg
  have HB8 := Lib.hid hb8
  have HE8 := Lib.hid (ho8.below hU7.2.1 (by omega) hU7.2.1.size)
  have HZ8 := Lib.hid (ho8.blk hU7.2.2.1 (by omega))
  have hgl8 := HB8.out.lt
  have c82 := HB8.out.cell 2
  have f82 := HB8.out.frozen 2
  have c83 := HB8.out.cell 3
  have f83 := HB8.out.frozen 3
  simp only [Cm.cells, List.getElem?_cons_zero, List.getElem?_cons_succ] at c82 c83
  clear hb8 ho8 hU7 hp7 HR0
  go_wp2_with (first
    | (go_at_call 52; (with_reducible refine (HG1.out _ (by exact HE8.out)).mono ?_); rintro e w9 ⟨rfl, rfl⟩)
    | (go_at_call 52; (with_reducible refine (HG2.out _ (by exact HE8.out)).mono ?_); rintro e w9 ⟨rfl, rfl⟩))
  have HBS : Hid (Blk ((w8.setCell ⟨g, 2, none⟩ (.int .u32 ((beNat ((l.drop 2).take 4) : Nat) : Int))).setCell ⟨g, 3, none⟩ (.int .u64 ((beNat ((l.drop 6).take 8) : Nat) : Int))).drew g 50 (((Cm.cells ⟨l.getD 0 0, l.getD 1 0, 0, 0, List.replicate 16 0⟩).set 2 (.int .u32 ((beNat ((l.drop 2).take 4) : Nat) : Int))).set 3 (.int .u64 ((beNat ((l.drop 6).take 8) : Nat) : Int)))) := ((HB8.out.set_ 2 _).set_ 3 _).drew
  have HES : Hid (Below w.heap.size w ((w8.setCell ⟨g, 2, none⟩ (.int .u32 ((beNat ((l.drop 2).take 4) : Nat) : Int))).setCell ⟨g, 3, none⟩ (.int .u64 ((beNat ((l.drop 6).take 8) : Nat) : Int))).drew) := ((HE8.out.setCell (p := ⟨g, 2, none⟩) (Nat.le_of_succ_le hgw) _).setCell (p := ⟨g, 3, none⟩) (Nat.le_of_succ_le hgw) _).drew
  have HZS : Hid (Blk ((w8.setCell ⟨g, 2, none⟩ (.int .u32 ((beNat ((l.drop 2).take 4) : Nat) : Int))).setCell ⟨g, 3, none⟩ (.int .u64 ((beNat ((l.drop 6).take 8) : Nat) : Int))).drew w.heap.size 50 Cm.zero.cells) := ((HZ8.out.far (p := ⟨g, 2, none⟩) (by show w.heap.size ≠ g; omega) _).far (p := ⟨g, 3, none⟩) (by show w.heap.size ≠ g; omega) _).drew
  have HRS : Hid (Rd ((w8.setCell ⟨g, 2, none⟩ (.int .u32 ((beNat ((l.drop 2).take 4) : Nat) : Int))).setCell ⟨g, 3, none⟩ (.int .u64 ((beNat ((l.drop 6).take 8) : Nat) : Int))).drew (some ⟨b, off + 14, none⟩) 18 (u8s (l.drop 14))) := by
    have h5 := rd_mid (HR.out.below HES.out) 14 18 (by omega)
    rwa [show (l.drop 14).take 18 = l.drop 14 from List.take_of_length_le (by rw [List.length_drop, HL.out]; exact Nat.le_refl _)] at h5
  have n14 : ¬ c = 14 := by omega
  have n30 : ¬ c = 30 := by omega
  clear c82 f82 c83 f83
  go_region_held3 (fun _ => True) (trivial) ((refine step_copy rfl (.tmp 44) (.tmp 46) 23 rfl 5 Tryz.underlying23 u8_one1 g 4 16 16 (by rfl) (some ⟨b, off + 14, none⟩) 18 (c - 14) (by rfl) 50 _ (by exact HBS.out) (u8s (l.drop 14)) (by exact HRS.out) (u8s_one _) (by simp [Cm.cells, u8s_length]) ?_; intro w10 hb10 ho10))
  rw [HSP.out] at hb10
  have HE10 := Lib.hid (ho10.below HES.out (by omega) HES.out.size)
  have HZ10 := Lib.hid (ho10.blk HZS.out (by omega))
  have HB10 := Lib.hid hb10
  have hld := cm_ld hb10 HCL.out
  have hbs10 := HE10.out.size
  clear ho10 hb10 HBS HES HZS HRS HSP
  go_upto_region 15 with (go_at_call 39; (with_reducible refine (HCK.out _).mono ?_); rintro e w11 ⟨rfl, hB11⟩; have HE11 := qtr HE10 hB11; have HZ11 := qbl HZ10 hB11; have HB11 := qbl HB10 hB11; clear hB11)
  have hv := HV.out
  obtain ⟨q0, q1⟩ := HC30.out w11 HE11.out
  have hld11 := cm_ld HB11.out HCL.out
  have e0 : ((x30.toNat : Int) != 0) = decide (x30 ≠ 0) := n_ne8 x30
  have e1 : ((x31.toNat : Int) != 0) = decide (x31 ≠ 0) := n_ne8 x31
  by_cases h0 : x30 = 0 <;> by_cases h1 : x31 = 0 <;> rcases hv with rfl | rfl | rfl | rfl
  all_goals (
    simp only [h0, h1, ne_eq, not_true_eq_false, not_false_eq_true, decide_true, decide_false, or_self, or_true, or_false, and_true, and_false, if_true, if_false, Nat.reduceLT, Nat.reduceEqDiff] at e0 e1 HDE
    have HD := HDE.out
    go_wp2_with (first
        | refine wpList_build rfl 50 [] rfl [] (by rfl) _ (build_cm0 _) ?_
        | (refine wpList_store_all rfl 50 (.tmp 2) (.tmp 72) rfl w.heap.size Cm.zero.cells (by rfl) (by rfl) 50 _ HZ11.out (by exact hd76c) (Cm.cells_one _) (by exact rfl) ?_; intro w12 hb12 ho12; have HB12 := Lib.hid hb12; have HE12 := Lib.hid (ho12.below HE11.out (Nat.le_refl _) HE11.out.size); clear hb12 ho12)
        | (refine wpList_store_all rfl 50 (.tmp 2) (.tmp 74) rfl w.heap.size C (by rfl) (by rfl) 50 _ HZ11.out (by rw [HCL.out]; exact hd76c) HC1.out (by rw [HCL.out]; rfl) ?_; intro w12 hb12 ho12; have HB12 := Lib.hid hb12; have HE12 := Lib.hid (ho12.below HE11.out (Nat.le_refl _) HE11.out.size); clear hb12 ho12))
    subst HD
    exact bodyPost_ret (res_cell_tmp rfl _ _ _ _ rfl HB12.out _ Tryz.underlying50 rfl (by first | exact hd76c | (rw [HCL.out]; exact hd76c))) rfl ⟨rfl, HE12.out⟩)
end Go.Proofs.YtlbnibmcflmohaaGreat
