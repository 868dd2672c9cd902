/- Part of the proof: Ble, HeaderFlipsW. -/
import Derived.Test.YtlbnibmcflmohaaFlx50
namespace Go.Proofs.Ytlbnibmcflmohaa
open Go.RowKit
attribute [local go_sem ↓] ldq_34
set_option maxRecDepth 100000 in
set_option maxHeartbeats 2000000 in
theorem build_err (A B : Option Addr) (n c m d : Nat) (cs : List Cm) (w : World) (h1 : RdS 20 w A n (cs.flatMap Cm.cells)) (hcs : ∀ c ∈ cs, c.ok) (hcl : cs.length = n) (hn : n ≤ 140737488355328) (hm : m ≤ 140737488355328) (he : berr cs m ≠ 0) :
    Calls Try.prog 5 #[.slice A n c, .slice B m d] w fun e w' => e = .returned (.tuple #[.agg (u8s z288).toArray, .int .i64 ((berr cs m : Nat) : Int)]) ∧ Below w.heap.size w w' := by
  have HBE : Hid (∀ W, Below w.heap.size w W → Calls Try.prog 14 #[.slice A n c, .int .i64 (m : Int)] W fun e w' => e = .returned (.int .i64 ((berr cs m : Nat) : Int)) ∧ Below W.heap.size W w') := fun W hB => berr_any A n c m cs W (h1.bel hB (Nat.le_refl _)) hcs hcl hn hm
  obtain ⟨E, hE⟩ : ∃ E, E = berr cs m := ⟨_, rfl⟩
  rw [← hE] at HBE he ⊢
  have hne : ((E : Int) != 0) = true := by rw [bne_iff_ne]; omega
  have HE0 : Hid (Below w.heap.size w (w.alloc (.cells Try.zeroCells29 29))) := (Below.refl _ w).alloc (Nat.le_refl _) _
  have HG0 : Hid (Blk (w.alloc (.cells Try.zeroCells29 29)) w.heap.size 29 (u8s z288)) := Blk.new' rfl zc34'
  have HZ1 : Hid (∀ v ∈ u8s z288, v.oneCell' = true) := u8s_one _
  have HZL := Lib.hid z288_len
  have HBZ := Lib.hid build34_z
  generalize u8s z288 = Z at *
  clear h1 hcs hcl hn hm he hE
  go_enter Try.func5, Try.ntmps5
  go_wp2_with (first
    | (go_at_call 14; (with_reducible refine (HBE.out _ (by exact HE0.out)).mono ?_); rintro e w1 ⟨rfl, hB1⟩; have HE1 := Lib.hid (HE0.out.trans (hB1.mono (by simp))); have HG1 := qbl HG0 hB1; clear hB1)
    | refine wpList_build rfl 29 [] rfl [] (by rfl) _ (HBZ.out _) ?_
    | (refine wpList_store_all rfl 29 (.tmp 4) (.tmp 21) rfl w.heap.size Z (by rfl) (by rfl) 29 Z HG1.out (by rw [HZL.out]; exact hd34) HZ1.out (by rfl) ?_; intro w2 hb2 ho2))
  exact bodyPost_ret (res_cell_tmp rfl _ _ _ _ rfl hb2 _ Try.underlying29 rfl (by rw [HZL.out]; exact hd34)) rfl ⟨rfl, ho2.below HE1.out (Nat.le_refl _) HE1.out.size⟩
def hB (cs : List Cm) (ss : List Sp) : List UInt8 := if berr cs ss.length = 0 then hst cs ss ss.length ss.length else z288
theorem hB_len {cs : List Cm} {ss : List Sp} (hc : ∀ c ∈ cs, c.ok) (hs : ∀ s ∈ ss, s.ok) : (hB cs ss).length = 288 := by
  unfold hB
  split
  · rename_i h
    obtain ⟨_, h5, hl, _⟩ := berr_zero h
    exact hst_len hc hs hl.symm rfl h5 _ (Nat.le_refl _)
  · exact List.length_replicate
theorem build_any (A B : Option Addr) (n c m d : Nat) (cs : List Cm) (ss : List Sp) (w : World) (h1 : RdS 20 w A n (cs.flatMap Cm.cells)) (h2 : RdS 192 w B m (ss.flatMap Sp.cells)) (hcs : ∀ c ∈ cs, c.ok) (hss : ∀ s ∈ ss, s.ok)
    (hcl : cs.length = n) (hsl : ss.length = m) (hn : n ≤ 140737488355328) (hm : m ≤ 140737488355328) (hd : m ≤ d) :
    Calls Try.prog 5 #[.slice A n c, .slice B m d] w fun e w' => e = .returned (.tuple #[.agg (u8s (hB cs ss)).toArray, .int .i64 ((berr cs m : Nat) : Int)]) ∧ Below w.heap.size w w' := by
  by_cases he : berr cs m = 0
  · obtain ⟨h1', _, hl, _⟩ := berr_zero he
    obtain ⟨k, hk⟩ : ∃ k, m = k + 1 := ⟨m - 1, by omega⟩
    subst hk
    obtain rfl : n = k + 1 := by omega
    have h5 := build_ok A B k c d cs ss w h1 h2 hcs hss hcl hsl hd he
    rw [hB, hsl, if_pos he, he]
    exact h5
  · have h5 := build_err A B n c m d cs w h1 hcs hcl hn hm he
    rw [hB, hsl, if_neg he]
    exact h5
end Go.Proofs.Ytlbnibmcflmohaa
namespace Go.Proofs.Ytlbnibmcflmohaa.headerFlips
open Go.RowKit
attribute [local go_sem ↓] ldq_34 ldq_72 ldq_cm ldq_24 eqq_34 eqq_cm
theorem rds_own {w : World} {base n c sz : Nat} {e : TypeId} {A : Option Addr} {xs : List Value} (h : w.ownsRow base e sz (.slice A n c) n xs) : RdS sz w A n xs := by
  refine ⟨h.1, fun hn => ?_⟩
  rcases h.2 with ⟨_, h0⟩ | ⟨g, cap, cur, hv, _, hg, hnc, _, hcs, htake⟩
  · omega
  · injection hv with hA
    subst hA
    refine ⟨g, 0, rfl, (Array.getElem?_eq_some_iff.1 hg).1, fun j u hu => ?_⟩
    rw [cell_of_row w g (0 + j) cur e (0, 0) hg, Nat.zero_add]
    rw [← htake, List.getElem?_take] at hu
    split at hu
    · simpa using hu
    · cases hu
theorem cms_one (l : List Cm) : ∀ v ∈ l.flatMap Cm.cells, v.oneCell' = true := by
  intro v hv
  obtain ⟨c, _, hc⟩ := List.mem_flatMap.1 hv
  exact Cm.cells_one c v hc
theorem fits_hB {cs : List Cm} {ss : List Sp} (hc : ∀ c ∈ cs, c.ok) (hs : ∀ s ∈ ss, s.ok) {m : Nat} (hsl : ss.length = m) (h : berr cs m = 0) : ∃ s, ss[0]? = some s ∧ 0 < m ∧ fits s (hB cs ss) = true := by
  obtain ⟨h1, h5, hl, _⟩ := berr_zero h
  obtain ⟨k, rfl⟩ : ∃ k, m = k + 1 := ⟨m - 1, by omega⟩
  obtain ⟨c, hci⟩ : ∃ c, cs[0]? = some c := ⟨_, List.getElem?_eq_getElem (by omega)⟩
  obtain ⟨s, hsi⟩ : ∃ s, ss[0]? = some s := ⟨_, List.getElem?_eq_getElem (by omega)⟩
  refine ⟨s, hsi, by omega, ?_⟩
  rw [hB, hsl, if_pos h, hst_next (i := 0) (by omega) hci hsi]
  exact fits_head (hc c (List.mem_of_getElem? hci)) (hs s (List.mem_of_getElem? hsi)) (by rw [fil_len _ _ (by omega)]; omega) (hst_len hc hs hl.symm hsl h5 k (by omega))
theorem own_in {w : World} {base n c : Nat} {e : TypeId} {A : Option Addr} {xs : List Value} (h : w.ownsRow base e 1 (.slice A n c) n xs) (hn : 0 < n) : ∃ g R, A = some ⟨g, 0, none⟩ ∧ base ≤ g ∧ Blk w g e (xs ++ R) := by
  rcases h.2 with ⟨_, h0⟩ | ⟨g, cap, cur, hv, hb, hg, hnc, _, hcs, htake⟩
  · omega
  · injection hv with hA
    refine ⟨g, cur.toList.drop n, hA, hb, ?_⟩
    have hx : cur.toList.take n = xs := by simpa using htake
    rw [← hx, List.take_append_drop]
    exact hg
section
variable {P : Program} {w : World} {o : Oper} {a : Act}
theorem ex_same {u v : Value} (h : (execOp a.eval o).run P w = .ok (.value u) w) (e : u = v) : (execOp a.eval o).run P w = .ok (.value v) w := by rw [h, e]
theorem ex_idxB {t e : TypeId} {x y : Operand} {g n c p : Nat} (ho : o.op = .indexAddr t x y) (hx : a.eval x = .slice (some ⟨g, 0, none⟩) n c) (hy : a.eval y = .int .i64 (p : Int)) (hp : p < n) (hu : P.underlying t = some (.slice e)) (hz : ∀ w, (sizeOf e).run P w = .ok 1 w) : (execOp a.eval o).run P w = .ok (.value (.pointer (some ⟨g, p, none⟩))) w := by
  unfold execOp
  simp [ho, hx, hy, Instr.indexAt, asIntOf, run_underlying hu, hz, hp, Addr.add]
  exact fun h => h.symm
theorem ex_idx0 {t e : TypeId} {x y : Operand} {g off n c sz : Nat} (ho : o.op = .indexAddr t x y) (hx : a.eval x = .slice (some ⟨g, off, none⟩) n c) (hy : a.eval y = .int .i64 0) (hp : 0 < n) (hu : P.underlying t = some (.slice e)) (hz : ∀ w, (sizeOf e).run P w = .ok sz w) : (execOp a.eval o).run P w = .ok (.value (.pointer (some ⟨g, off, none⟩))) w := by
  unfold execOp
  simp [ho, hx, hy, Instr.indexAt, asIntOf, run_underlying hu, hz, hp, Addr.add]
theorem ex_cell {t : TypeId} {x : Operand} {p : Addr} {v : Value} (ho : o.op = .load t x) (hx : a.eval x = .pointer (some p)) (hn : ∀ w, (isAgg t).run P w = .ok false w) (hc : w.cell? p = some v) : (execOp a.eval o).run P w = .ok (.value v) w := by
  unfold execOp
  simp [ho, hx, Instr.loadAt, Instr.sureAddr, loadVar, hn, load, Sem.run, hc]
theorem ex_put {t : TypeId} {x y : Operand} {p : Addr} {u : Value} {k : IntKind} {n : Int} (ho : o.op = .store t x y) (hx : a.eval x = .pointer (some p)) (hy : a.eval y = .int k n) (hz : ∀ w, (sizeOf t).run P w = .ok 1 w) (hc : w.cell? p = some u) (hf : w.frozen? p = false) : (execOp a.eval o).run P w = .ok .skip (w.setCell p (.int k n)) := by
  unfold execOp
  simp [ho, hx, hy, Instr.storeAt, Instr.sureAddr, storeVar, hz, Value.cells, storeCells, store, Addr.add, Sem.run, hc, hf]
end
theorem alloc_hd {o : Oper} {a : Act} {W : World} (ho : o.op = .alloc 29) : (execOp a.eval o).run Try.prog W = .ok (.value (.pointer (some ⟨W.heap.size, 0, none⟩))) (W.alloc (.cells (u8s z288).toArray 29)) := by
  unfold execOp
  rw [ho]
  kernel_rfl
theorem eqcm0 (w : World) : (eqAt 50 (.agg Cm.zero.cells.toArray) (.agg Cm.zero.cells.toArray)).run Try.prog w = .ok (.bool true) w := by kernel_rfl
theorem eq34z' (w : World) : (eqAt 29 (.agg (u8s z288).toArray) (.agg (u8s z288).toArray)).run Try.prog w = .ok (.bool true) w := by
  have := eq34z w
  rwa [zc34'] at this
theorem eqcm1 (w : World) : (eqAt 50 (.agg Cm.zero.cells.toArray) (.agg #[.int .u8 0, .int .u8 0, .int .u32 0, .int .u64 0, .int .u8 0, .int .u8 0, .int .u8 0, .int .u8 0, .int .u8 0, .int .u8 0, .int .u8 0, .int .u8 0, .int .u8 0, .int .u8 0, .int .u8 0, .int .u8 0, .int .u8 0, .int .u8 0, .int .u8 0, .int .u8 0])).run Try.prog w = .ok (.bool true) w := by kernel_rfl
theorem sp0 {w : World} {B : Option Addr} {m : Nat} {ss : List Sp} (h : RdS 192 w B m (ss.flatMap Sp.cells)) (hs : ∀ s ∈ ss, s.ok) {s : Sp} (h0 : ss[0]? = some s) (hm : 0 < m) : ∃ b off, B = some ⟨b, off, none⟩ ∧ b < w.heap.size ∧ w.rangeAt b off s.cells := by
  obtain ⟨b, off, e, hb, hr⟩ := sp_range h hs h0 hm
  exact ⟨b, off, e, hb, by simpa using hr⟩
set_option maxRecDepth 100000 in
set_option maxHeartbeats 8000000 in
theorem walk (A : Option Addr) (n c : Nat) (cs : List Cm) (B : Option Addr) (m d : Nat) (ss : List Sp) (bit : Int) (w : World) (h1 : RdS 20 w A n (cs.flatMap Cm.cells)) (hcs : ∀ c ∈ cs, c.ok) (hcl : cs.length = n) (hn : n * 32 ≤ 140737488355328) (h2 : RdS 192 w B m (ss.flatMap Sp.cells)) (hss : ∀ s ∈ ss, s.ok) (hsl : ss.length = m) (hm : m * 192 ≤ 140737488355328) :
    Calls Try.prog 3 #[.slice A n c, .slice B m d, .int .i64 bit] w fun e w' => e = .returned (.bool true) ∧ Below w.heap.size w w' := by
  have HBD : Hid (∀ W A1 c1 A2 c2, RdS 20 W A1 n (cs.flatMap Cm.cells) → RdS 192 W A2 m (ss.flatMap Sp.cells) → m ≤ c2 → Calls Try.prog 5 #[.slice A1 n c1, .slice A2 m c2] W fun e w' => e = .returned (.tuple #[.agg (u8s (hB cs ss)).toArray, .int .i64 ((berr cs m : Nat) : Int)]) ∧ Below W.heap.size W w') :=
    fun W A1 c1 A2 c2 k1 k2 k3 => build_any A1 A2 n c1 m c2 cs ss W k1 k2 hcs hss hcl hsl (by omega) (by omega) k3
  have HST : Hid (∀ W, RdS 192 W B m (ss.flatMap Sp.cells) → Calls Try.prog 6 #[.slice B m d] W fun e w' => ∃ A' c', e = .returned (.slice A' m c') ∧ m ≤ c' ∧ w'.ownsRow W.heap.size 39 192 (.slice A' m c') m (ss.flatMap Sp.cells) ∧ Below W.heap.size W w') := fun W k => steps_any B m d ss W k hss hsl hm
  have HK : Hid (berr cs m = 0 → ∃ s, ss[0]? = some s ∧ 0 < m ∧ fits s (hB cs ss) = true) := fits_hB hcs hss hsl
  have HLL : Hid ((hB cs ss).length = 288) := hB_len hcs hss
  have HA := Lib.hid h1
  have HB := Lib.hid h2
  have HSS := Lib.hid hss
  have HC1 := Lib.hid (cms_one cs)
  have HUL : Hid ((u8s (hB cs ss)).length = 288) := by show _ = _; rw [u8s_length, HLL.out]
  generalize hB cs ss = L at *
  generalize berr cs m = E at *
  generalize cs.flatMap Cm.cells = CS at *
  clear h1 h2 hcs hss hcl hsl
  go_enter Try.func3, Try.ntmps3
  go_upto_region 4 with (first
    | (go_at_call 4; refine (awake13 _).mono ?_; rintro e w1 ⟨rfl, hB1⟩; have HE1 := Lib.hid hB1; clear hB1)
    | (at_builtin; refine wpList_app rfl (.tmp 17) (.tmp 18) 22 rfl w1.heap.size 50 20 32 Try.underlying22 eCm (.slice (some ⟨w1.heap.size, 0, none⟩) 0 0) 0 [] (by rfl) (by exact own_of_blk (base := w1.heap.size) (cs := []) (Blk.new' (by simp) rfl) (Nat.le_refl _) 0 0 20 (by omega) (by simp) (by omega)) A n c CS (by rfl) (by exact HA.out.bel (HE1.out.alloc HE1.out.size _) (Nat.le_refl _)) HC1.out (by omega) (by omega) (by simp) ?_
       intro A2 c2 w2 hown2 hc2 hg2 hat2
       simp only [Nat.zero_add, List.nil_append] at hown2 hc2
       have HE2 := Lib.hid ((HE1.out.alloc HE1.out.size _).grown hg2 (Nat.le_trans HE1.out.size (by simp)) (fun k hk => by simp [Value.ownBlock] at hk; have := HE1.out.size; omega))
       have HO2 := Lib.hid (rds_own hown2)
       clear hown2 hc2 hg2 hat2)
    | (go_at_call 6; (with_reducible refine (HST.out _ (by exact HB.out.bel HE2.out (Nat.le_refl _))).mono ?_); rintro e w3 ⟨A3, c3, rfl, hc3, hown3, hB3⟩
       have HE3 := qtr HE2 hB3
       have HO3 := Lib.hid (HO2.out.bel hB3 (Nat.le_refl _))
       have HP3 := Lib.hid (rds_own hown3)
       have HC3 := Lib.hid hc3
       clear hown3 hc3 hB3)
    | (go_at_call 5; (with_reducible refine (HBD.out _ _ _ _ _ (by exact HO3.out) (by exact HP3.out) (by exact HC3.out)).mono ?_); rintro e w4 ⟨rfl, hB4⟩
       have HE4 := qtr HE3 hB4
       clear hB4)
    | (refine wpList_store_all rfl 29 (.tmp 7) (.tmp 23) rfl w4.heap.size (u8s L) (by rfl) (by rfl) 29 (u8s z288) (by exact Blk.new' rfl zc34') (by rw [HUL.out]; exact hd34) (u8s_one _) (by rw [HUL.out, z288_len]) ?_; intro w5 hb5 ho5
       have HE5 := Lib.hid (ho5.below (HE4.out.alloc HE4.out.size _) HE4.out.size (Nat.le_trans HE4.out.size (by simp)))
       have HH5 := Lib.hid hb5
       clear hb5 ho5))
  by_cases he : ¬ E = 0
  · have hne : ((E : Int) != 0) = true := by rw [bne_iff_ne]; omega
    clear he HK HBD HST HA HB HSS HC1
    go_wp2
    go_ret
    exact ⟨rfl, HE5.out⟩
  have he : E = 0 := by omega
  have hne : ((E : Int) != 0) = false := by rw [bne_eq_false_iff_eq]; omega
  by_cases hb0 : bit < 0
  · clear he HK HBD HST HA HB HSS HC1
    go_wp2
    go_ret
    exact ⟨rfl, HE5.out⟩
  by_cases hb1 : bit ≥ 2304
  · clear he HK HBD HST HA HB HSS HC1
    go_wp2
    go_ret
    exact ⟨rfl, HE5.out⟩
  obtain ⟨s, hs0, hm0, hft⟩ := HK.out he
  obtain ⟨b0, off0, rfl, _, _⟩ := sp0 HB.out HSS.out hs0 hm0
  have hso := HSS.out s (List.mem_of_getElem? hs0)
  have HSL := Lib.hid (Sp.cells_len hso)
  have HRG : Hid (∀ W, Below w.heap.size w W → W.rangeAt b0 off0 s.cells) := fun W hW => by
    obtain ⟨b, off, e, _, hrg⟩ := sp0 (HB.out.bel hW (Nat.le_refl _)) HSS.out hs0 hm0
    injection e with e
    injection e with e1 e2
    subst e1 e2
    exact hrg
  have HS1 := Lib.hid (fun W => law13step_any s hso W)
  have HF1 : Hid (∀ W, Calls Try.prog 7 #[.agg (u8s L).toArray, .agg s.cells.toArray] W fun e w' => e = .returned (.bool true) ∧ Below W.heap.size W w') := fun W => by
    have h5 := fits_any s hso L HLL.out W
    rw [hft] at h5
    exact h5
  obtain ⟨UL, hUL⟩ : ∃ UL, UL = u8s L := ⟨_, rfl⟩
  obtain ⟨SC, hSC⟩ : ∃ SC, SC = s.cells := ⟨_, rfl⟩
  clear HBD HST HA HC1 HK
  have hm1 : (0 : Int) < (m : Int) := by omega
  have HBY := Lib.hid (fun W => hbytes_any L W HLL.out)
  rw [← hUL] at HF1 HH5 HUL
  rw [← hSC] at HF1 HS1 HRG HSL
  have HSC := Lib.hid hSC
  have HBY : Hid (∀ W, Calls Try.prog 9 #[.agg UL.toArray] W fun e w' => ∃ A' c', e = .returned (.slice A' 288 c') ∧ 288 ≤ c' ∧ w'.ownsRow W.heap.size 5 1 (.slice A' 288 c') 288 (u8s L) ∧ Below W.heap.size W w') := by rw [hUL]; exact HBY
  clear hUL hSC
  have hld1 : ∀ W, W.rangeAt b0 off0 SC → (ldAt 42 (.pointer (some ⟨b0, off0, none⟩))).run Try.prog W = .ok (.agg SC.toArray) W := fun W hrg => run_loadAt_mid W b0 off0 42 SC _ hrg Try.underlying42 rfl (by rw [HSL.out]; exact hd72)
  have hld2 : ∀ W, Blk W w4.heap.size 29 UL → (ldAt 29 (.pointer (some ⟨w4.heap.size, 0, none⟩))).run Try.prog W = .ok (.agg UL.toArray) W := fun W hb => hd_ld hb HUL.out
  go_upto_region 6 with fail
  go_region_held3 (fun w' => Blk w' w4.heap.size 29 UL ∧ w'.rangeAt b0 off0 SC)
    (first | exact ⟨HH5.out, HRG.out _ HE5.out⟩ | exact ⟨HH5.out.drew, HRG.out _ HE5.out.drew⟩ | exact ⟨HH6.out, HRG.out _ HE6.out⟩ | exact ⟨HH7.out, HRG.out _ HE7.out⟩) ((first
    | (go_at_call 8; (refine (HS1.out _).mono ?_); rintro e w6 ⟨rfl, hB6⟩; have HE6 := Lib.hid (HE5.out.drew.trans (hB6.mono HE5.out.drew.size)); have HH6 := Lib.hid (HH5.out.drew.below hB6 HH5.out.drew.lt); clear hB6)
    | (go_at_call 7; (refine (HF1.out _).mono ?_); rintro e w7 ⟨rfl, hB7⟩; have HE7 := qtr HE6 hB7; have HH7 := qbl HH6 hB7; clear hB7)))
  have HG4 : Hid (w4.heap.size < w7.heap.size) := HH7.out.lt
  go_upto_region 11 with (go_at_call 9; (with_reducible refine (HBY.out _).mono ?_); rintro e w8 ⟨A8, c8, rfl, hc8, hown8, hB8⟩; have HE8 := qtr HE7 hB8; have HO8 := Lib.hid hown8; have HC8 := Lib.hid hc8; clear hc8 hown8 hB8)
  obtain ⟨g9, R, rfl, hg9, hb9⟩ := own_in HO8.out (by omega)
  obtain ⟨k, hk⟩ : ∃ k : Nat, bit = k := ⟨bit.toNat, by omega⟩
  subst hk
  obtain ⟨q, hq⟩ : ∃ q, q = k / 8 := ⟨_, rfl⟩
  obtain ⟨r, hr⟩ : ∃ r, r = k % 8 := ⟨_, rfl⟩
  have hqi : (k : Int) / 8 = (q : Int) := by omega
  have hri : (k : Int) % 8 = (r : Int) := by omega
  have hq288 : q < 288 := by omega
  have hr8 : r < 8 := by omega
  obtain ⟨X, hX⟩ : ∃ X, X = L.set q (L.getD q 0 ^^^ UInt8.ofNat (2 ^ r)) := ⟨_, rfl⟩
  have HXL : Hid (X.length = 288) := by show _ = _; rw [hX, List.length_set, HLL.out]
  have hG9 : w.heap.size ≤ g9 := Nat.le_trans HE7.out.size hg9
  have HW9 : Hid (∀ W v, v = ((L.getD q 0 ^^^ UInt8.ofNat (2 ^ r)).toNat : Int) → Blk W g9 5 (u8s L ++ R) → Below w.heap.size w W → Blk (W.setCell ⟨g9, q, none⟩ (.int .u8 v)) g9 5 (u8s X ++ R) ∧ Below w.heap.size w (W.setCell ⟨g9, q, none⟩ (.int .u8 v))) := fun W v hv hb hB => by
    subst hv
    have h5 := hb.set_ q (.int .u8 ((L.getD q 0 ^^^ UInt8.ofNat (2 ^ r)).toNat : Int))
    rw [show (u8s L ++ R).set q (.int .u8 ((L.getD q 0 ^^^ UInt8.ofNat (2 ^ r)).toNat : Int)) = u8s X ++ R by
      rw [List.set_append_left _ _ (by rw [u8s_length, HLL.out]; exact hq288), hX, u8s, u8s, List.map_set]; rfl] at h5
    exact ⟨h5, hB.setCell hG9 _⟩
  have c9 : w8.cell? ⟨g9, q, none⟩ = some (.int .u8 ((L.getD q 0).toNat : Int)) := by
    refine (hb9.cell q).trans ?_
    rw [List.getElem?_append_left (by rw [u8s_length, HLL.out]; exact hq288), u8s_getElem?, List.getD_eq_getElem?_getD, List.getElem?_eq_getElem (by rw [HLL.out]; exact hq288)]
    rfl
  have f9 := hb9.frozen q
  have HX9 : Hid (bits .xor .u8 ((L.getD q 0).toNat : Int) ((2 ^ r : Nat) : Int) = ((L.getD q 0 ^^^ UInt8.ofNat (2 ^ r)).toNat : Int)) := by
    have h5 := w8_xor (L.getD q 0) (UInt8.ofNat (2 ^ r))
    rw [UInt8.toNat_ofNat', Nat.mod_eq_of_lt (by show 2 ^ r < 2 ^ 8; exact Nat.pow_lt_pow_right (by omega) hr8)] at h5
    exact h5
  obtain ⟨x, hx⟩ : ∃ x, x = L.getD q 0 := ⟨_, rfl⟩
  rw [← hx] at c9 HW9 HX9
  have hx8 : x.toNat < 256 := x.toNat_lt
  have HXX := Lib.hid hX
  have HG9 := Lib.hid hG9
  have HB9 := Lib.hid hb9
  clear hX hx hb9 hq hr hG9 hg9 hb0 hb1 hm
  go_cut [] (fun wx => Blk wx g9 5 (u8s X ++ R) ∧ Below w.heap.size w wx)
  case first =>
    have HQ : Hid (Value.int .i64 (IntKind.i64.wrap (Int.tdiv (k : Int) 8)) = .int .i64 (q : Int)) := by
      show _ = _
      rw [Int.tdiv_eq_ediv_of_nonneg (by omega), hqi, IntWalk.i64_in _ (by omega)]
    have HR8 : Hid (Value.int .i64 (Int.tmod (k : Int) 8) = .int .i64 (r : Int)) := by
      show _ = _
      rw [Int.tmod_eq_emod_of_nonneg (by omega), hri]
    have hQ := HQ.out
    have hR := HR8.out
    have hX9 := HX9.out
    have hc9 : w8.drew.cell? ⟨g9, q, none⟩ = some (.int .u8 (x.toNat : Int)) := c9
    have hf9 : w8.drew.frozen? ⟨g9, q, none⟩ = false := f9
    have hT : (fun W : World => W.cell? ⟨g9, q, none⟩ = some (.int .u8 (x.toNat : Int))) { w8 with drawn := w8.drawn + 1 } := hc9
    go_wp2
    refine region_K (by kernel_rfl) 10 (fun W => W.cell? ⟨g9, q, none⟩ = some (.int .u8 (x.toNat : Int))) ?_
    refine AnyK.pure 0 (v := .slice (some ⟨g9, 0, none⟩) 288 c8) rfl (by kernel_rfl) (fun _ _ _ h => h) rfl (fun _ => by kernel_rfl) (fun _ => hT) ?_
    refine AnyK.pure 1 (v := .int .i64 (k : Int)) rfl (by kernel_rfl) (fun _ _ _ h => h) rfl (fun _ => by kernel_rfl) (fun _ => hT) ?_
    refine AnyK.pure 2 (v := .int .i64 (q : Int)) rfl (by kernel_rfl) (fun _ _ _ h => h) rfl (fun _ => ex_same (by kernel_rfl) hQ) (fun _ => hT) ?_
    refine AnyK.pure 3 (v := .pointer (some ⟨g9, q, none⟩)) rfl (by kernel_rfl) (fun _ _ _ h => h) rfl (fun _ => ex_idxB (p := q) (n := 288) (c := c8) rfl rfl rfl hq288 Try.underlying43 (fun _ => by kernel_rfl)) (fun _ => hT) ?_
    refine AnyK.load 4 (v := .int .u8 (x.toNat : Int)) rfl (by kernel_rfl) (by kernel_rfl) (by kernel_rfl) (fun _ _ _ h => h) rfl (fun _ h => ex_cell rfl rfl (fun _ => by kernel_rfl) h) hT ?_
    refine AnyK.pure 5 (v := .int .i64 (k : Int)) rfl (by kernel_rfl) (fun _ _ _ h => h) rfl (fun _ => by kernel_rfl) (fun _ => hT) ?_
    refine AnyK.pure 6 (v := .int .i64 (r : Int)) rfl (by kernel_rfl) (fun _ _ _ h => h) rfl (fun _ => ex_same (by kernel_rfl) hR) (fun _ => hT) ?_
    refine AnyK.pure 7 (v := .int .u8 ((2 ^ r : Nat) : Int)) rfl (by kernel_rfl) (fun _ _ _ h => h) rfl (fun _ => by rcases (show r = 0 ∨ r = 1 ∨ r = 2 ∨ r = 3 ∨ r = 4 ∨ r = 5 ∨ r = 6 ∨ r = 7 by omega) with rfl | rfl | rfl | rfl | rfl | rfl | rfl | rfl <;> kernel_rfl) (fun _ => hT) ?_
    refine AnyK.pure 8 (v := .int .u8 ((x ^^^ UInt8.ofNat (2 ^ r)).toNat : Int)) rfl (by kernel_rfl) (fun _ _ _ h => h) rfl (fun _ => ex_same (by kernel_rfl) (congrArg (Value.int .u8) hX9)) (fun _ => hT) ?_
    refine AnyK.pure 9 (v := .pointer (some ⟨g9, q, none⟩)) rfl (by kernel_rfl) (fun _ _ _ h => h) rfl (fun _ => ex_idxB (p := q) (n := 288) (c := c8) rfl (by kernel_rfl) (by kernel_rfl) hq288 Try.underlying43 (fun _ => by kernel_rfl)) (fun _ => hT) ?_
    refine AnyK.store 10 (d := none) (op := .store 5 (.tmp 56) (.tmp 55)) (by kernel_rfl) (fun o ho => ex_put (k := .u8) (n := ((x ^^^ UInt8.ofNat (2 ^ r)).toNat : Int)) (p := ⟨g9, q, none⟩) ho (by kernel_rfl) (by kernel_rfl) (fun _ => by kernel_rfl) hc9 hf9) (by kernel_rfl) (fun h => (by cases h)) ?_
    refine AnyK.done (by kernel_rfl) ?_
    simp only [List.getElem_toArray, List.getElem_cons_zero, List.getElem_cons_succ, Act.put, List.setIfInBounds_toArray, List.set_cons_succ, List.set_cons_zero]
    rename_i J9 K9 hJ9 hK9
    refine hK9 _ _ (Met.intro (hJ9 _ _ ?_))
    repeat apply Exists.intro
    exact ⟨HW9.out _ _ rfl HB9.out.drew HE8.out.drew, rfl⟩
  case rest =>
    obtain ⟨hb9, hE9⟩ := hcut
    have HRD : Hid (∀ W, Blk W g9 5 (u8s X ++ R) → Rd W (some ⟨g9, 0, none⟩) 288 (u8s X)) := fun W h => by
      have h5 := h.rd 0 288 (by rw [List.length_append, u8s_length, HXL.out]; omega)
      rwa [List.drop_zero, List.take_left' (by rw [u8s_length, HXL.out])] at h5
    have HXU : Hid ((u8s X).length = 288) := by show _ = _; rw [u8s_length, HXL.out]
    have HPA := Lib.hid (fun W (h : Blk W g9 5 (u8s X ++ R)) => hparse_yes (some ⟨g9, 0, none⟩) c8 X W (HRD.out W h) HC8.out)
    have HT5 := Lib.hid hb9
    have HE5 := Lib.hid hE9
    clear hb9 hE9 HW9 HX9 HB9 HE6 HE7 HE8 HH5 HH6 HH7 HF1 HBY HO8 hld1 hld2
    go_upto_region 15 with (first
      | (go_at_call 10; (with_reducible refine (HPA.out _ (by exact HT5.out)).mono ?_); rintro e w10 ⟨rfl, hB10⟩; have HE10 := qtr HE5 hB10; have HT10 := qbl HT5 hB10; clear hB10)
      | (refine wpList_store_all rfl 29 (.tmp 10) (.tmp 60) rfl w10.heap.size (u8s X) (by rfl) (by rfl) 29 (u8s z288) (by exact Blk.new' rfl zc34') (by rw [HXU.out]; exact hd34) (u8s_one _) (by rw [HXU.out, z288_len]) ?_; intro w11 hb11 ho11
         have HE11 := Lib.hid (ho11.below (HE10.out.alloc HE10.out.size _) HE10.out.size (Nat.le_trans HE10.out.size (by simp)))
         have HT11 := qal ho11 HT10 (by have := HT10.out.lt; omega)
         have HH11 := Lib.hid hb11
         clear hb11 ho11))
    have HMR : Hid (∀ W, Below w.heap.size w W → W.rangeAt b0 off0 (u8s s.mac)) := fun W hW j v hv => by
      refine HRG.out W hW j v ?_
      rw [HSC.out, Sp.cells, Sp.bytes, u8s_append, List.getElem?_append_left (List.getElem?_eq_some_iff.1 hv).1]
      exact hv
    have HML : Hid ((u8s s.mac).length = 32) := by show _ = _; rw [u8s_length, hso.1]
    have HTG : Hid (∀ W, Blk W g9 5 (u8s X ++ R) → Calls Try.prog 11 #[.agg (u8s s.mac).toArray, .slice (some ⟨g9, 0, none⟩) 32 c8, .slice (some ⟨g9, 48, none⟩) 240 (c8 - 48)] W fun e w' => ∃ A' c', e = .returned (.slice A' 16 c') ∧ 16 ≤ c' ∧ w'.ownsRow W.heap.size 5 1 (.slice A' 16 c') 16 (u8s (tagOf s.mac X)) ∧ Below W.heap.size W w') := fun W hb => by
      have h1 := hb.rd 0 32 (by rw [List.length_append, HXU.out]; omega)
      rw [List.drop_zero, List.take_append_of_le_length (by rw [HXU.out]; omega), u8s_take] at h1
      have h2 := hb.rd 48 240 (by rw [List.length_append, HXU.out]; omega)
      rw [List.drop_append_of_le_length (by rw [HXU.out]; omega), List.take_left' (by rw [List.length_drop, HXU.out]), u8s_drop] at h2
      have h5 := rtag13_any s.mac hso.1 (some ⟨g9, 0, none⟩) 32 c8 (X.take 32) (some ⟨g9, 48, none⟩) 240 (c8 - 48) (X.drop 48) W h1 h2 (by omega) (by omega)
      rwa [show X.drop 48 = (X.drop 48).take 240 from (List.take_of_length_le (by rw [List.length_drop, HXL.out]; exact Nat.le_refl _)).symm] at h5
    have HFX : Hid (fits s X = decide (tagOf s.mac X = (X.drop 32).take 16)) := rfl
    obtain ⟨MC, hMC⟩ : ∃ MC, MC = u8s s.mac := ⟨_, rfl⟩
    rw [← hMC] at HMR HML HTG
    obtain ⟨TG, hTG⟩ : ∃ TG, TG = tagOf s.mac X := ⟨_, rfl⟩
    rw [← hTG] at HTG HFX
    clear hMC hTG
    have hld3 : ∀ W, W.rangeAt b0 off0 MC → (ldAt 25 (.pointer (some ⟨b0, off0, none⟩))).run Try.prog W = .ok (.agg MC.toArray) W := fun W hrg => run_loadAt_mid W b0 off0 25 MC _ hrg Try.underlying25 rfl (by rw [HML.out]; exact hd24)
    have hu32 := Try.underlying25
    have hi32 : (Try.prog.info? 25).map (·.size) = some MC.length := by rw [HML.out]; exact hd24
    have hc8 : (288 : Int) ≤ (c8 : Int) := by have := HC8.out; omega
    have hc32 : (32 : Int) ≤ (c8 : Int) := by omega
    have hc48 : (48 : Int) ≤ (c8 : Int) := by omega
    have hn48 : ¬ c8 = 48 := by omega
    have hn32 : ¬ c8 = 32 := by omega
    have HGT : Hid (w10.heap.size < w11.heap.size) := HH11.out.lt
    go_region_held3 (fun W => W.rangeAt b0 off0 MC) (first | exact HMR.out _ HE11.out | exact HMR.out _ HE11.out.drew | exact HMR.out _ HE12.out) ((go_at_call 11; (refine (HTG.out _ (by exact HT11.out.drew)).mono ?_); rintro e w12 ⟨A12, c12, rfl, hc12, hown12, hB12⟩; have HE12 := Lib.hid (HE11.out.drew.trans (hB12.mono HE11.out.drew.size)); have HT12 := Lib.hid (HT11.out.drew.below hB12 HT11.out.drew.lt); have HH12 := Lib.hid (HH11.out.drew.below hB12 HH11.out.drew.lt); have HO12 := Lib.hid (Rd.of_own hown12); have HC12 := Lib.hid hc12; clear hc12 hown12 hB12))
    have HO1 := Lib.hid (fun W => hopen_any s hso X HXL.out W)
    have HF2 := Lib.hid (fun W => fits_any s hso X HXL.out W)
    have hcok := opC_ok s X HXL.out
    have HCL : Hid ((opC s X).cells.length = 20) := Cm.cells_len hcok
    have HC1 : Hid (∀ v ∈ (opC s X).cells, v.oneCell' = true) := Cm.cells_one _
    have HNL : Hid ((opN s X).length = 288) := opN_len s X HXL.out
    have HOO : Hid (fits s X = false → opC s X = Cm.zero ∧ opN s X = z288 ∧ opE s X = 6) := fun h => ⟨if_pos h, if_pos h, if_pos h⟩
    rw [← HSC.out] at HO1 HF2
    obtain ⟨OC, hOC⟩ : ∃ OC, OC = (opC s X).cells := ⟨_, rfl⟩
    have HOO : Hid (fits s X = false → OC = Cm.zero.cells ∧ opN s X = z288 ∧ opE s X = 6) := fun h => by rw [hOC, (HOO.out h).1]; exact ⟨rfl, (HOO.out h).2⟩
    rw [← hOC] at HO1 HCL HC1
    generalize opN s X = ON at *
    generalize opE s X = E9 at *
    clear hOC hcok hld3 hu32 hi32 HTG HMR HPA HT5 HE5 HE10 HT10 HT11 HH11
    go_wp2
    have HV0 : Hid (Below w12.heap.size w12 { w12 with drawn := w12.drawn + 1 }) := (Below.refl _ w12).drew
    have HLS : Hid (∀ W, Below w12.heap.size w12 W → (ldAt 42 (.pointer (some ⟨b0, off0, none⟩))).run Try.prog W = .ok (.agg SC.toArray) W) := fun W hW => run_loadAt_mid W b0 off0 42 SC _ (HRG.out _ (HE12.out.trans (hW.mono HE12.out.size))) Try.underlying42 rfl (by rw [HSL.out]; exact hd72)
    refine region_K (by kernel_rfl) 12 (fun w' => Below w12.heap.size w12 w') ?_
    refine AnyK.load 0 (v := .agg (u8s X).toArray) rfl (by kernel_rfl) (by kernel_rfl) (by kernel_rfl) (fun _ _ _ h => h) rfl (fun w' hw' => ey_loadR (x := .tmp 10) (by rfl) (by kernel_rfl) (hd_ld (HH12.out.below hw' HH12.out.lt) HXU.out)) HV0.out ?_
    refine AnyK.pure 1 (v := .slice (some ⟨b0, off0, none⟩) m d) rfl (by kernel_rfl) (fun _ _ _ h => h) rfl (fun _ => by kernel_rfl) (fun _ => HV0.out) ?_
    refine AnyK.pure 2 (v := .pointer (some ⟨b0, off0, none⟩)) rfl (by kernel_rfl) (fun _ _ _ h => h) rfl (fun _ => ex_idx0 (n := m) (c := d) (sz := 192) rfl (by kernel_rfl) (by kernel_rfl) hm0 Try.underlying23 (fun _ => by kernel_rfl)) (fun _ => HV0.out) ?_
    refine AnyK.load 3 (v := .agg SC.toArray) rfl (by kernel_rfl) (by kernel_rfl) (by kernel_rfl) (fun _ _ _ h => h) rfl (fun w' hw' => ey_loadR (x := .tmp 77) (by rfl) (by kernel_rfl) (HLS.out w' hw')) HV0.out ?_
    refine AnyG.start w12.heap.size [⟨10, 12, 50, Cm.zero.cells, fun g => .pointer (some ⟨g, 0, none⟩)⟩, ⟨11, 13, 29, u8s z288, fun g => .pointer (some ⟨g, 0, none⟩)⟩] (fun W => Below w12.heap.size w12 W) 9 rfl HV0.out ?_
    refine AnyG.step 4 (di := 79) [] (fun _ : Unit => .agg SC.toArray) (fun _ W => Below w12.heap.size w12 W) (by rfl) rfl (by simp) (by simp) (by kernel_rfl) ?_ ?_ (fun W o h => h.alloc h.size o) (fun W h => h.size) (fun W h => h) (fun _ W h => h) ?_
    · intro F W hF hR hok hrd K hK
      obtain ⟨s1, s2, rfl⟩ := two_of hF
      rcases s1 with _ | k1 <;> rcases s2 with _ | k2 <;>
        (refine wp_enter (f := 8) (args := #[.agg SC.toArray]) (by kernel_rfl) ?_; refine (HS1.out W).mono ?_; rintro e w' ⟨rfl, hB⟩; exact ⟨_, rfl, hK () _ (hR.trans (hB.mono hR.size)) hB⟩)
    · intro f hf
      simp only [List.mem_cons, List.not_mem_nil, or_false] at hf
      rcases hf with rfl | rfl
      · exact ⟨_, rfl, rfl, rfl, fun F W _ => by kernel_rfl⟩
      · exact ⟨_, rfl, rfl, rfl, fun F W _ => alloc_hd rfl⟩
    intro _
    refine AnyG.step 5 (di := 80) [] (fun _ : Unit => .tuple #[.agg OC.toArray, .agg (u8s ON).toArray, .int .i64 (E9 : Int)]) (fun _ W => Below w12.heap.size w12 W) (by rfl) rfl (by simp) (by simp) (by kernel_rfl) ?_ ?_ (fun W o h => h.alloc h.size o) (fun W h => h.size) (fun W h => h) (fun _ W h => h) ?_
    · intro F W hF hR hok hrd K hK
      obtain ⟨s1, s2, rfl⟩ := two_of hF
      rcases s1 with _ | k1 <;> rcases s2 with _ | k2 <;>
        (refine wp_enter (f := 12) (args := #[.agg (u8s X).toArray, .agg SC.toArray]) (by kernel_rfl) ?_; refine (HO1.out W).mono ?_; rintro e w' ⟨rfl, hB⟩; exact ⟨_, rfl, hK () _ (hR.trans (hB.mono hR.size)) hB⟩)
    · intro f hf
      simp only [List.mem_cons, List.not_mem_nil, or_false] at hf
      rcases hf with rfl | rfl
      · exact ⟨_, rfl, rfl, rfl, fun F W _ => by kernel_rfl⟩
      · exact ⟨_, rfl, rfl, rfl, fun F W _ => alloc_hd rfl⟩
    intro _
    refine AnyG.pure 6 (di := 74) (v := .tuple #[.agg OC.toArray, .agg (u8s ON).toArray, .int .i64 (E9 : Int)]) rfl rfl rfl (by simp) (by kernel_rfl) (fun _ _ _ h => h) (fun F W hF => by obtain ⟨s1, s2, rfl⟩ := two_of hF; rcases s1 with _ | k1 <;> rcases s2 with _ | k2 <;> kernel_rfl) (fun W h => h) ?_
    refine AnyG.pure 7 (di := 81) (v := .agg OC.toArray) rfl rfl rfl (by simp) (by kernel_rfl) (fun _ _ _ h => h) (fun F W hF => by obtain ⟨s1, s2, rfl⟩ := two_of hF; rcases s1 with _ | k1 <;> rcases s2 with _ | k2 <;> kernel_rfl) (fun W h => h) ?_
    refine AnyG.pure 8 (di := 82) (v := .agg (u8s ON).toArray) rfl rfl rfl (by simp) (by kernel_rfl) (fun _ _ _ h => h) (fun F W hF => by obtain ⟨s1, s2, rfl⟩ := two_of hF; rcases s1 with _ | k1 <;> rcases s2 with _ | k2 <;> kernel_rfl) (fun W h => h) ?_
    refine AnyG.pure 9 (di := 83) (v := .int .i64 (E9 : Int)) rfl rfl rfl (by simp) (by kernel_rfl) (fun _ _ _ h => h) (fun F W hF => by obtain ⟨s1, s2, rfl⟩ := two_of hF; rcases s1 with _ | k1 <;> rcases s2 with _ | k2 <;> kernel_rfl) (fun W h => h) ?_
    refine AnyG.fin (by simp) (by kernel_rfl) ?_ (fun W o h => h.alloc h.size o) (fun W h => h.size) (fun W h => h) ?_
    · intro f hf
      simp only [List.mem_cons, List.not_mem_nil, or_false] at hf
      rcases hf with rfl | rfl
      · exact ⟨_, rfl, rfl, rfl, fun F W _ => by kernel_rfl⟩
      · exact ⟨_, rfl, rfl, rfl, fun F W _ => alloc_hd rfl⟩
    intro F W hF h0 hR hok
    obtain ⟨g7, g8, rfl⟩ := two_all hF h0
    obtain ⟨⟨hg7, hb7, hn7⟩, ⟨hg8, hb8, _⟩, _⟩ := hok
    have N78 : Hid (g7 ≠ g8) := fun e => hn7 _ (List.mem_cons_self) (by rw [e])
    refine AnyK.storeAll 12 g7 OC 50 Cm.zero.cells (by rfl) rfl rfl (by rfl) (by kernel_rfl) (by kernel_rfl) (by kernel_rfl) hb7 (by rw [HCL.out]; exact hd76c) HC1.out (by rw [HCL.out]; rfl) (fun _ _ _ h => (by cases h)) ?_
    intro w7' hb7' ho7
    have hB7 := ho7.below hR hg7 hR.size
    refine AnyK.storeAll 13 g8 (u8s ON) 29 (u8s z288) (by rfl) rfl rfl (by rfl) (by kernel_rfl) (by kernel_rfl) (by kernel_rfl) (ho7.blk hb8 (fun e => N78.out e.symm)) (by rw [u8s_length, HNL.out]; exact hd34) (u8s_one _) (by rw [u8s_length, HNL.out, z288_len]) (fun _ _ _ h => (by cases h)) ?_
    intro w13 hb8' ho8
    have HB13 := Lib.hid (ho8.below hB7 hg8 hB7.size)
    have HC13 := Lib.hid (ho8.blk hb7' N78.out)
    have HN13 := Lib.hid hb8'
    refine AnyK.val 14 (v := .int .i64 (E9 : Int)) (by rfl) (by kernel_rfl) rfl (by kernel_rfl) (fun h => (by cases h)) ?_
    refine AnyK.done (by kernel_rfl) ?_
    have HE13 := Lib.hid (HE12.out.trans (HB13.out.mono HE12.out.size))
    have HT13 := Lib.hid (HT12.out.below HB13.out HT12.out.lt)
    have HH13 := Lib.hid (HH12.out.below HB13.out HH12.out.lt)
    have HO13 := Lib.hid (HO12.out.below HB13.out)
    clear hb7 hb8 hb7' hb8' ho7 ho8 hB7 hR hg7 hg8 hn7 hF h0 HV0 HB13 HLS HT12 HH12 HO12 HE12 HE11 HO1
    simp only [putF]
    have HEQ : Hid (∀ W, Rd W A12 16 (u8s TG) → Blk W g9 5 (u8s X ++ R) → Calls Try.prog 13 #[.slice A12 16 c12, .slice (some ⟨g9, 32, none⟩) 16 (c8 - 32)] W fun e w' => e = .returned (.bool (fits s X)) ∧ ∃ q, w' = W.drewN q) := fun W h1 h2 => by
      have h3 := h2.rd 32 16 (by rw [List.length_append, HXU.out]; omega)
      rw [List.drop_append_of_le_length (by rw [HXU.out]; omega), List.take_append_of_le_length (by rw [List.length_drop, HXU.out]; omega), u8s_drop, u8s_take] at h3
      have h5 := equal_any A12 (some ⟨g9, 32, none⟩) 16 16 c12 (c8 - 32) TG ((X.drop 32).take 16) W h1 h3 (by omega) (by omega)
      rwa [← HFX.out] at h5
    have hldS : ∀ W, W.rangeAt b0 off0 SC → (ldAt 42 (.pointer (some ⟨b0, off0, none⟩))).run Try.prog W = .ok (.agg SC.toArray) W := fun W hrg => run_loadAt_mid W b0 off0 42 SC _ hrg Try.underlying42 rfl (by rw [HSL.out]; exact hd72)
    have hldH : ∀ W, Blk W w10.heap.size 29 (u8s X) → (ldAt 29 (.pointer (some ⟨w10.heap.size, 0, none⟩))).run Try.prog W = .ok (.agg (u8s X).toArray) W := fun W hb => hd_ld hb HXU.out
    have hc48' : (48 : Int) ≤ (c8 : Int) := by omega
    cases hfx : fits s X with
    | true =>
      rw [hfx] at HEQ HF2
      clear HOO HFX
      go_upto_region 18 with (go_at_call 13; (with_reducible refine (HEQ.out _ (by exact HO13.out) (by exact HT13.out)).mono ?_); rintro e w14 ⟨rfl, q14, rfl⟩; have HE14 := Lib.hid (below_drewN HE13.out q14); have HH14 := Lib.hid (HH13.out.drewN q14))
      have HRS : Hid (∀ W, Below w.heap.size w W → W.rangeAt b0 off0 SC) := HRG.out
      have hg14 : w10.heap.size < w13.heap.size := HH13.out.lt
      obtain ⟨w15, hw15⟩ : ∃ w15, w15 = w13.drewN q14 := ⟨_, rfl⟩
      rw [← hw15] at HE14 HH14
      rw [← hw15]
      clear hw15 hg14
      go_region_held3 (fun w' => Blk w' w10.heap.size 29 (u8s X) ∧ w'.rangeAt b0 off0 SC) (first | exact ⟨HH14.out, HRS.out _ HE14.out⟩ | exact ⟨HH14.out.drew, HRS.out _ HE14.out.drew⟩ | exact ⟨HH16.out, HRS.out _ HE16.out⟩ | exact ⟨HH17.out, HRS.out _ HE17.out⟩) ((first
        | (go_at_call 8; (refine (HS1.out _).mono ?_); rintro e w16 ⟨rfl, hB6⟩; have HE16 := Lib.hid (HE14.out.drew.trans (hB6.mono HE14.out.drew.size)); have HH16 := Lib.hid (HH14.out.drew.below hB6 HH14.out.drew.lt); clear hB6)
        | (go_at_call 7; (refine (HF2.out _).mono ?_); rintro e w17 ⟨rfl, hB7⟩; have HE17 := qtr HE16 hB7; have HH17 := qbl HH16 hB7; clear hB7)))
      go_wp2
      go_ret
      exact ⟨rfl, HE17.out⟩
    | false =>
      obtain ⟨h1, h2, h3⟩ := HOO.out hfx
      subst h1 h2 h3
      rw [hfx] at HEQ HF2
      clear HOO HFX
      go_upto_region 19 with (go_at_call 13; (with_reducible refine (HEQ.out _ (by exact HO13.out) (by exact HT13.out)).mono ?_); rintro e w14 ⟨rfl, q14, rfl⟩; have HE14 := Lib.hid (below_drewN HE13.out q14); have HH14 := Lib.hid (HH13.out.drewN q14); have HC14 := Lib.hid (HC13.out.drewN q14); have HN14 := Lib.hid (HN13.out.drewN q14))
      have HRS : Hid (∀ W, Below w.heap.size w W → W.rangeAt b0 off0 SC) := HRG.out
      obtain ⟨w15, hw15⟩ : ∃ w15, w15 = w13.drewN q14 := ⟨_, rfl⟩
      rw [← hw15] at HE14 HH14 HC14 HN14
      rw [← hw15]
      clear hw15
      have hldC : ∀ W, Blk W g7 50 Cm.zero.cells → (ldAt 50 (.pointer (some ⟨g7, 0, none⟩))).run Try.prog W = .ok (.agg Cm.zero.cells.toArray) W := fun W hb => cm_ld hb rfl
      have hldZ : ∀ W, Blk W g8 29 (u8s z288) → (ldAt 29 (.pointer (some ⟨g8, 0, none⟩))).run Try.prog W = .ok (.agg (u8s z288).toArray) W := fun W hb => hd_ld hb z288_len
      have hbc := build_cm0
      have hbh := build34_z
      have hec := eqcm0
      have hec1 := eqcm1
      have heh1 := eq34z
      have heh := eq34z'
      go_region_held3 (fun w' => Blk w' w10.heap.size 29 (u8s X) ∧ w'.rangeAt b0 off0 SC ∧ Blk w' g7 50 Cm.zero.cells ∧ Blk w' g8 29 (u8s z288)) (first | exact ⟨HH14.out, HRS.out _ HE14.out, HC14.out, HN14.out⟩ | exact ⟨HH14.out.drew, HRS.out _ HE14.out.drew, HC14.out.drew, HN14.out.drew⟩ | exact ⟨HH16.out, HRS.out _ HE16.out, HC16.out, HN16.out⟩ | exact ⟨HH17.out, HRS.out _ HE17.out, HC17.out, HN17.out⟩) ((first
        | (go_at_call 8; (refine (HS1.out _).mono ?_); rintro e w16 ⟨rfl, hB6⟩; have HE16 := Lib.hid (HE14.out.drew.trans (hB6.mono HE14.out.drew.size)); have HH16 := Lib.hid (HH14.out.drew.below hB6 HH14.out.drew.lt); have HC16 := Lib.hid (HC14.out.drew.below hB6 HC14.out.drew.lt); have HN16 := Lib.hid (HN14.out.drew.below hB6 HN14.out.drew.lt); clear hB6)
        | (go_at_call 7; (refine (HF2.out _).mono ?_); rintro e w17 ⟨rfl, hB7⟩; have HE17 := qtr HE16 hB7; have HH17 := qbl HH16 hB7; have HC17 := qbl HC16 hB7; have HN17 := qbl HN16 hB7; clear hB7)))
      go_wp2
      go_ret
      exact ⟨rfl, HE17.out⟩
end Go.Proofs.Ytlbnibmcflmohaa.headerFlips
