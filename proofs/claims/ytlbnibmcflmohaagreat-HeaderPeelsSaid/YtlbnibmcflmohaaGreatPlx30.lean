/- Part of the proof: Val. -/
import Derived.Test.YtlbnibmcflmohaaGreatPlx27
namespace Go.Proofs.YtlbnibmcflmohaaGreat
open Go.RowKit
theorem el_mid {w : World} {g : Nat} {t : TypeId} {cs : List Value} (hb : Blk w g t cs) (o n : Nat) (hd : (cs.drop o).take 4 = elc n) : (ldAt 80 (.pointer (some ⟨g, o, none⟩))).run Tryz.prog w = .ok (.agg (elc n).toArray) w :=
  ldAt_run hb 80 o (elc n) hd _ Tryz.underlying80 rfl (by exact hdEl)
attribute [local go_sem ↓] ldq_el
set_option maxRecDepth 100000 in
set_option maxHeartbeats 1000000 in
theorem val_el (x y : Nat) (w : World) (hx : x < 115792089237316195423570985008687907853269984665640564039457584007913129639936) (hy : y < 115792089237316195423570985008687907853269984665640564039457584007913129639936) :
    Calls Tryz.prog 50 #[.agg (elc x ++ elc y).toArray] w fun e w' => e = .returned (.agg (elc (x * (y ^ pE % pr) % pr)).toArray) ∧ Below w.heap.size w w' := by
  have HM0 : Hid (Blk ((w.alloc (.cells (elc x ++ elc y).toArray 100)).alloc (.cells (l4 0 0 0 0).toArray 80)) w.heap.size 100 (elc x ++ elc y) ∧ Blk ((w.alloc (.cells (elc x ++ elc y).toArray 100)).alloc (.cells (l4 0 0 0 0).toArray 80)) (w.heap.size + 1) 80 (l4 0 0 0 0) ∧ Below w.heap.size w ((w.alloc (.cells (elc x ++ elc y).toArray 100)).alloc (.cells (l4 0 0 0 0).toArray 80))) :=
    ⟨(Blk.new w _ _).alloc _, Blk.new' (by simp) rfl, ((Below.refl _ w).alloc (Nat.le_refl _) _).alloc (by simp) _⟩
  go_enter Tryz.func50, Tryz.ntmps50
  go_wp2
  refine region_K (by kernel_rfl) 6 (fun w' => Blk w' w.heap.size 100 (elc x ++ elc y)) ?_
  have HT := Lib.hid HM0.out.1.drew
  refine AnyK.pure 0 (v := .pointer (some ⟨w.heap.size, 0, none⟩)) rfl (by kernel_rfl) (fun _ _ _ h => h) rfl (fun _ => by kernel_rfl) (fun _ => HT.out) ?_
  refine AnyK.load 1 (v := .agg (elc x).toArray) rfl (by kernel_rfl) (by kernel_rfl) (by kernel_rfl) (fun _ _ _ h => h) rfl (fun w' hw' => ey_loadR (x := .tmp 3) (by rfl) (by kernel_rfl) (el_mid hw' 0 x rfl)) HT.out ?_
  refine AnyK.pure 2 (v := .pointer (some ⟨w.heap.size, 4, none⟩)) rfl (by kernel_rfl) (fun _ _ _ h => h) rfl (fun _ => by kernel_rfl) (fun _ => HT.out) ?_
  refine AnyK.load 3 (v := .agg (elc y).toArray) rfl (by kernel_rfl) (by kernel_rfl) (by kernel_rfl) (fun _ _ _ h => h) rfl (fun w' hw' => ey_loadR (x := .tmp 5) (by rfl) (by kernel_rfl) (el_mid hw' 4 y rfl)) HT.out ?_
  refine AnyK.enter 4 (d := some 7) (f := 72) (args := #[.agg (elc y).toArray]) (by rfl) (by kernel_rfl) (by kernel_rfl) ?_
  refine (inv_el y _ hy).mono ?_
  rintro e w2 ⟨rfl, hB2⟩
  have HT2 := qbl HT hB2
  have HZ2 := HM0.out.2.1.drew.below hB2 HM0.out.2.1.drew.lt
  have HE2 := HM0.out.2.2.drew.trans (hB2.mono HM0.out.2.2.drew.size)
  refine ⟨_, rfl, fun _ => HT2.out, ?_⟩
  refine AnyK.enter 5 (d := some 8) (f := 71) (args := #[.agg (elc x).toArray, .agg (elc (y ^ pE % pr)).toArray]) (by rfl) (by kernel_rfl) (by kernel_rfl) ?_
  refine (mul_el x (y ^ pE % pr) hx (pr_lt _) _).mono ?_
  rintro e w3 ⟨rfl, hB3⟩
  have HT3 := qbl HT2 hB3
  have HZ3 := HZ2.below hB3 HZ2.lt
  have HE3 := HE2.trans (hB3.mono HE2.size)
  refine ⟨_, rfl, fun _ => HT3.out, ?_⟩
  refine AnyK.storeAll 6 (w.heap.size + 1) (elc (x * (y ^ pE % pr) % pr)) 80 _ rfl rfl rfl (by rfl) (by kernel_rfl) (by kernel_rfl) (by kernel_rfl) HZ3 (by exact hdEl) (elc_one _) rfl (fun _ _ _ h => (by cases h)) ?_
  intro w6 hb6 ho6
  refine AnyK.done (by kernel_rfl) ?_
  have HE6 := Lib.hid (ho6.below HE3 (by omega) HE3.size)
  have HB6 := Lib.hid hb6
  clear hb6 ho6 HZ3 HE3 HE2 HZ2 hB2 hB3
  go_wp2
  exact bodyPost_ret (res_cell rfl _ _ _ _ rfl HB6.out _ Tryz.underlying80 rfl (by exact hdEl)) rfl ⟨rfl, HE6.out⟩
end Go.Proofs.YtlbnibmcflmohaaGreat
