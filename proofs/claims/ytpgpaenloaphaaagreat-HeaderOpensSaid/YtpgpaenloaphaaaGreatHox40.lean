/- Part of the proof: Val, Lxg. -/
import Derived.Test.YtpgpaenloaphaaaGreatHox36
import Derived.Test.YtpgpaenloaphaaaGreatHox38
namespace Go.Proofs.YtpgpaenloaphaaaGreat
open Go.RowKit
theorem el_mid {w : World} {g : Nat} {t : TypeId} {cs : List Value} (hb : Blk w g t cs) (o n : Nat) (hd : (cs.drop o).take 4 = elc n) : (ldAt 184 (.pointer (some ⟨g, o, none⟩))).run Tryz.prog w = .ok (.agg (elc n).toArray) w :=
  ldAt_run hb 184 o (elc n) hd _ Tryz.underlying184 rfl (by exact hdEl)
attribute [local go_sem ↓] ldq_el
set_option maxRecDepth 100000 in
set_option maxHeartbeats 1000000 in
theorem val_el (x y : Nat) (w : World) (hx : x < 115792089237316195423570985008687907853269984665640564039457584007913129639936) (hy : y < 115792089237316195423570985008687907853269984665640564039457584007913129639936) :
    Calls Tryz.prog 116 #[.agg (elc x ++ elc y).toArray] w fun e w' => e = .returned (.agg (elc (x * (y ^ pE % pr) % pr)).toArray) ∧ Below w.heap.size w w' := by
  have HM0 : Hid (Blk ((w.alloc (.cells (elc x ++ elc y).toArray 192)).alloc (.cells (l4 0 0 0 0).toArray 184)) w.heap.size 192 (elc x ++ elc y) ∧ Blk ((w.alloc (.cells (elc x ++ elc y).toArray 192)).alloc (.cells (l4 0 0 0 0).toArray 184)) (w.heap.size + 1) 184 (l4 0 0 0 0) ∧ Below w.heap.size w ((w.alloc (.cells (elc x ++ elc y).toArray 192)).alloc (.cells (l4 0 0 0 0).toArray 184))) :=
    ⟨(Blk.new w _ _).alloc _, Blk.new' (by simp) rfl, ((Below.refl _ w).alloc (Nat.le_refl _) _).alloc (by simp) _⟩
  go_enter Tryz.func116, Tryz.ntmps116
  go_wp2
  refine region_K (by kernel_rfl) 6 (fun w' => Blk w' w.heap.size 192 (elc x ++ elc y)) ?_
  have HT := Lib.hid HM0.out.1.drew
  refine AnyK.pure 0 (v := .pointer (some ⟨w.heap.size, 0, none⟩)) rfl (by kernel_rfl) (fun _ _ _ h => h) rfl (fun _ => by kernel_rfl) (fun _ => HT.out) ?_
  refine AnyK.load 1 (v := .agg (elc x).toArray) rfl (by kernel_rfl) (by kernel_rfl) (by kernel_rfl) (fun _ _ _ h => h) rfl (fun w' hw' => ey_loadR (x := .tmp 3) (by rfl) (by kernel_rfl) (el_mid hw' 0 x rfl)) HT.out ?_
  refine AnyK.pure 2 (v := .pointer (some ⟨w.heap.size, 4, none⟩)) rfl (by kernel_rfl) (fun _ _ _ h => h) rfl (fun _ => by kernel_rfl) (fun _ => HT.out) ?_
  refine AnyK.load 3 (v := .agg (elc y).toArray) rfl (by kernel_rfl) (by kernel_rfl) (by kernel_rfl) (fun _ _ _ h => h) rfl (fun w' hw' => ey_loadR (x := .tmp 5) (by rfl) (by kernel_rfl) (el_mid hw' 4 y rfl)) HT.out ?_
  refine AnyK.enter 4 (d := some 7) (f := 147) (args := #[.agg (elc y).toArray]) (by rfl) (by kernel_rfl) (by kernel_rfl) ?_
  refine (inv_el y _ hy).mono ?_
  rintro e w2 ⟨rfl, hB2⟩
  have HT2 := qbl HT hB2
  have HZ2 := HM0.out.2.1.drew.below hB2 HM0.out.2.1.drew.lt
  have HE2 := HM0.out.2.2.drew.trans (hB2.mono HM0.out.2.2.drew.size)
  refine ⟨_, rfl, fun _ => HT2.out, ?_⟩
  refine AnyK.enter 5 (d := some 8) (f := 146) (args := #[.agg (elc x).toArray, .agg (elc (y ^ pE % pr)).toArray]) (by rfl) (by kernel_rfl) (by kernel_rfl) ?_
  refine (mul_el x (y ^ pE % pr) hx (pr_lt _) _).mono ?_
  rintro e w3 ⟨rfl, hB3⟩
  have HT3 := qbl HT2 hB3
  have HZ3 := HZ2.below hB3 HZ2.lt
  have HE3 := HE2.trans (hB3.mono HE2.size)
  refine ⟨_, rfl, fun _ => HT3.out, ?_⟩
  refine AnyK.storeAll 6 (w.heap.size + 1) (elc (x * (y ^ pE % pr) % pr)) 184 _ rfl rfl rfl (by rfl) (by kernel_rfl) (by kernel_rfl) (by kernel_rfl) HZ3 (by exact hdEl) (elc_one _) rfl (fun _ _ _ h => (by cases h)) ?_
  intro w6 hb6 ho6
  refine AnyK.done (by kernel_rfl) ?_
  have HE6 := Lib.hid (ho6.below HE3 (by omega) HE3.size)
  have HB6 := Lib.hid hb6
  clear hb6 ho6 HZ3 HE3 HE2 HZ2 hB2 hB3
  go_wp2
  exact bodyPost_ret (res_cell rfl _ _ _ _ rfl HB6.out _ Tryz.underlying184 rfl (by exact hdEl)) rfl ⟨rfl, HE6.out⟩
end Go.Proofs.YtpgpaenloaphaaaGreat
namespace Go.Proofs.YtpgpaenloaphaaaGreat
open Go.RowKit
attribute [local go_sem ↓] ldq_el
set_option maxRecDepth 100000 in
set_option maxHeartbeats 4000000 in
theorem lex_any (gl : Nat) (t : TypeId) (x1 x2 z2 x3 z3 : Nat) (w : World) (h : Blk w gl t (lcs x1 ⟨x2, z2, x3, z3⟩)) :
    Calls Tryz.prog 113 #[.pointer (some ⟨gl, 0, none⟩)] w fun e w' => e = .returned (.tuple #[]) ∧ Blk w' gl t (lcs x1 ⟨x3, z3, x2, z2⟩) ∧ Wrote gl w w' := by
  have HL := Lib.hid h
  have HWR := Lib.hid (Wrote.refl w gl)
  clear h
  go_enter Tryz.func113, Tryz.ntmps113
  go_wp2
  refine region_K (by kernel_rfl) 22 (fun w' => Blk w' gl t (lcs x1 ⟨x2, z2, x3, z3⟩)) ?_
  obtain ⟨V, hV⟩ : ∃ V, V = { w with drawn := w.drawn + 1 } := ⟨_, rfl⟩
  rw [← hV]
  have hT : Blk V gl t (lcs x1 ⟨x2, z2, x3, z3⟩) := hV ▸ HL.out.drew
  have hR : Wrote gl w V := hV ▸ HWR.out.drew
  clear hV
  refine AnyK.pure 0 (v := .pointer (some ⟨gl, 0, none⟩)) rfl (by kernel_rfl) (fun _ _ _ h => h) rfl (fun _ => by kernel_rfl) (fun _ => hT) ?_
  refine AnyK.pure 1 (v := .pointer (some ⟨gl, 0, none⟩)) rfl (by kernel_rfl) (fun _ _ _ h => h) rfl (fun _ => by kernel_rfl) (fun _ => hT) ?_
  refine AnyK.pure 2 (v := .pointer (some ⟨gl, 0, none⟩)) rfl (by kernel_rfl) (fun _ _ _ h => h) rfl (fun _ => by kernel_rfl) (fun _ => hT) ?_
  refine AnyK.pure 3 (v := .pointer (some ⟨gl, 0, none⟩)) rfl (by kernel_rfl) (fun _ _ _ h => h) rfl (fun _ => by kernel_rfl) (fun _ => hT) ?_
  refine AnyK.pure 4 (v := .pointer (some ⟨gl, 0, none⟩)) rfl (by kernel_rfl) (fun _ _ _ h => h) rfl (fun _ => by kernel_rfl) (fun _ => hT) ?_
  refine AnyK.pure 5 (v := .pointer (some ⟨gl, 0, none⟩)) rfl (by kernel_rfl) (fun _ _ _ h => h) rfl (fun _ => by kernel_rfl) (fun _ => hT) ?_
  refine AnyK.pure 6 (v := .pointer (some ⟨gl, 12, none⟩)) rfl (by kernel_rfl) (fun _ _ _ h => h) rfl (fun _ => by kernel_rfl) (fun _ => hT) ?_
  refine AnyK.load 7 (v := .agg (elc x3).toArray) rfl (by kernel_rfl) (by kernel_rfl) (by kernel_rfl) (fun _ _ _ h => h) rfl (fun w' hw' => ey_loadR (x := .tmp 8) (by rfl) (by kernel_rfl) (el_mid hw' 12 x3 rfl)) hT ?_
  refine AnyK.pure 8 (v := .pointer (some ⟨gl, 0, none⟩)) rfl (by kernel_rfl) (fun _ _ _ h => h) rfl (fun _ => by kernel_rfl) (fun _ => hT) ?_
  refine AnyK.pure 9 (v := .pointer (some ⟨gl, 0, none⟩)) rfl (by kernel_rfl) (fun _ _ _ h => h) rfl (fun _ => by kernel_rfl) (fun _ => hT) ?_
  refine AnyK.pure 10 (v := .pointer (some ⟨gl, 16, none⟩)) rfl (by kernel_rfl) (fun _ _ _ h => h) rfl (fun _ => by kernel_rfl) (fun _ => hT) ?_
  refine AnyK.load 11 (v := .agg (elc z3).toArray) rfl (by kernel_rfl) (by kernel_rfl) (by kernel_rfl) (fun _ _ _ h => h) rfl (fun w' hw' => ey_loadR (x := .tmp 12) (by rfl) (by kernel_rfl) (el_mid hw' 16 z3 rfl)) hT ?_
  refine AnyK.pure 12 (v := .pointer (some ⟨gl, 0, none⟩)) rfl (by kernel_rfl) (fun _ _ _ h => h) rfl (fun _ => by kernel_rfl) (fun _ => hT) ?_
  refine AnyK.pure 13 (v := .pointer (some ⟨gl, 0, none⟩)) rfl (by kernel_rfl) (fun _ _ _ h => h) rfl (fun _ => by kernel_rfl) (fun _ => hT) ?_
  refine AnyK.pure 14 (v := .pointer (some ⟨gl, 4, none⟩)) rfl (by kernel_rfl) (fun _ _ _ h => h) rfl (fun _ => by kernel_rfl) (fun _ => hT) ?_
  refine AnyK.load 15 (v := .agg (elc x2).toArray) rfl (by kernel_rfl) (by kernel_rfl) (by kernel_rfl) (fun _ _ _ h => h) rfl (fun w' hw' => ey_loadR (x := .tmp 16) (by rfl) (by kernel_rfl) (el_mid hw' 4 x2 rfl)) hT ?_
  refine AnyK.pure 16 (v := .pointer (some ⟨gl, 0, none⟩)) rfl (by kernel_rfl) (fun _ _ _ h => h) rfl (fun _ => by kernel_rfl) (fun _ => hT) ?_
  refine AnyK.pure 17 (v := .pointer (some ⟨gl, 0, none⟩)) rfl (by kernel_rfl) (fun _ _ _ h => h) rfl (fun _ => by kernel_rfl) (fun _ => hT) ?_
  refine AnyK.pure 18 (v := .pointer (some ⟨gl, 8, none⟩)) rfl (by kernel_rfl) (fun _ _ _ h => h) rfl (fun _ => by kernel_rfl) (fun _ => hT) ?_
  refine AnyK.load 19 (v := .agg (elc z2).toArray) rfl (by kernel_rfl) (by kernel_rfl) (by kernel_rfl) (fun _ _ _ h => h) rfl (fun w' hw' => ey_loadR (x := .tmp 20) (by rfl) (by kernel_rfl) (el_mid hw' 8 z2 rfl)) hT ?_
  refine AnyK.pure 20 (v := .pointer (some ⟨gl, 0, none⟩)) rfl (by kernel_rfl) (fun _ _ _ h => h) rfl (fun _ => by kernel_rfl) (fun _ => hT) ?_
  refine AnyK.pure 21 (v := .pointer (some ⟨gl, 4, none⟩)) rfl (by kernel_rfl) (fun _ _ _ h => h) rfl (fun _ => by kernel_rfl) (fun _ => hT) ?_
  refine AnyK.storeAt 22 gl 4 (elc x3) t (lcs x1 ⟨x2, z2, x3, z3⟩) (lcs x1 ⟨x3, z2, x3, z3⟩) (by rfl) rfl rfl (by rfl) (by kernel_rfl) (by kernel_rfl) (by kernel_rfl) hT (by exact hdEl) (elc_one _) (by simp [lcs, elc, l4]) (by rfl) (fun _ _ _ h => (by cases h)) ?_
  intro V0 hb0 ho0
  have hR := hR.only ho0
  refine AnyK.pure 23 (v := .pointer (some ⟨gl, 0, none⟩)) rfl (by kernel_rfl) (fun _ _ _ h => h) rfl (fun _ => by kernel_rfl) (fun h => (by cases h)) ?_
  refine AnyK.pure 24 (v := .pointer (some ⟨gl, 8, none⟩)) rfl (by kernel_rfl) (fun _ _ _ h => h) rfl (fun _ => by kernel_rfl) (fun h => (by cases h)) ?_
  refine AnyK.storeAt 25 gl 8 (elc z3) t (lcs x1 ⟨x3, z2, x3, z3⟩) (lcs x1 ⟨x3, z3, x3, z3⟩) (by rfl) rfl rfl (by rfl) (by kernel_rfl) (by kernel_rfl) (by kernel_rfl) hb0 (by exact hdEl) (elc_one _) (by simp [lcs, elc, l4]) (by rfl) (fun _ _ _ h => (by cases h)) ?_
  intro V1 hb1 ho1
  have hR := hR.only ho1
  refine AnyK.pure 26 (v := .pointer (some ⟨gl, 0, none⟩)) rfl (by kernel_rfl) (fun _ _ _ h => h) rfl (fun _ => by kernel_rfl) (fun h => (by cases h)) ?_
  refine AnyK.pure 27 (v := .pointer (some ⟨gl, 12, none⟩)) rfl (by kernel_rfl) (fun _ _ _ h => h) rfl (fun _ => by kernel_rfl) (fun h => (by cases h)) ?_
  refine AnyK.storeAt 28 gl 12 (elc x2) t (lcs x1 ⟨x3, z3, x3, z3⟩) (lcs x1 ⟨x3, z3, x2, z3⟩) (by rfl) rfl rfl (by rfl) (by kernel_rfl) (by kernel_rfl) (by kernel_rfl) hb1 (by exact hdEl) (elc_one _) (by simp [lcs, elc, l4]) (by rfl) (fun _ _ _ h => (by cases h)) ?_
  intro V2 hb2 ho2
  have hR := hR.only ho2
  refine AnyK.pure 29 (v := .pointer (some ⟨gl, 0, none⟩)) rfl (by kernel_rfl) (fun _ _ _ h => h) rfl (fun _ => by kernel_rfl) (fun h => (by cases h)) ?_
  refine AnyK.pure 30 (v := .pointer (some ⟨gl, 16, none⟩)) rfl (by kernel_rfl) (fun _ _ _ h => h) rfl (fun _ => by kernel_rfl) (fun h => (by cases h)) ?_
  refine AnyK.storeAt 31 gl 16 (elc z2) t (lcs x1 ⟨x3, z3, x2, z3⟩) (lcs x1 ⟨x3, z3, x2, z2⟩) (by rfl) rfl rfl (by rfl) (by kernel_rfl) (by kernel_rfl) (by kernel_rfl) hb2 (by exact hdEl) (elc_one _) (by simp [lcs, elc, l4]) (by rfl) (fun _ _ _ h => (by cases h)) ?_
  intro V3 hb3 ho3
  have hR := hR.only ho3
  refine AnyK.done (by kernel_rfl) ?_
  go_wp2
  go_end0
  exact ⟨rfl, hb3, hR⟩
end Go.Proofs.YtpgpaenloaphaaaGreat
