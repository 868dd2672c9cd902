/- Part of the proof: Lst. -/
import Derived.Deep.DeepCutAuto
import Derived.Test.YtlbnibmcflmohaaGreatPlx32
namespace Go.Proofs.YtlbnibmcflmohaaGreat
open Go.RowKit
attribute [local go_sem ↓] ldq_el
set_option maxRecDepth 100000 in
set_option maxHeartbeats 4000000 in
theorem lstep_any (gl : Nat) (t : TypeId) (x1 x2 z2 x3 z3 : Nat) (w : World) (hx1 : x1 < pr) (hx2 : x2 < pr) (hz2 : z2 < pr) (hx3 : x3 < pr) (hz3 : z3 < pr) (h : Blk w gl t (lcs x1 ⟨x2, z2, x3, z3⟩)) :
    Calls Tryz.prog 49 #[.pointer (some ⟨gl, 0, none⟩)] w fun e w' => e = .returned (.tuple #[]) ∧ Blk w' gl t (lcs x1 (LS.step x1 ⟨x2, z2, x3, z3⟩)) ∧ Wrote gl w w' := by
  have HL := Lib.hid h
  have HWR := Lib.hid (Wrote.refl w gl)
  have HLT := Lib.hid h.lt
  clear h
  go_enter Tryz.func49, Tryz.ntmps49
  go_wp2
  refine region_K (by kernel_rfl) 22 (fun w' => Below { w with drawn := w.drawn + 1 }.heap.size { w with drawn := w.drawn + 1 } w') ?_
  obtain ⟨wd, hV⟩ : ∃ wd, wd = { w with drawn := w.drawn + 1 } := ⟨_, rfl⟩
  rw [← hV]
  have HWRd : Hid (Wrote gl w wd) := hV ▸ HWR.out.drew
  have GL : Hid (∀ W, Below wd.heap.size wd W → Blk W gl t (lcs x1 ⟨x2, z2, x3, z3⟩)) := fun W hB => (show Blk wd gl t (lcs x1 ⟨x2, z2, x3, z3⟩) from hV ▸ HL.out.drew).below hB (show Blk wd gl t (lcs x1 ⟨x2, z2, x3, z3⟩) from hV ▸ HL.out.drew).lt
  have HBV : Hid (gl < wd.heap.size) := (GL.out _ (Below.refl _ _)).lt
  clear hV
  refine AnyK.pure 0 (v := .pointer (some ⟨gl, 0, none⟩)) rfl (by kernel_rfl) (fun _ _ _ h => h) rfl (fun _ => by kernel_rfl) (fun _ => (Below.refl _ _)) ?_
  refine AnyK.pure 1 (v := .pointer (some ⟨gl, 0, none⟩)) rfl (by kernel_rfl) (fun _ _ _ h => h) rfl (fun _ => by kernel_rfl) (fun _ => (Below.refl _ _)) ?_
  refine AnyK.pure 2 (v := .pointer (some ⟨gl, 4, none⟩)) rfl (by kernel_rfl) (fun _ _ _ h => h) rfl (fun _ => by kernel_rfl) (fun _ => (Below.refl _ _)) ?_
  refine AnyK.load 3 (v := .agg (elc (x2)).toArray) rfl (by kernel_rfl) (by kernel_rfl) (by kernel_rfl) (fun _ _ _ h => h) rfl (fun w' hw' => ey_loadR (x := .tmp 13) (by rfl) (by kernel_rfl) (el_mid (GL.out w' hw') 4 (x2) rfl)) (Below.refl _ _) ?_
  refine AnyK.pure 4 (v := .pointer (some ⟨gl, 0, none⟩)) rfl (by kernel_rfl) (fun _ _ _ h => h) rfl (fun _ => by kernel_rfl) (fun _ => (Below.refl _ _)) ?_
  refine AnyK.pure 5 (v := .pointer (some ⟨gl, 0, none⟩)) rfl (by kernel_rfl) (fun _ _ _ h => h) rfl (fun _ => by kernel_rfl) (fun _ => (Below.refl _ _)) ?_
  refine AnyK.pure 6 (v := .pointer (some ⟨gl, 8, none⟩)) rfl (by kernel_rfl) (fun _ _ _ h => h) rfl (fun _ => by kernel_rfl) (fun _ => (Below.refl _ _)) ?_
  refine AnyK.load 7 (v := .agg (elc (z2)).toArray) rfl (by kernel_rfl) (by kernel_rfl) (by kernel_rfl) (fun _ _ _ h => h) rfl (fun w' hw' => ey_loadR (x := .tmp 17) (by rfl) (by kernel_rfl) (el_mid (GL.out w' hw') 8 (z2) rfl)) (Below.refl _ _) ?_
  refine AnyK.pure 10 (v := .pointer (some ⟨gl, 0, none⟩)) rfl (by kernel_rfl) (fun _ _ _ h => h) rfl (fun _ => by kernel_rfl) (fun _ => (Below.refl _ _)) ?_
  refine AnyK.pure 11 (v := .pointer (some ⟨gl, 0, none⟩)) rfl (by kernel_rfl) (fun _ _ _ h => h) rfl (fun _ => by kernel_rfl) (fun _ => (Below.refl _ _)) ?_
  refine AnyK.pure 12 (v := .pointer (some ⟨gl, 4, none⟩)) rfl (by kernel_rfl) (fun _ _ _ h => h) rfl (fun _ => by kernel_rfl) (fun _ => (Below.refl _ _)) ?_
  refine AnyK.load 13 (v := .agg (elc (x2)).toArray) rfl (by kernel_rfl) (by kernel_rfl) (by kernel_rfl) (fun _ _ _ h => h) rfl (fun w' hw' => ey_loadR (x := .tmp 23) (by rfl) (by kernel_rfl) (el_mid (GL.out w' hw') 4 (x2) rfl)) (Below.refl _ _) ?_
  refine AnyK.pure 14 (v := .pointer (some ⟨gl, 0, none⟩)) rfl (by kernel_rfl) (fun _ _ _ h => h) rfl (fun _ => by kernel_rfl) (fun _ => (Below.refl _ _)) ?_
  refine AnyK.pure 15 (v := .pointer (some ⟨gl, 0, none⟩)) rfl (by kernel_rfl) (fun _ _ _ h => h) rfl (fun _ => by kernel_rfl) (fun _ => (Below.refl _ _)) ?_
  refine AnyK.pure 16 (v := .pointer (some ⟨gl, 8, none⟩)) rfl (by kernel_rfl) (fun _ _ _ h => h) rfl (fun _ => by kernel_rfl) (fun _ => (Below.refl _ _)) ?_
  refine AnyK.load 17 (v := .agg (elc (z2)).toArray) rfl (by kernel_rfl) (by kernel_rfl) (by kernel_rfl) (fun _ _ _ h => h) rfl (fun w' hw' => ey_loadR (x := .tmp 27) (by rfl) (by kernel_rfl) (el_mid (GL.out w' hw') 8 (z2) rfl)) (Below.refl _ _) ?_
  refine AnyG.start wd.heap.size [⟨19, 2, 80, l4 0 0 0 0, fun g => .pointer (some ⟨g, 0, none⟩)⟩, ⟨20, 3, 80, l4 0 0 0 0, fun g => .pointer (some ⟨g, 0, none⟩)⟩] (fun W => Below wd.heap.size wd W) 5 rfl (Below.refl _ _) ?_
  refine AnyG.step 8 (di := 19) [] (fun g : Nat => .slice (some ⟨g, 0, none⟩) 2 2) (fun g W => Below wd.heap.size wd W ∧ Blk W g 80 (elc (x2) ++ elc (z2))) (by rfl) rfl (by simp) (by simp) (by kernel_rfl) ?_ ?_ (fun W o h => h.alloc h.size o) (fun W h => h.size) (fun W h => h) (fun _ W h => h.1) ?_
  · intro F W hF hR hok hrd K hK
    obtain ⟨s1, s2, rfl⟩ := two_of hF
    rcases s1 with _ | ks1 <;> rcases s2 with _ | ks2 <;>
      (refine wp_val (ex_slice2 (x := .tmp 14) (y := .tmp 18) (x2) (z2) (by rfl) (by kernel_rfl) (by kernel_rfl)) ?_; exact hK W.heap.size _ ⟨hR.alloc hR.size _, Blk.new _ _ _⟩ ((Below.refl _ _).alloc (Nat.le_refl _) _))
  · intro f hf
    simp only [List.mem_cons, List.not_mem_nil, or_false] at hf
    rcases hf with rfl | rfl
    · exact ⟨_, rfl, rfl, rfl, fun F W _ => by kernel_rfl⟩
    · exact ⟨_, rfl, rfl, rfl, fun F W _ => by kernel_rfl⟩
  intro g0
  refine AnyG.step 9 (di := 20) [] (fun _ : Unit => .agg (elc (fadd x2 z2)).toArray) (fun _ W => Below wd.heap.size wd W) (by rfl) rfl (by simp) (by simp) (by kernel_rfl) ?_ ?_ (fun W o h => ⟨h.1.alloc h.1.size o, h.2.alloc o⟩) (fun W h => h.1.size) (fun W h => h.1) (fun _ W h => h) ?_
  · intro F W hF hR hok hrd K hK
    obtain ⟨s1, s2, rfl⟩ := two_of hF
    rcases s1 with _ | ks1 <;> rcases s2 with _ | ks2 <;>
      (refine wp_enter (f := 67) (args := #[.slice (some ⟨g0, 0, none⟩) 2 2]) (by kernel_rfl) ?_; refine (sum2_el hR.2 hx2 hz2).mono ?_; rintro e w' ⟨rfl, hB⟩; exact ⟨_, rfl, hK () _ (hR.1.trans (hB.mono hR.1.size)) hB⟩)
  · intro f hf
    simp only [List.mem_cons, List.not_mem_nil, or_false] at hf
    rcases hf with rfl | rfl
    · exact ⟨_, rfl, rfl, rfl, fun F W _ => by kernel_rfl⟩
    · exact ⟨_, rfl, rfl, rfl, fun F W _ => by kernel_rfl⟩
  intro _
  refine AnyG.step 18 (di := 29) [] (fun _ : Unit => .agg (elc (fsub x2 z2)).toArray) (fun _ W => Below wd.heap.size wd W) (by rfl) rfl (by simp) (by simp) (by kernel_rfl) ?_ ?_ (fun W o h => h.alloc h.size o) (fun W h => h.size) (fun W h => h) (fun _ W h => h) ?_
  · intro F W hF hR hok hrd K hK
    obtain ⟨s1, s2, rfl⟩ := two_of hF
    rcases s1 with _ | ks1 <;> rcases s2 with _ | ks2 <;>
      (refine wp_enter (f := 68) (args := #[.agg (elc x2).toArray, .agg (elc z2).toArray]) (by kernel_rfl) ?_; refine (fsub_el hx2 hz2).mono ?_; rintro e w' ⟨rfl, hB⟩; exact ⟨_, rfl, hK () _ (hR.trans (hB.mono hR.size)) hB⟩)
  · intro f hf
    simp only [List.mem_cons, List.not_mem_nil, or_false] at hf
    rcases hf with rfl | rfl
    · exact ⟨_, rfl, rfl, rfl, fun F W _ => by kernel_rfl⟩
    · exact ⟨_, rfl, rfl, rfl, fun F W _ => by kernel_rfl⟩
  intro _
  refine AnyG.fin (by simp) (by kernel_rfl) ?_ (fun W o h => h.alloc h.size o) (fun W h => h.size) (fun W h => h) ?_
  · intro f hf
    simp only [List.mem_cons, List.not_mem_nil, or_false] at hf
    rcases hf with rfl | rfl
    · exact ⟨_, rfl, rfl, rfl, fun F W _ => by kernel_rfl⟩
    · exact ⟨_, rfl, rfl, rfl, fun F W _ => by kernel_rfl⟩
  intro F W hF h0 hR hok
  obtain ⟨b2, b3, rfl⟩ := two_all hF h0
  obtain ⟨⟨hga, hba, hne⟩, ⟨hgb, hbb, _⟩, _⟩ := hok
  have hne2 : b3 ≠ b2 := fun e => hne _ (List.mem_cons_self) (by rw [e])
  refine AnyK.storeAll 21 b2 (elc (fadd x2 z2)) 80 (l4 0 0 0 0) (by rfl) rfl rfl (by rfl) (by kernel_rfl) (by kernel_rfl) (by kernel_rfl) hba (by exact hdEl) (elc_one _) rfl (fun _ _ ho _ => ho.below hR hga hR.size) ?_
  intro Wa hba1 hoa
  have hRa := hoa.below hR hga hR.size
  have hbb1 := hoa.blk hbb hne2
  refine AnyK.storeAll 22 b3 (elc (fsub x2 z2)) 80 (l4 0 0 0 0) (by rfl) rfl rfl (by rfl) (by kernel_rfl) (by kernel_rfl) (by kernel_rfl) hbb1 (by exact hdEl) (elc_one _) rfl (fun _ _ _ h => (by cases h)) ?_
  intro U2 hbb2 hob
  have hRb := hob.below hRa hgb hRa.size
  refine AnyK.done (by kernel_rfl) ?_
  have H2 : Hid (Blk U2 b2 80 (elc (fadd x2 z2))) := hob.blk hba1 hne2.symm
  have H3 : Hid (Blk U2 b3 80 (elc (fsub x2 z2))) := hbb2
  have N2 : Hid (b2 ≠ gl) := (by have := HBV.out; show _ ≠ _; omega)
  have N3 : Hid (b3 ≠ gl) := (by have := HBV.out; show _ ≠ _; omega)
  have HWR := Lib.hid (HWRd.out.then hRb)
  have HL := Lib.hid (GL.out U2 hRb)
  clear hba hbb hba1 hbb1 hbb2 hoa hob hR hRa hRb hne hne2 hga hgb h0 hF HBV HWRd GL 
  simp only [putF]
  go_wp2
  refine region_K (by kernel_rfl) 22 (fun w' => Below { U2 with drawn := U2.drawn + 1 }.heap.size { U2 with drawn := U2.drawn + 1 } w') ?_
  obtain ⟨U2d, hV⟩ : ∃ U2d, U2d = { U2 with drawn := U2.drawn + 1 } := ⟨_, rfl⟩
  rw [← hV]
  have HWRd : Hid (Wrote gl w U2d) := hV ▸ HWR.out.drew
  have GL : Hid (∀ W, Below U2d.heap.size U2d W → Blk W gl t (lcs x1 ⟨x2, z2, x3, z3⟩)) := fun W hB => (show Blk U2d gl t (lcs x1 ⟨x2, z2, x3, z3⟩) from hV ▸ HL.out.drew).below hB (show Blk U2d gl t (lcs x1 ⟨x2, z2, x3, z3⟩) from hV ▸ HL.out.drew).lt
  have G2 : Hid (∀ W, Below U2d.heap.size U2d W → Blk W b2 80 (elc (fadd x2 z2))) := fun W hB => (show Blk U2d b2 80 (elc (fadd x2 z2)) from hV ▸ H2.out.drew).below hB (show Blk U2d b2 80 (elc (fadd x2 z2)) from hV ▸ H2.out.drew).lt
  have G3 : Hid (∀ W, Below U2d.heap.size U2d W → Blk W b3 80 (elc (fsub x2 z2))) := fun W hB => (show Blk U2d b3 80 (elc (fsub x2 z2)) from hV ▸ H3.out.drew).below hB (show Blk U2d b3 80 (elc (fsub x2 z2)) from hV ▸ H3.out.drew).lt
  have HBV : Hid (gl < U2d.heap.size) := (GL.out _ (Below.refl _ _)).lt
  clear hV
  refine AnyK.pure 0 (v := .pointer (some ⟨gl, 0, none⟩)) rfl (by kernel_rfl) (fun _ _ _ h => h) rfl (fun _ => by kernel_rfl) (fun _ => (Below.refl _ _)) ?_
  refine AnyK.pure 1 (v := .pointer (some ⟨gl, 0, none⟩)) rfl (by kernel_rfl) (fun _ _ _ h => h) rfl (fun _ => by kernel_rfl) (fun _ => (Below.refl _ _)) ?_
  refine AnyK.pure 2 (v := .pointer (some ⟨gl, 12, none⟩)) rfl (by kernel_rfl) (fun _ _ _ h => h) rfl (fun _ => by kernel_rfl) (fun _ => (Below.refl _ _)) ?_
  refine AnyK.load 3 (v := .agg (elc (x3)).toArray) rfl (by kernel_rfl) (by kernel_rfl) (by kernel_rfl) (fun _ _ _ h => h) rfl (fun w' hw' => ey_loadR (x := .tmp 32) (by rfl) (by kernel_rfl) (el_mid (GL.out w' hw') 12 (x3) rfl)) (Below.refl _ _) ?_
  refine AnyK.pure 4 (v := .pointer (some ⟨gl, 0, none⟩)) rfl (by kernel_rfl) (fun _ _ _ h => h) rfl (fun _ => by kernel_rfl) (fun _ => (Below.refl _ _)) ?_
  refine AnyK.pure 5 (v := .pointer (some ⟨gl, 0, none⟩)) rfl (by kernel_rfl) (fun _ _ _ h => h) rfl (fun _ => by kernel_rfl) (fun _ => (Below.refl _ _)) ?_
  refine AnyK.pure 6 (v := .pointer (some ⟨gl, 16, none⟩)) rfl (by kernel_rfl) (fun _ _ _ h => h) rfl (fun _ => by kernel_rfl) (fun _ => (Below.refl _ _)) ?_
  refine AnyK.load 7 (v := .agg (elc (z3)).toArray) rfl (by kernel_rfl) (by kernel_rfl) (by kernel_rfl) (fun _ _ _ h => h) rfl (fun w' hw' => ey_loadR (x := .tmp 36) (by rfl) (by kernel_rfl) (el_mid (GL.out w' hw') 16 (z3) rfl)) (Below.refl _ _) ?_
  refine AnyK.pure 10 (v := .pointer (some ⟨gl, 0, none⟩)) rfl (by kernel_rfl) (fun _ _ _ h => h) rfl (fun _ => by kernel_rfl) (fun _ => (Below.refl _ _)) ?_
  refine AnyK.pure 11 (v := .pointer (some ⟨gl, 0, none⟩)) rfl (by kernel_rfl) (fun _ _ _ h => h) rfl (fun _ => by kernel_rfl) (fun _ => (Below.refl _ _)) ?_
  refine AnyK.pure 12 (v := .pointer (some ⟨gl, 12, none⟩)) rfl (by kernel_rfl) (fun _ _ _ h => h) rfl (fun _ => by kernel_rfl) (fun _ => (Below.refl _ _)) ?_
  refine AnyK.load 13 (v := .agg (elc (x3)).toArray) rfl (by kernel_rfl) (by kernel_rfl) (by kernel_rfl) (fun _ _ _ h => h) rfl (fun w' hw' => ey_loadR (x := .tmp 42) (by rfl) (by kernel_rfl) (el_mid (GL.out w' hw') 12 (x3) rfl)) (Below.refl _ _) ?_
  refine AnyK.pure 14 (v := .pointer (some ⟨gl, 0, none⟩)) rfl (by kernel_rfl) (fun _ _ _ h => h) rfl (fun _ => by kernel_rfl) (fun _ => (Below.refl _ _)) ?_
  refine AnyK.pure 15 (v := .pointer (some ⟨gl, 0, none⟩)) rfl (by kernel_rfl) (fun _ _ _ h => h) rfl (fun _ => by kernel_rfl) (fun _ => (Below.refl _ _)) ?_
  refine AnyK.pure 16 (v := .pointer (some ⟨gl, 16, none⟩)) rfl (by kernel_rfl) (fun _ _ _ h => h) rfl (fun _ => by kernel_rfl) (fun _ => (Below.refl _ _)) ?_
  refine AnyK.load 17 (v := .agg (elc (z3)).toArray) rfl (by kernel_rfl) (by kernel_rfl) (by kernel_rfl) (fun _ _ _ h => h) rfl (fun w' hw' => ey_loadR (x := .tmp 46) (by rfl) (by kernel_rfl) (el_mid (GL.out w' hw') 16 (z3) rfl)) (Below.refl _ _) ?_
  refine AnyG.start U2d.heap.size [⟨19, 4, 80, l4 0 0 0 0, fun g => .pointer (some ⟨g, 0, none⟩)⟩, ⟨20, 5, 80, l4 0 0 0 0, fun g => .pointer (some ⟨g, 0, none⟩)⟩] (fun W => Below U2d.heap.size U2d W) 5 rfl (Below.refl _ _) ?_
  refine AnyG.step 8 (di := 38) [] (fun g : Nat => .slice (some ⟨g, 0, none⟩) 2 2) (fun g W => Below U2d.heap.size U2d W ∧ Blk W g 80 (elc (x3) ++ elc (z3))) (by rfl) rfl (by simp) (by simp) (by kernel_rfl) ?_ ?_ (fun W o h => h.alloc h.size o) (fun W h => h.size) (fun W h => h) (fun _ W h => h.1) ?_
  · intro F W hF hR hok hrd K hK
    obtain ⟨s1, s2, rfl⟩ := two_of hF
    rcases s1 with _ | ks1 <;> rcases s2 with _ | ks2 <;>
      (refine wp_val (ex_slice2 (x := .tmp 33) (y := .tmp 37) (x3) (z3) (by rfl) (by kernel_rfl) (by kernel_rfl)) ?_; exact hK W.heap.size _ ⟨hR.alloc hR.size _, Blk.new _ _ _⟩ ((Below.refl _ _).alloc (Nat.le_refl _) _))
  · intro f hf
    simp only [List.mem_cons, List.not_mem_nil, or_false] at hf
    rcases hf with rfl | rfl
    · exact ⟨_, rfl, rfl, rfl, fun F W _ => by kernel_rfl⟩
    · exact ⟨_, rfl, rfl, rfl, fun F W _ => by kernel_rfl⟩
  intro g0
  refine AnyG.step 9 (di := 39) [] (fun _ : Unit => .agg (elc (fadd x3 z3)).toArray) (fun _ W => Below U2d.heap.size U2d W) (by rfl) rfl (by simp) (by simp) (by kernel_rfl) ?_ ?_ (fun W o h => ⟨h.1.alloc h.1.size o, h.2.alloc o⟩) (fun W h => h.1.size) (fun W h => h.1) (fun _ W h => h) ?_
  · intro F W hF hR hok hrd K hK
    obtain ⟨s1, s2, rfl⟩ := two_of hF
    rcases s1 with _ | ks1 <;> rcases s2 with _ | ks2 <;>
      (refine wp_enter (f := 67) (args := #[.slice (some ⟨g0, 0, none⟩) 2 2]) (by kernel_rfl) ?_; refine (sum2_el hR.2 hx3 hz3).mono ?_; rintro e w' ⟨rfl, hB⟩; exact ⟨_, rfl, hK () _ (hR.1.trans (hB.mono hR.1.size)) hB⟩)
  · intro f hf
    simp only [List.mem_cons, List.not_mem_nil, or_false] at hf
    rcases hf with rfl | rfl
    · exact ⟨_, rfl, rfl, rfl, fun F W _ => by kernel_rfl⟩
    · exact ⟨_, rfl, rfl, rfl, fun F W _ => by kernel_rfl⟩
  intro _
  refine AnyG.step 18 (di := 48) [] (fun _ : Unit => .agg (elc (fsub x3 z3)).toArray) (fun _ W => Below U2d.heap.size U2d W) (by rfl) rfl (by simp) (by simp) (by kernel_rfl) ?_ ?_ (fun W o h => h.alloc h.size o) (fun W h => h.size) (fun W h => h) (fun _ W h => h) ?_
  · intro F W hF hR hok hrd K hK
    obtain ⟨s1, s2, rfl⟩ := two_of hF
    rcases s1 with _ | ks1 <;> rcases s2 with _ | ks2 <;>
      (refine wp_enter (f := 68) (args := #[.agg (elc x3).toArray, .agg (elc z3).toArray]) (by kernel_rfl) ?_; refine (fsub_el hx3 hz3).mono ?_; rintro e w' ⟨rfl, hB⟩; exact ⟨_, rfl, hK () _ (hR.trans (hB.mono hR.size)) hB⟩)
  · intro f hf
    simp only [List.mem_cons, List.not_mem_nil, or_false] at hf
    rcases hf with rfl | rfl
    · exact ⟨_, rfl, rfl, rfl, fun F W _ => by kernel_rfl⟩
    · exact ⟨_, rfl, rfl, rfl, fun F W _ => by kernel_rfl⟩
  intro _
  refine AnyG.fin (by simp) (by kernel_rfl) ?_ (fun W o h => h.alloc h.size o) (fun W h => h.size) (fun W h => h) ?_
  · intro f hf
    simp only [List.mem_cons, List.not_mem_nil, or_false] at hf
    rcases hf with rfl | rfl
    · exact ⟨_, rfl, rfl, rfl, fun F W _ => by kernel_rfl⟩
    · exact ⟨_, rfl, rfl, rfl, fun F W _ => by kernel_rfl⟩
  intro F W hF h0 hR hok
  obtain ⟨b4, b5, rfl⟩ := two_all hF h0
  obtain ⟨⟨hga, hba, hne⟩, ⟨hgb, hbb, _⟩, _⟩ := hok
  have hne2 : b5 ≠ b4 := fun e => hne _ (List.mem_cons_self) (by rw [e])
  refine AnyK.storeAll 21 b4 (elc (fadd x3 z3)) 80 (l4 0 0 0 0) (by rfl) rfl rfl (by rfl) (by kernel_rfl) (by kernel_rfl) (by kernel_rfl) hba (by exact hdEl) (elc_one _) rfl (fun _ _ ho _ => ho.below hR hga hR.size) ?_
  intro Wa hba1 hoa
  have hRa := hoa.below hR hga hR.size
  have hbb1 := hoa.blk hbb hne2
  refine AnyK.storeAll 22 b5 (elc (fsub x3 z3)) 80 (l4 0 0 0 0) (by rfl) rfl rfl (by rfl) (by kernel_rfl) (by kernel_rfl) (by kernel_rfl) hbb1 (by exact hdEl) (elc_one _) rfl (fun _ _ _ h => (by cases h)) ?_
  intro U4 hbb2 hob
  have hRb := hob.below hRa hgb hRa.size
  refine AnyK.done (by kernel_rfl) ?_
  have H4 : Hid (Blk U4 b4 80 (elc (fadd x3 z3))) := hob.blk hba1 hne2.symm
  have H5 : Hid (Blk U4 b5 80 (elc (fsub x3 z3))) := hbb2
  have N4 : Hid (b4 ≠ gl) := (by have := HBV.out; show _ ≠ _; omega)
  have N5 : Hid (b5 ≠ gl) := (by have := HBV.out; show _ ≠ _; omega)
  have HWR := Lib.hid (HWRd.out.then hRb)
  have HL := Lib.hid (GL.out U4 hRb)
  have H2 := Lib.hid (G2.out U4 hRb)
  have H3 := Lib.hid (G3.out U4 hRb)
  clear hba hbb hba1 hbb1 hbb2 hoa hob hR hRa hRb hne hne2 hga hgb h0 hF HBV HWRd GL G2 G3
  simp only [putF]
  go_wp2
  refine region_K (by kernel_rfl) 7 (fun w' => Below { U4 with drawn := U4.drawn + 1 }.heap.size { U4 with drawn := U4.drawn + 1 } w') ?_
  obtain ⟨U4d, hV⟩ : ∃ U4d, U4d = { U4 with drawn := U4.drawn + 1 } := ⟨_, rfl⟩
  rw [← hV]
  have HWRd : Hid (Wrote gl w U4d) := hV ▸ HWR.out.drew
  have GL : Hid (∀ W, Below U4d.heap.size U4d W → Blk W gl t (lcs x1 ⟨x2, z2, x3, z3⟩)) := fun W hB => (show Blk U4d gl t (lcs x1 ⟨x2, z2, x3, z3⟩) from hV ▸ HL.out.drew).below hB (show Blk U4d gl t (lcs x1 ⟨x2, z2, x3, z3⟩) from hV ▸ HL.out.drew).lt
  have G2 : Hid (∀ W, Below U4d.heap.size U4d W → Blk W b2 80 (elc (fadd x2 z2))) := fun W hB => (show Blk U4d b2 80 (elc (fadd x2 z2)) from hV ▸ H2.out.drew).below hB (show Blk U4d b2 80 (elc (fadd x2 z2)) from hV ▸ H2.out.drew).lt
  have G3 : Hid (∀ W, Below U4d.heap.size U4d W → Blk W b3 80 (elc (fsub x2 z2))) := fun W hB => (show Blk U4d b3 80 (elc (fsub x2 z2)) from hV ▸ H3.out.drew).below hB (show Blk U4d b3 80 (elc (fsub x2 z2)) from hV ▸ H3.out.drew).lt
  have G4 : Hid (∀ W, Below U4d.heap.size U4d W → Blk W b4 80 (elc (fadd x3 z3))) := fun W hB => (show Blk U4d b4 80 (elc (fadd x3 z3)) from hV ▸ H4.out.drew).below hB (show Blk U4d b4 80 (elc (fadd x3 z3)) from hV ▸ H4.out.drew).lt
  have G5 : Hid (∀ W, Below U4d.heap.size U4d W → Blk W b5 80 (elc (fsub x3 z3))) := fun W hB => (show Blk U4d b5 80 (elc (fsub x3 z3)) from hV ▸ H5.out.drew).below hB (show Blk U4d b5 80 (elc (fsub x3 z3)) from hV ▸ H5.out.drew).lt
  have HBV : Hid (gl < U4d.heap.size) := (GL.out _ (Below.refl _ _)).lt
  clear hV
  refine AnyK.load 0 (v := .agg (elc (fadd x2 z2)).toArray) rfl (by kernel_rfl) (by kernel_rfl) (by kernel_rfl) (fun _ _ _ h => h) rfl (fun w' hw' => ey_loadR (x := .tmp 2) (by rfl) (by kernel_rfl) (elc_ld (G2.out w' hw'))) (Below.refl _ _) ?_
  refine AnyK.load 2 (v := .agg (elc (fsub x2 z2)).toArray) rfl (by kernel_rfl) (by kernel_rfl) (by kernel_rfl) (fun _ _ _ h => h) rfl (fun w' hw' => ey_loadR (x := .tmp 3) (by rfl) (by kernel_rfl) (elc_ld (G3.out w' hw'))) (Below.refl _ _) ?_
  refine AnyG.start U4d.heap.size [⟨4, 6, 80, l4 0 0 0 0, fun g => .pointer (some ⟨g, 0, none⟩)⟩, ⟨5, 7, 80, l4 0 0 0 0, fun g => .pointer (some ⟨g, 0, none⟩)⟩] (fun W => Below U4d.heap.size U4d W) 4 rfl (Below.refl _ _) ?_
  refine AnyG.step 1 (di := 50) [] (fun _ : Unit => .agg (elc (fmul (fadd x2 z2) (fadd x2 z2))).toArray) (fun _ W => Below U4d.heap.size U4d W) (by rfl) rfl (by simp) (by simp) (by kernel_rfl) ?_ ?_ (fun W o h => h.alloc h.size o) (fun W h => h.size) (fun W h => h) (fun _ W h => h) ?_
  · intro F W hF hR hok hrd K hK
    obtain ⟨s1, s2, rfl⟩ := two_of hF
    rcases s1 with _ | ks1 <;> rcases s2 with _ | ks2 <;>
      (refine wp_enter (f := 69) (args := #[.agg (elc (fadd x2 z2)).toArray]) (by kernel_rfl) ?_; refine (fsq_el (fadd_lt _ _)).mono ?_; rintro e w' ⟨rfl, hB⟩; exact ⟨_, rfl, hK () _ (hR.trans (hB.mono hR.size)) hB⟩)
  · intro f hf
    simp only [List.mem_cons, List.not_mem_nil, or_false] at hf
    rcases hf with rfl | rfl
    · exact ⟨_, rfl, rfl, rfl, fun F W _ => by kernel_rfl⟩
    · exact ⟨_, rfl, rfl, rfl, fun F W _ => by kernel_rfl⟩
  intro _
  refine AnyG.step 3 (di := 52) [] (fun _ : Unit => .agg (elc (fmul (fsub x2 z2) (fsub x2 z2))).toArray) (fun _ W => Below U4d.heap.size U4d W) (by rfl) rfl (by simp) (by simp) (by kernel_rfl) ?_ ?_ (fun W o h => h.alloc h.size o) (fun W h => h.size) (fun W h => h) (fun _ W h => h) ?_
  · intro F W hF hR hok hrd K hK
    obtain ⟨s1, s2, rfl⟩ := two_of hF
    rcases s1 with _ | ks1 <;> rcases s2 with _ | ks2 <;>
      (refine wp_enter (f := 69) (args := #[.agg (elc (fsub x2 z2)).toArray]) (by kernel_rfl) ?_; refine (fsq_el (fsub_lt _ _)).mono ?_; rintro e w' ⟨rfl, hB⟩; exact ⟨_, rfl, hK () _ (hR.trans (hB.mono hR.size)) hB⟩)
  · intro f hf
    simp only [List.mem_cons, List.not_mem_nil, or_false] at hf
    rcases hf with rfl | rfl
    · exact ⟨_, rfl, rfl, rfl, fun F W _ => by kernel_rfl⟩
    · exact ⟨_, rfl, rfl, rfl, fun F W _ => by kernel_rfl⟩
  intro _
  refine AnyG.fin (by simp) (by kernel_rfl) ?_ (fun W o h => h.alloc h.size o) (fun W h => h.size) (fun W h => h) ?_
  · intro f hf
    simp only [List.mem_cons, List.not_mem_nil, or_false] at hf
    rcases hf with rfl | rfl
    · exact ⟨_, rfl, rfl, rfl, fun F W _ => by kernel_rfl⟩
    · exact ⟨_, rfl, rfl, rfl, fun F W _ => by kernel_rfl⟩
  intro F W hF h0 hR hok
  obtain ⟨b6, b7, rfl⟩ := two_all hF h0
  obtain ⟨⟨hga, hba, hne⟩, ⟨hgb, hbb, _⟩, _⟩ := hok
  have hne2 : b7 ≠ b6 := fun e => hne _ (List.mem_cons_self) (by rw [e])
  refine AnyK.storeAll 6 b6 (elc (fmul (fadd x2 z2) (fadd x2 z2))) 80 (l4 0 0 0 0) (by rfl) rfl rfl (by rfl) (by kernel_rfl) (by kernel_rfl) (by kernel_rfl) hba (by exact hdEl) (elc_one _) rfl (fun _ _ ho _ => ho.below hR hga hR.size) ?_
  intro Wa hba1 hoa
  have hRa := hoa.below hR hga hR.size
  have hbb1 := hoa.blk hbb hne2
  refine AnyK.storeAll 7 b7 (elc (fmul (fsub x2 z2) (fsub x2 z2))) 80 (l4 0 0 0 0) (by rfl) rfl rfl (by rfl) (by kernel_rfl) (by kernel_rfl) (by kernel_rfl) hbb1 (by exact hdEl) (elc_one _) rfl (fun _ _ _ h => (by cases h)) ?_
  intro U6 hbb2 hob
  have hRb := hob.below hRa hgb hRa.size
  refine AnyK.done (by kernel_rfl) ?_
  have H6 : Hid (Blk U6 b6 80 (elc (fmul (fadd x2 z2) (fadd x2 z2)))) := hob.blk hba1 hne2.symm
  have H7 : Hid (Blk U6 b7 80 (elc (fmul (fsub x2 z2) (fsub x2 z2)))) := hbb2
  have N6 : Hid (b6 ≠ gl) := (by have := HBV.out; show _ ≠ _; omega)
  have N7 : Hid (b7 ≠ gl) := (by have := HBV.out; show _ ≠ _; omega)
  have HWR := Lib.hid (HWRd.out.then hRb)
  have HL := Lib.hid (GL.out U6 hRb)
  have H2 := Lib.hid (G2.out U6 hRb)
  have H3 := Lib.hid (G3.out U6 hRb)
  have H4 := Lib.hid (G4.out U6 hRb)
  have H5 := Lib.hid (G5.out U6 hRb)
  clear hba hbb hba1 hbb1 hbb2 hoa hob hR hRa hRb hne hne2 hga hgb h0 hF HBV HWRd GL G2 G3 G4 G5
  simp only [putF]
  have hl6 := elc_ld H6.out
  have hl7 := elc_ld H7.out
  have HS3 := Lib.hid (fun W => fsub_el (W := W) (x := fmul (fadd x2 z2) (fadd x2 z2)) (y := fmul (fsub x2 z2) (fsub x2 z2)) (fmul_lt _ _) (fmul_lt _ _))
  go_wp2_with (first
    | ((with_reducible refine (HS3.out _).mono ?_); rintro e w1 ⟨rfl, hB1⟩; have H21 := qbl H2 hB1; have H31 := qbl H3 hB1; have H41 := qbl H4 hB1; have H51 := qbl H5 hB1; have H61 := qbl H6 hB1; have H71 := qbl H7 hB1; have HL1 := qbl HL hB1; have HWR1 := Lib.hid (HWR.out.then hB1); clear hB1)
    | (refine wpList_store_all rfl 80 (.tmp 8) (.tmp 55) rfl w1.heap.size (elc (fsub (fmul (fadd x2 z2) (fadd x2 z2)) (fmul (fsub x2 z2) (fsub x2 z2)))) (by rfl) (by rfl) 80 (l4 0 0 0 0) (by exact Blk.new' rfl rfl) (by exact hdEl) (elc_one _) rfl ?_; intro w2 hb2 ho2))
  have H8 := Lib.hid hb2
  have hgl := HL1.out.lt
  have N8 : Hid (w1.heap.size ≠ gl) := (by show _ ≠ _; omega)
  have HLx := Lib.hid (ho2.blk (HL1.out.alloc _) (by omega))
  have HWRx := Lib.hid (HWR1.out.then (ho2.below ((Below.refl _ w1).alloc (Nat.le_refl _) _) (Nat.le_refl _) (by simp)))
  have H2x := qal ho2 H21 (by have := H21.out.lt; omega)
  have H3x := qal ho2 H31 (by have := H31.out.lt; omega)
  have H4x := qal ho2 H41 (by have := H41.out.lt; omega)
  have H5x := qal ho2 H51 (by have := H51.out.lt; omega)
  have H6x := qal ho2 H61 (by have := H61.out.lt; omega)
  have H7x := qal ho2 H71 (by have := H71.out.lt; omega)
  clear HL HWR hl6 hl7 HS3 hb2 ho2 hgl HL1 HWR1 H2 H21 H3 H31 H4 H41 H5 H51 H6 H61 H7 H71
  have HL := HLx
  have HWR := HWRx
  have H2 := H2x
  have H3 := H3x
  have H4 := H4x
  have H5 := H5x
  have H6 := H6x
  have H7 := H7x
  clear HLx HWRx H2x H3x H4x H5x H6x H7x
  obtain ⟨b8, hb8⟩ : ∃ b8, b8 = w1.heap.size := ⟨_, rfl⟩
  rw [← hb8] at H8 N8 ⊢
  clear hb8
  refine region_K (by kernel_rfl) 11 (fun w' => Below { w2 with drawn := w2.drawn + 1 }.heap.size { w2 with drawn := w2.drawn + 1 } w') ?_
  obtain ⟨w2d, hV⟩ : ∃ w2d, w2d = { w2 with drawn := w2.drawn + 1 } := ⟨_, rfl⟩
  rw [← hV]
  have HWRd : Hid (Wrote gl w w2d) := hV ▸ HWR.out.drew
  have GL : Hid (∀ W, Below w2d.heap.size w2d W → Blk W gl t (lcs x1 ⟨x2, z2, x3, z3⟩)) := fun W hB => (show Blk w2d gl t (lcs x1 ⟨x2, z2, x3, z3⟩) from hV ▸ HL.out.drew).below hB (show Blk w2d gl t (lcs x1 ⟨x2, z2, x3, z3⟩) from hV ▸ HL.out.drew).lt
  have G2 : Hid (∀ W, Below w2d.heap.size w2d W → Blk W b2 80 (elc (fadd x2 z2))) := fun W hB => (show Blk w2d b2 80 (elc (fadd x2 z2)) from hV ▸ H2.out.drew).below hB (show Blk w2d b2 80 (elc (fadd x2 z2)) from hV ▸ H2.out.drew).lt
  have G3 : Hid (∀ W, Below w2d.heap.size w2d W → Blk W b3 80 (elc (fsub x2 z2))) := fun W hB => (show Blk w2d b3 80 (elc (fsub x2 z2)) from hV ▸ H3.out.drew).below hB (show Blk w2d b3 80 (elc (fsub x2 z2)) from hV ▸ H3.out.drew).lt
  have G4 : Hid (∀ W, Below w2d.heap.size w2d W → Blk W b4 80 (elc (fadd x3 z3))) := fun W hB => (show Blk w2d b4 80 (elc (fadd x3 z3)) from hV ▸ H4.out.drew).below hB (show Blk w2d b4 80 (elc (fadd x3 z3)) from hV ▸ H4.out.drew).lt
  have G5 : Hid (∀ W, Below w2d.heap.size w2d W → Blk W b5 80 (elc (fsub x3 z3))) := fun W hB => (show Blk w2d b5 80 (elc (fsub x3 z3)) from hV ▸ H5.out.drew).below hB (show Blk w2d b5 80 (elc (fsub x3 z3)) from hV ▸ H5.out.drew).lt
  have G6 : Hid (∀ W, Below w2d.heap.size w2d W → Blk W b6 80 (elc (fmul (fadd x2 z2) (fadd x2 z2)))) := fun W hB => (show Blk w2d b6 80 (elc (fmul (fadd x2 z2) (fadd x2 z2))) from hV ▸ H6.out.drew).below hB (show Blk w2d b6 80 (elc (fmul (fadd x2 z2) (fadd x2 z2))) from hV ▸ H6.out.drew).lt
  have G7 : Hid (∀ W, Below w2d.heap.size w2d W → Blk W b7 80 (elc (fmul (fsub x2 z2) (fsub x2 z2)))) := fun W hB => (show Blk w2d b7 80 (elc (fmul (fsub x2 z2) (fsub x2 z2))) from hV ▸ H7.out.drew).below hB (show Blk w2d b7 80 (elc (fmul (fsub x2 z2) (fsub x2 z2))) from hV ▸ H7.out.drew).lt
  have G8 : Hid (∀ W, Below w2d.heap.size w2d W → Blk W b8 80 (elc (fsub (fmul (fadd x2 z2) (fadd x2 z2)) (fmul (fsub x2 z2) (fsub x2 z2))))) := fun W hB => (show Blk w2d b8 80 (elc (fsub (fmul (fadd x2 z2) (fadd x2 z2)) (fmul (fsub x2 z2) (fsub x2 z2)))) from hV ▸ H8.out.drew).below hB (show Blk w2d b8 80 (elc (fsub (fmul (fadd x2 z2) (fadd x2 z2)) (fmul (fsub x2 z2) (fsub x2 z2)))) from hV ▸ H8.out.drew).lt
  have HBV : Hid (gl < w2d.heap.size) := (GL.out _ (Below.refl _ _)).lt
  clear hV
  refine AnyK.load 0 (v := .agg (elc (fsub x3 z3)).toArray) rfl (by kernel_rfl) (by kernel_rfl) (by kernel_rfl) (fun _ _ _ h => h) rfl (fun w' hw' => ey_loadR (x := .tmp 5) (by rfl) (by kernel_rfl) (elc_ld (G5.out w' hw'))) (Below.refl _ _) ?_
  refine AnyK.load 1 (v := .agg (elc (fadd x2 z2)).toArray) rfl (by kernel_rfl) (by kernel_rfl) (by kernel_rfl) (fun _ _ _ h => h) rfl (fun w' hw' => ey_loadR (x := .tmp 2) (by rfl) (by kernel_rfl) (elc_ld (G2.out w' hw'))) (Below.refl _ _) ?_
  refine AnyK.load 4 (v := .agg (elc (fadd x3 z3)).toArray) rfl (by kernel_rfl) (by kernel_rfl) (by kernel_rfl) (fun _ _ _ h => h) rfl (fun w' hw' => ey_loadR (x := .tmp 4) (by rfl) (by kernel_rfl) (elc_ld (G4.out w' hw'))) (Below.refl _ _) ?_
  refine AnyK.load 5 (v := .agg (elc (fsub x2 z2)).toArray) rfl (by kernel_rfl) (by kernel_rfl) (by kernel_rfl) (fun _ _ _ h => h) rfl (fun w' hw' => ey_loadR (x := .tmp 3) (by rfl) (by kernel_rfl) (elc_ld (G3.out w' hw'))) (Below.refl _ _) ?_
  refine AnyG.start w2d.heap.size [⟨8, 9, 80, l4 0 0 0 0, fun g => .pointer (some ⟨g, 0, none⟩)⟩, ⟨9, 10, 80, l4 0 0 0 0, fun g => .pointer (some ⟨g, 0, none⟩)⟩, ⟨6, 62, 80, elc (fadd x3 z3) ++ elc (fsub x2 z2), fun g => .slice (some ⟨g, 0, none⟩) 2 2⟩] (fun W => Below w2d.heap.size w2d W) 5 rfl (Below.refl _ _) ?_
  refine AnyG.step 2 (di := 58) [] (fun g : Nat => .slice (some ⟨g, 0, none⟩) 2 2) (fun g W => Below w2d.heap.size w2d W ∧ Blk W g 80 (elc (fsub x3 z3) ++ elc (fadd x2 z2))) (by rfl) rfl (by simp) (by simp) (by kernel_rfl) ?_ ?_ (fun W o h => h.alloc h.size o) (fun W h => h.size) (fun W h => h) (fun _ W h => h.1) ?_
  · intro F W hF hR hok hrd K hK
    obtain ⟨s1, s2, s3, rfl⟩ := three_of hF
    rcases s1 with _ | ks1 <;> rcases s2 with _ | ks2 <;> rcases s3 with _ | ks3 <;>
      (refine wp_val (ex_slice2 (x := .tmp 56) (y := .tmp 57) (fsub x3 z3) (fadd x2 z2) (by rfl) (by kernel_rfl) (by kernel_rfl)) ?_; exact hK W.heap.size _ ⟨hR.alloc hR.size _, Blk.new _ _ _⟩ ((Below.refl _ _).alloc (Nat.le_refl _) _))
  · intro f hf
    simp only [List.mem_cons, List.not_mem_nil, or_false] at hf
    rcases hf with rfl | rfl | rfl
    · exact ⟨_, rfl, rfl, rfl, fun F W _ => by kernel_rfl⟩
    · exact ⟨_, rfl, rfl, rfl, fun F W _ => by kernel_rfl⟩
    · refine ⟨_, rfl, rfl, rfl, fun F W hF => ?_⟩
      obtain ⟨s1, s2, s3, rfl⟩ := three_of hF
      rcases s1 with _ | ks1 <;> rcases s2 with _ | ks2 <;> rcases s3 with _ | ks3 <;>
        exact ex_slice2 (x := .tmp 60) (y := .tmp 61) (fadd x3 z3) (fsub x2 z2) (by rfl) (by kernel_rfl) (by kernel_rfl)
  intro g0
  refine AnyG.step 3 (di := 59) [] (fun _ : Unit => .agg (elc (fmul (fsub x3 z3) (fadd x2 z2))).toArray) (fun _ W => Below w2d.heap.size w2d W) (by rfl) rfl (by simp) (by simp) (by kernel_rfl) ?_ ?_ (fun W o h => ⟨h.1.alloc h.1.size o, h.2.alloc o⟩) (fun W h => h.1.size) (fun W h => h.1) (fun _ W h => h) ?_
  · intro F W hF hR hok hrd K hK
    obtain ⟨s1, s2, s3, rfl⟩ := three_of hF
    rcases s1 with _ | ks1 <;> rcases s2 with _ | ks2 <;> rcases s3 with _ | ks3 <;>
      (refine wp_enter (f := 70) (args := #[.slice (some ⟨g0, 0, none⟩) 2 2]) (by kernel_rfl) ?_; refine (prod2_el hR.2 (fsub_lt _ _) (fadd_lt _ _)).mono ?_; rintro e w' ⟨rfl, hB⟩; exact ⟨_, rfl, hK () _ (hR.1.trans (hB.mono hR.1.size)) hB⟩)
  · intro f hf
    simp only [List.mem_cons, List.not_mem_nil, or_false] at hf
    rcases hf with rfl | rfl | rfl
    · exact ⟨_, rfl, rfl, rfl, fun F W _ => by kernel_rfl⟩
    · exact ⟨_, rfl, rfl, rfl, fun F W _ => by kernel_rfl⟩
    · refine ⟨_, rfl, rfl, rfl, fun F W hF => ?_⟩
      obtain ⟨s1, s2, s3, rfl⟩ := three_of hF
      rcases s1 with _ | ks1 <;> rcases s2 with _ | ks2 <;> rcases s3 with _ | ks3 <;>
        exact ex_slice2 (x := .tmp 60) (y := .tmp 61) (fadd x3 z3) (fsub x2 z2) (by rfl) (by kernel_rfl) (by kernel_rfl)
  intro _
  refine AnyG.step 7 (di := 63) [6] (fun _ : Unit => .agg (elc (fmul (fadd x3 z3) (fsub x2 z2))).toArray) (fun _ W => Below w2d.heap.size w2d W) (by rfl) rfl (by simp) (by simp) (by kernel_rfl) ?_ ?_ (fun W o h => h.alloc h.size o) (fun W h => h.size) (fun W h => h) (fun _ W h => h) ?_
  · intro F W hF hR hok hrd K hK
    obtain ⟨s1, s2, s3, rfl⟩ := three_of hF
    rcases s3 with _ | gc
    · exfalso
      rcases s1 with _ | g1 <;> rcases s2 with _ | g2 <;> (refine absurd hrd (Bool.eq_false_iff.1 ?_); kernel_rfl)
    · rcases s1 with _ | g1 <;> rcases s2 with _ | g2
      · refine wp_enter (f := 70) (args := #[.slice (some ⟨gc, 0, none⟩) 2 2]) (by kernel_rfl) ?_; refine (prod2_el hok.1.2.1 (fadd_lt _ _) (fsub_lt _ _)).mono ?_; rintro e w' ⟨rfl, hB⟩; exact ⟨_, rfl, hK () _ (hR.trans (hB.mono hR.size)) hB⟩
      · refine wp_enter (f := 70) (args := #[.slice (some ⟨gc, 0, none⟩) 2 2]) (by kernel_rfl) ?_; refine (prod2_el hok.2.1.2.1 (fadd_lt _ _) (fsub_lt _ _)).mono ?_; rintro e w' ⟨rfl, hB⟩; exact ⟨_, rfl, hK () _ (hR.trans (hB.mono hR.size)) hB⟩
      · refine wp_enter (f := 70) (args := #[.slice (some ⟨gc, 0, none⟩) 2 2]) (by kernel_rfl) ?_; refine (prod2_el hok.2.1.2.1 (fadd_lt _ _) (fsub_lt _ _)).mono ?_; rintro e w' ⟨rfl, hB⟩; exact ⟨_, rfl, hK () _ (hR.trans (hB.mono hR.size)) hB⟩
      · refine wp_enter (f := 70) (args := #[.slice (some ⟨gc, 0, none⟩) 2 2]) (by kernel_rfl) ?_; refine (prod2_el hok.2.2.1.2.1 (fadd_lt _ _) (fsub_lt _ _)).mono ?_; rintro e w' ⟨rfl, hB⟩; exact ⟨_, rfl, hK () _ (hR.trans (hB.mono hR.size)) hB⟩
  · intro f hf
    simp only [List.mem_cons, List.not_mem_nil, or_false] at hf
    rcases hf with rfl | rfl | rfl
    · exact ⟨_, rfl, rfl, rfl, fun F W _ => by kernel_rfl⟩
    · exact ⟨_, rfl, rfl, rfl, fun F W _ => by kernel_rfl⟩
    · refine ⟨_, rfl, rfl, rfl, fun F W hF => ?_⟩
      obtain ⟨s1, s2, s3, rfl⟩ := three_of hF
      rcases s1 with _ | ks1 <;> rcases s2 with _ | ks2 <;> rcases s3 with _ | ks3 <;>
        exact ex_slice2 (x := .tmp 60) (y := .tmp 61) (fadd x3 z3) (fsub x2 z2) (by rfl) (by kernel_rfl) (by kernel_rfl)
  intro _
  refine AnyG.fin (by simp) (by kernel_rfl) ?_ (fun W o h => h.alloc h.size o) (fun W h => h.size) (fun W h => h) ?_
  · intro f hf
    simp only [List.mem_cons, List.not_mem_nil, or_false] at hf
    rcases hf with rfl | rfl | rfl
    · exact ⟨_, rfl, rfl, rfl, fun F W _ => by kernel_rfl⟩
    · exact ⟨_, rfl, rfl, rfl, fun F W _ => by kernel_rfl⟩
    · refine ⟨_, rfl, rfl, rfl, fun F W hF => ?_⟩
      obtain ⟨s1, s2, s3, rfl⟩ := three_of hF
      rcases s1 with _ | ks1 <;> rcases s2 with _ | ks2 <;> rcases s3 with _ | ks3 <;>
        exact ex_slice2 (x := .tmp 60) (y := .tmp 61) (fadd x3 z3) (fsub x2 z2) (by rfl) (by kernel_rfl) (by kernel_rfl)
  intro F W hF h0 hR hok
  obtain ⟨b9, b10, gc, rfl⟩ := three_all hF h0
  obtain ⟨⟨hga, hba, hne⟩, ⟨hgb, hbb, _⟩, _⟩ := hok
  have hne2 : b10 ≠ b9 := fun e => hne _ (List.mem_cons_self) (by rw [e])
  refine AnyK.storeAll 10 b9 (elc (fmul (fsub x3 z3) (fadd x2 z2))) 80 (l4 0 0 0 0) (by rfl) rfl rfl (by rfl) (by kernel_rfl) (by kernel_rfl) (by kernel_rfl) hba (by exact hdEl) (elc_one _) rfl (fun _ _ ho _ => ho.below hR hga hR.size) ?_
  intro Wa hba1 hoa
  have hRa := hoa.below hR hga hR.size
  have hbb1 := hoa.blk hbb hne2
  refine AnyK.storeAll 11 b10 (elc (fmul (fadd x3 z3) (fsub x2 z2))) 80 (l4 0 0 0 0) (by rfl) rfl rfl (by rfl) (by kernel_rfl) (by kernel_rfl) (by kernel_rfl) hbb1 (by exact hdEl) (elc_one _) rfl (fun _ _ _ h => (by cases h)) ?_
  intro U9 hbb2 hob
  have hRb := hob.below hRa hgb hRa.size
  refine AnyK.done (by kernel_rfl) ?_
  have H9 : Hid (Blk U9 b9 80 (elc (fmul (fsub x3 z3) (fadd x2 z2)))) := hob.blk hba1 hne2.symm
  have H10 : Hid (Blk U9 b10 80 (elc (fmul (fadd x3 z3) (fsub x2 z2)))) := hbb2
  have N9 : Hid (b9 ≠ gl) := (by have := HBV.out; show _ ≠ _; omega)
  have N10 : Hid (b10 ≠ gl) := (by have := HBV.out; show _ ≠ _; omega)
  have HWR := Lib.hid (HWRd.out.then hRb)
  have HL := Lib.hid (GL.out U9 hRb)
  have H2 := Lib.hid (G2.out U9 hRb)
  have H3 := Lib.hid (G3.out U9 hRb)
  have H4 := Lib.hid (G4.out U9 hRb)
  have H5 := Lib.hid (G5.out U9 hRb)
  have H6 := Lib.hid (G6.out U9 hRb)
  have H7 := Lib.hid (G7.out U9 hRb)
  have H8 := Lib.hid (G8.out U9 hRb)
  clear hba hbb hba1 hbb1 hbb2 hoa hob hR hRa hRb hne hne2 hga hgb h0 hF HBV HWRd GL G2 G3 G4 G5 G6 G7 G8
  simp only [putF]
  have hla := elc_ld H9.out
  have hlb := elc_ld H10.out
  have HS0 : Hid (Blk (U9.alloc (.cells (elc (fmul (fsub x3 z3) (fadd x2 z2)) ++ elc (fmul (fadd x3 z3) (fsub x2 z2))).toArray 80)) U9.heap.size 80 (elc (fmul (fsub x3 z3) (fadd x2 z2)) ++ elc (fmul (fadd x3 z3) (fsub x2 z2)))) := Blk.new U9 _ _
  have HB0 : Hid (Below U9.heap.size U9 (U9.alloc (.cells (elc (fmul (fsub x3 z3) (fadd x2 z2)) ++ elc (fmul (fadd x3 z3) (fsub x2 z2))).toArray 80))) := (Below.refl _ _).alloc (Nat.le_refl _) _
  have HC0 := Lib.hid (fun W g (h : Blk W g 80 (elc (fmul (fsub x3 z3) (fadd x2 z2)) ++ elc (fmul (fadd x3 z3) (fsub x2 z2)))) => sum2_el h (fmul_lt _ _) (fmul_lt _ _))
  have HC1 := Lib.hid (fun W => fsq_el (W := W) (x := fadd (fmul (fsub x3 z3) (fadd x2 z2)) (fmul (fadd x3 z3) (fsub x2 z2))) (fadd_lt _ _))
  have GL := Lib.hid (fun W2 (hB : Below U9.heap.size U9 W2) => HL.out.below hB HL.out.lt)
  go_wp2_with (first
    | (refine wpList_store rfl 80 (.tmp 71) (.tmp 69) rfl gl 12 (elc (fmul (fadd (fmul (fsub x3 z3) (fadd x2 z2)) (fmul (fadd x3 z3) (fsub x2 z2))) (fadd (fmul (fsub x3 z3) (fadd x2 z2)) (fmul (fadd x3 z3) (fsub x2 z2))))) (by rfl) (by rfl) t (lcs x1 ⟨x2, z2, x3, z3⟩) (by exact GL.out _ HB2.out) (by exact hdEl) (elc_one _) (by simp [lcs, elc, l4]) ?_; intro U hbu hou)
    | ((go_at_call 69); (with_reducible refine (HC1.out _).mono ?_); rintro e v1 ⟨rfl, hB⟩; have HB2 := qtr HB1 hB; clear hB)
    | ((go_at_call 67); (with_reducible refine (HC0.out _ _ (by exact HS0.out)).mono ?_); rintro e v0 ⟨rfl, hB⟩; have HB1 := qtr HB0 hB; clear hB)
    | (refine wpList_val rfl (ex_slice2 (x := .tmp 65) (y := .tmp 66) (fmul (fsub x3 z3) (fadd x2 z2)) (fmul (fadd x3 z3) (fsub x2 z2)) (by rfl) (by rfl) (by rfl)) ?_)
    )
  have hbu : Blk U gl t (lcs x1 ⟨x2, z2, fmul (fadd (fmul (fsub x3 z3) (fadd x2 z2)) (fmul (fadd x3 z3) (fsub x2 z2))) (fadd (fmul (fsub x3 z3) (fadd x2 z2)) (fmul (fadd x3 z3) (fsub x2 z2))), z3⟩) := hbu
  have HLx := Lib.hid hbu
  have HWRx := Lib.hid ((HWR.out.then HB2.out).only hou)
  have H2x := Lib.hid (hou.blk (H2.out.below HB2.out H2.out.lt) N2.out)
  have H3x := Lib.hid (hou.blk (H3.out.below HB2.out H3.out.lt) N3.out)
  have H4x := Lib.hid (hou.blk (H4.out.below HB2.out H4.out.lt) N4.out)
  have H5x := Lib.hid (hou.blk (H5.out.below HB2.out H5.out.lt) N5.out)
  have H6x := Lib.hid (hou.blk (H6.out.below HB2.out H6.out.lt) N6.out)
  have H7x := Lib.hid (hou.blk (H7.out.below HB2.out H7.out.lt) N7.out)
  have H8x := Lib.hid (hou.blk (H8.out.below HB2.out H8.out.lt) N8.out)
  have H9x := Lib.hid (hou.blk (H9.out.below HB2.out H9.out.lt) N9.out)
  have H10x := Lib.hid (hou.blk (H10.out.below HB2.out H10.out.lt) N10.out)
  clear HL HWR hla hlb HS0 hbu hou GL HC0 HC1 HB0 HB1 HB2 H2 H3 H4 H5 H6 H7 H8 H9 H10
  have HL := HLx
  have HWR := HWRx
  have H2 := H2x
  have H3 := H3x
  have H4 := H4x
  have H5 := H5x
  have H6 := H6x
  have H7 := H7x
  have H8 := H8x
  have H9 := H9x
  have H10 := H10x
  clear HLx HWRx H2x H3x H4x H5x H6x H7x H8x H9x H10x
  obtain ⟨U6, hU⟩ : ∃ W, W = U := ⟨_, rfl⟩
  refine region_K (by kernel_rfl) 13 (fun w' => Below { U with drawn := U.drawn + 1 }.heap.size { U with drawn := U.drawn + 1 } w') ?_
  obtain ⟨Ud, hV⟩ : ∃ Ud, Ud = { U with drawn := U.drawn + 1 } := ⟨_, rfl⟩
  rw [← hV]
  have HWRd : Hid (Wrote gl w Ud) := hV ▸ HWR.out.drew
  have GL : Hid (∀ W, Below Ud.heap.size Ud W → Blk W gl t (lcs x1 ⟨x2, z2, fmul (fadd (fmul (fsub x3 z3) (fadd x2 z2)) (fmul (fadd x3 z3) (fsub x2 z2))) (fadd (fmul (fsub x3 z3) (fadd x2 z2)) (fmul (fadd x3 z3) (fsub x2 z2))), z3⟩)) := fun W hB => (show Blk Ud gl t (lcs x1 ⟨x2, z2, fmul (fadd (fmul (fsub x3 z3) (fadd x2 z2)) (fmul (fadd x3 z3) (fsub x2 z2))) (fadd (fmul (fsub x3 z3) (fadd x2 z2)) (fmul (fadd x3 z3) (fsub x2 z2))), z3⟩) from hV ▸ HL.out.drew).below hB (show Blk Ud gl t (lcs x1 ⟨x2, z2, fmul (fadd (fmul (fsub x3 z3) (fadd x2 z2)) (fmul (fadd x3 z3) (fsub x2 z2))) (fadd (fmul (fsub x3 z3) (fadd x2 z2)) (fmul (fadd x3 z3) (fsub x2 z2))), z3⟩) from hV ▸ HL.out.drew).lt
  have G2 : Hid (∀ W, Below Ud.heap.size Ud W → Blk W b2 80 (elc (fadd x2 z2))) := fun W hB => (show Blk Ud b2 80 (elc (fadd x2 z2)) from hV ▸ H2.out.drew).below hB (show Blk Ud b2 80 (elc (fadd x2 z2)) from hV ▸ H2.out.drew).lt
  have G3 : Hid (∀ W, Below Ud.heap.size Ud W → Blk W b3 80 (elc (fsub x2 z2))) := fun W hB => (show Blk Ud b3 80 (elc (fsub x2 z2)) from hV ▸ H3.out.drew).below hB (show Blk Ud b3 80 (elc (fsub x2 z2)) from hV ▸ H3.out.drew).lt
  have G4 : Hid (∀ W, Below Ud.heap.size Ud W → Blk W b4 80 (elc (fadd x3 z3))) := fun W hB => (show Blk Ud b4 80 (elc (fadd x3 z3)) from hV ▸ H4.out.drew).below hB (show Blk Ud b4 80 (elc (fadd x3 z3)) from hV ▸ H4.out.drew).lt
  have G5 : Hid (∀ W, Below Ud.heap.size Ud W → Blk W b5 80 (elc (fsub x3 z3))) := fun W hB => (show Blk Ud b5 80 (elc (fsub x3 z3)) from hV ▸ H5.out.drew).below hB (show Blk Ud b5 80 (elc (fsub x3 z3)) from hV ▸ H5.out.drew).lt
  have G6 : Hid (∀ W, Below Ud.heap.size Ud W → Blk W b6 80 (elc (fmul (fadd x2 z2) (fadd x2 z2)))) := fun W hB => (show Blk Ud b6 80 (elc (fmul (fadd x2 z2) (fadd x2 z2))) from hV ▸ H6.out.drew).below hB (show Blk Ud b6 80 (elc (fmul (fadd x2 z2) (fadd x2 z2))) from hV ▸ H6.out.drew).lt
  have G7 : Hid (∀ W, Below Ud.heap.size Ud W → Blk W b7 80 (elc (fmul (fsub x2 z2) (fsub x2 z2)))) := fun W hB => (show Blk Ud b7 80 (elc (fmul (fsub x2 z2) (fsub x2 z2))) from hV ▸ H7.out.drew).below hB (show Blk Ud b7 80 (elc (fmul (fsub x2 z2) (fsub x2 z2))) from hV ▸ H7.out.drew).lt
  have G8 : Hid (∀ W, Below Ud.heap.size Ud W → Blk W b8 80 (elc (fsub (fmul (fadd x2 z2) (fadd x2 z2)) (fmul (fsub x2 z2) (fsub x2 z2))))) := fun W hB => (show Blk Ud b8 80 (elc (fsub (fmul (fadd x2 z2) (fadd x2 z2)) (fmul (fsub x2 z2) (fsub x2 z2)))) from hV ▸ H8.out.drew).below hB (show Blk Ud b8 80 (elc (fsub (fmul (fadd x2 z2) (fadd x2 z2)) (fmul (fsub x2 z2) (fsub x2 z2)))) from hV ▸ H8.out.drew).lt
  have G9 : Hid (∀ W, Below Ud.heap.size Ud W → Blk W b9 80 (elc (fmul (fsub x3 z3) (fadd x2 z2)))) := fun W hB => (show Blk Ud b9 80 (elc (fmul (fsub x3 z3) (fadd x2 z2))) from hV ▸ H9.out.drew).below hB (show Blk Ud b9 80 (elc (fmul (fsub x3 z3) (fadd x2 z2))) from hV ▸ H9.out.drew).lt
  have G10 : Hid (∀ W, Below Ud.heap.size Ud W → Blk W b10 80 (elc (fmul (fadd x3 z3) (fsub x2 z2)))) := fun W hB => (show Blk Ud b10 80 (elc (fmul (fadd x3 z3) (fsub x2 z2))) from hV ▸ H10.out.drew).below hB (show Blk Ud b10 80 (elc (fmul (fadd x3 z3) (fsub x2 z2))) from hV ▸ H10.out.drew).lt
  have HBV : Hid (gl < Ud.heap.size) := (GL.out _ (Below.refl _ _)).lt
  clear hV
  refine AnyK.pure 0 (v := .pointer (some ⟨gl, 0, none⟩)) rfl (by kernel_rfl) (fun _ _ _ h => h) rfl (fun _ => by kernel_rfl) (fun _ => (Below.refl _ _)) ?_
  refine AnyK.pure 1 (v := .pointer (some ⟨gl, 0, none⟩)) rfl (by kernel_rfl) (fun _ _ _ h => h) rfl (fun _ => by kernel_rfl) (fun _ => (Below.refl _ _)) ?_
  refine AnyK.pure 2 (v := .pointer (some ⟨gl, 0, none⟩)) rfl (by kernel_rfl) (fun _ _ _ h => h) rfl (fun _ => by kernel_rfl) (fun _ => (Below.refl _ _)) ?_
  refine AnyK.pure 3 (v := .pointer (some ⟨gl, 0, none⟩)) rfl (by kernel_rfl) (fun _ _ _ h => h) rfl (fun _ => by kernel_rfl) (fun _ => (Below.refl _ _)) ?_
  refine AnyK.load 4 (v := .agg (elc (x1)).toArray) rfl (by kernel_rfl) (by kernel_rfl) (by kernel_rfl) (fun _ _ _ h => h) rfl (fun w' hw' => ey_loadR (x := .tmp 75) (by rfl) (by kernel_rfl) (el_mid (GL.out w' hw') 0 (x1) rfl)) (Below.refl _ _) ?_
  refine AnyK.load 5 (v := .agg (elc (fmul (fsub x3 z3) (fadd x2 z2))).toArray) rfl (by kernel_rfl) (by kernel_rfl) (by kernel_rfl) (fun _ _ _ h => h) rfl (fun w' hw' => ey_loadR (x := .tmp 9) (by rfl) (by kernel_rfl) (elc_ld (G9.out w' hw'))) (Below.refl _ _) ?_
  refine AnyK.load 6 (v := .agg (elc (fmul (fadd x3 z3) (fsub x2 z2))).toArray) rfl (by kernel_rfl) (by kernel_rfl) (by kernel_rfl) (fun _ _ _ h => h) rfl (fun w' hw' => ey_loadR (x := .tmp 10) (by rfl) (by kernel_rfl) (elc_ld (G10.out w' hw'))) (Below.refl _ _) ?_
  have hR0 := Below.refl Ud.heap.size Ud
  refine AnyK.enter 7 (d := some 79) (f := 68) (args := #[.agg (elc (fmul (fsub x3 z3) (fadd x2 z2))).toArray, .agg (elc (fmul (fadd x3 z3) (fsub x2 z2))).toArray]) (by rfl) (by kernel_rfl) (by kernel_rfl) ?_
  refine (fsub_el (fmul_lt _ _) (fmul_lt _ _)).mono ?_
  rintro e c1 ⟨rfl, hB⟩
  have hR1 := hR0.trans (hB.mono hR0.size)
  clear hB
  refine ⟨_, rfl, fun _ => hR1, ?_⟩
  refine AnyK.enter 8 (d := some 80) (f := 69) (args := #[.agg (elc (fsub (fmul (fsub x3 z3) (fadd x2 z2)) (fmul (fadd x3 z3) (fsub x2 z2)))).toArray]) (by rfl) (by kernel_rfl) (by kernel_rfl) ?_
  refine (fsq_el (fsub_lt _ _)).mono ?_
  rintro e c2 ⟨rfl, hB⟩
  have hR2 := hR1.trans (hB.mono hR1.size)
  clear hB
  refine ⟨_, rfl, fun _ => hR2, ?_⟩
  refine AnyK.main 9 (by rfl) (by kernel_rfl) rfl (fun K hK => wp_val (ex_slice2 (x := .tmp 76) (y := .tmp 80) (x1) (fmul (fsub (fmul (fsub x3 z3) (fadd x2 z2)) (fmul (fadd x3 z3) (fsub x2 z2))) (fsub (fmul (fsub x3 z3) (fadd x2 z2)) (fmul (fadd x3 z3) (fsub x2 z2)))) (by rfl) (by kernel_rfl) (by kernel_rfl)) (hK _ _ ⟨fun _ => hR2.alloc hR2.size _, ?_⟩))
  obtain ⟨c3, hc⟩ : ∃ W, W = World.alloc c2 (.cells (elc (x1) ++ elc (fmul (fsub (fmul (fsub x3 z3) (fadd x2 z2)) (fmul (fadd x3 z3) (fsub x2 z2))) (fsub (fmul (fsub x3 z3) (fadd x2 z2)) (fmul (fadd x3 z3) (fsub x2 z2))))).toArray 80) := ⟨_, rfl⟩
  rw [← hc]
  have hb3 : Blk c3 c2.heap.size 80 (elc (x1) ++ elc (fmul (fsub (fmul (fsub x3 z3) (fadd x2 z2)) (fmul (fadd x3 z3) (fsub x2 z2))) (fsub (fmul (fsub x3 z3) (fadd x2 z2)) (fmul (fadd x3 z3) (fsub x2 z2))))) := hc ▸ Blk.new c2 _ _
  have hR3 := hc ▸ hR2.alloc hR2.size (.cells (elc (x1) ++ elc (fmul (fsub (fmul (fsub x3 z3) (fadd x2 z2)) (fmul (fadd x3 z3) (fsub x2 z2))) (fsub (fmul (fsub x3 z3) (fadd x2 z2)) (fmul (fadd x3 z3) (fsub x2 z2))))).toArray 80)
  clear hc
  refine AnyK.enter 10 (d := some 82) (f := 70) (args := #[.slice (some ⟨c2.heap.size, 0, none⟩) 2 2]) (by rfl) (by kernel_rfl) (by kernel_rfl) ?_
  refine (prod2_el hb3 hx1 (fmul_lt _ _)).mono ?_
  rintro e c4 ⟨rfl, hB⟩
  have hR4 := hR3.trans (hB.mono hR3.size)
  clear hB
  refine ⟨_, rfl, fun _ => hR4, ?_⟩
  refine AnyK.val 11 (v := .pointer (some ⟨gl, 0, none⟩)) (by rfl) (by kernel_rfl) rfl (by kernel_rfl) (fun _ => hR4) ?_
  refine AnyK.val 12 (v := .pointer (some ⟨gl, 16, none⟩)) (by rfl) (by kernel_rfl) rfl (by kernel_rfl) (fun _ => hR4) ?_
  refine AnyK.storeAt 13 gl 16 (elc (fmul x1 (fmul (fsub (fmul (fsub x3 z3) (fadd x2 z2)) (fmul (fadd x3 z3) (fsub x2 z2))) (fsub (fmul (fsub x3 z3) (fadd x2 z2)) (fmul (fadd x3 z3) (fsub x2 z2)))))) t (lcs x1 ⟨x2, z2, fmul (fadd (fmul (fsub x3 z3) (fadd x2 z2)) (fmul (fadd x3 z3) (fsub x2 z2))) (fadd (fmul (fsub x3 z3) (fadd x2 z2)) (fmul (fadd x3 z3) (fsub x2 z2))), z3⟩) (lcs x1 ⟨x2, z2, fmul (fadd (fmul (fsub x3 z3) (fadd x2 z2)) (fmul (fadd x3 z3) (fsub x2 z2))) (fadd (fmul (fsub x3 z3) (fadd x2 z2)) (fmul (fadd x3 z3) (fsub x2 z2))), fmul x1 (fmul (fsub (fmul (fsub x3 z3) (fadd x2 z2)) (fmul (fadd x3 z3) (fsub x2 z2))) (fsub (fmul (fsub x3 z3) (fadd x2 z2)) (fmul (fadd x3 z3) (fsub x2 z2))))⟩) (by rfl) rfl rfl (by rfl) (by kernel_rfl) (by kernel_rfl) (by kernel_rfl) (GL.out _ hR4) (by exact hdEl) (elc_one _) (by simp [lcs, elc, l4]) (by rfl) (fun _ _ _ h => (by cases h)) ?_
  intro Uz hbz hoz
  refine AnyK.done (by kernel_rfl) ?_
  have HL := Lib.hid hbz
  have HWR := Lib.hid ((HWRd.out.then hR4).only hoz)
  have H2 := Lib.hid (hoz.blk (G2.out _ hR4) N2.out)
  have H3 := Lib.hid (hoz.blk (G3.out _ hR4) N3.out)
  have H4 := Lib.hid (hoz.blk (G4.out _ hR4) N4.out)
  have H5 := Lib.hid (hoz.blk (G5.out _ hR4) N5.out)
  have H6 := Lib.hid (hoz.blk (G6.out _ hR4) N6.out)
  have H7 := Lib.hid (hoz.blk (G7.out _ hR4) N7.out)
  have H8 := Lib.hid (hoz.blk (G8.out _ hR4) N8.out)
  have H9 := Lib.hid (hoz.blk (G9.out _ hR4) N9.out)
  have H10 := Lib.hid (hoz.blk (G10.out _ hR4) N10.out)
  clear hbz hoz HBV HWRd GL G2 G3 G4 G5 G6 G7 G8 G9 G10 hR0 hR1 hR2 hR3 hR4
  have hla := elc_ld H6.out
  have hlb := elc_ld H7.out
  have HS0 : Hid (Blk (Uz.alloc (.cells (elc (fmul (fadd x2 z2) (fadd x2 z2)) ++ elc (fmul (fsub x2 z2) (fsub x2 z2))).toArray 80)) Uz.heap.size 80 (elc (fmul (fadd x2 z2) (fadd x2 z2)) ++ elc (fmul (fsub x2 z2) (fsub x2 z2)))) := Blk.new Uz _ _
  have HB0 : Hid (Below Uz.heap.size Uz (Uz.alloc (.cells (elc (fmul (fadd x2 z2) (fadd x2 z2)) ++ elc (fmul (fsub x2 z2) (fsub x2 z2))).toArray 80))) := (Below.refl _ _).alloc (Nat.le_refl _) _
  have HC0 := Lib.hid (fun W g (h : Blk W g 80 (elc (fmul (fadd x2 z2) (fadd x2 z2)) ++ elc (fmul (fsub x2 z2) (fsub x2 z2)))) => prod2_el h (fmul_lt _ _) (fmul_lt _ _))
  have GL := Lib.hid (fun W2 (hB : Below Uz.heap.size Uz W2) => HL.out.below hB HL.out.lt)
  go_wp2_with (first
    | (refine wpList_store rfl 80 (.tmp 91) (.tmp 89) rfl gl 4 (elc (fmul (fmul (fadd x2 z2) (fadd x2 z2)) (fmul (fsub x2 z2) (fsub x2 z2)))) (by rfl) (by rfl) t (lcs x1 ⟨x2, z2, fmul (fadd (fmul (fsub x3 z3) (fadd x2 z2)) (fmul (fadd x3 z3) (fsub x2 z2))) (fadd (fmul (fsub x3 z3) (fadd x2 z2)) (fmul (fadd x3 z3) (fsub x2 z2))), fmul x1 (fmul (fsub (fmul (fsub x3 z3) (fadd x2 z2)) (fmul (fadd x3 z3) (fsub x2 z2))) (fsub (fmul (fsub x3 z3) (fadd x2 z2)) (fmul (fadd x3 z3) (fsub x2 z2))))⟩) (by exact GL.out _ HB1.out) (by exact hdEl) (elc_one _) (by simp [lcs, elc, l4]) ?_; intro U hbu hou)
    | ((go_at_call 70); (with_reducible refine (HC0.out _ _ (by exact HS0.out)).mono ?_); rintro e v0 ⟨rfl, hB⟩; have HB1 := qtr HB0 hB; clear hB)
    | (refine wpList_val rfl (ex_slice2 (x := .tmp 86) (y := .tmp 87) (fmul (fadd x2 z2) (fadd x2 z2)) (fmul (fsub x2 z2) (fsub x2 z2)) (by rfl) (by rfl) (by rfl)) ?_)
    )
  have hbu : Blk U gl t (lcs x1 ⟨fmul (fmul (fadd x2 z2) (fadd x2 z2)) (fmul (fsub x2 z2) (fsub x2 z2)), z2, fmul (fadd (fmul (fsub x3 z3) (fadd x2 z2)) (fmul (fadd x3 z3) (fsub x2 z2))) (fadd (fmul (fsub x3 z3) (fadd x2 z2)) (fmul (fadd x3 z3) (fsub x2 z2))), fmul x1 (fmul (fsub (fmul (fsub x3 z3) (fadd x2 z2)) (fmul (fadd x3 z3) (fsub x2 z2))) (fsub (fmul (fsub x3 z3) (fadd x2 z2)) (fmul (fadd x3 z3) (fsub x2 z2))))⟩) := hbu
  have HLx := Lib.hid hbu
  have HWRx := Lib.hid ((HWR.out.then HB1.out).only hou)
  have H2x := Lib.hid (hou.blk (H2.out.below HB1.out H2.out.lt) N2.out)
  have H3x := Lib.hid (hou.blk (H3.out.below HB1.out H3.out.lt) N3.out)
  have H4x := Lib.hid (hou.blk (H4.out.below HB1.out H4.out.lt) N4.out)
  have H5x := Lib.hid (hou.blk (H5.out.below HB1.out H5.out.lt) N5.out)
  have H6x := Lib.hid (hou.blk (H6.out.below HB1.out H6.out.lt) N6.out)
  have H7x := Lib.hid (hou.blk (H7.out.below HB1.out H7.out.lt) N7.out)
  have H8x := Lib.hid (hou.blk (H8.out.below HB1.out H8.out.lt) N8.out)
  have H9x := Lib.hid (hou.blk (H9.out.below HB1.out H9.out.lt) N9.out)
  have H10x := Lib.hid (hou.blk (H10.out.below HB1.out H10.out.lt) N10.out)
  clear HL HWR hla hlb HS0 hbu hou GL HC0 HB0 HB1 H2 H3 H4 H5 H6 H7 H8 H9 H10
  have HL := HLx
  have HWR := HWRx
  have H2 := H2x
  have H3 := H3x
  have H4 := H4x
  have H5 := H5x
  have H6 := H6x
  have H7 := H7x
  have H8 := H8x
  have H9 := H9x
  have H10 := H10x
  clear HLx HWRx H2x H3x H4x H5x H6x H7x H8x H9x H10x
  obtain ⟨U8, hU⟩ : ∃ W, W = U := ⟨_, rfl⟩
  refine region_K (by kernel_rfl) 13 (fun w' => Below { U with drawn := U.drawn + 1 }.heap.size { U with drawn := U.drawn + 1 } w') ?_
  obtain ⟨Ud, hV⟩ : ∃ Ud, Ud = { U with drawn := U.drawn + 1 } := ⟨_, rfl⟩
  rw [← hV]
  have HWRd : Hid (Wrote gl w Ud) := hV ▸ HWR.out.drew
  have GL : Hid (∀ W, Below Ud.heap.size Ud W → Blk W gl t (lcs x1 ⟨fmul (fmul (fadd x2 z2) (fadd x2 z2)) (fmul (fsub x2 z2) (fsub x2 z2)), z2, fmul (fadd (fmul (fsub x3 z3) (fadd x2 z2)) (fmul (fadd x3 z3) (fsub x2 z2))) (fadd (fmul (fsub x3 z3) (fadd x2 z2)) (fmul (fadd x3 z3) (fsub x2 z2))), fmul x1 (fmul (fsub (fmul (fsub x3 z3) (fadd x2 z2)) (fmul (fadd x3 z3) (fsub x2 z2))) (fsub (fmul (fsub x3 z3) (fadd x2 z2)) (fmul (fadd x3 z3) (fsub x2 z2))))⟩)) := fun W hB => (show Blk Ud gl t (lcs x1 ⟨fmul (fmul (fadd x2 z2) (fadd x2 z2)) (fmul (fsub x2 z2) (fsub x2 z2)), z2, fmul (fadd (fmul (fsub x3 z3) (fadd x2 z2)) (fmul (fadd x3 z3) (fsub x2 z2))) (fadd (fmul (fsub x3 z3) (fadd x2 z2)) (fmul (fadd x3 z3) (fsub x2 z2))), fmul x1 (fmul (fsub (fmul (fsub x3 z3) (fadd x2 z2)) (fmul (fadd x3 z3) (fsub x2 z2))) (fsub (fmul (fsub x3 z3) (fadd x2 z2)) (fmul (fadd x3 z3) (fsub x2 z2))))⟩) from hV ▸ HL.out.drew).below hB (show Blk Ud gl t (lcs x1 ⟨fmul (fmul (fadd x2 z2) (fadd x2 z2)) (fmul (fsub x2 z2) (fsub x2 z2)), z2, fmul (fadd (fmul (fsub x3 z3) (fadd x2 z2)) (fmul (fadd x3 z3) (fsub x2 z2))) (fadd (fmul (fsub x3 z3) (fadd x2 z2)) (fmul (fadd x3 z3) (fsub x2 z2))), fmul x1 (fmul (fsub (fmul (fsub x3 z3) (fadd x2 z2)) (fmul (fadd x3 z3) (fsub x2 z2))) (fsub (fmul (fsub x3 z3) (fadd x2 z2)) (fmul (fadd x3 z3) (fsub x2 z2))))⟩) from hV ▸ HL.out.drew).lt
  have G2 : Hid (∀ W, Below Ud.heap.size Ud W → Blk W b2 80 (elc (fadd x2 z2))) := fun W hB => (show Blk Ud b2 80 (elc (fadd x2 z2)) from hV ▸ H2.out.drew).below hB (show Blk Ud b2 80 (elc (fadd x2 z2)) from hV ▸ H2.out.drew).lt
  have G3 : Hid (∀ W, Below Ud.heap.size Ud W → Blk W b3 80 (elc (fsub x2 z2))) := fun W hB => (show Blk Ud b3 80 (elc (fsub x2 z2)) from hV ▸ H3.out.drew).below hB (show Blk Ud b3 80 (elc (fsub x2 z2)) from hV ▸ H3.out.drew).lt
  have G4 : Hid (∀ W, Below Ud.heap.size Ud W → Blk W b4 80 (elc (fadd x3 z3))) := fun W hB => (show Blk Ud b4 80 (elc (fadd x3 z3)) from hV ▸ H4.out.drew).below hB (show Blk Ud b4 80 (elc (fadd x3 z3)) from hV ▸ H4.out.drew).lt
  have G5 : Hid (∀ W, Below Ud.heap.size Ud W → Blk W b5 80 (elc (fsub x3 z3))) := fun W hB => (show Blk Ud b5 80 (elc (fsub x3 z3)) from hV ▸ H5.out.drew).below hB (show Blk Ud b5 80 (elc (fsub x3 z3)) from hV ▸ H5.out.drew).lt
  have G6 : Hid (∀ W, Below Ud.heap.size Ud W → Blk W b6 80 (elc (fmul (fadd x2 z2) (fadd x2 z2)))) := fun W hB => (show Blk Ud b6 80 (elc (fmul (fadd x2 z2) (fadd x2 z2))) from hV ▸ H6.out.drew).below hB (show Blk Ud b6 80 (elc (fmul (fadd x2 z2) (fadd x2 z2))) from hV ▸ H6.out.drew).lt
  have G7 : Hid (∀ W, Below Ud.heap.size Ud W → Blk W b7 80 (elc (fmul (fsub x2 z2) (fsub x2 z2)))) := fun W hB => (show Blk Ud b7 80 (elc (fmul (fsub x2 z2) (fsub x2 z2))) from hV ▸ H7.out.drew).below hB (show Blk Ud b7 80 (elc (fmul (fsub x2 z2) (fsub x2 z2))) from hV ▸ H7.out.drew).lt
  have G8 : Hid (∀ W, Below Ud.heap.size Ud W → Blk W b8 80 (elc (fsub (fmul (fadd x2 z2) (fadd x2 z2)) (fmul (fsub x2 z2) (fsub x2 z2))))) := fun W hB => (show Blk Ud b8 80 (elc (fsub (fmul (fadd x2 z2) (fadd x2 z2)) (fmul (fsub x2 z2) (fsub x2 z2)))) from hV ▸ H8.out.drew).below hB (show Blk Ud b8 80 (elc (fsub (fmul (fadd x2 z2) (fadd x2 z2)) (fmul (fsub x2 z2) (fsub x2 z2)))) from hV ▸ H8.out.drew).lt
  have G9 : Hid (∀ W, Below Ud.heap.size Ud W → Blk W b9 80 (elc (fmul (fsub x3 z3) (fadd x2 z2)))) := fun W hB => (show Blk Ud b9 80 (elc (fmul (fsub x3 z3) (fadd x2 z2))) from hV ▸ H9.out.drew).below hB (show Blk Ud b9 80 (elc (fmul (fsub x3 z3) (fadd x2 z2))) from hV ▸ H9.out.drew).lt
  have G10 : Hid (∀ W, Below Ud.heap.size Ud W → Blk W b10 80 (elc (fmul (fadd x3 z3) (fsub x2 z2)))) := fun W hB => (show Blk Ud b10 80 (elc (fmul (fadd x3 z3) (fsub x2 z2))) from hV ▸ H10.out.drew).below hB (show Blk Ud b10 80 (elc (fmul (fadd x3 z3) (fsub x2 z2))) from hV ▸ H10.out.drew).lt
  have HBV : Hid (gl < Ud.heap.size) := (GL.out _ (Below.refl _ _)).lt
  clear hV
  refine AnyK.pure 0 (v := .pointer (some ⟨gl, 0, none⟩)) rfl (by kernel_rfl) (fun _ _ _ h => h) rfl (fun _ => by kernel_rfl) (fun _ => (Below.refl _ _)) ?_
  refine AnyK.load 1 (v := .agg (elc (fsub (fmul (fadd x2 z2) (fadd x2 z2)) (fmul (fsub x2 z2) (fsub x2 z2)))).toArray) rfl (by kernel_rfl) (by kernel_rfl) (by kernel_rfl) (fun _ _ _ h => h) rfl (fun w' hw' => ey_loadR (x := .tmp 8) (by rfl) (by kernel_rfl) (elc_ld (G8.out w' hw'))) (Below.refl _ _) ?_
  refine AnyK.load 2 (v := .agg (elc (fmul (fadd x2 z2) (fadd x2 z2))).toArray) rfl (by kernel_rfl) (by kernel_rfl) (by kernel_rfl) (fun _ _ _ h => h) rfl (fun w' hw' => ey_loadR (x := .tmp 6) (by rfl) (by kernel_rfl) (elc_ld (G6.out w' hw'))) (Below.refl _ _) ?_
  refine AnyK.load 4 (v := .agg (elc (fsub (fmul (fadd x2 z2) (fadd x2 z2)) (fmul (fsub x2 z2) (fsub x2 z2)))).toArray) rfl (by kernel_rfl) (by kernel_rfl) (by kernel_rfl) (fun _ _ _ h => h) rfl (fun w' hw' => ey_loadR (x := .tmp 8) (by rfl) (by kernel_rfl) (elc_ld (G8.out w' hw'))) (Below.refl _ _) ?_
  have hR0 := Below.refl Ud.heap.size Ud
  refine AnyK.enter 3 (d := some 95) (f := 35) (args := #[.int .u64 121665]) (by rfl) (by kernel_rfl) (by kernel_rfl) ?_
  refine (of_el 121665 (by omega) _).mono ?_
  rintro e c1 ⟨rfl, hB⟩
  have hR1 := hR0.trans (hB.mono hR0.size)
  clear hB
  refine ⟨_, rfl, fun _ => hR1, ?_⟩
  refine AnyK.main 5 (by rfl) (by kernel_rfl) rfl (fun K hK => wp_val (ex_slice2 (x := .tmp 95) (y := .tmp 96) (121665) (fsub (fmul (fadd x2 z2) (fadd x2 z2)) (fmul (fsub x2 z2) (fsub x2 z2))) (by rfl) (by kernel_rfl) (by kernel_rfl)) (hK _ _ ⟨fun _ => hR1.alloc hR1.size _, ?_⟩))
  obtain ⟨c2, hc⟩ : ∃ W, W = World.alloc c1 (.cells (elc (121665) ++ elc (fsub (fmul (fadd x2 z2) (fadd x2 z2)) (fmul (fsub x2 z2) (fsub x2 z2)))).toArray 80) := ⟨_, rfl⟩
  rw [← hc]
  have hb2 : Blk c2 c1.heap.size 80 (elc (121665) ++ elc (fsub (fmul (fadd x2 z2) (fadd x2 z2)) (fmul (fsub x2 z2) (fsub x2 z2)))) := hc ▸ Blk.new c1 _ _
  have hR2 := hc ▸ hR1.alloc hR1.size (.cells (elc (121665) ++ elc (fsub (fmul (fadd x2 z2) (fadd x2 z2)) (fmul (fsub x2 z2) (fsub x2 z2)))).toArray 80)
  clear hc
  refine AnyK.enter 6 (d := some 98) (f := 70) (args := #[.slice (some ⟨c1.heap.size, 0, none⟩) 2 2]) (by rfl) (by kernel_rfl) (by kernel_rfl) ?_
  refine (prod2_el hb2 (by simp [pr]) (fsub_lt _ _)).mono ?_
  rintro e c3 ⟨rfl, hB⟩
  have hR3 := hR2.trans (hB.mono hR2.size)
  clear hB
  refine ⟨_, rfl, fun _ => hR3, ?_⟩
  refine AnyK.main 7 (by rfl) (by kernel_rfl) rfl (fun K hK => wp_val (ex_slice2 (x := .tmp 94) (y := .tmp 98) (fmul (fadd x2 z2) (fadd x2 z2)) (fmul 121665 (fsub (fmul (fadd x2 z2) (fadd x2 z2)) (fmul (fsub x2 z2) (fsub x2 z2)))) (by rfl) (by kernel_rfl) (by kernel_rfl)) (hK _ _ ⟨fun _ => hR3.alloc hR3.size _, ?_⟩))
  obtain ⟨c4, hc⟩ : ∃ W, W = World.alloc c3 (.cells (elc (fmul (fadd x2 z2) (fadd x2 z2)) ++ elc (fmul 121665 (fsub (fmul (fadd x2 z2) (fadd x2 z2)) (fmul (fsub x2 z2) (fsub x2 z2))))).toArray 80) := ⟨_, rfl⟩
  rw [← hc]
  have hb4 : Blk c4 c3.heap.size 80 (elc (fmul (fadd x2 z2) (fadd x2 z2)) ++ elc (fmul 121665 (fsub (fmul (fadd x2 z2) (fadd x2 z2)) (fmul (fsub x2 z2) (fsub x2 z2))))) := hc ▸ Blk.new c3 _ _
  have hR4 := hc ▸ hR3.alloc hR3.size (.cells (elc (fmul (fadd x2 z2) (fadd x2 z2)) ++ elc (fmul 121665 (fsub (fmul (fadd x2 z2) (fadd x2 z2)) (fmul (fsub x2 z2) (fsub x2 z2))))).toArray 80)
  clear hc
  refine AnyK.enter 8 (d := some 100) (f := 67) (args := #[.slice (some ⟨c3.heap.size, 0, none⟩) 2 2]) (by rfl) (by kernel_rfl) (by kernel_rfl) ?_
  refine (sum2_el hb4 (fmul_lt _ _) (fmul_lt _ _)).mono ?_
  rintro e c5 ⟨rfl, hB⟩
  have hR5 := hR4.trans (hB.mono hR4.size)
  clear hB
  refine ⟨_, rfl, fun _ => hR5, ?_⟩
  refine AnyK.main 9 (by rfl) (by kernel_rfl) rfl (fun K hK => wp_val (ex_slice2 (x := .tmp 93) (y := .tmp 100) (fsub (fmul (fadd x2 z2) (fadd x2 z2)) (fmul (fsub x2 z2) (fsub x2 z2))) (fadd (fmul (fadd x2 z2) (fadd x2 z2)) (fmul 121665 (fsub (fmul (fadd x2 z2) (fadd x2 z2)) (fmul (fsub x2 z2) (fsub x2 z2))))) (by rfl) (by kernel_rfl) (by kernel_rfl)) (hK _ _ ⟨fun _ => hR5.alloc hR5.size _, ?_⟩))
  obtain ⟨c6, hc⟩ : ∃ W, W = World.alloc c5 (.cells (elc (fsub (fmul (fadd x2 z2) (fadd x2 z2)) (fmul (fsub x2 z2) (fsub x2 z2))) ++ elc (fadd (fmul (fadd x2 z2) (fadd x2 z2)) (fmul 121665 (fsub (fmul (fadd x2 z2) (fadd x2 z2)) (fmul (fsub x2 z2) (fsub x2 z2)))))).toArray 80) := ⟨_, rfl⟩
  rw [← hc]
  have hb6 : Blk c6 c5.heap.size 80 (elc (fsub (fmul (fadd x2 z2) (fadd x2 z2)) (fmul (fsub x2 z2) (fsub x2 z2))) ++ elc (fadd (fmul (fadd x2 z2) (fadd x2 z2)) (fmul 121665 (fsub (fmul (fadd x2 z2) (fadd x2 z2)) (fmul (fsub x2 z2) (fsub x2 z2)))))) := hc ▸ Blk.new c5 _ _
  have hR6 := hc ▸ hR5.alloc hR5.size (.cells (elc (fsub (fmul (fadd x2 z2) (fadd x2 z2)) (fmul (fsub x2 z2) (fsub x2 z2))) ++ elc (fadd (fmul (fadd x2 z2) (fadd x2 z2)) (fmul 121665 (fsub (fmul (fadd x2 z2) (fadd x2 z2)) (fmul (fsub x2 z2) (fsub x2 z2)))))).toArray 80)
  clear hc
  refine AnyK.enter 10 (d := some 102) (f := 70) (args := #[.slice (some ⟨c5.heap.size, 0, none⟩) 2 2]) (by rfl) (by kernel_rfl) (by kernel_rfl) ?_
  refine (prod2_el hb6 (fsub_lt _ _) (fadd_lt _ _)).mono ?_
  rintro e c7 ⟨rfl, hB⟩
  have hR7 := hR6.trans (hB.mono hR6.size)
  clear hB
  refine ⟨_, rfl, fun _ => hR7, ?_⟩
  refine AnyK.val 11 (v := .pointer (some ⟨gl, 0, none⟩)) (by rfl) (by kernel_rfl) rfl (by kernel_rfl) (fun _ => hR7) ?_
  refine AnyK.val 12 (v := .pointer (some ⟨gl, 8, none⟩)) (by rfl) (by kernel_rfl) rfl (by kernel_rfl) (fun _ => hR7) ?_
  refine AnyK.storeAt 13 gl 8 (elc (fmul (fsub (fmul (fadd x2 z2) (fadd x2 z2)) (fmul (fsub x2 z2) (fsub x2 z2))) (fadd (fmul (fadd x2 z2) (fadd x2 z2)) (fmul 121665 (fsub (fmul (fadd x2 z2) (fadd x2 z2)) (fmul (fsub x2 z2) (fsub x2 z2))))))) t (lcs x1 ⟨fmul (fmul (fadd x2 z2) (fadd x2 z2)) (fmul (fsub x2 z2) (fsub x2 z2)), z2, fmul (fadd (fmul (fsub x3 z3) (fadd x2 z2)) (fmul (fadd x3 z3) (fsub x2 z2))) (fadd (fmul (fsub x3 z3) (fadd x2 z2)) (fmul (fadd x3 z3) (fsub x2 z2))), fmul x1 (fmul (fsub (fmul (fsub x3 z3) (fadd x2 z2)) (fmul (fadd x3 z3) (fsub x2 z2))) (fsub (fmul (fsub x3 z3) (fadd x2 z2)) (fmul (fadd x3 z3) (fsub x2 z2))))⟩) (lcs x1 ⟨fmul (fmul (fadd x2 z2) (fadd x2 z2)) (fmul (fsub x2 z2) (fsub x2 z2)), fmul (fsub (fmul (fadd x2 z2) (fadd x2 z2)) (fmul (fsub x2 z2) (fsub x2 z2))) (fadd (fmul (fadd x2 z2) (fadd x2 z2)) (fmul 121665 (fsub (fmul (fadd x2 z2) (fadd x2 z2)) (fmul (fsub x2 z2) (fsub x2 z2))))), fmul (fadd (fmul (fsub x3 z3) (fadd x2 z2)) (fmul (fadd x3 z3) (fsub x2 z2))) (fadd (fmul (fsub x3 z3) (fadd x2 z2)) (fmul (fadd x3 z3) (fsub x2 z2))), fmul x1 (fmul (fsub (fmul (fsub x3 z3) (fadd x2 z2)) (fmul (fadd x3 z3) (fsub x2 z2))) (fsub (fmul (fsub x3 z3) (fadd x2 z2)) (fmul (fadd x3 z3) (fsub x2 z2))))⟩) (by rfl) rfl rfl (by rfl) (by kernel_rfl) (by kernel_rfl) (by kernel_rfl) (GL.out _ hR7) (by exact hdEl) (elc_one _) (by simp [lcs, elc, l4]) (by rfl) (fun _ _ _ h => (by cases h)) ?_
  intro Uz hbz hoz
  refine AnyK.done (by kernel_rfl) ?_
  have HL := Lib.hid hbz
  have HWR := Lib.hid ((HWRd.out.then hR7).only hoz)
  have H2 := Lib.hid (hoz.blk (G2.out _ hR7) N2.out)
  have H3 := Lib.hid (hoz.blk (G3.out _ hR7) N3.out)
  have H4 := Lib.hid (hoz.blk (G4.out _ hR7) N4.out)
  have H5 := Lib.hid (hoz.blk (G5.out _ hR7) N5.out)
  have H6 := Lib.hid (hoz.blk (G6.out _ hR7) N6.out)
  have H7 := Lib.hid (hoz.blk (G7.out _ hR7) N7.out)
  have H8 := Lib.hid (hoz.blk (G8.out _ hR7) N8.out)
  have H9 := Lib.hid (hoz.blk (G9.out _ hR7) N9.out)
  have H10 := Lib.hid (hoz.blk (G10.out _ hR7) N10.out)
  clear hbz hoz HBV HWRd GL G2 G3 G4 G5 G6 G7 G8 G9 G10 hR0 hR1 hR2 hR3 hR4 hR5 hR6 hR7
  go_wp2
  go_end0
  exact ⟨rfl, HL.out, HWR.out⟩
end Go.Proofs.YtlbnibmcflmohaaGreat
