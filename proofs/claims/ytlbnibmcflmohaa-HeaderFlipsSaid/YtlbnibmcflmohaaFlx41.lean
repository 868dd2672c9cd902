/- Part of the proof: Lxg. -/
import Derived.Test.YtlbnibmcflmohaaFlx38
namespace Go.Proofs.Ytlbnibmcflmohaa
open Go.RowKit
attribute [local go_sem ↓] ldq_el
set_option maxRecDepth 100000 in
set_option maxHeartbeats 4000000 in
theorem lex_any (gl : Nat) (t : TypeId) (x1 x2 z2 x3 z3 : Nat) (w : World) (h : Blk w gl t (lcs x1 ⟨x2, z2, x3, z3⟩)) :
    Calls Try.prog 52 #[.pointer (some ⟨gl, 0, none⟩)] w fun e w' => e = .returned (.tuple #[]) ∧ Blk w' gl t (lcs x1 ⟨x3, z3, x2, z2⟩) ∧ Wrote gl w w' := by
  have HL := Lib.hid h
  have HWR := Lib.hid (Wrote.refl w gl)
  clear h
  go_enter Try.func52, Try.ntmps52
  go_wp2
  refine region_K (by kernel_rfl) 22 (fun w' => Blk w' gl t (lcs x1 ⟨x2, z2, x3, z3⟩)) ?_
  obtain ⟨V, hV⟩ : ∃ V, V = { w with drawn := w.drawn + 1 } := ⟨_, rfl⟩
  rw [← hV]
  have hT : Blk V gl t (lcs x1 ⟨x2, z2, x3, z3⟩) := hV ▸ HL.out.drew
  have hR : Wrote gl w V := hV ▸ HWR.out.drew
  clear hV
  refine AnyK.pure 0 (v := .pointer (some ⟨gl, 0, none⟩)) rfl (by kernel_rfl) (fun _ _ _ h => h) rfl (fun _ => by kernel_rfl) (fun _ => hT) ?_
  refine AnyK.pure 1 (v := .pointer (some ⟨gl, 0, none⟩)) rfl (by kernel_rfl) (fun _ _ _ h => h) rfl (fun _ => by kernel_rfl) (fun _ => hT) ?_
  refine AnyK.pure 2 (v := .pointer (some ⟨gl, 0, none⟩)) rfl (by kernel_rfl) (fun _ _ _ h => h) rfl (fun _ => by kernel_rfl) (fun _ => hT) ?_
  refine AnyK.pure 3 (v := .pointer (some ⟨gl, 0, none⟩)) rfl (by kernel_rfl) (fun _ _ _ h => h) rfl (fun _ => by kernel_rfl) (fun _ => hT) ?_
  refine AnyK.pure 4 (v := .pointer (some ⟨gl, 0, none⟩)) rfl (by kernel_rfl) (fun _ _ _ h => h) rfl (fun _ => by kernel_rfl) (fun _ => hT) ?_
  refine AnyK.pure 5 (v := .pointer (some ⟨gl, 0, none⟩)) rfl (by kernel_rfl) (fun _ _ _ h => h) rfl (fun _ => by kernel_rfl) (fun _ => hT) ?_
  refine AnyK.pure 6 (v := .pointer (some ⟨gl, 12, none⟩)) rfl (by kernel_rfl) (fun _ _ _ h => h) rfl (fun _ => by kernel_rfl) (fun _ => hT) ?_
  refine AnyK.load 7 (v := .agg (elc x3).toArray) rfl (by kernel_rfl) (by kernel_rfl) (by kernel_rfl) (fun _ _ _ h => h) rfl (fun w' hw' => ey_loadR (x := .tmp 8) (by rfl) (by kernel_rfl) (el_mid hw' 12 x3 rfl)) hT ?_
  refine AnyK.pure 8 (v := .pointer (some ⟨gl, 0, none⟩)) rfl (by kernel_rfl) (fun _ _ _ h => h) rfl (fun _ => by kernel_rfl) (fun _ => hT) ?_
  refine AnyK.pure 9 (v := .pointer (some ⟨gl, 0, none⟩)) rfl (by kernel_rfl) (fun _ _ _ h => h) rfl (fun _ => by kernel_rfl) (fun _ => hT) ?_
  refine AnyK.pure 10 (v := .pointer (some ⟨gl, 16, none⟩)) rfl (by kernel_rfl) (fun _ _ _ h => h) rfl (fun _ => by kernel_rfl) (fun _ => hT) ?_
  refine AnyK.load 11 (v := .agg (elc z3).toArray) rfl (by kernel_rfl) (by kernel_rfl) (by kernel_rfl) (fun _ _ _ h => h) rfl (fun w' hw' => ey_loadR (x := .tmp 12) (by rfl) (by kernel_rfl) (el_mid hw' 16 z3 rfl)) hT ?_
  refine AnyK.pure 12 (v := .pointer (some ⟨gl, 0, none⟩)) rfl (by kernel_rfl) (fun _ _ _ h => h) rfl (fun _ => by kernel_rfl) (fun _ => hT) ?_
  refine AnyK.pure 13 (v := .pointer (some ⟨gl, 0, none⟩)) rfl (by kernel_rfl) (fun _ _ _ h => h) rfl (fun _ => by kernel_rfl) (fun _ => hT) ?_
  refine AnyK.pure 14 (v := .pointer (some ⟨gl, 4, none⟩)) rfl (by kernel_rfl) (fun _ _ _ h => h) rfl (fun _ => by kernel_rfl) (fun _ => hT) ?_
  refine AnyK.load 15 (v := .agg (elc x2).toArray) rfl (by kernel_rfl) (by kernel_rfl) (by kernel_rfl) (fun _ _ _ h => h) rfl (fun w' hw' => ey_loadR (x := .tmp 16) (by rfl) (by kernel_rfl) (el_mid hw' 4 x2 rfl)) hT ?_
  refine AnyK.pure 16 (v := .pointer (some ⟨gl, 0, none⟩)) rfl (by kernel_rfl) (fun _ _ _ h => h) rfl (fun _ => by kernel_rfl) (fun _ => hT) ?_
  refine AnyK.pure 17 (v := .pointer (some ⟨gl, 0, none⟩)) rfl (by kernel_rfl) (fun _ _ _ h => h) rfl (fun _ => by kernel_rfl) (fun _ => hT) ?_
  refine AnyK.pure 18 (v := .pointer (some ⟨gl, 8, none⟩)) rfl (by kernel_rfl) (fun _ _ _ h => h) rfl (fun _ => by kernel_rfl) (fun _ => hT) ?_
  refine AnyK.load 19 (v := .agg (elc z2).toArray) rfl (by kernel_rfl) (by kernel_rfl) (by kernel_rfl) (fun _ _ _ h => h) rfl (fun w' hw' => ey_loadR (x := .tmp 20) (by rfl) (by kernel_rfl) (el_mid hw' 8 z2 rfl)) hT ?_
  refine AnyK.pure 20 (v := .pointer (some ⟨gl, 0, none⟩)) rfl (by kernel_rfl) (fun _ _ _ h => h) rfl (fun _ => by kernel_rfl) (fun _ => hT) ?_
  refine AnyK.pure 21 (v := .pointer (some ⟨gl, 4, none⟩)) rfl (by kernel_rfl) (fun _ _ _ h => h) rfl (fun _ => by kernel_rfl) (fun _ => hT) ?_
  refine AnyK.storeAt 22 gl 4 (elc x3) t (lcs x1 ⟨x2, z2, x3, z3⟩) (lcs x1 ⟨x3, z2, x3, z3⟩) (by rfl) rfl rfl (by rfl) (by kernel_rfl) (by kernel_rfl) (by kernel_rfl) hT (by exact hdEl) (elc_one _) (by simp [lcs, elc, l4]) (by rfl) (fun _ _ _ h => (by cases h)) ?_
  intro V0 hb0 ho0
  have hR := hR.only ho0
  refine AnyK.pure 23 (v := .pointer (some ⟨gl, 0, none⟩)) rfl (by kernel_rfl) (fun _ _ _ h => h) rfl (fun _ => by kernel_rfl) (fun h => (by cases h)) ?_
  refine AnyK.pure 24 (v := .pointer (some ⟨gl, 8, none⟩)) rfl (by kernel_rfl) (fun _ _ _ h => h) rfl (fun _ => by kernel_rfl) (fun h => (by cases h)) ?_
  refine AnyK.storeAt 25 gl 8 (elc z3) t (lcs x1 ⟨x3, z2, x3, z3⟩) (lcs x1 ⟨x3, z3, x3, z3⟩) (by rfl) rfl rfl (by rfl) (by kernel_rfl) (by kernel_rfl) (by kernel_rfl) hb0 (by exact hdEl) (elc_one _) (by simp [lcs, elc, l4]) (by rfl) (fun _ _ _ h => (by cases h)) ?_
  intro V1 hb1 ho1
  have hR := hR.only ho1
  refine AnyK.pure 26 (v := .pointer (some ⟨gl, 0, none⟩)) rfl (by kernel_rfl) (fun _ _ _ h => h) rfl (fun _ => by kernel_rfl) (fun h => (by cases h)) ?_
  refine AnyK.pure 27 (v := .pointer (some ⟨gl, 12, none⟩)) rfl (by kernel_rfl) (fun _ _ _ h => h) rfl (fun _ => by kernel_rfl) (fun h => (by cases h)) ?_
  refine AnyK.storeAt 28 gl 12 (elc x2) t (lcs x1 ⟨x3, z3, x3, z3⟩) (lcs x1 ⟨x3, z3, x2, z3⟩) (by rfl) rfl rfl (by rfl) (by kernel_rfl) (by kernel_rfl) (by kernel_rfl) hb1 (by exact hdEl) (elc_one _) (by simp [lcs, elc, l4]) (by rfl) (fun _ _ _ h => (by cases h)) ?_
  intro V2 hb2 ho2
  have hR := hR.only ho2
  refine AnyK.pure 29 (v := .pointer (some ⟨gl, 0, none⟩)) rfl (by kernel_rfl) (fun _ _ _ h => h) rfl (fun _ => by kernel_rfl) (fun h => (by cases h)) ?_
  refine AnyK.pure 30 (v := .pointer (some ⟨gl, 16, none⟩)) rfl (by kernel_rfl) (fun _ _ _ h => h) rfl (fun _ => by kernel_rfl) (fun h => (by cases h)) ?_
  refine AnyK.storeAt 31 gl 16 (elc z2) t (lcs x1 ⟨x3, z3, x2, z3⟩) (lcs x1 ⟨x3, z3, x2, z2⟩) (by rfl) rfl rfl (by rfl) (by kernel_rfl) (by kernel_rfl) (by kernel_rfl) hb2 (by exact hdEl) (elc_one _) (by simp [lcs, elc, l4]) (by rfl) (fun _ _ _ h => (by cases h)) ?_
  intro V3 hb3 ho3
  have hR := hR.only ho3
  refine AnyK.done (by kernel_rfl) ?_
  go_wp2
  go_end0
  exact ⟨rfl, hb3, hR⟩
end Go.Proofs.Ytlbnibmcflmohaa
