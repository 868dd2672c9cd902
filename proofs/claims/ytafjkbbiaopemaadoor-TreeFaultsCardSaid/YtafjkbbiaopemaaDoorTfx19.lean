/- Part of the proof: Ub. -/
import Derived.Test.YtafjkbbiaopemaaDoorTfx18
set_option linter.unusedVariables false
namespace Go.Proofs.YtafjkbbiaopemaaDoor.Tr
open Go.RowKit
section
variable {gp gs : Nat} {A : Option Addr} {n c : Nat} {ts : List Lx.Tok} {s : PS} {w : World}
set_option maxRecDepth 100000 in
set_option maxHeartbeats 1000000 in
theorem tag_c (cx : Cx gp gs A n ts) (h : PSt gp gs A n c ts s w) : Calls Tryd.prog 46 #[.pointer (some ⟨gp, 0, none⟩)] w fun e w' => e = .returned (.agg (rfC (tagP ts s).1).toArray) ∧ PSt gp gs A n c ts (tagP ts s).2 w' ∧ Wr [gp, gs] w w' := by
  have HAL := Lib.hid (fun W (h : PSt gp gs A n c ts s W) => also_c cx h k_as)
  have HH := Lib.hid (h.alloc (.cells #[.string { data := #[] }, .int .i64 0] 35))
  have HE : Hid (Wr [gp, gs] w (w.alloc (.cells #[.string { data := #[] }, .int .i64 0] 35))) := (Wr.refl _ _).alloc _
  have HB : Hid (Blk (w.alloc (.cells #[.string { data := #[] }, .int .i64 0] 35)) w.heap.size 35 [.string { data := #[] }, .int .i64 0]) := Blk.new' rfl rfl
  have HLO := Lib.hid (h.lo cx)
  cases hs : sees ts [k_as] s
  · have HT : Hid (tagP ts s = (zR, s)) := (by show _ = _; unfold tagP; rw [hs]; rfl)
    have hA : alsoP ts k_as s = s := by unfold alsoP; rw [hs]; rfl
    rw [hs, hA] at HAL
    rw [HT.out]
    clear h hs hA
    go_enter Tryd.func46, Tryd.ntmps46
    go_wp2_with (go_at_call 27; (refine (HAL.out _ (by exact HH.out)).mono ?_); rintro e w2 ⟨rfl, h2, hW2⟩
                 have H2 := Lib.hid h2
                 have HE2 := Lib.hid (HE.out.trans hW2)
                 have HB2 : Hid (Blk w2 w.heap.size 35 [.string { data := #[] }, .int .i64 0]) := Blk.wr HB.out hW2 HLO.out (Nat.le_refl _)
                 obtain ⟨z0, z1, f0, f1⟩ := HB2.out.two
                 clear h2 hW2)
    refine bodyPost_ret (res_c rfl _ w.heap.size 35 [.string { data := #[] }, .int .i64 0] rfl (by exact (HB2.out.set_ 0 _).set_ 1 _) _ Tryd.underlying35 rfl hdRf) rfl ⟨rfl, ?_, ?_⟩
    · exact (H2.out.setNew HLO.out (Nat.le_refl _) _).setNew HLO.out (Nat.le_refl _) _
    · exact (HE2.out.setNew (Nat.le_refl _) _).setNew (Nat.le_refl _) _
  · have HT : Hid (tagP ts s = refP ts (nxt s)) := (by show _ = _; unfold tagP; rw [hs]; rfl)
    have hA : alsoP ts k_as s = nxt s := by unfold alsoP; rw [hs]; rfl
    have HRF := Lib.hid (fun W (h : PSt gp gs A n c ts (nxt s) W) => ref_c cx h)
    rw [hs, hA] at HAL
    rw [HT.out]
    generalize (refP ts (nxt s)).1 = R at *
    generalize (refP ts (nxt s)).2 = q at *
    unfold rfC at HRF
    clear h hs hA HT
    go_enter Tryd.func46, Tryd.ntmps46
    go_wp2_with (first
      | (go_at_call 27; (refine (HAL.out _ (by exact HH.out)).mono ?_); rintro e w2 ⟨rfl, h2, hW2⟩
         have H2 := Lib.hid h2
         have HE2 := Lib.hid (HE.out.trans hW2)
         have HB2 : Hid (Blk w2 w.heap.size 35 [.string { data := #[] }, .int .i64 0]) := Blk.wr HB.out hW2 HLO.out (Nat.le_refl _)
         clear h2 hW2)
      | (go_at_call 23; (refine (HRF.out _ (by exact H2.out)).mono ?_); rintro e w3 ⟨rfl, h3, hW3⟩
         have H3 := Lib.hid h3
         have HE3 := Lib.hid (HE2.out.trans hW3)
         have HB3 : Hid (Blk w3 w.heap.size 35 [.string { data := #[] }, .int .i64 0]) := Blk.wr HB2.out hW3 HLO.out (Nat.le_refl _)
         obtain ⟨z0, z1, f0, f1⟩ := HB3.out.two
         clear h3 hW3))
    refine bodyPost_ret (res_c rfl _ w.heap.size 35 [.string R.name, .int .i64 R.at_] rfl (by exact (HB3.out.set_ 0 _).set_ 1 _) _ Tryd.underlying35 rfl hdRf) rfl ⟨rfl, ?_, ?_⟩
    · exact (H3.out.setNew HLO.out (Nat.le_refl _) _).setNew HLO.out (Nat.le_refl _) _
    · exact (HE3.out.setNew (Nat.le_refl _) _).setNew (Nat.le_refl _) _
end
end Go.Proofs.YtafjkbbiaopemaaDoor.Tr
