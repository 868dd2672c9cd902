/- Part of the proof: Bj. -/
import Derived.Test.YtafjkbbiaopemaaGreatDoorTox40
set_option linter.unusedVariables false
namespace Go.Proofs.YtafjkbbiaopemaaGreatDoor.Tr
open Go.RowKit
section
variable {w w' : World}
set_option maxRecDepth 100000 in
set_option maxHeartbeats 2000000 in
theorem awake22 (w : World) : Calls Tryz.prog 8 #[] w fun e w' => e = .returned (.bool true) ∧ Below w.heap.size w w' := by
  have HP := Lib.hid parse_M
  have HR := Lib.hid (fun W gd od p gb ob ps g off c d cb (h : TrM W.heap.size W gd od p gb ob ps g off c) => print_M (w := W) d cb h)
  go_enter Tryz.func8, Tryz.ntmps8
  go_wp2_with (first
    | (go_at_call 12; (refine (HR.out _ gd od p gb ob ps g off c d cb (by exact HT3.out.2)).mono ?_); rintro e w4 ⟨rfl, hB4⟩)
    | (go_at_call 9; (refine (HP.out _).mono ?_); rintro e w2 ⟨gd, od, d, p, gb, ob, cb, ps, g, off, c, rfl, hT, hB2⟩
       have HT3 : Hid (Below w.heap.size w ((w2.alloc (.cells #[.slice (some ⟨gd, od, none⟩) 1 d, .slice (some ⟨gb, ob, none⟩) 1 cb] 26)).alloc (.cells #[.int .i64 0, .int .i64 0] 29)) ∧ TrM ((w2.alloc (.cells #[.slice (some ⟨gd, od, none⟩) 1 d, .slice (some ⟨gb, ob, none⟩) 1 cb] 26)).alloc (.cells #[.int .i64 0, .int .i64 0] 29)).heap.size ((w2.alloc (.cells #[.slice (some ⟨gd, od, none⟩) 1 d, .slice (some ⟨gb, ob, none⟩) 1 cb] 26)).alloc (.cells #[.int .i64 0, .int .i64 0] 29)) gd od p gb ob ps g off c) :=
         ⟨(hB2.alloc hB2.size _).alloc (by have := hB2.size; simp; omega) _, by
           have h5 := hT.belo (((Below.refl w2.heap.size w2).alloc (Nat.le_refl _) (.cells #[.slice (some ⟨gd, od, none⟩) 1 d, .slice (some ⟨gb, ob, none⟩) 1 cb] 26)).alloc (by simp) (.cells #[.int .i64 0, .int .i64 0] 29))
           exact ⟨⟨by have := h5.d.1; simp; omega, h5.d.2⟩, ⟨by have := h5.s.1; simp; omega, h5.s.2⟩, ⟨by have := h5.r.1; simp; omega, h5.r.2⟩⟩⟩
       have hgb := hT.s.1
       have x1 : w2.cell? ⟨gb, ob + 1, none⟩ = some (.int .i64 8) := hT.s.2 1 _ rfl
       clear hT hB2))
  go_ret
  exact ⟨rfl, HT3.out.1.trans (hB4.mono HT3.out.1.size)⟩
end
end Go.Proofs.YtafjkbbiaopemaaGreatDoor.Tr
