/- Part of the proof: Ki. -/
import Derived.Test.YtloakenighnfgaaCvx37
set_option linter.unusedVariables false
namespace Go.Proofs.Ytloakenighnfgaa.Tr
open Go.RowKit
@[reducible] def scC (tm li : Int) : List Value := [.int .i64 tm, .int .i64 0, .int .i64 li]
@[reducible] def coC (st cd : Int) : List Value := [.int .i64 0, .int .i64 0, .int .i64 0, .int .i64 st, .int .i64 cd]
section
variable {w w' : World} {cp mp ap : Nat} {l : List (ByteArray × List Value)} {st sk vr cd ls : Int}
set_option maxRecDepth 100000 in
set_option maxHeartbeats 2000000 in
theorem add_r (at_ li : Int) (h : CkS cp mp l 1 2 2 1 ls w) :
    Calls Try.prog 67 #[.pointer (some ⟨cp, 0, none⟩), .agg (coC 33 11).toArray, .int .i64 at_, .agg (scC 1 li).toArray] w fun e w' => e = .returned (.tuple #[]) ∧ CkS cp mp l 34 2 2 12 ls w' ∧ Wr [cp] w w' := by
  have HO := Lib.hid (fun W (h : CkS cp mp l 1 2 2 1 ls W) => ok_k h)
  have HH := Lib.hid h
  have hl1 := h.b.lt
  clear h
  go_enter Try.func67, Try.ntmps67
  go_upto_region 3 with (go_at_call 21; (refine (HO.out _ (by exact (HH.out.alloc _).alloc _)).mono ?_); rintro e w4 ⟨rfl, rfl⟩)
  have HC5 : Hid (CkS cp mp l 1 2 2 1 ls ((w.alloc (.cells (coC 33 11).toArray 143)).alloc (.cells (scC 1 li).toArray 78))) := (HH.out.alloc _).alloc _
  have HL5 : Hid (Blk ((w.alloc (.cells (coC 33 11).toArray 143)).alloc (.cells (scC 1 li).toArray 78)) w.heap.size 143 (coC 33 11) ∧ Blk ((w.alloc (.cells (coC 33 11).toArray 143)).alloc (.cells (scC 1 li).toArray 78)) (w.heap.size + 1) 78 (scC 1 li) ∧ Below w.heap.size w ((w.alloc (.cells (coC 33 11).toArray 143)).alloc (.cells (scC 1 li).toArray 78))) :=
    ⟨(Blk.new _ _ _).alloc _, Blk.new' (by simp) rfl, ((Below.refl w.heap.size w).alloc (Nat.le_refl _) _).alloc (by simp) _⟩
  generalize ((w.alloc (.cells (coC 33 11).toArray 143)).alloc (.cells (scC 1 li).toArray 78)) = w5 at *
  clear HH
  obtain ⟨B1, hB1⟩ : ∃ B1, B1 = w.heap.size := ⟨_, rfl⟩
  obtain ⟨B2, hB2⟩ : ∃ B2, B2 = w.heap.size + 1 := ⟨_, rfl⟩
  rw [← hB2] at HL5
  rw [← hB1] at HL5
  rw [← hB2, ← hB1]
  have n1 : ¬ B1 = cp := by omega
  have n2 : ¬ B2 = cp := by omega
  have c2 : w5.cell? ⟨cp, 2, none⟩ = some (.int .i64 0) := HC5.out.b.cell 2
  have c4 : w5.cell? ⟨cp, 4, none⟩ = some (.int .i64 1) := HC5.out.b.cell 4
  have c6 : w5.cell? ⟨cp, 6, none⟩ = some (.int .i64 0) := HC5.out.b.cell 6
  have c7 : w5.cell? ⟨cp, 7, none⟩ = some (.int .i64 0) := HC5.out.b.cell 7
  have c14 : w5.cell? ⟨cp, 14, none⟩ = some (.int .i64 1) := HC5.out.b.cell 14
  have c10 : w5.cell? ⟨cp, 10, none⟩ = some (.int .i64 2) := HC5.out.b.cell 10
  have c11 : w5.cell? ⟨cp, 11, none⟩ = some (.int .i64 0) := HC5.out.b.cell 11
  have c15 : w5.cell? ⟨cp, 15, none⟩ = some (.int .i64 0) := HC5.out.b.cell 15
  have f2 := HC5.out.b.frozen 2
  have f4 := HC5.out.b.frozen 4
  have f6 := HC5.out.b.frozen 6
  have f7 := HC5.out.b.frozen 7
  have f14 := HC5.out.b.frozen 14
  have k0 : w5.cell? ⟨B1, 0, none⟩ = some (.int .i64 0) := HL5.out.1.cell 0
  have k1 : w5.cell? ⟨B1, 1, none⟩ = some (.int .i64 0) := HL5.out.1.cell 1
  have k2 : w5.cell? ⟨B1, 2, none⟩ = some (.int .i64 0) := HL5.out.1.cell 2
  have k3 : w5.cell? ⟨B1, 3, none⟩ = some (.int .i64 33) := HL5.out.1.cell 3
  have k4 : w5.cell? ⟨B1, 4, none⟩ = some (.int .i64 11) := HL5.out.1.cell 4
  have t0 : w5.cell? ⟨B2, 0, none⟩ = some (.int .i64 1) := HL5.out.2.1.cell 0
  have HB1 := Lib.hid hB1
  clear hB1 hB2 hl1
  go_region
  go_wp2
  go_region
  go_wp2
  go_region
  go_wp2
  go_region
  go_wp2
  go_region
  go_wp2
  go_end0
  have H1 := (((((HC5.out.set (st' := 1) (sk' := 2) (vr' := 2) (cd' := 1) (ls' := ls) 2 (.int .i64 0) rfl).set (st' := 1) (sk' := 2) (vr' := 2) (cd' := 1) (ls' := ls) 6 (.int .i64 0) rfl).set (st' := 1) (sk' := 2) (vr' := 2) (cd' := 1) (ls' := ls) 7 (.int .i64 0) rfl).set (st' := 34) (sk' := 2) (vr' := 2) (cd' := 1) (ls' := ls) 4 (.int .i64 34) rfl).set (st' := 34) (sk' := 2) (vr' := 2) (cd' := 12) (ls' := ls) 14 (.int .i64 12) rfl)
  have hB5 := HL5.out.2.2
  rw [HB1.out] at hB5
  exact ⟨rfl, H1.belo (Below.refl _ _).drew.drew.drew.drew.drew, ((((((Wr.of_below hB5).setCell (by simp) _).setCell (by simp) _).setCell (by simp) _).setCell (by simp) _).setCell (by simp) _).thenb (Below.refl _ _).drew.drew.drew.drew.drew⟩
set_option maxRecDepth 100000 in
set_option maxHeartbeats 2000000 in
theorem add_w (at_ li : Int) (h : CkS cp mp l 34 2 2 12 ls w) :
    Calls Try.prog 67 #[.pointer (some ⟨cp, 0, none⟩), .agg (coC 4 4).toArray, .int .i64 at_, .agg (scC 3 li).toArray] w fun e w' => e = .returned (.tuple #[]) ∧ CkS cp mp l 46 2 2 16 ls w' ∧ Wr [cp] w w' := by
  have HO := Lib.hid (fun W (h : CkS cp mp l 34 2 2 12 ls W) => ok_k h)
  have HH := Lib.hid h
  have hl1 := h.b.lt
  clear h
  go_enter Try.func67, Try.ntmps67
  go_upto_region 3 with (go_at_call 21; (refine (HO.out _ (by exact (HH.out.alloc _).alloc _)).mono ?_); rintro e w4 ⟨rfl, rfl⟩)
  have HC5 : Hid (CkS cp mp l 34 2 2 12 ls ((w.alloc (.cells (coC 4 4).toArray 143)).alloc (.cells (scC 3 li).toArray 78))) := (HH.out.alloc _).alloc _
  have HL5 : Hid (Blk ((w.alloc (.cells (coC 4 4).toArray 143)).alloc (.cells (scC 3 li).toArray 78)) w.heap.size 143 (coC 4 4) ∧ Blk ((w.alloc (.cells (coC 4 4).toArray 143)).alloc (.cells (scC 3 li).toArray 78)) (w.heap.size + 1) 78 (scC 3 li) ∧ Below w.heap.size w ((w.alloc (.cells (coC 4 4).toArray 143)).alloc (.cells (scC 3 li).toArray 78))) :=
    ⟨(Blk.new _ _ _).alloc _, Blk.new' (by simp) rfl, ((Below.refl w.heap.size w).alloc (Nat.le_refl _) _).alloc (by simp) _⟩
  generalize ((w.alloc (.cells (coC 4 4).toArray 143)).alloc (.cells (scC 3 li).toArray 78)) = w5 at *
  clear HH
  obtain ⟨B1, hB1⟩ : ∃ B1, B1 = w.heap.size := ⟨_, rfl⟩
  obtain ⟨B2, hB2⟩ : ∃ B2, B2 = w.heap.size + 1 := ⟨_, rfl⟩
  rw [← hB2] at HL5
  rw [← hB1] at HL5
  rw [← hB2, ← hB1]
  have n1 : ¬ B1 = cp := by omega
  have n2 : ¬ B2 = cp := by omega
  have c2 : w5.cell? ⟨cp, 2, none⟩ = some (.int .i64 0) := HC5.out.b.cell 2
  have c4 : w5.cell? ⟨cp, 4, none⟩ = some (.int .i64 34) := HC5.out.b.cell 4
  have c6 : w5.cell? ⟨cp, 6, none⟩ = some (.int .i64 0) := HC5.out.b.cell 6
  have c7 : w5.cell? ⟨cp, 7, none⟩ = some (.int .i64 0) := HC5.out.b.cell 7
  have c14 : w5.cell? ⟨cp, 14, none⟩ = some (.int .i64 12) := HC5.out.b.cell 14
  have c10 : w5.cell? ⟨cp, 10, none⟩ = some (.int .i64 2) := HC5.out.b.cell 10
  have c11 : w5.cell? ⟨cp, 11, none⟩ = some (.int .i64 0) := HC5.out.b.cell 11
  have c15 : w5.cell? ⟨cp, 15, none⟩ = some (.int .i64 0) := HC5.out.b.cell 15
  have f2 := HC5.out.b.frozen 2
  have f4 := HC5.out.b.frozen 4
  have f6 := HC5.out.b.frozen 6
  have f7 := HC5.out.b.frozen 7
  have f14 := HC5.out.b.frozen 14
  have k0 : w5.cell? ⟨B1, 0, none⟩ = some (.int .i64 0) := HL5.out.1.cell 0
  have k1 : w5.cell? ⟨B1, 1, none⟩ = some (.int .i64 0) := HL5.out.1.cell 1
  have k2 : w5.cell? ⟨B1, 2, none⟩ = some (.int .i64 0) := HL5.out.1.cell 2
  have k3 : w5.cell? ⟨B1, 3, none⟩ = some (.int .i64 4) := HL5.out.1.cell 3
  have k4 : w5.cell? ⟨B1, 4, none⟩ = some (.int .i64 4) := HL5.out.1.cell 4
  have t0 : w5.cell? ⟨B2, 0, none⟩ = some (.int .i64 3) := HL5.out.2.1.cell 0
  have HB1 := Lib.hid hB1
  clear hB1 hB2 hl1
  go_region
  go_wp2
  go_region
  go_wp2
  go_region
  go_wp2
  go_region
  go_wp2
  go_region
  go_wp2
  go_end0
  have H1 := (((((HC5.out.set (st' := 34) (sk' := 2) (vr' := 2) (cd' := 12) (ls' := ls) 2 (.int .i64 0) rfl).set (st' := 34) (sk' := 2) (vr' := 2) (cd' := 12) (ls' := ls) 6 (.int .i64 0) rfl).set (st' := 34) (sk' := 2) (vr' := 2) (cd' := 12) (ls' := ls) 7 (.int .i64 0) rfl).set (st' := 46) (sk' := 2) (vr' := 2) (cd' := 12) (ls' := ls) 4 (.int .i64 46) rfl).set (st' := 46) (sk' := 2) (vr' := 2) (cd' := 16) (ls' := ls) 14 (.int .i64 16) rfl)
  have hB5 := HL5.out.2.2
  rw [HB1.out] at hB5
  exact ⟨rfl, H1.belo (Below.refl _ _).drew.drew.drew.drew.drew, ((((((Wr.of_below hB5).setCell (by simp) _).setCell (by simp) _).setCell (by simp) _).setCell (by simp) _).setCell (by simp) _).thenb (Below.refl _ _).drew.drew.drew.drew.drew⟩
end
end Go.Proofs.Ytloakenighnfgaa.Tr
