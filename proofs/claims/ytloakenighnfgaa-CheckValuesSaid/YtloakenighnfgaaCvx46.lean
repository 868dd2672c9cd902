/- Part of the proof: Kn. -/
import Derived.Test.YtloakenighnfgaaCvx45
set_option linter.unusedVariables false
namespace Go.Proofs.Ytloakenighnfgaa.Tr
open Go.RowKit
attribute [local go_sem ↓] ldq_St
section
variable {w w' : World} {cp mp ap : Nat} {l : List (ByteArray × List Value)} {st sk vr cd ls : Int}
set_option maxRecDepth 100000 in
set_option maxHeartbeats 2000000 in
theorem bodies_w (b off cA : Nat) (p : StA) (tm li : Int) (apv : Value) :
    Calls Try.prog 68 #[.pointer (some ⟨cp, 0, none⟩), .agg (stW b off cA p).toArray, .agg (scC tm li).toArray, apv] w fun e w' => e = .returned (.tuple #[]) ∧ Below w.heap.size w w' := by
  go_enter Try.func68, Try.ntmps68
  go_wp2
  go_end0
  exact ⟨rfl, ((Below.refl w.heap.size w).alloc (Nat.le_refl _) _).alloc (by simp) _⟩
theorem CkS.onlyM {l' : List (ByteArray × List Value)} (h : CkS cp mp l st sk vr cd ls w) (ho : Only w w' mp) (hm : MapB w' mp l') : CkS cp mp l' st sk vr cd ls w' := ⟨ho.blk h.b h.ne, hm, h.ne⟩
theorem mx02 (ts : Array TypeId) (t : TypeId) (W : World) : (Builtin.max_ ts t #[.int .i64 0, .int .i64 2]).run Try.prog W = .ok (.int .i64 2) W := by simp [Builtin.max_, Builtin.max2]
set_option maxRecDepth 100000 in
set_option maxHeartbeats 2000000 in
theorem bodies_r (p : StA) (h : CkS cp mp [] 34 2 2 12 1 w) (ha : Blk w ap 92 (acC 5 0 0 none 0 0 3 1 none 0 0)) (h1 : ap ≠ cp) (h2 : ap ≠ mp)
    (K : ∀ W, Wr [cp, mp, ap] w W → CkS cp mp [(sI, enI)] 34 2 2 12 1 W → Calls Try.prog 22 #[.pointer (some ⟨cp, 0, none⟩), .slice p.y.1 1 p.y.2, .agg (scC 3 1).toArray] W fun e w' => ∃ A c, e = .returned (.slice A 1 c) ∧ CkS cp mp [(sI, enI)] 46 2 2 16 2 w' ∧ Wr [cp, mp] W w') :
    Calls Try.prog 68 #[.pointer (some ⟨cp, 0, none⟩), .agg (stR p).toArray, .agg (scC 1 1).toArray, .pointer (some ⟨ap, 0, none⟩)] w fun e w' => e = .returned (.tuple #[]) ∧ CkS cp mp [] 46 2 2 16 2 w' ∧ (∃ A c, Blk w' ap 92 (acC 5 0 0 none 0 0 3 1 A 1 c)) ∧ Wr [cp, mp, ap] w w' := by
  have HK := Lib.hid K
  have HH := Lib.hid h
  have HA := Lib.hid ha
  have hl1 := h.b.lt
  have hl2 := h.m.lt
  have hl3 := ha.lt
  have hne := h.ne
  have hmx := mx02
  have a4 : w.cell? ⟨ap, 4, none⟩ = some (.int .i64 3) := ha.cell 4
  clear h ha K
  go_enter Try.func68, Try.ntmps68
  go_upto_region 4 with fail
  have HC5 : Hid (CkS cp mp [] 34 2 2 12 1 (((w.alloc (.cells (stR p).toArray 105)).alloc (.cells (scC 1 1).toArray 78)).alloc (.cells (vlC 0 2 0 0 none 0 0).toArray 109))) := ((HH.out.alloc _).alloc _).alloc _
  have HA5 : Hid (Blk (((w.alloc (.cells (stR p).toArray 105)).alloc (.cells (scC 1 1).toArray 78)).alloc (.cells (vlC 0 2 0 0 none 0 0).toArray 109)) ap 92 (acC 5 0 0 none 0 0 3 1 none 0 0)) := ((HA.out.alloc _).alloc _).alloc _
  have HL5 : Hid (Blk (((w.alloc (.cells (stR p).toArray 105)).alloc (.cells (scC 1 1).toArray 78)).alloc (.cells (vlC 0 2 0 0 none 0 0).toArray 109)) w.heap.size 105 (stR p) ∧ Blk (((w.alloc (.cells (stR p).toArray 105)).alloc (.cells (scC 1 1).toArray 78)).alloc (.cells (vlC 0 2 0 0 none 0 0).toArray 109)) (w.heap.size + 1) 78 (scC 1 1) ∧ Blk (((w.alloc (.cells (stR p).toArray 105)).alloc (.cells (scC 1 1).toArray 78)).alloc (.cells (vlC 0 2 0 0 none 0 0).toArray 109)) (w.heap.size + 2) 109 (vlC 0 2 0 0 none 0 0) ∧ Below w.heap.size w (((w.alloc (.cells (stR p).toArray 105)).alloc (.cells (scC 1 1).toArray 78)).alloc (.cells (vlC 0 2 0 0 none 0 0).toArray 109))) :=
    ⟨((Blk.new _ _ _).alloc _).alloc _, (Blk.new' (by simp) rfl).alloc _, Blk.new' (by simp) rfl, (((Below.refl w.heap.size w).alloc (Nat.le_refl _) _).alloc (by simp) _).alloc (by simp; omega) _⟩
  generalize (((w.alloc (.cells (stR p).toArray 105)).alloc (.cells (scC 1 1).toArray 78)).alloc (.cells (vlC 0 2 0 0 none 0 0).toArray 109)) = w5 at *
  clear HH HA a4
  have c1 : w5.cell? ⟨cp, 1, none⟩ = some (.map (some mp)) := HC5.out.b.cell 1
  have s2 : w5.cell? ⟨w.heap.size, 2, none⟩ = some (.string sI) := HL5.out.1.cell 2
  have a5 : w5.cell? ⟨ap, 5, none⟩ = some (.int .i64 1) := HA5.out.cell 5
  have t1 : w5.cell? ⟨w.heap.size + 1, 1, none⟩ = some (.int .i64 0) := HL5.out.2.1.cell 1
  obtain ⟨z0, z1, z2, z3, z4, z5, z6⟩ := seven HL5.out.2.2.1
  obtain ⟨w6, hmu, hm6, ho6⟩ := run_updateM (P := Try.prog) map_kt str_ut (show MapB w5.drew mp [] from HC5.out.m) sI enI
  have HM6 := Lib.hid (And.intro hm6 ho6)
  clear hm6 ho6
  go_region
  have HC6 : Hid (CkS cp mp [(sI, enI)] 34 2 2 12 1 w6) := (HC5.out.belo (Below.refl _ _).drew).onlyM HM6.out.2 HM6.out.1
  have HA6 : Hid (Blk w6 ap 92 (acC 5 0 0 none 0 0 3 1 none 0 0)) := HM6.out.2.blk HA5.out.drew h2
  have HL6 : Hid (Blk w6 w.heap.size 105 (stR p) ∧ Blk w6 (w.heap.size + 1) 78 (scC 1 1) ∧ Wr [cp, mp, ap] w w6) :=
    ⟨HM6.out.2.blk HL5.out.1.drew (by omega), HM6.out.2.blk HL5.out.2.1.drew (by omega), (Wr.of_below HL5.out.2.2.2.drew).trans (Wr.onlyg HM6.out.2 (by simp))⟩
  clear HC5 HA5 HL5 HM6 hmu c1 s2 a5 t1 z0 z1 z2 z3 z4 z5 z6
  have t0 : w6.cell? ⟨w.heap.size + 1, 0, none⟩ = some (.int .i64 1) := HL6.out.2.1.cell 0
  have g0 := HL6.out.2.1.frozen 0
  have a4 : w6.cell? ⟨ap, 4, none⟩ = some (.int .i64 3) := HA6.out.cell 4
  go_wp2
  go_region
  have HO7 : Hid (Only w6 (w6.setCell ⟨w.heap.size + 1, 0, none⟩ (.int .i64 3)).drew (w.heap.size + 1)) := ((Only.refl w6 _).setCell 0 _).drewN 1
  have HL7 : Hid (Blk (w6.setCell ⟨w.heap.size + 1, 0, none⟩ (.int .i64 3)).drew w.heap.size 105 (stR p) ∧ Blk (w6.setCell ⟨w.heap.size + 1, 0, none⟩ (.int .i64 3)).drew (w.heap.size + 1) 78 (scC 3 1) ∧ Wr [cp, mp, ap] w (w6.setCell ⟨w.heap.size + 1, 0, none⟩ (.int .i64 3)).drew) :=
    ⟨HO7.out.blk HL6.out.1 (by omega), (HL6.out.2.1.set_ 0 _).drew, HL6.out.2.2.thenb (HO7.out.below (Below.refl _ _) (by omega) (by have := HL6.out.2.2.size; omega))⟩
  generalize (w6.setCell ⟨w.heap.size + 1, 0, none⟩ (.int .i64 3)).drew = w7 at *
  have HC7 := Lib.hid (HC6.out.only HO7.out (by omega) (by omega))
  have HA7 := Lib.hid (HO7.out.blk HA6.out (by omega))
  clear HC6 HA6 HL6 HO7 t0 g0 a4
  have t0 : w7.cell? ⟨w.heap.size + 1, 0, none⟩ = some (.int .i64 3) := HL7.out.2.1.cell 0
  have t1 : w7.cell? ⟨w.heap.size + 1, 1, none⟩ = some (.int .i64 0) := HL7.out.2.1.cell 1
  have t2 : w7.cell? ⟨w.heap.size + 1, 2, none⟩ = some (.int .i64 1) := HL7.out.2.1.cell 2
  have s24 : w7.cell? ⟨w.heap.size, 24, none⟩ = some (.slice p.y.1 1 p.y.2) := HL7.out.1.cell 24
  go_upto_region 7 with (first
    | (go_at_call 22; (refine (HK.out _ (by exact HL7.out.2.2) (by exact HC7.out)).mono ?_); rintro e w8 ⟨A8, c8, rfl, hc8, hW8⟩
       have HC8 := Lib.hid hc8
       have HA8 : Hid (Blk w8 ap 92 (acC 5 0 0 none 0 0 3 1 none 0 0)) := (hW8.block ap HA7.out.lt (by simp; omega)).trans HA7.out
       have HL8 : Hid (Blk w8 w.heap.size 105 (stR p) ∧ Wr [cp, mp, ap] w w8) := ⟨(hW8.block w.heap.size HL7.out.1.lt (by simp; omega)).trans HL7.out.1, HL7.out.2.2.trans (hW8.mono (by simp))⟩
       have a10 : w8.cell? ⟨ap, 10, none⟩ = some (.slice none 0 0) := HA8.out.cell 10
       have g10 := HA8.out.frozen 10
       clear hc8 hW8 t0 t1 t2 s24))
  have HC9 : Hid (CkS cp mp [(sI, enI)] 46 2 2 16 2 (w8.setCell ⟨ap, 10, none⟩ (.slice A8 1 c8))) := HC8.out.only ((Only.refl w8 ap).setCell 10 _) (by omega) (by omega)
  have HA9 : Hid (Blk (w8.setCell ⟨ap, 10, none⟩ (.slice A8 1 c8)) ap 92 (acC 5 0 0 none 0 0 3 1 A8 1 c8)) := HA8.out.set_ 10 _
  have HL9 : Hid (Blk (w8.setCell ⟨ap, 10, none⟩ (.slice A8 1 c8)) w.heap.size 105 (stR p) ∧ Wr [cp, mp, ap] w (w8.setCell ⟨ap, 10, none⟩ (.slice A8 1 c8))) := ⟨HL8.out.1.far (by show w.heap.size ≠ ap; omega) _, HL8.out.2.setCell (by simp) _⟩
  generalize w8.setCell ⟨ap, 10, none⟩ (.slice A8 1 c8) = w9 at *
  clear HC7 HA7 HL7 HC8 HA8 HL8 a10 g10
  have c1 : w9.cell? ⟨cp, 1, none⟩ = some (.map (some mp)) := HC9.out.b.cell 1
  have s2 : w9.cell? ⟨w.heap.size, 2, none⟩ = some (.string sI) := HL9.out.1.cell 2
  obtain ⟨wd, hmd, hmm, hod⟩ := run_deleteM (P := Try.prog) map_kt str_ut (show MapB w9.drew mp [(sI, enI)] from HC9.out.m) sI (0 : Nat) 9
  have HM := Lib.hid (And.intro hmm hod)
  clear hmm hod
  go_region
  have HC10 : Hid (CkS cp mp [] 46 2 2 16 2 wd) := (HC9.out.belo (Below.refl _ _).drew).onlyM HM.out.2 HM.out.1
  have HA10 : Hid (Blk wd ap 92 (acC 5 0 0 none 0 0 3 1 A8 1 c8)) := HM.out.2.blk HA9.out.drew h2
  have HL10 : Hid (Wr [cp, mp, ap] w wd) := (HL9.out.2.thenb ((Below.refl _ _).drew)).trans (Wr.onlyg HM.out.2 (by simp))
  clear HC9 HA9 HL9 HM hmd c1 s2
  go_wp2
  first | go_end0 | refine bodyPost_ret (results_none rfl _ _ _) rfl ?_
  exact ⟨rfl, HC10.out, ⟨A8, c8, HA10.out⟩, HL10.out⟩
end
end Go.Proofs.Ytloakenighnfgaa.Tr
