/- Part of the proof: Kl. -/
import Derived.Test.YtloakenighnfgaaCvx44
set_option linter.unusedVariables false
namespace Go.Proofs.Ytloakenighnfgaa.Tr
open Go.RowKit
attribute [local go_sem ↓] ldq_St
@[reducible] def stW (b off cA : Nat) (p : StA) : List Value := [.string k_wait, .int .i64 13, .string zs, .int .i64 0, .string m_star, .int .i64 0, .string zs, .int .i64 18, .slice (some ⟨b, off, none⟩) 2 cA, .string zs, .int .i64 0, .string zs, .int .i64 0, .slice p.b.1 0 p.b.2, .string zs, .int .i64 0, .string zs, .int .i64 0, .slice p.c.1 0 p.c.2, .slice p.r.1 0 p.r.2, .string zs, .int .i64 0, .string zs, .int .i64 0, .slice p.y.1 0 p.y.2, .slice p.z.1 0 p.z.2]
section
variable {w w' : World} {cp mp ap : Nat} {l : List (ByteArray × List Value)} {st sk vr cd ls : Int}
set_option maxRecDepth 100000 in
set_option maxHeartbeats 2000000 in
theorem pause_c (p : StA) (b off cA : Nat) (B1 : Option Addr) (c1 : Nat) (B2 : Option Addr) (c2 : Nat) (tm li : Int) (h : CkS cp mp [(sI, enI)] st 2 vr cd ls w) (ha : Blk w ap 92 (acC 0 0 0 none 0 0 0 0 none 0 0)) (h1 : ap ≠ cp) (h2 : ap ≠ mp) (hb : b < w.heap.size) (hA : w.rangeAt b off (arM B1 c1 B2 c2)) :
    Calls Try.prog 64 #[.pointer (some ⟨cp, 0, none⟩), .agg (stW b off cA p).toArray, .agg (scC tm li).toArray, .pointer (some ⟨ap, 0, none⟩)] w fun e w' => e = .returned (.agg (coC 4 4).toArray) ∧ CkS cp mp [(sI, enI)] st 2 vr cd ls w' ∧ (∃ g, Blk w' ap 92 (acC 3 4 0 (some ⟨g, 0, none⟩) 2 2 0 0 none 0 0)) ∧ Wr [cp, ap] w w' := by
  have HT := Lib.hid (fun W (h : CkS cp mp [(sI, enI)] st 2 vr cd ls W) (hA : b < W.heap.size ∧ W.rangeAt b off (arM B1 c1 B2 c2)) => ticks_c b off cA B1 c1 B2 c2 tm li h hA.1 hA.2)
  have HH := Lib.hid h
  have HA := Lib.hid ha
  have hl1 := h.b.lt
  have hl2 := h.m.lt
  have hl3 := ha.lt
  have hne := h.ne
  have HAr : Hid (∀ W, Below w.heap.size w W → b < W.heap.size ∧ W.rangeAt b off (arM B1 c1 B2 c2)) := fun W hW => ⟨Nat.lt_of_lt_of_le hb hW.size, range_below hA hW hb⟩
  clear h ha hA
  go_enter Try.func64, Try.ntmps64
  go_upto_region 1 with fail
  have HC5 : Hid (CkS cp mp [(sI, enI)] st 2 vr cd ls (((w.alloc (.cells (stW b off cA p).toArray 105)).alloc (.cells (scC tm li).toArray 78)).alloc (.cells (coC 0 0).toArray 143))) := ((HH.out.alloc _).alloc _).alloc _
  have HA5 : Hid (Blk (((w.alloc (.cells (stW b off cA p).toArray 105)).alloc (.cells (scC tm li).toArray 78)).alloc (.cells (coC 0 0).toArray 143)) ap 92 (acC 0 0 0 none 0 0 0 0 none 0 0)) := ((HA.out.alloc _).alloc _).alloc _
  have HL5 : Hid (Blk (((w.alloc (.cells (stW b off cA p).toArray 105)).alloc (.cells (scC tm li).toArray 78)).alloc (.cells (coC 0 0).toArray 143)) w.heap.size 105 (stW b off cA p) ∧ Blk (((w.alloc (.cells (stW b off cA p).toArray 105)).alloc (.cells (scC tm li).toArray 78)).alloc (.cells (coC 0 0).toArray 143)) (w.heap.size + 1) 78 (scC tm li) ∧ Blk (((w.alloc (.cells (stW b off cA p).toArray 105)).alloc (.cells (scC tm li).toArray 78)).alloc (.cells (coC 0 0).toArray 143)) (w.heap.size + 2) 143 (coC 0 0) ∧ Below w.heap.size w (((w.alloc (.cells (stW b off cA p).toArray 105)).alloc (.cells (scC tm li).toArray 78)).alloc (.cells (coC 0 0).toArray 143))) :=
    ⟨((Blk.new _ _ _).alloc _).alloc _, (Blk.new' (by simp) rfl).alloc _, Blk.new' (by simp) rfl, (((Below.refl w.heap.size w).alloc (Nat.le_refl _) _).alloc (by simp) _).alloc (by simp; omega) _⟩
  generalize ((w.alloc (.cells (stW b off cA p).toArray 105)).alloc (.cells (scC tm li).toArray 78)).alloc (.cells (coC 0 0).toArray 143) = w7 at *
  clear HH HA
  have HR5 := Lib.hid (HAr.out w7 HL5.out.2.2.2)
  have s4 : w7.cell? ⟨w.heap.size, 4, none⟩ = some (.string m_star) := HL5.out.1.cell 4
  have s5 : w7.cell? ⟨w.heap.size, 5, none⟩ = some (.int .i64 0) := HL5.out.1.cell 5
  have s6 : w7.cell? ⟨w.heap.size, 6, none⟩ = some (.string zs) := HL5.out.1.cell 6
  have s7 : w7.cell? ⟨w.heap.size, 7, none⟩ = some (.int .i64 18) := HL5.out.1.cell 7
  have s8 : w7.cell? ⟨w.heap.size, 8, none⟩ = some (.slice (some ⟨b, off, none⟩) 2 cA) := HL5.out.1.cell 8
  have t0 : w7.cell? ⟨w.heap.size + 1, 0, none⟩ = some (.int .i64 tm) := HL5.out.2.1.cell 0
  have t1 : w7.cell? ⟨w.heap.size + 1, 1, none⟩ = some (.int .i64 0) := HL5.out.2.1.cell 1
  have t2 : w7.cell? ⟨w.heap.size + 1, 2, none⟩ = some (.int .i64 li) := HL5.out.2.1.cell 2
  go_upto_region 2 with (first
    | (go_at_call 83; (refine (HT.out _ (by exact HC5.out) (by exact HR5.out)).mono ?_); rintro e w8 ⟨g, rfl, hc8, hW8⟩
       have HC8 := Lib.hid hc8
       have hA8 : Blk w8 ap 92 (acC 0 0 0 none 0 0 0 0 none 0 0) := (hW8.block ap HA5.out.lt (by simp; omega)).trans HA5.out
       have HS8 : Hid (Blk w8 w.heap.size 105 (stW b off cA p)) := (hW8.block w.heap.size HL5.out.1.lt (by simp; omega)).trans HL5.out.1
       have HL8 : Hid (Blk w8 (w.heap.size + 2) 143 (coC 0 0) ∧ Wr [cp, ap] w w8) := ⟨(hW8.block (w.heap.size + 2) HL5.out.2.2.1.lt (by simp; omega)).trans HL5.out.2.2.1, (Wr.of_below HL5.out.2.2.2).trans (hW8.mono (by simp))⟩
       have HA8 := Lib.hid hA8
       clear hc8 hW8 hA8 s4 s5 s6 s7 s8 t0 t1 t2))
  have HC9 : Hid (CkS cp mp [(sI, enI)] st 2 vr cd ls (w8.alloc (.cells (vlC 0 4 4 0 (some ⟨g, 0, none⟩) 2 2).toArray 109))) := HC8.out.alloc _
  have HA9 : Hid (Blk (w8.alloc (.cells (vlC 0 4 4 0 (some ⟨g, 0, none⟩) 2 2).toArray 109)) ap 92 (acC 0 0 0 none 0 0 0 0 none 0 0)) := HA8.out.alloc _
  have HS9 : Hid (Blk (w8.alloc (.cells (vlC 0 4 4 0 (some ⟨g, 0, none⟩) 2 2).toArray 109)) w.heap.size 105 (stW b off cA p)) := HS8.out.alloc _
  have HL9 : Hid (Blk (w8.alloc (.cells (vlC 0 4 4 0 (some ⟨g, 0, none⟩) 2 2).toArray 109)) (w.heap.size + 2) 143 (coC 0 0) ∧ Wr [cp, ap] w (w8.alloc (.cells (vlC 0 4 4 0 (some ⟨g, 0, none⟩) 2 2).toArray 109)) ∧ Blk (w8.alloc (.cells (vlC 0 4 4 0 (some ⟨g, 0, none⟩) 2 2).toArray 109)) w8.heap.size 109 (vlC 0 4 4 0 (some ⟨g, 0, none⟩) 2 2) ∧ ap < w8.heap.size ∧ w.heap.size < w8.heap.size) := ⟨HL8.out.1.alloc _, HL8.out.2.alloc _, Blk.new _ _ _, HA8.out.lt, HS8.out.lt⟩
  generalize w8.alloc (.cells (vlC 0 4 4 0 (some ⟨g, 0, none⟩) 2 2).toArray 109) = w9 at *
  generalize w8.heap.size = B8 at *
  clear HC8 HA8 HL8 HS8
  obtain ⟨z0, z1, z2, z3, z4, z5, z6⟩ := seven HL9.out.2.2.1
  have hs9 : w9.cell? ⟨w.heap.size, 0, none⟩ = some (.string k_wait) := HS9.out.cell 0
  have a0 : w9.cell? ⟨ap, 0, none⟩ = some (.int .i64 0) := HA9.out.cell 0
  have a1 : w9.cell? ⟨ap, 1, none⟩ = some (.int .i64 0) := HA9.out.cell 1
  have a2 : w9.cell? ⟨ap, 2, none⟩ = some (.int .i64 0) := HA9.out.cell 2
  have a3 : w9.cell? ⟨ap, 3, none⟩ = some (.slice none 0 0) := HA9.out.cell 3
  have g0 := HA9.out.frozen 0
  have g1 := HA9.out.frozen 1
  have g2 := HA9.out.frozen 2
  have g3 := HA9.out.frozen 3
  have hx1 : ¬ ap = B8 := by have := HL9.out.2.2.2.1; omega
  have hx2 : ¬ w.heap.size = B8 := by have := HL9.out.2.2.2.2; omega
  have hx3 : ¬ w.heap.size = ap := by omega
  go_upto_region 5 with fail
  have HO10 : Hid (Only w9 ((((w9.setCell ⟨ap, 1, none⟩ (.int .i64 4)).setCell ⟨ap, 2, none⟩ (.int .i64 0)).setCell ⟨ap, 3, none⟩ (.slice (some ⟨g, 0, none⟩) 2 2)).setCell ⟨ap, 0, none⟩ (.int .i64 3)) ap) := ((((Only.refl w9 ap).setCell 1 _).setCell 2 _).setCell 3 _).setCell 0 _
  have HA10 : Hid (Blk ((((w9.setCell ⟨ap, 1, none⟩ (.int .i64 4)).setCell ⟨ap, 2, none⟩ (.int .i64 0)).setCell ⟨ap, 3, none⟩ (.slice (some ⟨g, 0, none⟩) 2 2)).setCell ⟨ap, 0, none⟩ (.int .i64 3)) ap 92 (acC 3 4 0 (some ⟨g, 0, none⟩) 2 2 0 0 none 0 0)) := (((HA9.out.set_ 1 _).set_ 2 _).set_ 3 _).set_ 0 _
  have HW10 : Hid (Wr [cp, ap] w ((((w9.setCell ⟨ap, 1, none⟩ (.int .i64 4)).setCell ⟨ap, 2, none⟩ (.int .i64 0)).setCell ⟨ap, 3, none⟩ (.slice (some ⟨g, 0, none⟩) 2 2)).setCell ⟨ap, 0, none⟩ (.int .i64 3))) := (((HL9.out.2.1.setCell (by simp) _).setCell (by simp) _).setCell (by simp) _).setCell (by simp) _
  generalize ((((w9.setCell ⟨ap, 1, none⟩ (.int .i64 4)).setCell ⟨ap, 2, none⟩ (.int .i64 0)).setCell ⟨ap, 3, none⟩ (.slice (some ⟨g, 0, none⟩) 2 2)).setCell ⟨ap, 0, none⟩ (.int .i64 3)) = w10 at *
  have HC10 := Lib.hid (HC9.out.only HO10.out (by omega) (by omega))
  have HK10 := Lib.hid (HO10.out.blk HL9.out.1 (by omega))
  have hs10 := HW10.out.size
  clear HC9 HA9 HL9 HS9 z0 z1 z2 z3 z4 z5 z6 hs9 a0 a1 a2 a3 g0 g1 g2 g3 HO10
  go_wp2_with (refine wpList_store_all rfl 143 (.tmp 8) (.tmp 34) rfl (w.heap.size + 2) (coC 4 4) (by rfl) (by rfl) 143 (coC 0 0) (by exact HK10.out) hdCo (coC_one _ _) rfl ?_; intro w11 hb11 ho11)
  exact bodyPost_ret (res_c rfl _ (w.heap.size + 2) 143 (coC 4 4) rfl hb11 _ Try.underlying143 rfl hdCo) rfl ⟨rfl, HC10.out.only ho11 (by omega) (by omega), ⟨g, ho11.blk HA10.out (by omega)⟩, HW10.out.thenb (ho11.below (Below.refl _ _) (by omega) hs10)⟩
end
end Go.Proofs.Ytloakenighnfgaa.Tr
