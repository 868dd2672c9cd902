/- Part of the proof: Kh. -/
import Derived.Test.YtloakenighnfgaaCvx43
set_option linter.unusedVariables false
namespace Go.Proofs.Ytloakenighnfgaa.Tr
open Go.RowKit
attribute [local go_sem ↓] ldq_St
@[reducible] def acC (kd dop dk : Int) (A : Option Addr) (n c : Nat) (ct vr : Int) (B : Option Addr) (m c2 : Nat) : List Value := [.int .i64 kd, .int .i64 dop, .int .i64 dk, .slice A n c, .int .i64 ct, .int .i64 vr, .slice none 0 0, .slice none 0 0, .int .i64 (-1), .int .i64 0, .slice B m c2, .slice none 0 0]
@[reducible] def stR (p : StA) : List Value := [.string k_repeat, .int .i64 0, .string sI, .int .i64 7, .string k_number, .int .i64 3, .string zs, .int .i64 9, .slice p.a.1 0 p.a.2, .string zs, .int .i64 0, .string zs, .int .i64 0, .slice p.b.1 0 p.b.2, .string zs, .int .i64 0, .string zs, .int .i64 0, .slice p.c.1 0 p.c.2, .slice p.r.1 0 p.r.2, .string zs, .int .i64 0, .string zs, .int .i64 0, .slice p.y.1 1 p.y.2, .slice p.z.1 0 p.z.2]
section
variable {w w' : World} {cp mp ap : Nat} {l : List (ByteArray × List Value)} {st sk vr cd ls : Int}
theorem coC_one (a b : Int) : ∀ v ∈ coC a b, v.oneCell' = true := by
  intro v hv
  simp only [coC, List.mem_cons, List.not_mem_nil, or_false] at hv
  rcases hv with rfl | rfl | rfl | rfl | rfl <;> rfl
set_option maxRecDepth 100000 in
set_option maxHeartbeats 2000000 in
theorem repeat_c (p : StA) (tm li : Int) (h : CkS cp mp [] st 1 1 cd ls w) (ha : Blk w ap 92 (acC 0 0 0 none 0 0 0 0 none 0 0)) (h1 : ap ≠ cp) (h2 : ap ≠ mp) :
    Calls Try.prog 65 #[.pointer (some ⟨cp, 0, none⟩), .agg (stR p).toArray, .agg (scC tm li).toArray, .pointer (some ⟨ap, 0, none⟩)] w fun e w' => e = .returned (.agg (coC 33 11).toArray) ∧ CkS cp mp [] st 2 2 cd ls w' ∧ Blk w' ap 92 (acC 5 0 0 none 0 0 3 1 none 0 0) ∧ Wr [cp, ap] w w' := by
  have HCT := Lib.hid (fun W (h : CkS cp mp [] st 2 1 cd ls W) => count_c p.a.1 p.a.2 tm li h)
  have HV := Lib.hid (fun W (h : CkS cp mp [] st 2 1 cd ls W) => variable_c h)
  have HH := Lib.hid h
  have HA := Lib.hid ha
  have hl1 := h.b.lt
  have hl2 := h.m.lt
  have hl3 := ha.lt
  have hne := h.ne
  clear h ha
  go_enter Try.func65, Try.ntmps65
  go_upto_region 1 with fail
  have HC5 : Hid (CkS cp mp [] st 1 1 cd ls (((w.alloc (.cells (stR p).toArray 105)).alloc (.cells (scC tm li).toArray 78)).alloc (.cells (coC 0 0).toArray 143))) := ((HH.out.alloc _).alloc _).alloc _
  have HA5 : Hid (Blk (((w.alloc (.cells (stR p).toArray 105)).alloc (.cells (scC tm li).toArray 78)).alloc (.cells (coC 0 0).toArray 143)) ap 92 (acC 0 0 0 none 0 0 0 0 none 0 0)) := ((HA.out.alloc _).alloc _).alloc _
  have HL5 : Hid (Blk (((w.alloc (.cells (stR p).toArray 105)).alloc (.cells (scC tm li).toArray 78)).alloc (.cells (coC 0 0).toArray 143)) w.heap.size 105 (stR p) ∧ Blk (((w.alloc (.cells (stR p).toArray 105)).alloc (.cells (scC tm li).toArray 78)).alloc (.cells (coC 0 0).toArray 143)) (w.heap.size + 1) 78 (scC tm li) ∧ Blk (((w.alloc (.cells (stR p).toArray 105)).alloc (.cells (scC tm li).toArray 78)).alloc (.cells (coC 0 0).toArray 143)) (w.heap.size + 2) 143 (coC 0 0) ∧ Below w.heap.size w (((w.alloc (.cells (stR p).toArray 105)).alloc (.cells (scC tm li).toArray 78)).alloc (.cells (coC 0 0).toArray 143))) :=
    ⟨((Blk.new _ _ _).alloc _).alloc _, (Blk.new' (by simp) rfl).alloc _, Blk.new' (by simp) rfl, (((Below.refl w.heap.size w).alloc (Nat.le_refl _) _).alloc (by simp) _).alloc (by simp; omega) _⟩
  generalize ((w.alloc (.cells (stR p).toArray 105)).alloc (.cells (scC tm li).toArray 78)).alloc (.cells (coC 0 0).toArray 143) = w5 at *
  clear HH HA
  have c5 : w5.cell? ⟨cp, 5, none⟩ = some (.int .i64 1) := HC5.out.b.cell 5
  have c1 : w5.cell? ⟨cp, 1, none⟩ = some (.map (some mp)) := HC5.out.b.cell 1
  have f5 := HC5.out.b.frozen 5
  have a0 : w5.cell? ⟨ap, 0, none⟩ = some (.int .i64 0) := HA5.out.cell 0
  have g0 := HA5.out.frozen 0
  have s2 : w5.cell? ⟨w.heap.size, 2, none⟩ = some (.string sI) := HL5.out.1.cell 2
  have hmx : max (1 : Int) 2 = 2 := rfl
  have n1 : ¬ w.heap.size = cp := by omega
  have n2 : ¬ w.heap.size = ap := by omega
  have n3 : ¬ cp = ap := by omega
  have n4 : ¬ ap = cp := by omega
  go_wp2
  have HC6 : Hid (CkS cp mp [] st 2 1 cd ls ((w5.setCell ⟨cp, 5, none⟩ (.int .i64 2)).setCell ⟨ap, 0, none⟩ (.int .i64 5))) := (HC5.out.set 5 _ rfl).only ((Only.refl _ ap).setCell 0 _) (by omega) (by omega)
  have HA6 : Hid (Blk ((w5.setCell ⟨cp, 5, none⟩ (.int .i64 2)).setCell ⟨ap, 0, none⟩ (.int .i64 5)) ap 92 (acC 5 0 0 none 0 0 0 0 none 0 0)) := (HA5.out.far (by exact h1) _).set_ 0 _
  have HL6 : Hid (Blk ((w5.setCell ⟨cp, 5, none⟩ (.int .i64 2)).setCell ⟨ap, 0, none⟩ (.int .i64 5)) w.heap.size 105 (stR p) ∧ Blk ((w5.setCell ⟨cp, 5, none⟩ (.int .i64 2)).setCell ⟨ap, 0, none⟩ (.int .i64 5)) (w.heap.size + 1) 78 (scC tm li) ∧ Blk ((w5.setCell ⟨cp, 5, none⟩ (.int .i64 2)).setCell ⟨ap, 0, none⟩ (.int .i64 5)) (w.heap.size + 2) 143 (coC 0 0) ∧ Wr [cp, ap] w ((w5.setCell ⟨cp, 5, none⟩ (.int .i64 2)).setCell ⟨ap, 0, none⟩ (.int .i64 5))) :=
    ⟨(HL5.out.1.far (by show w.heap.size ≠ cp; omega) _).far (by show w.heap.size ≠ ap; omega) _, (HL5.out.2.1.far (by show w.heap.size + 1 ≠ cp; omega) _).far (by show w.heap.size + 1 ≠ ap; omega) _, (HL5.out.2.2.1.far (by show w.heap.size + 2 ≠ cp; omega) _).far (by show w.heap.size + 2 ≠ ap; omega) _, ((Wr.of_below HL5.out.2.2.2).setCell (by simp) _).setCell (by simp) _⟩
  generalize ((w5.setCell ⟨cp, 5, none⟩ (.int .i64 2)).setCell ⟨ap, 0, none⟩ (.int .i64 5)) = w6 at *
  clear HC5 HA5 HL5 c5 c1 f5 a0 g0 s2
  have c1 : w6.cell? ⟨cp, 1, none⟩ = some (.map (some mp)) := HC6.out.b.cell 1
  have s2 : w6.cell? ⟨w.heap.size, 2, none⟩ = some (.string sI) := HL6.out.1.cell 2
  have hlk1 : (Instr.lookup 64 (.map (some mp)) (.string sI) true).run Try.prog w6.drew = .ok (.tuple #[.agg en0.toArray, .bool false]) w6.drew := lk_no (show MapB _ mp _ from HC6.out.m)
  have hlk2 : (Instr.lookup 64 (.map (some mp)) (.string sI) true).run Try.prog (w6.alloc (.cells en0.toArray 113)).drew = .ok (.tuple #[.agg en0.toArray, .bool false]) (w6.alloc (.cells en0.toArray 113)).drew := lk_no (show MapB _ mp _ from HC6.out.m.alloc _)
  have hz6 := HL6.out.2.2.2.size
  have hcl : cp < w6.heap.size := by omega
  have hal : ap < w6.heap.size := by omega
  have hel : w.heap.size < w6.heap.size := HL6.out.1.lt
  have hel1 : w.heap.size + 1 < w6.heap.size := HL6.out.2.1.lt
  go_region
  all_goals (
    have HC7 : Hid (CkS cp mp [] st 2 1 cd ls (w6.alloc (.cells en0.toArray 113)).drew) := (HC6.out.alloc _).belo (Below.refl _ _).drew
    have HA7 : Hid (Blk (w6.alloc (.cells en0.toArray 113)).drew ap 92 (acC 5 0 0 none 0 0 0 0 none 0 0)) := (HA6.out.alloc _).drew
    have HL7 : Hid (Blk (w6.alloc (.cells en0.toArray 113)).drew w.heap.size 105 (stR p) ∧ Blk (w6.alloc (.cells en0.toArray 113)).drew (w.heap.size + 1) 78 (scC tm li) ∧ Blk (w6.alloc (.cells en0.toArray 113)).drew (w.heap.size + 2) 143 (coC 0 0) ∧ Wr [cp, ap] w (w6.alloc (.cells en0.toArray 113)).drew) := ⟨(HL6.out.1.alloc _).drew, (HL6.out.2.1.alloc _).drew, (HL6.out.2.2.1.alloc _).drew, (HL6.out.2.2.2.alloc _).thenb ((Below.refl _ _).drew)⟩
    clear hlk1 hlk2 c1 s2 HC6 HA6 HL6 hcl hal hel hel1 hz6
    generalize (w6.alloc (.cells en0.toArray 113)).drew = w7 at *
    have s4 : w7.cell? ⟨w.heap.size, 4, none⟩ = some (.string k_number) := HL7.out.1.cell 4
    have s5 : w7.cell? ⟨w.heap.size, 5, none⟩ = some (.int .i64 3) := HL7.out.1.cell 5
    have s6 : w7.cell? ⟨w.heap.size, 6, none⟩ = some (.string zs) := HL7.out.1.cell 6
    have s7 : w7.cell? ⟨w.heap.size, 7, none⟩ = some (.int .i64 9) := HL7.out.1.cell 7
    have s8 : w7.cell? ⟨w.heap.size, 8, none⟩ = some (.slice p.a.1 0 p.a.2) := HL7.out.1.cell 8
    have t0 : w7.cell? ⟨w.heap.size + 1, 0, none⟩ = some (.int .i64 tm) := HL7.out.2.1.cell 0
    have t1 : w7.cell? ⟨w.heap.size + 1, 1, none⟩ = some (.int .i64 0) := HL7.out.2.1.cell 1
    have t2 : w7.cell? ⟨w.heap.size + 1, 2, none⟩ = some (.int .i64 li) := HL7.out.2.1.cell 2
    go_wp2_with (first
      | (go_at_call 82; (refine (HCT.out _ (by exact HC7.out)).mono ?_); rintro e w8 ⟨rfl, hB8⟩
         have HC8 := Lib.hid (HC7.out.belo hB8)
         have HA8 := qbl HA7 hB8
         have HL8 : Hid (Blk w8 (w.heap.size + 2) 143 (coC 0 0) ∧ Wr [cp, ap] w w8) := ⟨HL7.out.2.2.1.below hB8 HL7.out.2.2.1.lt, HL7.out.2.2.2.trans (Wr.of_below hB8)⟩
         have a4 : w8.cell? ⟨ap, 4, none⟩ = some (.int .i64 0) := HA8.out.cell 4
         have g4 := HA8.out.frozen 4
         clear hB8 s4 s5 s6 s7 s8 t0 t1 t2)
      | (go_at_call 84; (refine (HV.out _ (by exact HC8.out.only ((Only.refl w8 ap).setCell 4 _) (by omega) (by omega))).mono ?_); rintro e w9 ⟨rfl, hc9, hW9⟩
         have HC9 := Lib.hid hc9
         have HA9 : Hid (Blk w9 ap 92 (acC 5 0 0 none 0 0 3 0 none 0 0)) := (hW9.block ap (by have := HA8.out.lt; simp [World.setCell]; omega) (by simp; omega)).trans (HA8.out.set_ 4 _)
         have HL9 : Hid (Blk w9 (w.heap.size + 2) 143 (coC 0 0) ∧ Wr [cp, ap] w w9) := ⟨(hW9.block (w.heap.size + 2) (by have := HL8.out.1.lt; simp [World.setCell]; omega) (by simp; omega)).trans (HL8.out.1.far (by show w.heap.size + 2 ≠ ap; omega) _), (HL8.out.2.setCell (by simp) _).trans (hW9.mono (by simp))⟩
         have a4 : w9.cell? ⟨ap, 4, none⟩ = some (.int .i64 3) := HA9.out.cell 4
         have a5 : w9.cell? ⟨ap, 5, none⟩ = some (.int .i64 0) := HA9.out.cell 5
         have g5 := HA9.out.frozen 5
         clear hc9 hW9)
      | (refine wpList_store_all rfl 143 (.tmp 8) (.tmp 62) rfl (w.heap.size + 2) (coC 33 11) (by rfl) (by rfl) 143 (coC 0 0) (by exact HL9.out.1.far (by show w.heap.size + 2 ≠ ap; omega) _) hdCo (coC_one _ _) rfl ?_; intro w10_ hb10 ho10))
    have hs9 := HL9.out.2.size
    exact bodyPost_ret (res_c rfl _ (w.heap.size + 2) 143 (coC 33 11) rfl hb10 _ Try.underlying143 rfl hdCo) rfl ⟨rfl, (HC9.out.only ((Only.refl w9 ap).setCell 5 _) (by omega) (by omega)).only ho10 (by omega) (by omega), ho10.blk (HA9.out.set_ 5 _) (by omega), (HL9.out.2.setCell (by simp) _).thenb (ho10.below (Below.refl _ _) (by omega) (by simp [World.setCell]; omega))⟩)
end
end Go.Proofs.Ytloakenighnfgaa.Tr
