/- Part of the proof: Kj. -/
import Derived.Test.YtloakenighnfgaaCvx41
set_option linter.unusedVariables false
namespace Go.Proofs.Ytloakenighnfgaa.Tr
open Go.RowKit
theorem ldq_Ac (v : Value) : Instr.loadAt 92 v = ldAt 92 v := rfl
attribute [local go_sem ↓] ldq_St ldq_Ac
@[reducible] def acZ : List Value := [.int .i64 0, .int .i64 0, .int .i64 0, .slice none 0 0, .int .i64 0, .int .i64 0, .slice none 0 0, .slice none 0 0, .int .i64 0, .int .i64 0, .slice none 0 0, .slice none 0 0]
theorem w0a : wrap64 (0 + 1) = 0 + 1 := by kernel_rfl
theorem w0b : wrap64 (1 + 1) = 1 + 1 := by kernel_rfl
theorem eAc : ElemIs Try.prog 92 12 176 := ElemIs.of (z := .agg acZ.toArray) (by kernel_rfl) rfl (by omega)
theorem oneAc {cs : List Value} (h : cs.length = 12) : (Try.prog.info? 92).map (fun i => ((i.zero.map (fun z => z.cells.size)), i.size)) = some (some cs.length, cs.length) := by rw [h]; kernel_rfl
section
variable {w w' : World} {cp mp ap : Nat} {l : List (ByteArray × List Value)} {st sk vr cd ls : Int}
theorem CkS.wr (h : CkS cp mp l st sk vr cd ls w) {L : List Nat} (hW : Wr L w w') (h1 : cp ∉ L) (h2 : mp ∉ L) : CkS cp mp l st sk vr cd ls w' := by
  refine ⟨(hW.block cp h.b.lt h1).trans h.b, ?_, h.ne⟩
  obtain ⟨es, ck, h3, h4⟩ := h.m
  exact ⟨es, ck, (hW.block mp h.m.lt h2).trans h3, h4⟩
set_option maxRecDepth 100000 in
set_option maxHeartbeats 4000000 in
theorem stmts_one (cells : List Value) (hcl : cells.length = 26) (hco : ∀ v ∈ cells, v.oneCell' = true) (b off cA : Nat) (tm li : Int) (st' sk' vr' cd' ls' ls1 : Int) (h0 : ls = 0 ∨ ls = 1) (h1 : ls1 = ls + 1) (hb : b < w.heap.size) (hA : w.rangeAt b off cells) (hbc : b ≠ cp) (h : CkS cp mp l st sk vr cd ls w)
    (K : ∀ W, Wr [cp] w W → CkS cp mp l st sk vr cd ls1 W → Calls Try.prog 39 #[.pointer (some ⟨cp, 0, none⟩), .agg cells.toArray, .agg (scC tm ls1).toArray] W fun e w' => ∃ cs : List Value, e = .returned (.agg cs.toArray) ∧ cs.length = 12 ∧ (∀ v ∈ cs, v.oneCell' = true) ∧ CkS cp mp l st' sk' vr' cd' ls' w' ∧ Wr [cp, mp] W w') :
    Calls Try.prog 22 #[.pointer (some ⟨cp, 0, none⟩), .slice (some ⟨b, off, none⟩) 1 cA, .agg (scC tm li).toArray] w fun e w' => ∃ A c, e = .returned (.slice A 1 c) ∧ CkS cp mp l st' sk' vr' cd' ls' w' ∧ Wr [cp, mp] w w' := by
  have HK := Lib.hid K
  have HH := Lib.hid h
  have HO := Lib.hid (fun W (h : CkS cp mp l st' sk' vr' cd' ls' W) => ok_k h)
  have hl1 := h.b.lt
  have hl2 := h.m.lt
  have hne := h.ne
  have HAb : Hid (∀ W, Wr [cp] w W → W.rangeAt b off cells) := fun W hW j u hj => (World.cell?_of_block (a := ⟨b, off + j, none⟩) (hW.block b hb (by simp; omega))).trans (hA j u hj)
  have c6 : w.cell? ⟨cp, 16, none⟩ = some (.int .i64 ls) := h.b.cell 16
  have f6 := h.b.frozen 16
  clear K h hA
  have hx : wrap64 (ls + 1) = ls1 := by subst h1; rcases h0 with rfl | rfl; exact w0a; exact w0b
  clear h0 h1
  go_enter Try.func22, Try.ntmps22
  go_upto_region 4 with fail
  have HC5 : Hid (CkS cp mp l st sk vr cd ls1 ((w.setCell ⟨cp, 16, none⟩ (.int .i64 ls1)).alloc (.cells (scC tm ls1).toArray 78))) := (HH.out.set 16 _ rfl).alloc _
  have HL5 : Hid (Blk ((w.setCell ⟨cp, 16, none⟩ (.int .i64 ls1)).alloc (.cells (scC tm ls1).toArray 78)) w.heap.size 78 (scC tm ls1) ∧ Wr [cp] w ((w.setCell ⟨cp, 16, none⟩ (.int .i64 ls1)).alloc (.cells (scC tm ls1).toArray 78))) := ⟨Blk.new' (by simp [World.setCell]) rfl, ((Wr.refl _ _).setCell (by simp) _).alloc _⟩
  generalize (w.setCell ⟨cp, 16, none⟩ (.int .i64 ls1)).alloc (.cells (scC tm ls1).toArray 78) = w5 at *
  clear HH c6 f6 hx
  go_wp2_with fail
  have HE5 : Hid (∀ W, Wr [cp] w W → (ldAt 105 (.pointer (some ⟨b, off, none⟩))).run Try.prog W = .ok (.agg cells.toArray) W) := fun W hW => run_loadAt_mid W b off 105 cells _ (HAb.out W hW) Try.underlying105 rfl (by rw [hcl]; exact hdSt)
  have HCL := Lib.hid hcl
  have HCO := Lib.hid hco
  have HBW := Lib.hid hb
  clear hcl hco HAb
  go_loopg [7, 25] 1 (fun kk q7 q25 wr => ∃ i : Nat, i ≤ 1 ∧ kk = 1 - i ∧ q25 = .int .i64 (i : Int) ∧ (i = 0 → q7 = .slice none 0 0 ∧ wr = w5) ∧ (i = 1 → ∃ A c, q7 = .slice A 1 c ∧ Hid (CkS cp mp l st' sk' vr' cd' ls' wr ∧ Wr [cp, mp] w wr)))
  case atStart => exact ⟨0, by omega, rfl, rfl, fun _ => ⟨rfl, rfl⟩, fun h => by cases h⟩
  case round =>
    obtain ⟨i, hi, hk, rfl, ha, hb1⟩ := hrel
    rcases (by omega : i = 0 ∨ i = 1) with rfl | rfl
    · obtain ⟨rfl, rfl⟩ := ha rfl
      clear ha hb1 hi
      have hld := HE5.out wr HL5.out.2
      have hl5 := HL5.out.1.lt
      have hbl : b < wr.heap.size := by omega
      go_wp2_with (first
        | (refine wpList_store_all rfl 105 (.tmp 9) (.tmp 28) rfl wr.heap.size cells (by rfl) (by rfl) 105 (stC zT pA0) (by exact Blk.new' rfl rfl) (by rw [HCL.out]; exact hdSt) HCO.out HCL.out ?_
           intro w6 hb6 ho6
           have HS6 : Hid (Blk w6 wr.heap.size 105 cells) := hb6
           have hl6 := ldAt_run hb6 105 0 cells (by simp) _ Try.underlying105 rfl (by rw [HCL.out]; exact hdSt)
           have HB6 : Hid (Below wr.heap.size wr w6) := ho6.below ((Below.refl _ _).alloc (Nat.le_refl _) _) (by omega) (by simp)
           have HL6 := Lib.hid (HL5.out.1.below HB6.out HL5.out.1.lt)
           have t0 : w6.cell? ⟨w.heap.size, 0, none⟩ = some (.int .i64 tm) := HL6.out.cell 0
           have t1 : w6.cell? ⟨w.heap.size, 1, none⟩ = some (.int .i64 0) := HL6.out.cell 1
           have t2 : w6.cell? ⟨w.heap.size, 2, none⟩ = some (.int .i64 ls1) := HL6.out.cell 2
           clear hb6 ho6 hld)
        | (go_at_call 39; (refine (HK.out _ (by exact HL5.out.2.trans (Wr.of_below HB6.out)) (by exact HC5.out.belo HB6.out)).mono ?_); rintro e w7 ⟨cs, rfl, hcs, hone, hck, hW7⟩
           have HC7 := Lib.hid hck
           have HW7 : Hid (Wr [cp, mp] w w7) := ((HL5.out.2.trans (Wr.of_below HB6.out)).mono (by simp)).trans hW7
           have HCS := Lib.hid (And.intro hcs hone)
           clear t0 t1 t2 hl6 hcs hone hck hW7)
        | (refine wpList_store_all rfl 92 (.tmp 10) (.tmp 32) rfl w7.heap.size cs (by rfl) (by rfl) 92 acZ (by exact Blk.new' rfl rfl) (by rw [HCS.out.1]; exact hdAc) HCS.out.2 HCS.out.1 ?_
           intro w8 hb8 ho8
           have hl8 := ldAt_run hb8 92 0 cs (by simp) _ Try.underlying92 rfl (by rw [HCS.out.1]; exact hdAc)
           have HB8 : Hid (Below w7.heap.size w7 w8) := ho8.below ((Below.refl _ _).alloc (Nat.le_refl _) _) (by omega) (by simp)
           have HC8 := Lib.hid (HC7.out.belo HB8.out)
           clear hb8 ho8)
        | (go_at_call 21; (refine (HO.out _ (by exact HC8.out)).mono ?_); rintro e w9 ⟨rfl, rfl⟩)
        | (refine wpList_one1 rfl 37 92 (.tmp 37) rfl cs (by rfl) Try.underlying37 (oneAc HCS.out.1) (by rw [HCS.out.1]; omega) (by rw [HCS.out.1]; omega) ?_)
        | (at_builtin; refine wpList_app rfl (.tmp 36) (.tmp 38) 37 rfl w.heap.size 92 12 176 Try.underlying37 eAc (.slice none 0 0) 0 [] (by rfl) (by exact World.ownsRow_nil _ _ _ _) (some ⟨w8.heap.size, 0, none⟩) 1 1 cs (by rfl) (by exact RdS.new w8 _ cs 12 HCS.out.1) HCS.out.2 (by omega) (by omega) (by have h1 := HW7.out.size; have h2 := HB8.out.size; simp; omega) ?_
           intro A5 c5 w9 hown5 hc5 hg5 hat5
           have HB9 : Hid (Below w8.heap.size w8 w9) := ((Below.refl _ w8).alloc (Nat.le_refl _) _).grown hg5 (by simp) (fun k hk => by cases hk)
           clear hown5 hc5 hg5 hat5))
      go_roundg 0
      case measure => omega
      case rel =>
        have HW8 := HW7.out.thenb (HB8.out.mono HW7.out.size)
        exact ⟨1, by omega, rfl, rfl, (fun h => by cases h), fun _ => ⟨A5, c5, rfl, HC8.out.belo HB9.out, HW8.thenb (HB9.out.mono HW8.size)⟩⟩
    · obtain ⟨A, c, rfl, HF⟩ := hb1 rfl
      clear ha hi hk
      go_wp2_with fail
      go_ret
      exact ⟨⟨A, c, rfl⟩, HF.out.1, HF.out.2⟩
end
end Go.Proofs.Ytloakenighnfgaa.Tr
