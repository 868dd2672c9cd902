/- Part of the proof: Kg. -/
import Derived.Test.YtloakenighnfgaaCvx36
set_option linter.unusedVariables false
namespace Go.Proofs.Ytloakenighnfgaa.Tr
open Go.RowKit
@[reducible] def exN3 (B : Option Addr) (c0 : Nat) : List Value := [.string k_number, .int .i64 3, .string zs, .int .i64 9, .slice B 0 c0]
theorem seven {W : World} {g : Nat} {t : TypeId} {lo hi op k : Int} {A : Option Addr} {n c : Nat} (h : Blk W g t (vlC lo hi op k A n c)) : W.cell? ⟨g, 0, none⟩ = some (.bool false) ∧ W.cell? ⟨g, 1, none⟩ = some (.slice none 0 0) ∧ W.cell? ⟨g, 2, none⟩ = some (.int .i64 lo) ∧ W.cell? ⟨g, 3, none⟩ = some (.int .i64 hi) ∧ W.cell? ⟨g, 4, none⟩ = some (.int .i64 op) ∧ W.cell? ⟨g, 5, none⟩ = some (.int .i64 k) ∧ W.cell? ⟨g, 6, none⟩ = some (.slice A n c) := ⟨h.cell 0, h.cell 1, h.cell 2, h.cell 3, h.cell 4, h.cell 5, h.cell 6⟩
section
variable {w w' : World} {cp mp : Nat} {l : List (ByteArray × List Value)} {st sk vr cd ls : Int}
set_option maxRecDepth 100000 in
set_option maxHeartbeats 1000000 in
theorem number_3 (B : Option Addr) (c0 : Nat) (h : CkS cp mp l st sk vr cd ls w) :
    Calls Try.prog 38 #[.pointer (some ⟨cp, 0, none⟩), .agg (exN3 B c0).toArray, .bool false, .int .i64 0, .int .i64 0, .int .i64 32] w fun e w' => e = .returned (.agg (vlC 3 3 0 3 none 0 0).toArray) ∧ Below w.heap.size w w' := by
  have HH := Lib.hid h
  clear h
  have HE := Lib.hid (fun W => expr_num (w := W) 3 9 0 false B c0 (.pointer (some ⟨cp, 0, none⟩)) (by decide) (by decide))
  have HZ : Hid (∀ W, Below ((w.alloc (.cells (exN3 B c0).toArray 71)).alloc (.cells (vlC 0 0 0 0 none 0 0).toArray 109)).heap.size ((w.alloc (.cells (exN3 B c0).toArray 71)).alloc (.cells (vlC 0 0 0 0 none 0 0).toArray 109)) W → Blk W (w.heap.size + 1) 109 (vlC 0 0 0 0 none 0 0) ∧ Below w.heap.size w W) := fun W hW =>
    ⟨Blk.below (Blk.new' (by simp) rfl) hW (by simp), ((((Below.refl w.heap.size w).alloc (Nat.le_refl _) _).alloc (by simp) _)).trans (hW.mono (by simp; omega))⟩
  go_enter Try.func38, Try.ntmps38
  go_wp2_with (first
    | (go_at_call 34; (refine (HE.out _).mono ?_); rintro e w2 ⟨rfl, hB2⟩; have HZ2 := Lib.hid (HZ.out _ (by exact hB2)); clear hB2)
    | (refine wpList_store_all rfl 109 (.tmp 12) (.tmp 39) rfl (w.heap.size + 1) (vlC 3 3 0 3 none 0 0) (by rfl) (by rfl) 109 (vlC 0 0 0 0 none 0 0) (by exact HZ2.out.1.alloc _) hdVl (vlC_one _ _ _ _ _ _ _) rfl ?_; intro w9_ hb9 ho9))
  have hB9 : Below w.heap.size w w9_ := ho9.below (HZ2.out.2.alloc HZ2.out.2.size _) (by omega) (by have := HZ2.out.2.size; simp; omega)
  all_goals exact bodyPost_ret (res_c rfl _ (w.heap.size + 1) 109 (vlC 3 3 0 3 none 0 0) rfl hb9 _ Try.underlying109 rfl hdVl) rfl ⟨rfl, hB9⟩
set_option maxRecDepth 100000 in
set_option maxHeartbeats 1000000 in
theorem number_m (b off cA : Nat) (B1 : Option Addr) (c1 : Nat) (B2 : Option Addr) (c2 : Nat) (h : CkS cp mp l st sk vr cd ls w) (hl : l = [(sI, enI)]) (hb : b < w.heap.size) (hA : w.rangeAt b off (arM B1 c1 B2 c2)) :
    Calls Try.prog 38 #[.pointer (some ⟨cp, 0, none⟩), .agg (exM b off cA).toArray, .bool true, .int .i64 0, .int .i64 0, .int .i64 1000000] w fun e w' => ∃ g, e = .returned (.agg (vlC 0 4 4 0 (some ⟨g, 0, none⟩) 2 2).toArray) ∧ Blk w' g 24 nmM ∧ w.heap.size ≤ g ∧ Below w.heap.size w w' := by
  have HH := Lib.hid h
  clear h
  subst hl
  have HE := Lib.hid (fun W (h : CkS cp mp [(sI, enI)] st sk vr cd ls W) (hA : b < W.heap.size ∧ W.rangeAt b off (arM B1 c1 B2 c2)) => expr_mul b off cA B1 c1 B2 c2 h hA.1 hA.2)
  have HA : Hid (b < ((w.alloc (.cells (exM b off cA).toArray 71)).alloc (.cells (vlC 0 0 0 0 none 0 0).toArray 109)).heap.size ∧ ((w.alloc (.cells (exM b off cA).toArray 71)).alloc (.cells (vlC 0 0 0 0 none 0 0).toArray 109)).rangeAt b off (arM B1 c1 B2 c2)) := ⟨by simp; omega, range_below hA (((Below.refl w.heap.size w).alloc (Nat.le_refl _) _).alloc (by simp) _) hb⟩
  clear hA
  have HZ : Hid (∀ W, Below ((w.alloc (.cells (exM b off cA).toArray 71)).alloc (.cells (vlC 0 0 0 0 none 0 0).toArray 109)).heap.size ((w.alloc (.cells (exM b off cA).toArray 71)).alloc (.cells (vlC 0 0 0 0 none 0 0).toArray 109)) W → Blk W (w.heap.size + 1) 109 (vlC 0 0 0 0 none 0 0) ∧ Below w.heap.size w W) := fun W hW =>
    ⟨Blk.below (Blk.new' (by simp) rfl) hW (by simp), ((((Below.refl w.heap.size w).alloc (Nat.le_refl _) _).alloc (by simp) _)).trans (hW.mono (by simp; omega))⟩
  go_enter Try.func38, Try.ntmps38
  go_wp2_with (first
    | (go_at_call 34; (refine (HE.out _ (by exact (HH.out.alloc _).alloc _) (by exact HA.out)).mono ?_); rintro e w2 ⟨g, rfl, hbg, hg, hB2⟩; have HZ2 := Lib.hid (HZ.out _ (by exact hB2)); clear hB2)
    | (refine wpList_store_all rfl 109 (.tmp 12) (.tmp 39) rfl (w.heap.size + 1) (vlC 0 4 4 0 (some ⟨g, 0, none⟩) 2 2) (by rfl) (by rfl) 109 (vlC 0 0 0 0 none 0 0) (by exact HZ2.out.1.alloc _) hdVl (vlC_one _ _ _ _ _ _ _) rfl ?_; intro w9_ hb9 ho9))
  have hB9 : Below w.heap.size w w9_ := ho9.below (HZ2.out.2.alloc HZ2.out.2.size _) (by omega) (by have := HZ2.out.2.size; simp; omega)
  all_goals exact bodyPost_ret (res_c rfl _ (w.heap.size + 1) 109 (vlC 0 4 4 0 (some ⟨g, 0, none⟩) 2 2) rfl hb9 _ Try.underlying109 rfl hdVl) rfl ⟨g, rfl, ho9.blk (hbg.alloc _) (by simp at hg; omega), by simp at hg; omega, hB9⟩
theorem CkS.only (h : CkS cp mp l st sk vr cd ls w) {g : Nat} (ho : Only w w' g) (h1 : cp ≠ g) (h2 : mp ≠ g) : CkS cp mp l st sk vr cd ls w' := ⟨ho.blk h.b h1, h.m.keep ho h2, h.ne⟩
theorem CkS.set {st' sk' vr' cd' ls' : Int} (h : CkS cp mp l st sk vr cd ls w) (i : Nat) (v : Value) (e : (ckC mp st sk vr cd ls).set i v = ckC mp st' sk' vr' cd' ls') : CkS cp mp l st' sk' vr' cd' ls' (w.setCell ⟨cp, i, none⟩ v) := ⟨e ▸ h.b.set_ i v, h.m.keep ((Only.refl w cp).setCell i v) h.ne.symm, h.ne⟩
set_option maxRecDepth 100000 in
set_option maxHeartbeats 1000000 in
theorem count_c (B : Option Addr) (c0 : Nat) (tm li : Int) (h : CkS cp mp l st sk vr cd ls w) :
    Calls Try.prog 82 #[.pointer (some ⟨cp, 0, none⟩), .agg (exN3 B c0).toArray, .agg #[.int .i64 tm, .int .i64 0, .int .i64 li], .int .i64 0] w fun e w' => e = .returned (.int .i64 3) ∧ Below w.heap.size w w' := by
  have HN := Lib.hid (fun W (h : CkS cp mp l st sk vr cd ls W) => number_3 B c0 h)
  have HH := Lib.hid h
  have hf : ∀ W, (Instr.field 109 (.agg (vlC 3 3 0 3 none 0 0).toArray) 2).run Try.prog W = .ok (.int .i64 3) W := fun W => by kernel_rfl
  clear h
  go_enter Try.func82, Try.ntmps82
  go_wp2_with (go_at_call 38; (refine (HN.out _ (by exact (HH.out.alloc _).alloc _)).mono ?_); rintro e w2 ⟨rfl, hB2⟩)
  go_ret
  exact ⟨rfl, (((Below.refl w.heap.size w).alloc (Nat.le_refl _) _).alloc (by simp) _).trans (hB2.mono (by simp; omega))⟩
def ndM (g : Nat) : Nd := .mk 4 0 (some ⟨g, 0, none⟩) 2 2 [.mk 1 1 none 0 0 [], .mk 0 2 none 0 0 []]
theorem ndM_size (g : Nat) : Nd.size wrap64 (ndM g) = (3, 2) := by
  kernel_rfl
theorem ndM_in {W : World} {g : Nat} (h : Blk W g 24 nmM) : NdIn W (ndM g) := by
  refine .mk _ _ _ _ _ _ rfl ⟨rfl, fun _ => ⟨g, 0, rfl, h.lt, fun j u hu => ?_⟩⟩ (fun d hd => ?_)
  · rw [Nat.zero_add, h.cell]; exact hu
  · simp only [List.mem_cons, List.not_mem_nil, or_false] at hd
    rcases hd with rfl | rfl
    · exact .mk _ _ _ _ _ _ rfl ⟨rfl, fun h => absurd h (by omega)⟩ (fun d hd => by cases hd)
    · exact .mk _ _ _ _ _ _ rfl ⟨rfl, fun h => absurd h (by omega)⟩ (fun d hd => by cases hd)
set_option maxRecDepth 100000 in
set_option maxHeartbeats 1000000 in
theorem ticks_c (b off cA : Nat) (B1 : Option Addr) (c1 : Nat) (B2 : Option Addr) (c2 : Nat) (tm li : Int) (h : CkS cp mp [(sI, enI)] st 2 vr cd ls w) (hb : b < w.heap.size) (hA : w.rangeAt b off (arM B1 c1 B2 c2)) :
    Calls Try.prog 83 #[.pointer (some ⟨cp, 0, none⟩), .agg (exM b off cA).toArray, .agg #[.int .i64 tm, .int .i64 0, .int .i64 li]] w fun e w' => ∃ g, e = .returned (.tuple #[.agg (vlC 0 4 4 0 (some ⟨g, 0, none⟩) 2 2).toArray, .int .i64 3]) ∧ CkS cp mp [(sI, enI)] st 2 vr cd ls w' ∧ Wr [cp] w w' := by
  have HN := Lib.hid (fun W (h : CkS cp mp [(sI, enI)] st 2 vr cd ls W) (hA : b < W.heap.size ∧ W.rangeAt b off (arM B1 c1 B2 c2)) => number_m b off cA B1 c1 B2 c2 h rfl hA.1 hA.2)
  have HS := Lib.hid (fun W g (h : Blk W g 24 nmM) => size_c (ndM g) W (ndM_in h))
  have HH := Lib.hid h
  have HA : Hid (∀ W, Below w.heap.size w W → b < W.heap.size ∧ W.rangeAt b off (arM B1 c1 B2 c2)) := fun W hW => ⟨Nat.lt_of_lt_of_le hb hW.size, range_below hA hW hb⟩
  clear h hA
  simp only [ndM_size] at HS
  unfold ndM ndC at HS
  have HZ : Hid (∀ W, Below (((w.alloc (.cells (exM b off cA).toArray 71)).alloc (.cells #[.int .i64 tm, .int .i64 0, .int .i64 li] 78)).alloc (.cells (vlC 0 0 0 0 none 0 0).toArray 109)).heap.size (((w.alloc (.cells (exM b off cA).toArray 71)).alloc (.cells #[.int .i64 tm, .int .i64 0, .int .i64 li] 78)).alloc (.cells (vlC 0 0 0 0 none 0 0).toArray 109)) W → Blk W (w.heap.size + 2) 109 (vlC 0 0 0 0 none 0 0) ∧ Below w.heap.size w W) := fun W hW =>
    ⟨Blk.below (Blk.new' (by simp) rfl) hW (by simp), (((((Below.refl w.heap.size w).alloc (Nat.le_refl _) _).alloc (by simp) _).alloc (by simp; omega) _)).trans (hW.mono (by simp; omega))⟩
  go_enter Try.func83, Try.ntmps83
  go_wp2_with (first
    | (go_at_call 38; (refine (HN.out _ (by exact ((HH.out.alloc _).alloc _).alloc _) (by exact HA.out _ ((((Below.refl w.heap.size w).alloc (Nat.le_refl _) _).alloc (by simp) _).alloc (by simp; omega) _))).mono ?_); rintro e w2 ⟨g, rfl, hbg, hg, hB2⟩; have HZ2 := Lib.hid (HZ.out _ (by exact hB2)); have HG2 := Lib.hid (And.intro hbg hg); clear hB2 hbg hg)
    | (go_at_call 8; (refine (HS.out _ g (by exact HG2.out.1.alloc _)).mono ?_); rintro e w3 ⟨rfl, hB3⟩
       have hB3' : Below w2.heap.size w2 w3 := ((Below.refl _ w2).alloc (Nat.le_refl _) _).trans (hB3.mono (by simp))
       have HZ3 : Hid (Blk w3 (w.heap.size + 2) 109 (vlC 0 0 0 0 none 0 0) ∧ Below w.heap.size w w3 ∧ Blk w3 w2.heap.size 109 (vlC 0 4 4 0 (some ⟨g, 0, none⟩) 2 2)) := ⟨HZ2.out.1.below hB3' HZ2.out.1.lt, HZ2.out.2.trans (hB3'.mono HZ2.out.2.size), Blk.below (Blk.new _ _ _) hB3 (by simp)⟩
       have HC3 := Lib.hid (HH.out.belo HZ3.out.2.1)
       have c5 : w3.cell? ⟨cp, 5, none⟩ = some (.int .i64 2) := HC3.out.b.cell 5
       have f5 := HC3.out.b.frozen 5
       have hx1 : ¬ cp = w2.heap.size := by have h1 := HH.out.b.lt; have h2 := HZ2.out.2.size; omega
       have hl8 := ldAt_run HZ3.out.2.2 109 0 (vlC 0 4 4 0 (some ⟨g, 0, none⟩) 2 2) rfl _ Try.underlying109 rfl hdVl
       obtain ⟨z0, z1, z2, z3, z4, z5, z6⟩ := seven HZ3.out.2.2
       clear hB3 hB3')
    | (refine wpList_store_all rfl 109 (.tmp 6) (.tmp 35) rfl (w.heap.size + 2) (vlC 0 4 4 0 (some ⟨g, 0, none⟩) 2 2) (by rfl) (by rfl) 109 (vlC 0 0 0 0 none 0 0) (by exact HZ3.out.1.far (by have h1 := HH.out.b.lt; show w.heap.size + 2 ≠ cp; omega) _) hdVl (vlC_one _ _ _ _ _ _ _) rfl ?_; intro w9_ hb9 ho9))
  have hl1 : cp < w.heap.size := HH.out.b.lt
  have hl2 : mp < w.heap.size := HH.out.m.lt
  have hs3 := HZ3.out.2.1.size
  have hW : Wr [cp] w (w3.setCell ⟨cp, 5, none⟩ (.int .i64 2)) := (Wr.of_below HZ3.out.2.1).setCell (by simp) _
  have hC : CkS cp mp [(sI, enI)] st 2 vr cd ls (w3.setCell ⟨cp, 5, none⟩ (.int .i64 2)) := HC3.out.set 5 _ rfl
  exact bodyPost_ret (res_cell_tmp rfl _ (w.heap.size + 2) 109 (vlC 0 4 4 0 (some ⟨g, 0, none⟩) 2 2) rfl hb9 _ Try.underlying109 rfl hdVl) rfl ⟨g, rfl, hC.only ho9 (by omega) (by omega), hW.thenb (ho9.below (Below.refl _ _) (by omega) hW.size)⟩
end
end Go.Proofs.Ytloakenighnfgaa.Tr
