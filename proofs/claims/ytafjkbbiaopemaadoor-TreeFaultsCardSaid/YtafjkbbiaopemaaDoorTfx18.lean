/- Part of the proof: Tr. -/
import Derived.Test.YtafjkbbiaopemaaDoorTfx17
set_option linter.unusedVariables false
namespace Go.Proofs.YtafjkbbiaopemaaDoor.Tr
open Go.RowKit
section
variable {gp gs : Nat} {A : Option Addr} {n c : Nat} {ts : List Lx.Tok} {s : PS} {w w' : World}
theorem PSt.wrote (cx : Cx gp gs A n ts) (h : PSt gp gs A n c ts s w) {i : Nat} (hw : Wrote gs w w') (hb : Blk w' gs 74 [.slice A n c, .int .i64 (i : Int)]) (hi : i < ts.length) : PSt gp gs A n c ts { s with i := i } w' :=
  ⟨h.par.wrote hw cx.ne, ⟨hb, RdS.wrote' h.stm.2 hw (fun ad e => (cx.tk ad e).2)⟩, h.z, hi⟩
def PLo (gp gs : Nat) (A : Option Addr) (B : Nat) : Prop := gp < B ∧ gs < B ∧ ∀ ad : Addr, A = some ad → ad.block < B
theorem PSt.lo (cx : Cx gp gs A n ts) (h : PSt gp gs A n c ts s w) : PLo gp gs A w.heap.size := by
  refine ⟨h.par.lt, h.stm.1.lt, fun ad e => ?_⟩
  obtain ⟨b, off, e2, hb, _⟩ := h.stm.2.2 (by have := h.lt; have := cx.hn; omega)
  rw [e] at e2
  injection e2 with e2
  subst e2
  exact hb
theorem PSt.setNew {B : Nat} (h : PSt gp gs A n c ts s w) (hl : PLo gp gs A B) {p : Addr} (hp : B ≤ p.block) (v : Value) : PSt gp gs A n c ts s (w.setCell p v) :=
  ⟨h.par.far (by have := hl.1; omega) v, Stm.far h.stm (by have := hl.2.1; omega) (fun ad e => by have := hl.2.2 ad e; omega) v, h.z, h.lt⟩
theorem Blk.wr {g : Nat} {t : TypeId} {cs : List Value} {B : Nat} (h : Blk w g t cs) (hw : Wr [gp, gs] w w') (hl : PLo gp gs A B) (hg : B ≤ g) : Blk w' g t cs := (hw.block g h.lt (by have h1 := hl.1; have h2 := hl.2.1; simp only [List.mem_cons, List.not_mem_nil, or_false]; omega)).trans h
theorem next_c (cx : Cx gp gs A n ts) (h : PSt gp gs A n c ts s w) (hk : (tokAt ts s.i).kind ≠ 6) : Calls Tryd.prog 22 #[.pointer (some ⟨gs, 0, none⟩)] w fun e w' => e = .returned (.agg (tokCells (tokAt ts s.i)).toArray) ∧ PSt gp gs A n c ts (nxt s) w' ∧ Wr [gp, gs] w w' := by
  have h1 := next_any gs A n c s.i ts (tokAt ts s.i) w h.stm.1 h.stm.2 cx.hn cx.hn8 (by have := h.lt; have := cx.hn; have := cx.hn8; omega) rfl
  rw [if_neg hk] at h1
  refine h1.mono ?_
  rintro e w' ⟨rfl, hb, hW⟩
  exact ⟨rfl, h.wrote cx hW hb (cx.ends s.i hk), Wr.of_wrote hW (by simp)⟩
def alsoP (ts : List Lx.Tok) (T : ByteArray) (s : PS) : PS := if sees ts [T] s then nxt s else s
theorem take_sees {T : ByteArray} (h : sees ts [T] s = true) : takeP ts T s = nxt s := by
  unfold sees at h
  simp only [Bool.and_eq_true] at h
  unfold takeP
  rw [h.1, h.2]
  rfl
set_option maxRecDepth 100000 in
set_option maxHeartbeats 1000000 in
theorem also_c (cx : Cx gp gs A n ts) (h : PSt gp gs A n c ts s w) (T : ByteArray) : Calls Tryd.prog 27 #[.pointer (some ⟨gp, 0, none⟩), .string T] w fun e w' => e = .returned (.bool (sees ts [T] s)) ∧ PSt gp gs A n c ts (alsoP ts T s) w' ∧ Wr [gp, gs] w w' := by
  have HS := Lib.hid (fun W A1 (h : PSt gp gs A n c ts s W) (hl : Rd W A1 1 (strs [T])) => sees_c cx h [T] A1 1 1 hl (by omega))
  have HT := Lib.hid (fun W (h : PSt gp gs A n c ts s W) => take_c cx h T)
  have HH := Lib.hid (h.alloc (.cells #[.string T] 9))
  have HE : Hid (Wr [gp, gs] w (w.alloc (.cells #[.string T] 9))) := (Wr.refl _ _).alloc _
  cases hs : sees ts [T] s
  · have HA : Hid (alsoP ts T s = s) := (by show _ = _; unfold alsoP; rw [hs]; rfl)
    rw [hs] at HS
    clear h hs
    go_enter Tryd.func27, Tryd.ntmps27
    go_wp2_with (go_at_call 9; (refine (HS.out _ _ (by exact HH.out) (by exact Rd.new1' rfl)).mono ?_); rintro e w2 ⟨rfl, hB2⟩)
    go_ret
    exact ⟨rfl, by rw [HA.out]; exact HH.out.below hB2, HE.out.trans (Wr.of_below hB2)⟩
  · have HA : Hid (alsoP ts T s = nxt s) := (by show _ = _; unfold alsoP; rw [hs]; rfl)
    have hk : (nxt s).ok = true := (sees_ok hs : s.ok = true)
    rw [take_sees hs] at HT
    rw [hs] at HS
    have HO := Lib.hid (fun w (h : Blk w gp 48 (paC gs (nxt s))) => hk ▸ ok_c h)
    clear h hs hk
    go_enter Tryd.func27, Tryd.ntmps27
    go_wp2_with (first
      | (go_at_call 9; (refine (HS.out _ _ (by exact HH.out) (by exact Rd.new1' rfl)).mono ?_); rintro e w2 ⟨rfl, hB2⟩
         have H2 := Lib.hid (HH.out.below hB2)
         have HE2 := Lib.hid (HE.out.trans (Wr.of_below hB2))
         clear hB2)
      | (go_at_call 24; (refine (HT.out _ (by exact H2.out)).mono ?_); rintro e w3 ⟨rfl, h3, hW3⟩
         have H3 := Lib.hid h3
         have HE3 := Lib.hid (HE2.out.trans hW3)
         clear h3 hW3)
      | (go_at_call 11; (refine (HO.out _ (by exact H3.out.par)).mono ?_); rintro e w4 ⟨rfl, rfl⟩))
    go_ret
    exact ⟨rfl, by rw [HA.out]; exact H3.out, HE3.out⟩
theorem hdRf : (Tryd.prog.info? 35).map (·.size) = some 2 := by kernel_rfl
set_option maxRecDepth 100000 in
set_option maxHeartbeats 1000000 in
theorem ref_c (cx : Cx gp gs A n ts) (h : PSt gp gs A n c ts s w) : Calls Tryd.prog 23 #[.pointer (some ⟨gp, 0, none⟩)] w fun e w' => e = .returned (.agg (rfC (refP ts s).1).toArray) ∧ PSt gp gs A n c ts (refP ts s).2 w' ∧ Wr [gp, gs] w w' := by
  have HKI := Lib.hid (fun W (h : PSt gp gs A n c ts s W) => kind_c cx h 1)
  have HFA := Lib.hid (fun W (h : PSt gp gs A n c ts s W) => fail_c cx h 9 (by decide))
  have HH := Lib.hid (h.alloc (.cells #[.string { data := #[] }, .int .i64 0] 35))
  have HE : Hid (Wr [gp, gs] w (w.alloc (.cells #[.string { data := #[] }, .int .i64 0] 35))) := (Wr.refl _ _).alloc _
  have HB : Hid (Blk (w.alloc (.cells #[.string { data := #[] }, .int .i64 0] 35)) w.heap.size 35 [.string { data := #[] }, .int .i64 0]) := Blk.new' rfl rfl
  have HLO := Lib.hid (h.lo cx)
  have hpl := h.par.lt
  have hsl := h.stm.1.lt
  have c0 : ∀ W, Below (w.alloc (.cells #[.string { data := #[] }, .int .i64 0] 35)).heap.size (w.alloc (.cells #[.string { data := #[] }, .int .i64 0] 35)) W → W.cell? ⟨gp, 0, none⟩ = some (.pointer (some ⟨gs, 0, none⟩)) := fun W hW => (HH.out.below hW).par.cell 0
  have HC0 := Lib.hid c0
  clear c0
  cases hk : kindIs ts 1 s
  · have HR : Hid (refP ts s = (zR, failP ts 9 s)) := (by show _ = _; unfold refP; rw [hk]; rfl)
    rw [HR.out]
    rw [hk] at HKI
    clear h hk
    go_enter Tryd.func23, Tryd.ntmps23
    go_wp2_with (first
      | (go_at_call 12; (refine (HKI.out _ (by exact HH.out)).mono ?_); rintro e w2 ⟨rfl, hB2⟩
         have H2 := Lib.hid (HH.out.below hB2)
         have HE2 := Lib.hid (HE.out.trans (Wr.of_below hB2))
         have HB2 := qbl HB hB2
         clear hB2)
      | (go_at_call 29; (refine (HFA.out _ (by exact H2.out)).mono ?_); rintro e w3 ⟨rfl, h3, hW3⟩
         have H3 := Lib.hid h3
         have HE3 := Lib.hid (HE2.out.trans (hW3.mono (by simp)))
         have HB3 : Hid (Blk w3 w.heap.size 35 [.string { data := #[] }, .int .i64 0]) := (hW3.block _ HB2.out.lt (by simp; omega)).trans HB2.out
         obtain ⟨z0, z1, f0, f1⟩ := HB3.out.two
         clear h3 hW3))
    refine bodyPost_ret (res_c rfl _ w.heap.size 35 [.string { data := #[] }, .int .i64 0] rfl (by exact (HB3.out.set_ 0 _).set_ 1 _) _ Tryd.underlying35 rfl hdRf) rfl ⟨rfl, ?_, ?_⟩
    · exact (H3.out.setNew HLO.out (Nat.le_refl _) _).setNew HLO.out (Nat.le_refl _) _
    · exact (HE3.out.setNew (Nat.le_refl _) _).setNew (Nat.le_refl _) _
  · have hk6 : (tokAt ts s.i).kind ≠ 6 := by
      unfold kindIs pk at hk
      simp only [Bool.and_eq_true, decide_eq_true_eq] at hk
      omega
    have HNX := Lib.hid (fun W (h : PSt gp gs A n c ts s W) => next_c cx h hk6)
    have HR : Hid (refP ts s = (⟨bytesOf (tokAt ts s.i).text, ((tokAt ts s.i).at_ : Int)⟩, nxt s)) := (by show _ = _; unfold refP; rw [hk]; rfl)
    rw [HR.out]
    rw [hk] at HKI
    clear h hk hk6
    generalize tokAt ts s.i = t at *
    unfold tokCells at HNX
    go_enter Tryd.func23, Tryd.ntmps23
    go_wp2_with (first
      | (go_at_call 12; (refine (HKI.out _ (by exact HH.out)).mono ?_); rintro e w2 ⟨rfl, hB2⟩
         have H2 := Lib.hid (HH.out.below hB2)
         have HE2 := Lib.hid (HE.out.trans (Wr.of_below hB2))
         have HB2 := qbl HB hB2
         have c2 := HC0.out _ hB2
         clear hB2)
      | (go_at_call 22; (refine (HNX.out _ (by exact H2.out)).mono ?_); rintro e w3 ⟨rfl, h3, hW3⟩
         have H3 := Lib.hid h3
         have HE3 := Lib.hid (HE2.out.trans hW3)
         have HB3 : Hid (Blk w3 w.heap.size 35 [.string { data := #[] }, .int .i64 0]) := Blk.wr HB2.out hW3 HLO.out (Nat.le_refl _)
         obtain ⟨z0, z1, f0, f1⟩ := HB3.out.two
         have hz3 : w.heap.size < w3.heap.size := HB3.out.lt
         clear h3 hW3))
    refine bodyPost_ret (res_c rfl _ w.heap.size 35 [.string (bytesOf t.text), .int .i64 t.at_] rfl (by exact ((HB3.out.set_ 0 _).set_ 1 _).alloc _) _ Tryd.underlying35 rfl hdRf) rfl ⟨rfl, ?_, ?_⟩
    · exact ((H3.out.setNew HLO.out (Nat.le_refl _) _).setNew HLO.out (Nat.le_refl _) _).alloc _
    · exact ((HE3.out.setNew (Nat.le_refl _) _).setNew (Nat.le_refl _) _).alloc _
set_option maxRecDepth 100000 in
set_option maxHeartbeats 1000000 in
theorem shut_c (cx : Cx gp gs A n ts) (h : PSt gp gs A n c ts s w) (hp : 0 ≤ s.pa ∧ s.pa ≤ 100) : Calls Tryd.prog 65 #[.pointer (some ⟨gp, 0, none⟩)] w fun e w' => e = .returned (.tuple #[]) ∧ PSt gp gs A n c ts (shutP ts s) w' ∧ Wr [gp, gs] w w' := by
  have HT := Lib.hid (fun W (h : PSt gp gs A n c ts s W) => take_c cx h m_rpar)
  have HH := Lib.hid h
  have hpa : (takeP ts m_rpar s).pa = s.pa := (take_g cx.ends m_rpar s).pa
  have HS : Hid (shutP ts s = { takeP ts m_rpar s with pa := (takeP ts m_rpar s).pa - 1 }) := rfl
  rw [HS.out]
  rw [← hpa] at hp
  clear h hpa
  generalize takeP ts m_rpar s = q at *
  obtain ⟨hp0, hp1⟩ := hp
  go_enter Tryd.func65, Tryd.ntmps65
  go_wp2_with (go_at_call 24; (refine (HT.out _ (by exact HH.out)).mono ?_); rintro e w2 ⟨rfl, h2, hW2⟩
               have H2 := Lib.hid h2
               have c4 : w2.cell? ⟨gp, 4, none⟩ = some (.int .i64 q.pa) := h2.par.cell 4
               have f4 := h2.par.frozen 4
               clear h2)
  refine bodyPost_end (results_none rfl _ _ _) rfl ⟨rfl, ⟨H2.out.par.set_ 4 _, Stm.far H2.out.stm cx.ne.symm (fun ad e => (cx.tk ad e).1) _, H2.out.z, H2.out.lt⟩, hW2.setCell (by simp) _⟩
def bndP (ts : List Lx.Tok) (T : ByteArray) (x : Int) (s : PS) : PS := if sees ts [T] s && x == 12 then failP ts 11 s else s
set_option maxRecDepth 100000 in
set_option maxHeartbeats 1000000 in
theorem open_c (cx : Cx gp gs A n ts) (h : PSt gp gs A n c ts s w) (hp : 0 ≤ s.pa ∧ s.pa ≤ 100) : Calls Tryd.prog 64 #[.pointer (some ⟨gp, 0, none⟩)] w fun e w' => e = .returned (.tuple #[]) ∧ PSt gp gs A n c ts (openP ts s) w' ∧ Wr [gp, gs] w w' := by
  have HS := Lib.hid (fun W A1 (h : PSt gp gs A n c ts s W) (hl : Rd W A1 1 (strs [m_lpar])) => sees_c cx h [m_lpar] A1 1 1 hl (by omega))
  have HF := Lib.hid (fun W (h : PSt gp gs A n c ts s W) => fail_c cx h 11 (by decide))
  have HT := Lib.hid (fun W s' (h : PSt gp gs A n c ts s' W) => take_c cx h m_lpar)
  have HH := Lib.hid (h.alloc (.cells #[.string m_lpar] 9))
  have HE : Hid (Wr [gp, gs] w (w.alloc (.cells #[.string m_lpar] 9))) := (Wr.refl _ _).alloc _
  have HO : Hid (openP ts s = { takeP ts m_lpar (bndP ts m_lpar s.pa s) with pa := (takeP ts m_lpar (bndP ts m_lpar s.pa s)).pa + 1 }) := rfl
  have hb1 : Pg ts s (bndP ts m_lpar s.pa s) := by unfold bndP; split; exact fail_g s (.inr rfl); exact Pg.refl _
  have hpa : (takeP ts m_lpar (bndP ts m_lpar s.pa s)).pa = s.pa := (hb1.trans (take_g cx.ends m_lpar _)).pa
  have HPA := Lib.hid hpa
  have HBD : Hid (bndP ts m_lpar s.pa s = if sees ts [m_lpar] s && s.pa == 12 then failP ts 11 s else s) := rfl
  rw [HO.out]
  obtain ⟨hp0, hp1⟩ := hp
  have HCX := Lib.hid cx
  cases hs : sees ts [m_lpar] s
  · have HBD2 : Hid (bndP ts m_lpar s.pa s = s) := (by show _ = _; rw [HBD.out, hs]; rfl)
    rw [HBD2.out] at HPA ⊢
    rw [hs] at HS
    clear h hs HBD hb1 hpa
    go_enter Tryd.func64, Tryd.ntmps64
    go_wp2_with (first
      | (go_at_call 9; (refine (HS.out _ _ (by exact HH.out) (by exact Rd.new1' rfl)).mono ?_); rintro e w2 ⟨rfl, hB2⟩
         have H2 := Lib.hid (HH.out.below hB2)
         have HE2 := Lib.hid (HE.out.trans (Wr.of_below hB2))
         clear hB2)
      | (go_at_call 24; (refine (HT.out _ _ (by exact H2.out)).mono ?_); rintro e w3 ⟨rfl, h3, hW3⟩
         have H3 := Lib.hid h3
         have HE3 := Lib.hid (HE2.out.trans hW3)
         have c4 : w3.cell? ⟨gp, 4, none⟩ = some (.int .i64 (takeP ts m_lpar s).pa) := h3.par.cell 4
         have f4 := h3.par.frozen 4
         rw [HPA.out] at c4
         clear h3 hW3))
    refine bodyPost_end (results_none rfl _ _ _) rfl ⟨rfl, ⟨?_, Stm.far H3.out.stm HCX.out.ne.symm (fun ad e => (HCX.out.tk ad e).1) _, H3.out.z, H3.out.lt⟩, HE3.out.setCell (by simp) _⟩
    rw [HPA.out]
    exact H3.out.par.set_ 4 _
  · cases hx : (s.pa == 12)
    · have HBD2 : Hid (bndP ts m_lpar s.pa s = s) := (by show _ = _; rw [HBD.out, hs, hx]; rfl)
      rw [HBD2.out] at HPA ⊢
      rw [hs] at HS
      have hne : s.pa ≠ 12 := by simpa using hx
      clear h hs HBD hb1 hpa hx
      go_enter Tryd.func64, Tryd.ntmps64
      go_wp2_with (first
        | (go_at_call 9; (refine (HS.out _ _ (by exact HH.out) (by exact Rd.new1' rfl)).mono ?_); rintro e w2 ⟨rfl, hB2⟩
           have H2 := Lib.hid (HH.out.below hB2)
           have HE2 := Lib.hid (HE.out.trans (Wr.of_below hB2))
           have d4 : w2.cell? ⟨gp, 4, none⟩ = some (.int .i64 s.pa) := H2.out.par.cell 4
           clear hB2)
        | (go_at_call 24; (refine (HT.out _ _ (by exact H2.out)).mono ?_); rintro e w3 ⟨rfl, h3, hW3⟩
           have H3 := Lib.hid h3
           have HE3 := Lib.hid (HE2.out.trans hW3)
           have c4 : w3.cell? ⟨gp, 4, none⟩ = some (.int .i64 (takeP ts m_lpar s).pa) := h3.par.cell 4
           have f4 := h3.par.frozen 4
           rw [HPA.out] at c4
           clear h3 hW3))
      refine bodyPost_end (results_none rfl _ _ _) rfl ⟨rfl, ⟨?_, Stm.far H3.out.stm HCX.out.ne.symm (fun ad e => (HCX.out.tk ad e).1) _, H3.out.z, H3.out.lt⟩, HE3.out.setCell (by simp) _⟩
      rw [HPA.out]
      exact H3.out.par.set_ 4 _
    · have HBD2 : Hid (bndP ts m_lpar s.pa s = failP ts 11 s) := (by show _ = _; rw [HBD.out, hs, hx]; rfl)
      rw [HBD2.out] at HPA ⊢
      rw [hs] at HS
      have heq : s.pa = 12 := by simpa using hx
      clear h hs HBD hb1 hpa hx
      go_enter Tryd.func64, Tryd.ntmps64
      go_wp2_with (first
        | (go_at_call 9; (refine (HS.out _ _ (by exact HH.out) (by exact Rd.new1' rfl)).mono ?_); rintro e w2 ⟨rfl, hB2⟩
           have H2 := Lib.hid (HH.out.below hB2)
           have HE2 := Lib.hid (HE.out.trans (Wr.of_below hB2))
           have d4 : w2.cell? ⟨gp, 4, none⟩ = some (.int .i64 s.pa) := H2.out.par.cell 4
           clear hB2)
        | (go_at_call 29; (refine (HF.out _ (by exact H2.out)).mono ?_); rintro e w3 ⟨rfl, h3, hW3⟩
           have H3 := Lib.hid h3
           have HE3 := Lib.hid (HE2.out.trans (hW3.mono (by simp)))
           clear h3 hW3)
        | (go_at_call 24; (refine (HT.out _ _ (by exact H3.out)).mono ?_); rintro e w4 ⟨rfl, h4, hW4⟩
           have H4 := Lib.hid h4
           have HE4 := Lib.hid (HE3.out.trans hW4)
           have c4 : w4.cell? ⟨gp, 4, none⟩ = some (.int .i64 (takeP ts m_lpar (failP ts 11 s)).pa) := h4.par.cell 4
           have f4 := h4.par.frozen 4
           rw [HPA.out] at c4
           clear h4 hW4))
      refine bodyPost_end (results_none rfl _ _ _) rfl ⟨rfl, ⟨?_, Stm.far H4.out.stm HCX.out.ne.symm (fun ad e => (HCX.out.tk ad e).1) _, H4.out.z, H4.out.lt⟩, HE4.out.setCell (by simp) _⟩
      rw [HPA.out, heq]
      exact H4.out.par.set_ 4 _
end
end Go.Proofs.YtafjkbbiaopemaaDoor.Tr
