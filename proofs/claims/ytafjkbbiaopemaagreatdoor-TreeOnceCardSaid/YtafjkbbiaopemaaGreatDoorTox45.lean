/- Part of the proof: Taq. -/
import Derived.Test.YtafjkbbiaopemaaGreatDoorTox43
set_option linter.unusedVariables false
namespace Go.Proofs.YtafjkbbiaopemaaGreatDoor.Tr
open Go.RowKit
section
variable {gp : Nat} {A : Option Addr} {n c : Nat} {ts : List Lx.Tok} {s : RS} {w w' : World}
set_option maxRecDepth 100000 in
set_option maxHeartbeats 2000000 in
theorem body_rc (cx : RCx gp A n ts) (st : RS → St × RS) (d : Nat) (hst : RStK gp A n c ts st (RQS d)) (hg : ∀ s, RP s (st s).2) (hcs : ∀ s, RQS d s → rbegins ts s = true → s.i + 1 ≤ (st s).2.i) : RBoK gp A n c ts 91 (rbody ts st) (RQS (d + 1)) := by
  intro s w h hq
  have HEQ : Hid (rbody ts st s = ((rstmts ts st (rbo ts s)).1, { rneed ts m_rbr (rstmts ts st (rbo ts s)).2 with bo := s.bo })) := rbody_eq hg s
  rw [HEQ.out]
  have HI := Lib.hid (is_c m_lbr cx h)
  have H0 := Lib.hid h
  have hb0 := hq.b0
  have hb1 := hq.b1
  have HX : Hid (∀ W, Below w.heap.size w W → W.cell? ⟨gp, 2, none⟩ = some (.int .i64 s.bo) ∧ gp < W.heap.size) := fun W hW => by
    have := (H0.out.b.below hW H0.out.b.lt)
    exact ⟨this.cell 2, this.lt⟩
  have HQ : Hid (∀ q : RS, ∀ x : Int, q.i < ts.length → ∀ W, RSt gp A n c ts q W → RSt gp A n c ts { q with bo := x } (W.setCell ⟨gp, 2, none⟩ (.int .i64 x)) ∧ Wr [gp] W (W.setCell ⟨gp, 2, none⟩ (.int .i64 x))) := fun q x hl W hW =>
    RSt.upd cx hW ((Only.refl W gp).setCell 2 _) (hW.b.set_ 2 (.int .i64 x)) hl
  have HST := Lib.hid (fun W (h : RSt gp A n c ts (rbo ts s) W) => stmts_c cx st d hst hg hcs (rbo ts s) W h (fun hb => hq.down hb))
  have HRS := (rstmts_p (ts := ts) hg (rbo ts s)).bo
  have HN2 := Lib.hid (fun W (h : RSt gp A n c ts (rstmts ts st (rbo ts s)).2 W) => need_c m_rbr cx h)
  have HP4 : Hid ((rneed ts m_rbr (rstmts ts st (rbo ts s)).2).bo = s.bo + 1) := (rneed_pa (ts := ts) m_rbr (rstmts ts st (rbo ts s)).2).2.trans HRS
  have HS := Lib.hid (fun W (h : RSt gp A n c ts s W) => stop_c 11 cx h)
  have hstop : ∀ e : Int, (rstop ts e s).bo = s.bo := fun e => (rstop_pa e s).2
  have hneed : ∀ q : RS, (rneed ts m_lbr q).bo = q.bo := fun q => (rneed_pa m_lbr q).2
  cases hb : (rIs ts m_lbr s && s.bo == 12)
  · have HB3 : Hid (rbo ts s = { rneed ts m_lbr s with bo := s.bo + 1 }) := (by show _ = _; unfold rbo; rw [hb]; rfl)
    have HN := Lib.hid (fun W (h : RSt gp A n c ts s W) => need_c m_lbr cx h)
    have hP := hneed s
    rw [HB3.out] at HST HN2 HP4 ⊢
    generalize rneed ts m_lbr s = q at *
    have HP := Lib.hid hP
    generalize rstmts ts st { q with bo := s.bo + 1 } = R at *
    generalize rneed ts m_rbr R.2 = q4 at *
    have hor : rIs ts m_lbr s = false ∨ (rIs ts m_lbr s = true ∧ s.bo ≠ 12) := by
      cases h1 : rIs ts m_lbr s
      · exact .inl rfl
      · right; rw [h1] at hb; simp at hb; exact ⟨rfl, hb⟩
    generalize rIs ts m_lbr s = z at *
    clear h cx hb hstop hneed hP hst hg hcs hq HEQ HB3 HRS
    rcases hor with rfl | ⟨rfl, h12⟩
    all_goals
     go_enter Tryz.func91, Tryz.ntmps91
     go_upto_region 5 with (first
      | (go_at_call 63; (refine (HN.out _ H1.out.1).mono ?_); rintro e1 w3 ⟨rfl, h3, hW3⟩
         have H3 : Hid (RSt gp A n c ts q w3 ∧ Wr [gp] w w3) := ⟨h3, H1.out.2.trans hW3⟩
         have z3 : w3.cell? ⟨gp, 2, none⟩ = some (.int .i64 s.bo) := HP.out ▸ h3.b.cell 2
         have y3 := h3.b.frozen 2
         have l3 := h3.b.lt
         clear h3 hW3)
      | (go_at_call 26; (refine HI.out.mono ?_); rintro e1 w2 ⟨rfl, hB2⟩
         have H1 : Hid (RSt gp A n c ts s w2 ∧ Wr [gp] w w2) := ⟨H0.out.below hB2, Wr.of_below hB2⟩
         obtain ⟨k3, l2⟩ := HX.out w2 hB2
         clear hB2))
     have h5 := HQ.out q (s.bo + 1) H3.out.1.lt _ H3.out.1
     have H5 := Lib.hid (And.intro h5.1 (H3.out.2.trans h5.2))
     clear h5
     generalize w3.setCell ⟨gp, 2, none⟩ (.int .i64 (s.bo + 1)) = w5 at *
     clear z3 y3 l3 H3
     go_wp2_with (first
      | (go_at_call 63; (refine (HN2.out _ H6.out.1).mono ?_); rintro e1 w7 ⟨rfl, h7, hW7⟩
         have H7 : Hid (RSt gp A n c ts q4 w7 ∧ Wr [gp] w5 w7 ∧ Wr [gp] w6 w7) := ⟨h7, H6.out.2.1.trans hW7, hW7⟩
         have z7 : w7.cell? ⟨gp, 2, none⟩ = some (.int .i64 (s.bo + 1)) := HP4.out ▸ h7.b.cell 2
         have y7 := h7.b.frozen 2
         have l7 := h7.b.lt
         clear h7 hW7)
      | (go_at_call 29; (refine (HST.out _ (by exact H5.out.1)).mono ?_); rintro e1 w6 ⟨A6, c6, rfl, hr6, h6, hW6⟩
         have H6 := Lib.hid (And.intro h6 (And.intro hW6 hr6))
         clear h6 hW6 hr6))
     go_ret
     have h8 := HQ.out q4 s.bo H7.out.1.lt _ H7.out.1
     have e8 : s.bo + 1 - 1 = s.bo := by omega
     first | rw [e8] | skip
     refine ⟨A6, c6, rfl, ?_, h8.1, (H5.out.2.trans H7.out.2.1).trans h8.2⟩
     have hgw : gp < w.heap.size := H0.out.b.lt
     exact (H6.out.2.2.keep (keep_wr (H7.out.2.2.trans h8.2) (fun g hg => by simp at hg; have := H5.out.2.size; omega) (Nat.le_refl _))).keep (keep_low H5.out.2.size)
  · have HB3 : Hid (rbo ts s = { rneed ts m_lbr (rstop ts 11 s) with bo := s.bo + 1 }) := (by show _ = _; unfold rbo; rw [hb]; rfl)
    have HN := Lib.hid (fun W (h : RSt gp A n c ts (rstop ts 11 s) W) => need_c m_lbr cx h)
    have hP : (rneed ts m_lbr (rstop ts 11 s)).bo = s.bo := (hneed _).trans (hstop 11)
    rw [HB3.out] at HST HN2 HP4 ⊢
    generalize rneed ts m_lbr (rstop ts 11 s) = q at *
    have HP := Lib.hid hP
    generalize rstmts ts st { q with bo := s.bo + 1 } = R at *
    generalize rneed ts m_rbr R.2 = q4 at *
    obtain ⟨hz, h12⟩ : rIs ts m_lbr s = true ∧ s.bo = 12 := by simpa using hb
    rw [hz] at HI
    clear h cx hb hstop hneed hP hz hst hg hcs hq HEQ HB3 HRS
    go_enter Tryz.func91, Tryz.ntmps91
    go_upto_region 5 with (first
      | (go_at_call 63; (refine (HN.out _ H2.out.1).mono ?_); rintro e1 w3 ⟨rfl, h3, hW3⟩
         have H3 : Hid (RSt gp A n c ts q w3 ∧ Wr [gp] w w3) := ⟨h3, H2.out.2.trans hW3⟩
         have z3 : w3.cell? ⟨gp, 2, none⟩ = some (.int .i64 s.bo) := HP.out ▸ h3.b.cell 2
         have y3 := h3.b.frozen 2
         have l3 := h3.b.lt
         clear h3 hW3)
      | (go_at_call 30; (refine (HS.out _ H1.out.1).mono ?_); rintro e1 w4 ⟨rfl, h4, hW4⟩
         have H2 : Hid (RSt gp A n c ts (rstop ts 11 s) w4 ∧ Wr [gp] w w4) := ⟨h4, H1.out.2.trans hW4⟩
         clear h4 hW4)
      | (go_at_call 26; (refine HI.out.mono ?_); rintro e1 w2 ⟨rfl, hB2⟩
         have H1 : Hid (RSt gp A n c ts s w2 ∧ Wr [gp] w w2) := ⟨H0.out.below hB2, Wr.of_below hB2⟩
         obtain ⟨k3, l2⟩ := HX.out w2 hB2
         clear hB2))
    have e13 : s.bo + 1 = 13 := by omega
    have h5 := HQ.out q (s.bo + 1) H3.out.1.lt _ H3.out.1
    have H5 := Lib.hid (And.intro h5.1 (H3.out.2.trans h5.2))
    clear h5
    rw [e13] at H5 HST HP4
    clear e13
    generalize w3.setCell ⟨gp, 2, none⟩ (.int .i64 13) = w5 at *
    clear z3 y3 l3 H3
    go_wp2_with (first
      | (go_at_call 63; (refine (HN2.out _ H6.out.1).mono ?_); rintro e1 w7 ⟨rfl, h7, hW7⟩
         have H7 : Hid (RSt gp A n c ts q4 w7 ∧ Wr [gp] w5 w7 ∧ Wr [gp] w6 w7) := ⟨h7, H6.out.2.1.trans hW7, hW7⟩
         have z7 : w7.cell? ⟨gp, 2, none⟩ = some (.int .i64 13) := HP4.out ▸ h7.b.cell 2
         have y7 := h7.b.frozen 2
         have l7 := h7.b.lt
         clear h7 hW7)
      | (go_at_call 29; (refine (HST.out _ (by exact H5.out.1)).mono ?_); rintro e1 w6 ⟨A6, c6, rfl, hr6, h6, hW6⟩
         have H6 := Lib.hid (And.intro h6 (And.intro hW6 hr6))
         clear h6 hW6 hr6))
    go_ret
    rw [h12]
    have h8 := HQ.out q4 12 H7.out.1.lt _ H7.out.1
    refine ⟨A6, c6, rfl, ?_, h8.1, (H5.out.2.trans H7.out.2.1).trans h8.2⟩
    have hgw : gp < w.heap.size := H0.out.b.lt
    exact (H6.out.2.2.keep (keep_wr (H7.out.2.2.trans h8.2) (fun g hg => by simp at hg; have := H5.out.2.size; omega) (Nat.le_refl _))).keep (keep_low H5.out.2.size)
end
end Go.Proofs.YtafjkbbiaopemaaGreatDoor.Tr
