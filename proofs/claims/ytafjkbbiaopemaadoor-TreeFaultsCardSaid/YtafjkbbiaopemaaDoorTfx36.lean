/- Part of the proof: Uk. -/
import Derived.Test.YtafjkbbiaopemaaDoorTfx35
set_option linter.unusedVariables false
namespace Go.Proofs.YtafjkbbiaopemaaDoor.Tr
open Go.RowKit
section
variable {gp gs : Nat} {A : Option Addr} {n c : Nat} {ts : List Lx.Tok}
theorem failP_no {e : Int} (he : e ≠ 0) (s : PS) : (failP ts e s).ok = false := by
  unfold failP
  split
  · exact beq_false_of_ne he
  · rename_i h; simpa using h
theorem stmtG_in (HT : Ends ts) {st : PS → St × PS} (HX : ∀ s, Pg ts s (st s).2) {s : PS} (h : sees ts ten s = true) : Pg ts (nxt s) (stmtG ts st s).2 := by
  unfold stmtG
  rw [if_pos h]
  have E := expr_g HT 14
  have B := body_g HT HX
  dsimp only
  split
  · exact (E _).trans (B _)
  split
  · exact ((ref_g HT _).trans (E _)).trans (B _)
  split
  · refine (((take_g HT k_acked _)).trans (ref_g HT _)).trans ((B _).trans ?_)
    split
    · rename_i h2; exact (nxt_g (sees_lt HT h2) (sees_ok h2)).trans (B _)
    · exact Pg.refl _
  · exact (line_g HT _ _ _).trans (take_g HT _ _)
theorem stmt_adv (HT : Ends ts) : ∀ (d : Nat) (s : PS), (stmtP ts d s).2.ok = true → s.i + 1 ≤ (stmtP ts d s).2.i
  | 0, s, h => by rw [show (stmtP ts 0 s).2 = failP ts 9 s from rfl, failP_no (by decide)] at h; cases h
  | d + 1, s, h => by
    have e : stmtP ts (d + 1) s = stmtG ts (stmtP ts d) s := rfl
    rw [e] at h ⊢
    cases hs : sees ts ten s
    · rw [show (stmtG ts (stmtP ts d) s).2 = failP ts 9 s by unfold stmtG; rw [hs]; rfl, failP_no (by decide)] at h; cases h
    · exact (stmtG_in HT (stmt_g HT d) hs).le
set_option maxRecDepth 100000 in
set_option maxHeartbeats 4000000 in
theorem stmt_none (cx : Cx gp gs A n ts) (st : PS → St × PS) (s : PS) (w : World) (h : PSt gp gs A n c ts s w) (hs : sees ts ten s = false) :
    Calls Tryd.prog 13 #[.pointer (some ⟨gp, 0, none⟩)] w fun e w' => ∃ p : StA, e = .returned (.agg (stC (stmtG ts st s).1 p).toArray) ∧ StIn (Fr w.heap.size) w' (stmtG ts st s).1 p ∧ PSt gp gs A n c ts (stmtG ts st s).2 w' ∧ Wr [gp, gs] w w' := by
  rw [show stmtG ts st s = (zT, failP ts 9 s) by unfold stmtG; rw [hs]; rfl]
  have HSN := Lib.hid (fun W A1 (h : PSt gp gs A n c ts s W) (hl : Rd W A1 10 (strs ten)) => sees_c cx h ten A1 10 10 hl (by omega))
  rw [hs] at HSN
  have HF := Lib.hid (fun W (h : PSt gp gs A n c ts s W) => fail_c cx h 9 (by decide))
  have HH := Lib.hid (h.alloc (.cells (stC zT pA0).toArray 41))
  have HE : Hid (Wr [gp, gs] w (w.alloc (.cells (stC zT pA0).toArray 41))) := (Wr.refl _ _).alloc _
  have HB : Hid (Blk (w.alloc (.cells (stC zT pA0).toArray 41)) w.heap.size 41 (stC zT pA0)) := Blk.new _ _ _
  have HLO := Lib.hid (h.lo cx)
  clear h hs
  go_enter Tryd.func13, Tryd.ntmps13
  go_wp2_with (first
    | (go_at_call 9; (refine (HSN.out _ _ (by exact HH.out.alloc _) (by exact rd_strs (L := ten) (by simp) rfl)).mono ?_); rintro e w2 ⟨rfl, hB2⟩
       have H2 := Lib.hid ((HH.out.alloc _).below hB2)
       have HE2 := Lib.hid ((HE.out.alloc _).trans (Wr.of_below hB2))
       have HB2 := Lib.hid ((HB.out.alloc _).below hB2 (HB.out.alloc _).lt)
       clear hB2)
    | (go_at_call 29; (refine (HF.out _ (by exact H2.out)).mono ?_); rintro e w3 ⟨rfl, h3, hW3⟩
       have hW4 : Wr [gp, gs] w2 w3 := hW3.mono (fun g hg => by simp only [List.mem_cons, List.not_mem_nil, or_false] at hg ⊢; omega)
       have H3 := Lib.hid h3
       have HE3 := Lib.hid (HE2.out.trans hW4)
       have HB3 : Hid (Blk w3 w.heap.size 41 (stC zT pA0)) := Blk.wr HB2.out hW4 HLO.out (Nat.le_refl _)
       clear h3 hW3 hW4)
    | refine wpList_build rfl 41 [] rfl _ (by rfl) _ (bld_St0 _) ?_
    | (refine wpList_store_all rfl 41 (.tmp 2) (.tmp 11) rfl w.heap.size (stC zT pA0) (by rfl) (by rfl) 41 (stC zT pA0) (by exact HB3.out) hdSt (stC_one _ _) rfl ?_; intro w9_ hb9 ho9))
  refine bodyPost_ret (res_c rfl _ w.heap.size 41 (stC zT pA0) rfl hb9 _ Tryd.underlying41 rfl hdSt) rfl ⟨pA0, rfl, StIn.zero _ _ zs 0, H3.out.only HLO.out (Nat.le_refl _) ho9, HE3.out.thenb (ho9.below (Below.refl _ _) (Nat.le_refl _) HE3.out.size)⟩
theorem stmt_all (cx : Cx gp gs A n ts) : ∀ (d : Nat), StK gp gs A n c ts (stmtP ts d) (QS d)
  | 0 => fun s w h hq => absurd hq.d1 (by omega)
  | d + 1 => fun s w h hq => by
    have hbo := body_c (c := c) cx (stmtP ts d) d (stmt_all cx d) (stmt_g cx.ends d) (stmt_adv cx.ends d)
    have e : stmtP ts (d + 1) s = stmtG ts (stmtP ts d) s := rfl
    rw [e]
    cases hs : sees ts ten s
    · exact stmt_none cx _ s w h hs
    · have hk : bytesOf (pk ts s).text ∈ ten := ten_in (by unfold sees at hs; simp only [Bool.and_eq_true] at hs; exact hs.2)
      have G := stmt_g cx.ends d
      simp only [ten, List.mem_cons, List.not_mem_nil, or_false] at hk
      rcases hk with hk | hk | hk | hk | hk | hk | hk | hk | hk | hk
      · exact stmt_line cx _ _ hbo G s w h hq hs (.inl hk)
      · exact stmt_line cx _ _ hbo G s w h hq hs (.inr (.inl hk))
      · exact stmt_line cx _ _ hbo G s w h hq hs (.inr (.inr (.inl hk)))
      · exact stmt_line cx _ _ hbo G s w h hq hs (.inr (.inr (.inr (.inl hk))))
      · exact stmt_line cx _ _ hbo G s w h hq hs (.inr (.inr (.inr (.inr (.inl hk)))))
      · exact stmt_after cx _ _ hbo G s w h hq hs hk
      · exact stmt_repeat cx _ _ hbo G s w h hq hs hk
      · exact stmt_line cx _ _ hbo G s w h hq hs (.inr (.inr (.inr (.inr (.inr (.inl hk))))))
      · exact stmt_line cx _ _ hbo G s w h hq hs (.inr (.inr (.inr (.inr (.inr (.inr hk))))))
      · cases hw : sees ts [k_else] (bodyP ts (stmtP ts d) (refP ts (takeP ts k_acked (nxt s))).2).2
        · exact stmt_if0 cx _ _ hbo G s w h hq hs hk hw
        · exact stmt_if1 cx _ _ hbo G s w h hq hs hk hw
end
end Go.Proofs.YtafjkbbiaopemaaDoor.Tr
