/- Part of the proof: Uj. -/
import Derived.MapKept
import Derived.Test.YtafjkbbiaopemaaGreatDoorTox26
set_option linter.unusedVariables false
namespace Go.Proofs.YtafjkbbiaopemaaGreatDoor.Tr
open Go.RowKit
attribute [local go_sem ↓] ldq_St
theorem strl {a : ByteArray} {l : List UInt8} (h : a ≠ ⟨l.toArray⟩) : (a.toList == l) = false := by
  rw [ByteArray.toList_eq, beq_eq_false_iff_ne]
  exact fun e => h (ByteArray.ext (Array.toList_inj.1 (by rw [e])))
theorem ten_kind {ts : List Lx.Tok} {s : PS} (h : sees ts ten s = true) : (tokAt ts s.i).kind ≠ 6 := by
  unfold sees isOf pk at h
  simp only [Bool.and_eq_true, Bool.or_eq_true, decide_eq_true_eq] at h
  rcases h.2.1 with h | h <;> omega
section
variable {gp gs : Nat} {A : Option Addr} {n c : Nat} {ts : List Lx.Tok}
set_option maxRecDepth 100000 in
set_option maxHeartbeats 4000000 in
theorem stmt_line (cx : Cx gp gs A n ts) (st : PS → St × PS) (d : Nat) (hbo : BoK gp gs A n c ts (bodyP ts st) (QS d)) (hst : ∀ s, Pg ts s (st s).2) (s : PS) (w : World) (h : PSt gp gs A n c ts s w) (hq : QS d s) (hs : sees ts ten s = true) (hK : bytesOf (pk ts s).text = k_send ∨ bytesOf (pk ts s).text = k_split ∨ bytesOf (pk ts s).text = k_cover ∨ bytesOf (pk ts s).text = k_wait ∨ bytesOf (pk ts s).text = k_block ∨ bytesOf (pk ts s).text = k_retry ∨ bytesOf (pk ts s).text = k_every) :
    Calls Tryz.prog 24 #[.pointer (some ⟨gp, 0, none⟩)] w fun e w' => ∃ p : StA, e = .returned (.agg (stC (stmtG ts st s).1 p).toArray) ∧ StIn (Fr w.heap.size) w' (stmtG ts st s).1 p ∧ PSt gp gs A n c ts (stmtG ts st s).2 w' ∧ Wr [gp, gs] w w' := by
  have n1 : (bytesOf (pk ts s).text) ≠ k_after ∧ (bytesOf (pk ts s).text) ≠ k_repeat ∧ (bytesOf (pk ts s).text) ≠ k_if := by rcases hK with h | h | h | h | h | h | h <;> rw [h] <;> decide
  have HT : Hid (stmtG ts st s = ((lineP ts (bytesOf (pk ts s).text) ((pk ts s).at_ : Int) (nxt s)).1, takeP ts m_semi (lineP ts (bytesOf (pk ts s).text) ((pk ts s).at_ : Int) (nxt s)).2)) := (by show _ = _; unfold stmtG; rw [if_pos hs]; dsimp only; rw [if_neg n1.1, if_neg n1.2.1, if_neg n1.2.2])
  rw [HT.out]
  have HSN := Lib.hid (fun W A1 (h : PSt gp gs A n c ts s W) (hl : Rd W A1 10 (strs ten)) => sees_c cx h ten A1 10 10 hl (by omega))
  rw [hs] at HSN
  have hk6 : (tokAt ts s.i).kind ≠ 6 := ten_kind hs
  have HNX := Lib.hid (fun W (h : PSt gp gs A n c ts s W) => next_c cx h hk6)
  have HH := Lib.hid (h.alloc (.cells (stC zT pA0).toArray 42))
  have HE : Hid (Wr [gp, gs] w (w.alloc (.cells (stC zT pA0).toArray 42))) := (Wr.refl _ _).alloc _
  have HB : Hid (Blk (w.alloc (.cells (stC zT pA0).toArray 42)) w.heap.size 42 (stC zT pA0)) := Blk.new _ _ _
  have HLO := Lib.hid (h.lo cx)
  have HC0 : Hid (∀ W, PSt gp gs A n c ts s W → W.cell? ⟨gp, 0, none⟩ = some (.pointer (some ⟨gs, 0, none⟩))) := fun W h => h.par.cell 0
  have HN1 : Hid (Pg ts s (nxt s)) := nxt_g (sees_lt cx.ends hs) (sees_ok hs)
  unfold tokCells at HNX
  have HTK := Lib.hid (fun W (h : PSt gp gs A n c ts (lineP ts (bytesOf (pk ts s).text) ((pk ts s).at_ : Int) (nxt s)).2 W) => take_c cx h m_semi)
  have HLN := Lib.hid (fun (gt : Nat) (W : World) (h : LnS gp gs gt A n c ts W (kT (bytesOf (pk ts s).text) ((pk ts s).at_ : Int)) pA0 (nxt s) W) => line_any cx (bytesOf (pk ts s).text) hK ((pk ts s).at_ : Int) pA0 h (hq.q.pg HN1.out))
  clear h hq hs hk6 HT HN1
  generalize lineP ts (bytesOf (pk ts s).text) ((pk ts s).at_ : Int) (nxt s) = TQ at *
  obtain ⟨n1a, n1b, n1c⟩ := n1
  unfold pk at *
  generalize hat : ((tokAt ts s.i).at_ : Int) = at_ at *
  generalize bytesOf (tokAt ts s.i).text = K at *
  have x1 : (K.toList == [97, 102, 116, 101, 114]) = false := strl n1a
  have x2 : (K.toList == [114, 101, 112, 101, 97, 116]) = false := strl n1b
  have x3 : (K.toList == [105, 102]) = false := strl n1c
  clear n1a n1b n1c
  go_enter Tryz.func24, Tryz.ntmps24
  go_upto_region 6 with (first
    | (go_at_call 20; (refine (HSN.out _ _ (by exact HH.out.alloc _) (by exact rd_strs (L := ten) (by simp) rfl)).mono ?_); rintro e w2 ⟨rfl, hB2⟩
       have H2 := Lib.hid ((HH.out.alloc _).below hB2)
       have HE2 := Lib.hid ((HE.out.alloc _).trans (Wr.of_below hB2))
       have HB2 := Lib.hid ((HB.out.alloc _).below hB2 (HB.out.alloc _).lt)
       have c2 := HC0.out _ H2.out
       clear hB2)
    | (go_at_call 47; (refine (HNX.out _ (by exact H2.out)).mono ?_); rintro e w3 ⟨rfl, h3, hW3⟩
       have H3 := Lib.hid h3
       have HE3 := Lib.hid (HE2.out.trans hW3)
       have HB3 : Hid (Blk w3 w.heap.size 42 (stC zT pA0)) := Blk.wr HB2.out hW3 HLO.out (Nat.le_refl _)
       clear h3 hW3 c2)
    | refine wpList_build rfl 42 [(0, .tmp 18), (1, .tmp 20)] rfl _ (by rfl) _ (bld_St _ _ _) ?_
    | (refine wpList_store_all rfl 42 (.tmp 4) (.tmp 21) rfl (w3.heap.size + 1) (stC (kT K at_) pA0) (by rfl) (by rfl) 42 (stC zT pA0) (by exact Blk.new' (by simp) rfl) hdSt (stC_one _ _) rfl ?_
       intro w6 hb6 ho6
       have hz3 := HB3.out.lt
       have hgt : Hid (w.heap.size < w3.heap.size + 1) := (by show _ < _; omega)
       have HS6 : Hid (LnS gp gs (w3.heap.size + 1) A n c ts w6 (kT K at_) pA0 (nxt s) w6) := ⟨((H3.out.alloc _).alloc _).only (HLO.out.mono (by omega)) (Nat.le_refl _) ho6, Wr.refl _ _, hb6, StIn.zero _ _ _ _, HLO.out.mono (by omega), hb6.lt⟩
       have HW6 : Hid (Wr [gp, gs] w w6) := ((HE3.out.alloc _).alloc _).thenb (ho6.below (Below.refl _ _) (by omega) (by have := HE3.out.size; simp; omega))
       have HB6 : Hid (Blk w6 w.heap.size 42 (stC zT pA0)) := ho6.blk ((HB3.out.alloc _).alloc _) (by omega)
       clear hb6 ho6 hz3))
  obtain ⟨gt, hgx⟩ : ∃ gt, gt = w3.heap.size + 1 := ⟨_, rfl⟩
  rw [← hgx] at hgt HS6
  rw [← hgx]
  have hc6 : w6.cell? ⟨gt, 0, none⟩ = some (.string K) := HS6.out.e.cell 0
  clear hgx H2 HE2 HB2 H3 HE3 HB3 HSN HNX HH HE HB HC0
  go_wp2_with (first
    | (refine wpList_store_all rfl 42 (.tmp 2) (.tmp 62) rfl w.heap.size (stC TQ.1 p7) (by rfl) (by rfl) 42 (stC zT pA0) (by exact HZ8.out) hdSt (stC_one _ _) rfl ?_; intro w9_ hb9 ho9)
    | (go_at_call 49; (with_reducible refine (HTK.out _ (by exact HS7.out.st)).mono ?_); rintro e w8_ ⟨rfl, h2, hW2⟩; have HS8 := Lib.hid (HS7.out.call h2 hW2); have hl8 := sd_ld HS8.out.e; have HZ8 := Lib.hid (HS8.out.res HB6.out hgt.out HLO.out); clear h2 hW2)
    | (go_at_call 56; (refine (HLN.out _ _ (by exact HS6.out)).mono ?_); rintro e w7_ ⟨rfl, p7, h7⟩; have HS7 := Lib.hid h7; clear h7))
  obtain ⟨e1, e2, e3⟩ := StE HS8.out HW6.out hgt.out HLO.out ho9
  refine bodyPost_ret (res_c rfl _ w.heap.size 42 (stC TQ.1 p7) rfl hb9 _ Tryz.underlying42 rfl hdSt) rfl ⟨p7, rfl, e1, e2, e3⟩
set_option maxRecDepth 100000 in
set_option maxHeartbeats 4000000 in
theorem stmt_after (cx : Cx gp gs A n ts) (st : PS → St × PS) (d : Nat) (hbo : BoK gp gs A n c ts (bodyP ts st) (QS d)) (hst : ∀ s, Pg ts s (st s).2) (s : PS) (w : World) (h : PSt gp gs A n c ts s w) (hq : QS d s) (hs : sees ts ten s = true) (hK : bytesOf (pk ts s).text = k_after) :
    Calls Tryz.prog 24 #[.pointer (some ⟨gp, 0, none⟩)] w fun e w' => ∃ p : StA, e = .returned (.agg (stC (stmtG ts st s).1 p).toArray) ∧ StIn (Fr w.heap.size) w' (stmtG ts st s).1 p ∧ PSt gp gs A n c ts (stmtG ts st s).2 w' ∧ Wr [gp, gs] w w' := by
  have HT : Hid (stmtG ts st s = (.mk k_after ((pk ts s).at_ : Int) zR (EX ts (nxt s)).1 zE zE [] zR zR (bodyP ts st ((EX ts (nxt s)).2)).1 [], (bodyP ts st ((EX ts (nxt s)).2)).2)) := (by show _ = _; unfold stmtG; rw [if_pos hs]; dsimp only; rw [if_pos hK, hK])
  rw [HT.out]
  have HSN := Lib.hid (fun W A1 (h : PSt gp gs A n c ts s W) (hl : Rd W A1 10 (strs ten)) => sees_c cx h ten A1 10 10 hl (by omega))
  rw [hs] at HSN
  have hk6 : (tokAt ts s.i).kind ≠ 6 := ten_kind hs
  have HNX := Lib.hid (fun W (h : PSt gp gs A n c ts s W) => next_c cx h hk6)
  have HH := Lib.hid (h.alloc (.cells (stC zT pA0).toArray 42))
  have HE : Hid (Wr [gp, gs] w (w.alloc (.cells (stC zT pA0).toArray 42))) := (Wr.refl _ _).alloc _
  have HB : Hid (Blk (w.alloc (.cells (stC zT pA0).toArray 42)) w.heap.size 42 (stC zT pA0)) := Blk.new _ _ _
  have HLO := Lib.hid (h.lo cx)
  have HC0 : Hid (∀ W, PSt gp gs A n c ts s W → W.cell? ⟨gp, 0, none⟩ = some (.pointer (some ⟨gs, 0, none⟩))) := fun W h => h.par.cell 0
  have HN1 : Hid (Pg ts s (nxt s)) := nxt_g (sees_lt cx.ends hs) (sees_ok hs)
  unfold tokCells at HNX
  have C1 := Lib.hid (fun W (h : PSt gp gs A n c ts (nxt s) W) => expr_all cx 14 (nxt s) W h (hq.q.pg (HN1.out)))
  have C2 := Lib.hid (fun W (h : PSt gp gs A n c ts ((EX ts (nxt s)).2) W) => hbo ((EX ts (nxt s)).2) W h (hq.pg ((HN1.out).trans (expr_g cx.ends 14 (nxt s)))))
  clear h hq hs hk6 HT HN1
  generalize (EX ts (nxt s)).1 = X1 at *
  generalize hq1 : (EX ts (nxt s)).2 = q1 at *
  generalize (bodyP ts st (q1)).1 = X2 at *
  generalize hq2 : (bodyP ts st (q1)).2 = q2 at *
  unfold pk at *
  generalize hat : ((tokAt ts s.i).at_ : Int) = at_ at *
  generalize bytesOf (tokAt ts s.i).text = K at *
  subst hK
  go_enter Tryz.func24, Tryz.ntmps24
  go_upto_region 6 with (first
    | (go_at_call 20; (refine (HSN.out _ _ (by exact HH.out.alloc _) (by exact rd_strs (L := ten) (by simp) rfl)).mono ?_); rintro e w2 ⟨rfl, hB2⟩
       have H2 := Lib.hid ((HH.out.alloc _).below hB2)
       have HE2 := Lib.hid ((HE.out.alloc _).trans (Wr.of_below hB2))
       have HB2 := Lib.hid ((HB.out.alloc _).below hB2 (HB.out.alloc _).lt)
       have c2 := HC0.out _ H2.out
       clear hB2)
    | (go_at_call 47; (refine (HNX.out _ (by exact H2.out)).mono ?_); rintro e w3 ⟨rfl, h3, hW3⟩
       have H3 := Lib.hid h3
       have HE3 := Lib.hid (HE2.out.trans hW3)
       have HB3 : Hid (Blk w3 w.heap.size 42 (stC zT pA0)) := Blk.wr HB2.out hW3 HLO.out (Nat.le_refl _)
       clear h3 hW3 c2)
    | refine wpList_build rfl 42 [(0, .tmp 18), (1, .tmp 20)] rfl _ (by rfl) _ (bld_St _ _ _) ?_
    | (refine wpList_store_all rfl 42 (.tmp 4) (.tmp 21) rfl (w3.heap.size + 1) (stC (kT k_after at_) pA0) (by rfl) (by rfl) 42 (stC zT pA0) (by exact Blk.new' (by simp) rfl) hdSt (stC_one _ _) rfl ?_
       intro w6 hb6 ho6
       have hz3 := HB3.out.lt
       have hgt : Hid (w.heap.size < w3.heap.size + 1) := (by show _ < _; omega)
       have HS6 : Hid (LnS gp gs (w3.heap.size + 1) A n c ts w6 (kT k_after at_) pA0 (nxt s) w6) := ⟨((H3.out.alloc _).alloc _).only (HLO.out.mono (by omega)) (Nat.le_refl _) ho6, Wr.refl _ _, hb6, StIn.zero _ _ _ _, HLO.out.mono (by omega), hb6.lt⟩
       have HW6 : Hid (Wr [gp, gs] w w6) := ((HE3.out.alloc _).alloc _).thenb (ho6.below (Below.refl _ _) (by omega) (by have := HE3.out.size; simp; omega))
       have HB6 : Hid (Blk w6 w.heap.size 42 (stC zT pA0)) := ho6.blk ((HB3.out.alloc _).alloc _) (by omega)
       clear hb6 ho6 hz3))
  obtain ⟨gt, hgx⟩ : ∃ gt, gt = w3.heap.size + 1 := ⟨_, rfl⟩
  rw [← hgx] at hgt HS6
  rw [← hgx]
  have hc6 : w6.cell? ⟨gt, 0, none⟩ = some (.string k_after) := HS6.out.e.cell 0
  clear hgx H2 HE2 HB2 H3 HE3 HB3 HSN HNX HH HE HB HC0
  go_wp2_with (first
    | (refine wpList_store_all rfl 42 (.tmp 2) (.tmp 62) rfl w.heap.size (stC (.mk k_after at_ zR X1 zE zE [] zR zR X2 []) ⟨a1, pA0.b, pA0.c, pA0.r, (A2, c2), pA0.z⟩) (by rfl) (by rfl) 42 (stC zT pA0) (by exact HZ8.out) hdSt (stC_one _ _) rfl ?_; intro w9_ hb9 ho9)
    | (go_at_call 55; (refine (C2.out _ (by exact HS12.out.st)).mono ?_); rintro e w13_ ⟨A2, c2, rfl, hr, h2, hW2⟩; have HR := hr.keep (keep_low HS12.out.wr.size); have HS13 := Lib.hid (HS12.out.call h2 hW2); have c24_2 : w13_.cell? ⟨gt, 24, none⟩ = some (.slice none 0 0) := HS13.out.e.cell 24; have f24_2 := HS13.out.e.frozen 24; have HS13_ : Hid (LnS gp gs gt A n c ts w6 (.mk k_after at_ zR X1 zE zE [] zR zR X2 []) ⟨a1, pA0.b, pA0.c, pA0.r, (A2, c2), pA0.z⟩ q2 (w13_.setCell ⟨gt, 24, none⟩ (.slice A2 X2.length c2))) := HS13.out.one 24 _ rfl ⟨HS13.out.ar.1, HR, HS13.out.ar.2.2⟩; have hl8 := sd_ld HS13_.out.e; have HZ8 := Lib.hid (HS13_.out.res HB6.out hgt.out HLO.out); clear hr h2 hW2 HR)
    | (refine wpList_store rfl 39 (.tmp 32) (.tmp 31) rfl gt 4 (exC X1 a1) (by rfl) (by rfl) 42 (stC (.mk k_after at_ zR zE zE zE [] zR zR [] []) ⟨pA0.a, pA0.b, pA0.c, pA0.r, pA0.y, pA0.z⟩) (by exact HS11.out.e) hdEx (exC_one X1 a1) (by show 4 + 5 ≤ 26; omega) ?_; intro w12_ hb3 ho3; have HS12 : Hid (LnS gp gs gt A n c ts w6 (.mk k_after at_ zR X1 zE zE [] zR zR [] []) ⟨a1, pA0.b, pA0.c, pA0.r, pA0.y, pA0.z⟩ q1 w12_) := HS11.out.put ho3 (by exact hb3) ⟨⟨HA1.out, HS11.out.ar.1.2⟩, HS11.out.ar.2⟩; clear hb3 ho3)
    | (go_at_call 50; (refine (C1.out _ (by exact HS6.out.st)).mono ?_); rintro e w11_ ⟨a1, rfl, ha, h2, hW2⟩; have HA1 := Lib.hid (ArgsIn.up HS6.out ha); have HS11 := Lib.hid (HS6.out.call h2 hW2); clear ha h2 hW2))
  obtain ⟨e1, e2, e3⟩ := StE HS13_.out HW6.out hgt.out HLO.out ho9
  refine bodyPost_ret (res_c rfl _ w.heap.size 42 (stC (.mk k_after at_ zR X1 zE zE [] zR zR X2 []) ⟨a1, pA0.b, pA0.c, pA0.r, (A2, c2), pA0.z⟩) rfl hb9 _ Tryz.underlying42 rfl hdSt) rfl ⟨⟨a1, pA0.b, pA0.c, pA0.r, (A2, c2), pA0.z⟩, rfl, e1, e2, e3⟩
set_option maxRecDepth 100000 in
set_option maxHeartbeats 4000000 in
theorem stmt_repeat (cx : Cx gp gs A n ts) (st : PS → St × PS) (d : Nat) (hbo : BoK gp gs A n c ts (bodyP ts st) (QS d)) (hst : ∀ s, Pg ts s (st s).2) (s : PS) (w : World) (h : PSt gp gs A n c ts s w) (hq : QS d s) (hs : sees ts ten s = true) (hK : bytesOf (pk ts s).text = k_repeat) :
    Calls Tryz.prog 24 #[.pointer (some ⟨gp, 0, none⟩)] w fun e w' => ∃ p : StA, e = .returned (.agg (stC (stmtG ts st s).1 p).toArray) ∧ StIn (Fr w.heap.size) w' (stmtG ts st s).1 p ∧ PSt gp gs A n c ts (stmtG ts st s).2 w' ∧ Wr [gp, gs] w w' := by
  have HT : Hid (stmtG ts st s = (.mk k_repeat ((pk ts s).at_ : Int) (refP ts (nxt s)).1 (EX ts ((refP ts (nxt s)).2)).1 zE zE [] zR zR (bodyP ts st ((EX ts ((refP ts (nxt s)).2)).2)).1 [], (bodyP ts st ((EX ts ((refP ts (nxt s)).2)).2)).2)) := (by show _ = _; unfold stmtG; rw [if_pos hs]; dsimp only; rw [if_neg (by rw [hK]; decide), if_pos hK, hK])
  rw [HT.out]
  have HSN := Lib.hid (fun W A1 (h : PSt gp gs A n c ts s W) (hl : Rd W A1 10 (strs ten)) => sees_c cx h ten A1 10 10 hl (by omega))
  rw [hs] at HSN
  have hk6 : (tokAt ts s.i).kind ≠ 6 := ten_kind hs
  have HNX := Lib.hid (fun W (h : PSt gp gs A n c ts s W) => next_c cx h hk6)
  have HH := Lib.hid (h.alloc (.cells (stC zT pA0).toArray 42))
  have HE : Hid (Wr [gp, gs] w (w.alloc (.cells (stC zT pA0).toArray 42))) := (Wr.refl _ _).alloc _
  have HB : Hid (Blk (w.alloc (.cells (stC zT pA0).toArray 42)) w.heap.size 42 (stC zT pA0)) := Blk.new _ _ _
  have HLO := Lib.hid (h.lo cx)
  have HC0 : Hid (∀ W, PSt gp gs A n c ts s W → W.cell? ⟨gp, 0, none⟩ = some (.pointer (some ⟨gs, 0, none⟩))) := fun W h => h.par.cell 0
  have HN1 : Hid (Pg ts s (nxt s)) := nxt_g (sees_lt cx.ends hs) (sees_ok hs)
  unfold tokCells at HNX
  have C1 := Lib.hid (fun W (h : PSt gp gs A n c ts (nxt s) W) => ref_c cx h)
  have C2 := Lib.hid (fun W (h : PSt gp gs A n c ts ((refP ts (nxt s)).2) W) => expr_all cx 14 ((refP ts (nxt s)).2) W h (hq.q.pg ((HN1.out).trans (ref_g cx.ends (nxt s)))))
  have C3 := Lib.hid (fun W (h : PSt gp gs A n c ts ((EX ts ((refP ts (nxt s)).2)).2) W) => hbo ((EX ts ((refP ts (nxt s)).2)).2) W h (hq.pg (((HN1.out).trans (ref_g cx.ends (nxt s))).trans (expr_g cx.ends 14 ((refP ts (nxt s)).2)))))
  clear h hq hs hk6 HT HN1
  generalize (refP ts (nxt s)).1 = X1 at *
  generalize hq1 : (refP ts (nxt s)).2 = q1 at *
  generalize (EX ts (q1)).1 = X2 at *
  generalize hq2 : (EX ts (q1)).2 = q2 at *
  generalize (bodyP ts st (q2)).1 = X3 at *
  generalize hq3 : (bodyP ts st (q2)).2 = q3 at *
  unfold pk at *
  generalize hat : ((tokAt ts s.i).at_ : Int) = at_ at *
  generalize bytesOf (tokAt ts s.i).text = K at *
  subst hK
  go_enter Tryz.func24, Tryz.ntmps24
  go_upto_region 6 with (first
    | (go_at_call 20; (refine (HSN.out _ _ (by exact HH.out.alloc _) (by exact rd_strs (L := ten) (by simp) rfl)).mono ?_); rintro e w2 ⟨rfl, hB2⟩
       have H2 := Lib.hid ((HH.out.alloc _).below hB2)
       have HE2 := Lib.hid ((HE.out.alloc _).trans (Wr.of_below hB2))
       have HB2 := Lib.hid ((HB.out.alloc _).below hB2 (HB.out.alloc _).lt)
       have c2 := HC0.out _ H2.out
       clear hB2)
    | (go_at_call 47; (refine (HNX.out _ (by exact H2.out)).mono ?_); rintro e w3 ⟨rfl, h3, hW3⟩
       have H3 := Lib.hid h3
       have HE3 := Lib.hid (HE2.out.trans hW3)
       have HB3 : Hid (Blk w3 w.heap.size 42 (stC zT pA0)) := Blk.wr HB2.out hW3 HLO.out (Nat.le_refl _)
       clear h3 hW3 c2)
    | refine wpList_build rfl 42 [(0, .tmp 18), (1, .tmp 20)] rfl _ (by rfl) _ (bld_St _ _ _) ?_
    | (refine wpList_store_all rfl 42 (.tmp 4) (.tmp 21) rfl (w3.heap.size + 1) (stC (kT k_repeat at_) pA0) (by rfl) (by rfl) 42 (stC zT pA0) (by exact Blk.new' (by simp) rfl) hdSt (stC_one _ _) rfl ?_
       intro w6 hb6 ho6
       have hz3 := HB3.out.lt
       have hgt : Hid (w.heap.size < w3.heap.size + 1) := (by show _ < _; omega)
       have HS6 : Hid (LnS gp gs (w3.heap.size + 1) A n c ts w6 (kT k_repeat at_) pA0 (nxt s) w6) := ⟨((H3.out.alloc _).alloc _).only (HLO.out.mono (by omega)) (Nat.le_refl _) ho6, Wr.refl _ _, hb6, StIn.zero _ _ _ _, HLO.out.mono (by omega), hb6.lt⟩
       have HW6 : Hid (Wr [gp, gs] w w6) := ((HE3.out.alloc _).alloc _).thenb (ho6.below (Below.refl _ _) (by omega) (by have := HE3.out.size; simp; omega))
       have HB6 : Hid (Blk w6 w.heap.size 42 (stC zT pA0)) := ho6.blk ((HB3.out.alloc _).alloc _) (by omega)
       clear hb6 ho6 hz3))
  obtain ⟨gt, hgx⟩ : ∃ gt, gt = w3.heap.size + 1 := ⟨_, rfl⟩
  rw [← hgx] at hgt HS6
  rw [← hgx]
  have hc6 : w6.cell? ⟨gt, 0, none⟩ = some (.string k_repeat) := HS6.out.e.cell 0
  clear hgx H2 HE2 HB2 H3 HE3 HB3 HSN HNX HH HE HB HC0
  go_wp2_with (first
    | (refine wpList_store_all rfl 42 (.tmp 2) (.tmp 62) rfl w.heap.size (stC (.mk k_repeat at_ X1 X2 zE zE [] zR zR X3 []) ⟨a2, pA0.b, pA0.c, pA0.r, (A3, c3), pA0.z⟩) (by rfl) (by rfl) 42 (stC zT pA0) (by exact HZ8.out) hdSt (stC_one _ _) rfl ?_; intro w9_ hb9 ho9)
    | (go_at_call 55; (refine (C3.out _ (by exact HS14.out.st)).mono ?_); rintro e w15_ ⟨A3, c3, rfl, hr, h2, hW2⟩; have HR := hr.keep (keep_low HS14.out.wr.size); have HS15 := Lib.hid (HS14.out.call h2 hW2); have c24_3 : w15_.cell? ⟨gt, 24, none⟩ = some (.slice none 0 0) := HS15.out.e.cell 24; have f24_3 := HS15.out.e.frozen 24; have HS15_ : Hid (LnS gp gs gt A n c ts w6 (.mk k_repeat at_ X1 X2 zE zE [] zR zR X3 []) ⟨a2, pA0.b, pA0.c, pA0.r, (A3, c3), pA0.z⟩ q3 (w15_.setCell ⟨gt, 24, none⟩ (.slice A3 X3.length c3))) := HS15.out.one 24 _ rfl ⟨HS15.out.ar.1, HR, HS15.out.ar.2.2⟩; have hl8 := sd_ld HS15_.out.e; have HZ8 := Lib.hid (HS15_.out.res HB6.out hgt.out HLO.out); clear hr h2 hW2 HR)
    | (refine wpList_store rfl 39 (.tmp 43) (.tmp 42) rfl gt 4 (exC X2 a2) (by rfl) (by rfl) 42 (stC (.mk k_repeat at_ X1 zE zE zE [] zR zR [] []) ⟨pA0.a, pA0.b, pA0.c, pA0.r, pA0.y, pA0.z⟩) (by exact HS13.out.e) hdEx (exC_one X2 a2) (by show 4 + 5 ≤ 26; omega) ?_; intro w14_ hb3 ho3; have HS14 : Hid (LnS gp gs gt A n c ts w6 (.mk k_repeat at_ X1 X2 zE zE [] zR zR [] []) ⟨a2, pA0.b, pA0.c, pA0.r, pA0.y, pA0.z⟩ q2 w14_) := HS13.out.put ho3 (by exact hb3) ⟨⟨HA2.out, HS13.out.ar.1.2⟩, HS13.out.ar.2⟩; clear hb3 ho3)
    | (go_at_call 50; (refine (C2.out _ (by exact HS12.out.st)).mono ?_); rintro e w13_ ⟨a2, rfl, ha, h2, hW2⟩; have HA2 := Lib.hid (ArgsIn.up HS12.out ha); have HS13 := Lib.hid (HS12.out.call h2 hW2); clear ha h2 hW2)
    | (refine wpList_store rfl 36 (.tmp 40) (.tmp 39) rfl gt 2 (rfC X1) (by rfl) (by rfl) 42 (stC (.mk k_repeat at_ zR zE zE zE [] zR zR [] []) ⟨pA0.a, pA0.b, pA0.c, pA0.r, pA0.y, pA0.z⟩) (by exact HS11.out.e) hdRf (rfC_one X1) (by show 2 + 2 ≤ 26; omega) ?_; intro w12_ hb3 ho3; have HS12 : Hid (LnS gp gs gt A n c ts w6 (.mk k_repeat at_ X1 zE zE zE [] zR zR [] []) ⟨pA0.a, pA0.b, pA0.c, pA0.r, pA0.y, pA0.z⟩ q1 w12_) := HS11.out.put ho3 (by exact hb3) HS11.out.ar; clear hb3 ho3)
    | (go_at_call 48; (refine (C1.out _ (by exact HS6.out.st)).mono ?_); rintro e w11_ ⟨rfl, h2, hW2⟩; have HS11 := Lib.hid (HS6.out.call h2 hW2); clear h2 hW2))
  obtain ⟨e1, e2, e3⟩ := StE HS15_.out HW6.out hgt.out HLO.out ho9
  refine bodyPost_ret (res_c rfl _ w.heap.size 42 (stC (.mk k_repeat at_ X1 X2 zE zE [] zR zR X3 []) ⟨a2, pA0.b, pA0.c, pA0.r, (A3, c3), pA0.z⟩) rfl hb9 _ Tryz.underlying42 rfl hdSt) rfl ⟨⟨a2, pA0.b, pA0.c, pA0.r, (A3, c3), pA0.z⟩, rfl, e1, e2, e3⟩
set_option maxRecDepth 100000 in
set_option maxHeartbeats 4000000 in
theorem stmt_if0 (cx : Cx gp gs A n ts) (st : PS → St × PS) (d : Nat) (hbo : BoK gp gs A n c ts (bodyP ts st) (QS d)) (hst : ∀ s, Pg ts s (st s).2) (s : PS) (w : World) (h : PSt gp gs A n c ts s w) (hq : QS d s) (hs : sees ts ten s = true) (hK : bytesOf (pk ts s).text = k_if) (hw : sees ts [k_else] (bodyP ts st (refP ts (takeP ts k_acked (nxt s))).2).2 = false) :
    Calls Tryz.prog 24 #[.pointer (some ⟨gp, 0, none⟩)] w fun e w' => ∃ p : StA, e = .returned (.agg (stC (stmtG ts st s).1 p).toArray) ∧ StIn (Fr w.heap.size) w' (stmtG ts st s).1 p ∧ PSt gp gs A n c ts (stmtG ts st s).2 w' ∧ Wr [gp, gs] w w' := by
  have HT : Hid (stmtG ts st s = (.mk k_if ((pk ts s).at_ : Int) zR zE zE zE [] zR (refP ts (takeP ts k_acked (nxt s))).1 (bodyP ts st ((refP ts (takeP ts k_acked (nxt s))).2)).1 [], (bodyP ts st ((refP ts (takeP ts k_acked (nxt s))).2)).2)) := (by show _ = _; unfold stmtG; rw [if_pos hs]; dsimp only; rw [if_neg (by rw [hK]; decide), if_neg (by rw [hK]; decide), if_pos hK, hK, hw]; rfl)
  rw [HT.out]
  have HSN := Lib.hid (fun W A1 (h : PSt gp gs A n c ts s W) (hl : Rd W A1 10 (strs ten)) => sees_c cx h ten A1 10 10 hl (by omega))
  rw [hs] at HSN
  have hk6 : (tokAt ts s.i).kind ≠ 6 := ten_kind hs
  have HNX := Lib.hid (fun W (h : PSt gp gs A n c ts s W) => next_c cx h hk6)
  have HH := Lib.hid (h.alloc (.cells (stC zT pA0).toArray 42))
  have HE : Hid (Wr [gp, gs] w (w.alloc (.cells (stC zT pA0).toArray 42))) := (Wr.refl _ _).alloc _
  have HB : Hid (Blk (w.alloc (.cells (stC zT pA0).toArray 42)) w.heap.size 42 (stC zT pA0)) := Blk.new _ _ _
  have HLO := Lib.hid (h.lo cx)
  have HC0 : Hid (∀ W, PSt gp gs A n c ts s W → W.cell? ⟨gp, 0, none⟩ = some (.pointer (some ⟨gs, 0, none⟩))) := fun W h => h.par.cell 0
  have HN1 : Hid (Pg ts s (nxt s)) := nxt_g (sees_lt cx.ends hs) (sees_ok hs)
  unfold tokCells at HNX
  have C1 := Lib.hid (fun W (h : PSt gp gs A n c ts (nxt s) W) => take_c cx h k_acked)
  have C2 := Lib.hid (fun W (h : PSt gp gs A n c ts (takeP ts k_acked (nxt s)) W) => ref_c cx h)
  have C3 := Lib.hid (fun W (h : PSt gp gs A n c ts ((refP ts (takeP ts k_acked (nxt s))).2) W) => hbo ((refP ts (takeP ts k_acked (nxt s))).2) W h (hq.pg (((HN1.out).trans (take_g cx.ends k_acked (nxt s))).trans (ref_g cx.ends (takeP ts k_acked (nxt s))))))
  have C4 := Lib.hid (fun W (h : PSt gp gs A n c ts ((bodyP ts st ((refP ts (takeP ts k_acked (nxt s))).2)).2) W) => also_c cx h k_else)
  rw [show alsoP ts k_else ((bodyP ts st ((refP ts (takeP ts k_acked (nxt s))).2)).2) = (bodyP ts st ((refP ts (takeP ts k_acked (nxt s))).2)).2 by unfold alsoP; rw [hw]; rfl, hw] at C4
  clear h hq hs hk6 HT HN1 hw
  generalize hq1 : takeP ts k_acked (nxt s) = q1 at *
  generalize (refP ts (q1)).1 = X2 at *
  generalize hq2 : (refP ts (q1)).2 = q2 at *
  generalize (bodyP ts st (q2)).1 = X3 at *
  generalize hq3 : (bodyP ts st (q2)).2 = q3 at *
  unfold pk at *
  generalize hat : ((tokAt ts s.i).at_ : Int) = at_ at *
  generalize bytesOf (tokAt ts s.i).text = K at *
  subst hK
  go_enter Tryz.func24, Tryz.ntmps24
  go_upto_region 6 with (first
    | (go_at_call 20; (refine (HSN.out _ _ (by exact HH.out.alloc _) (by exact rd_strs (L := ten) (by simp) rfl)).mono ?_); rintro e w2 ⟨rfl, hB2⟩
       have H2 := Lib.hid ((HH.out.alloc _).below hB2)
       have HE2 := Lib.hid ((HE.out.alloc _).trans (Wr.of_below hB2))
       have HB2 := Lib.hid ((HB.out.alloc _).below hB2 (HB.out.alloc _).lt)
       have c2 := HC0.out _ H2.out
       clear hB2)
    | (go_at_call 47; (refine (HNX.out _ (by exact H2.out)).mono ?_); rintro e w3 ⟨rfl, h3, hW3⟩
       have H3 := Lib.hid h3
       have HE3 := Lib.hid (HE2.out.trans hW3)
       have HB3 : Hid (Blk w3 w.heap.size 42 (stC zT pA0)) := Blk.wr HB2.out hW3 HLO.out (Nat.le_refl _)
       clear h3 hW3 c2)
    | refine wpList_build rfl 42 [(0, .tmp 18), (1, .tmp 20)] rfl _ (by rfl) _ (bld_St _ _ _) ?_
    | (refine wpList_store_all rfl 42 (.tmp 4) (.tmp 21) rfl (w3.heap.size + 1) (stC (kT k_if at_) pA0) (by rfl) (by rfl) 42 (stC zT pA0) (by exact Blk.new' (by simp) rfl) hdSt (stC_one _ _) rfl ?_
       intro w6 hb6 ho6
       have hz3 := HB3.out.lt
       have hgt : Hid (w.heap.size < w3.heap.size + 1) := (by show _ < _; omega)
       have HS6 : Hid (LnS gp gs (w3.heap.size + 1) A n c ts w6 (kT k_if at_) pA0 (nxt s) w6) := ⟨((H3.out.alloc _).alloc _).only (HLO.out.mono (by omega)) (Nat.le_refl _) ho6, Wr.refl _ _, hb6, StIn.zero _ _ _ _, HLO.out.mono (by omega), hb6.lt⟩
       have HW6 : Hid (Wr [gp, gs] w w6) := ((HE3.out.alloc _).alloc _).thenb (ho6.below (Below.refl _ _) (by omega) (by have := HE3.out.size; simp; omega))
       have HB6 : Hid (Blk w6 w.heap.size 42 (stC zT pA0)) := ho6.blk ((HB3.out.alloc _).alloc _) (by omega)
       clear hb6 ho6 hz3))
  obtain ⟨gt, hgx⟩ : ∃ gt, gt = w3.heap.size + 1 := ⟨_, rfl⟩
  rw [← hgx] at hgt HS6
  rw [← hgx]
  have hc6 : w6.cell? ⟨gt, 0, none⟩ = some (.string k_if) := HS6.out.e.cell 0
  clear hgx H2 HE2 HB2 H3 HE3 HB3 HSN HNX HH HE HB HC0
  go_wp2_with (first
    | (refine wpList_store_all rfl 42 (.tmp 2) (.tmp 62) rfl w.heap.size (stC (.mk k_if at_ zR zE zE zE [] zR X2 X3 []) ⟨pA0.a, pA0.b, pA0.c, pA0.r, (A3, c3), pA0.z⟩) (by rfl) (by rfl) 42 (stC zT pA0) (by exact HZ8.out) hdSt (stC_one _ _) rfl ?_; intro w9_ hb9 ho9)
    | (go_at_call 52; (with_reducible refine (C4.out _ (by exact HS14_.out.st)).mono ?_); rintro e w15_ ⟨rfl, h2, hW2⟩; have HS15 := Lib.hid (HS14_.out.call h2 hW2); have hl8 := sd_ld HS15.out.e; have HZ8 := Lib.hid (HS15.out.res HB6.out hgt.out HLO.out); clear h2 hW2)
    | (go_at_call 55; (refine (C3.out _ (by exact HS13.out.st)).mono ?_); rintro e w14_ ⟨A3, c3, rfl, hr, h2, hW2⟩; have HR := hr.keep (keep_low HS13.out.wr.size); have HS14 := Lib.hid (HS13.out.call h2 hW2); have c24_3 : w14_.cell? ⟨gt, 24, none⟩ = some (.slice none 0 0) := HS14.out.e.cell 24; have f24_3 := HS14.out.e.frozen 24; have HS14_ : Hid (LnS gp gs gt A n c ts w6 (.mk k_if at_ zR zE zE zE [] zR X2 X3 []) ⟨pA0.a, pA0.b, pA0.c, pA0.r, (A3, c3), pA0.z⟩ q3 (w14_.setCell ⟨gt, 24, none⟩ (.slice A3 X3.length c3))) := HS14.out.one 24 _ rfl ⟨HS14.out.ar.1, HR, HS14.out.ar.2.2⟩; clear hr h2 hW2 HR)
    | (refine wpList_store rfl 36 (.tmp 53) (.tmp 52) rfl gt 22 (rfC X2) (by rfl) (by rfl) 42 (stC (.mk k_if at_ zR zE zE zE [] zR zR [] []) ⟨pA0.a, pA0.b, pA0.c, pA0.r, pA0.y, pA0.z⟩) (by exact HS12.out.e) hdRf (rfC_one X2) (by show 22 + 2 ≤ 26; omega) ?_; intro w13_ hb3 ho3; have HS13 : Hid (LnS gp gs gt A n c ts w6 (.mk k_if at_ zR zE zE zE [] zR X2 [] []) ⟨pA0.a, pA0.b, pA0.c, pA0.r, pA0.y, pA0.z⟩ q2 w13_) := HS12.out.put ho3 (by exact hb3) HS12.out.ar; clear hb3 ho3)
    | (go_at_call 48; (refine (C2.out _ (by exact HS11.out.st)).mono ?_); rintro e w12_ ⟨rfl, h2, hW2⟩; have HS12 := Lib.hid (HS11.out.call h2 hW2); clear h2 hW2)
    | (go_at_call 49; (with_reducible refine (C1.out _ (by exact HS6.out.st)).mono ?_); rintro e w11_ ⟨rfl, h2, hW2⟩; have HS11 := Lib.hid (HS6.out.call h2 hW2); clear h2 hW2))
  obtain ⟨e1, e2, e3⟩ := StE HS15.out HW6.out hgt.out HLO.out ho9
  refine bodyPost_ret (res_c rfl _ w.heap.size 42 (stC (.mk k_if at_ zR zE zE zE [] zR X2 X3 []) ⟨pA0.a, pA0.b, pA0.c, pA0.r, (A3, c3), pA0.z⟩) rfl hb9 _ Tryz.underlying42 rfl hdSt) rfl ⟨⟨pA0.a, pA0.b, pA0.c, pA0.r, (A3, c3), pA0.z⟩, rfl, e1, e2, e3⟩
set_option maxRecDepth 100000 in
set_option maxHeartbeats 4000000 in
theorem stmt_if1 (cx : Cx gp gs A n ts) (st : PS → St × PS) (d : Nat) (hbo : BoK gp gs A n c ts (bodyP ts st) (QS d)) (hst : ∀ s, Pg ts s (st s).2) (s : PS) (w : World) (h : PSt gp gs A n c ts s w) (hq : QS d s) (hs : sees ts ten s = true) (hK : bytesOf (pk ts s).text = k_if) (hw : sees ts [k_else] (bodyP ts st (refP ts (takeP ts k_acked (nxt s))).2).2 = true) :
    Calls Tryz.prog 24 #[.pointer (some ⟨gp, 0, none⟩)] w fun e w' => ∃ p : StA, e = .returned (.agg (stC (stmtG ts st s).1 p).toArray) ∧ StIn (Fr w.heap.size) w' (stmtG ts st s).1 p ∧ PSt gp gs A n c ts (stmtG ts st s).2 w' ∧ Wr [gp, gs] w w' := by
  have HT : Hid (stmtG ts st s = (.mk k_if ((pk ts s).at_ : Int) zR zE zE zE [] zR (refP ts (takeP ts k_acked (nxt s))).1 (bodyP ts st ((refP ts (takeP ts k_acked (nxt s))).2)).1 (bodyP ts st (nxt ((bodyP ts st ((refP ts (takeP ts k_acked (nxt s))).2)).2))).1, (bodyP ts st (nxt ((bodyP ts st ((refP ts (takeP ts k_acked (nxt s))).2)).2))).2)) := (by show _ = _; unfold stmtG; rw [if_pos hs]; dsimp only; rw [if_neg (by rw [hK]; decide), if_neg (by rw [hK]; decide), if_pos hK, hK, hw]; rfl)
  rw [HT.out]
  have HSN := Lib.hid (fun W A1 (h : PSt gp gs A n c ts s W) (hl : Rd W A1 10 (strs ten)) => sees_c cx h ten A1 10 10 hl (by omega))
  rw [hs] at HSN
  have hk6 : (tokAt ts s.i).kind ≠ 6 := ten_kind hs
  have HNX := Lib.hid (fun W (h : PSt gp gs A n c ts s W) => next_c cx h hk6)
  have HH := Lib.hid (h.alloc (.cells (stC zT pA0).toArray 42))
  have HE : Hid (Wr [gp, gs] w (w.alloc (.cells (stC zT pA0).toArray 42))) := (Wr.refl _ _).alloc _
  have HB : Hid (Blk (w.alloc (.cells (stC zT pA0).toArray 42)) w.heap.size 42 (stC zT pA0)) := Blk.new _ _ _
  have HLO := Lib.hid (h.lo cx)
  have HC0 : Hid (∀ W, PSt gp gs A n c ts s W → W.cell? ⟨gp, 0, none⟩ = some (.pointer (some ⟨gs, 0, none⟩))) := fun W h => h.par.cell 0
  have HN1 : Hid (Pg ts s (nxt s)) := nxt_g (sees_lt cx.ends hs) (sees_ok hs)
  unfold tokCells at HNX
  have C1 := Lib.hid (fun W (h : PSt gp gs A n c ts (nxt s) W) => take_c cx h k_acked)
  have C2 := Lib.hid (fun W (h : PSt gp gs A n c ts (takeP ts k_acked (nxt s)) W) => ref_c cx h)
  have C3 := Lib.hid (fun W (h : PSt gp gs A n c ts ((refP ts (takeP ts k_acked (nxt s))).2) W) => hbo ((refP ts (takeP ts k_acked (nxt s))).2) W h (hq.pg (((HN1.out).trans (take_g cx.ends k_acked (nxt s))).trans (ref_g cx.ends (takeP ts k_acked (nxt s))))))
  have C4 := Lib.hid (fun W (h : PSt gp gs A n c ts ((bodyP ts st ((refP ts (takeP ts k_acked (nxt s))).2)).2) W) => also_c cx h k_else)
  rw [show alsoP ts k_else ((bodyP ts st ((refP ts (takeP ts k_acked (nxt s))).2)).2) = nxt ((bodyP ts st ((refP ts (takeP ts k_acked (nxt s))).2)).2) by unfold alsoP; rw [hw]; rfl, hw] at C4
  have C5 := Lib.hid (fun W (h : PSt gp gs A n c ts (nxt ((bodyP ts st ((refP ts (takeP ts k_acked (nxt s))).2)).2)) W) => hbo (nxt ((bodyP ts st ((refP ts (takeP ts k_acked (nxt s))).2)).2)) W h (hq.pg (((((HN1.out).trans (take_g cx.ends k_acked (nxt s))).trans (ref_g cx.ends (takeP ts k_acked (nxt s)))).trans (body_g cx.ends hst ((refP ts (takeP ts k_acked (nxt s))).2))).trans (nxt_g (sees_lt cx.ends hw) (sees_ok hw)))))
  clear h hq hs hk6 HT HN1 hw
  generalize hq1 : takeP ts k_acked (nxt s) = q1 at *
  generalize (refP ts (q1)).1 = X2 at *
  generalize hq2 : (refP ts (q1)).2 = q2 at *
  generalize (bodyP ts st (q2)).1 = X3 at *
  generalize hq3 : (bodyP ts st (q2)).2 = q3 at *
  generalize hq4 : nxt (q3) = q4 at *
  generalize (bodyP ts st (q4)).1 = X5 at *
  generalize hq5 : (bodyP ts st (q4)).2 = q5 at *
  unfold pk at *
  generalize hat : ((tokAt ts s.i).at_ : Int) = at_ at *
  generalize bytesOf (tokAt ts s.i).text = K at *
  subst hK
  go_enter Tryz.func24, Tryz.ntmps24
  go_upto_region 6 with (first
    | (go_at_call 20; (refine (HSN.out _ _ (by exact HH.out.alloc _) (by exact rd_strs (L := ten) (by simp) rfl)).mono ?_); rintro e w2 ⟨rfl, hB2⟩
       have H2 := Lib.hid ((HH.out.alloc _).below hB2)
       have HE2 := Lib.hid ((HE.out.alloc _).trans (Wr.of_below hB2))
       have HB2 := Lib.hid ((HB.out.alloc _).below hB2 (HB.out.alloc _).lt)
       have c2 := HC0.out _ H2.out
       clear hB2)
    | (go_at_call 47; (refine (HNX.out _ (by exact H2.out)).mono ?_); rintro e w3 ⟨rfl, h3, hW3⟩
       have H3 := Lib.hid h3
       have HE3 := Lib.hid (HE2.out.trans hW3)
       have HB3 : Hid (Blk w3 w.heap.size 42 (stC zT pA0)) := Blk.wr HB2.out hW3 HLO.out (Nat.le_refl _)
       clear h3 hW3 c2)
    | refine wpList_build rfl 42 [(0, .tmp 18), (1, .tmp 20)] rfl _ (by rfl) _ (bld_St _ _ _) ?_
    | (refine wpList_store_all rfl 42 (.tmp 4) (.tmp 21) rfl (w3.heap.size + 1) (stC (kT k_if at_) pA0) (by rfl) (by rfl) 42 (stC zT pA0) (by exact Blk.new' (by simp) rfl) hdSt (stC_one _ _) rfl ?_
       intro w6 hb6 ho6
       have hz3 := HB3.out.lt
       have hgt : Hid (w.heap.size < w3.heap.size + 1) := (by show _ < _; omega)
       have HS6 : Hid (LnS gp gs (w3.heap.size + 1) A n c ts w6 (kT k_if at_) pA0 (nxt s) w6) := ⟨((H3.out.alloc _).alloc _).only (HLO.out.mono (by omega)) (Nat.le_refl _) ho6, Wr.refl _ _, hb6, StIn.zero _ _ _ _, HLO.out.mono (by omega), hb6.lt⟩
       have HW6 : Hid (Wr [gp, gs] w w6) := ((HE3.out.alloc _).alloc _).thenb (ho6.below (Below.refl _ _) (by omega) (by have := HE3.out.size; simp; omega))
       have HB6 : Hid (Blk w6 w.heap.size 42 (stC zT pA0)) := ho6.blk ((HB3.out.alloc _).alloc _) (by omega)
       clear hb6 ho6 hz3))
  obtain ⟨gt, hgx⟩ : ∃ gt, gt = w3.heap.size + 1 := ⟨_, rfl⟩
  rw [← hgx] at hgt HS6
  rw [← hgx]
  have hc6 : w6.cell? ⟨gt, 0, none⟩ = some (.string k_if) := HS6.out.e.cell 0
  clear hgx H2 HE2 HB2 H3 HE3 HB3 HSN HNX HH HE HB HC0
  go_wp2_with (first
    | (refine wpList_store_all rfl 42 (.tmp 2) (.tmp 62) rfl w.heap.size (stC (.mk k_if at_ zR zE zE zE [] zR X2 X3 X5) ⟨pA0.a, pA0.b, pA0.c, pA0.r, (A3, c3), (A5, c5)⟩) (by rfl) (by rfl) 42 (stC zT pA0) (by exact HZ8.out) hdSt (stC_one _ _) rfl ?_; intro w9_ hb9 ho9)
    | (go_at_call 55; (refine (C5.out _ (by exact HS15.out.st)).mono ?_); rintro e w16_ ⟨A5, c5, rfl, hr, h2, hW2⟩; have HR := hr.keep (keep_low HS15.out.wr.size); have HS16 := Lib.hid (HS15.out.call h2 hW2); have c25_5 : w16_.cell? ⟨gt, 25, none⟩ = some (.slice none 0 0) := HS16.out.e.cell 25; have f25_5 := HS16.out.e.frozen 25; have HS16_ : Hid (LnS gp gs gt A n c ts w6 (.mk k_if at_ zR zE zE zE [] zR X2 X3 X5) ⟨pA0.a, pA0.b, pA0.c, pA0.r, (A3, c3), (A5, c5)⟩ q5 (w16_.setCell ⟨gt, 25, none⟩ (.slice A5 X5.length c5))) := HS16.out.one 25 _ rfl ⟨HS16.out.ar.1, HS16.out.ar.2.1, HR⟩; have hl8 := sd_ld HS16_.out.e; have HZ8 := Lib.hid (HS16_.out.res HB6.out hgt.out HLO.out); clear hr h2 hW2 HR)
    | (go_at_call 52; (with_reducible refine (C4.out _ (by exact HS14_.out.st)).mono ?_); rintro e w15_ ⟨rfl, h2, hW2⟩; have HS15 := Lib.hid (HS14_.out.call h2 hW2); clear h2 hW2)
    | (go_at_call 55; (refine (C3.out _ (by exact HS13.out.st)).mono ?_); rintro e w14_ ⟨A3, c3, rfl, hr, h2, hW2⟩; have HR := hr.keep (keep_low HS13.out.wr.size); have HS14 := Lib.hid (HS13.out.call h2 hW2); have c24_3 : w14_.cell? ⟨gt, 24, none⟩ = some (.slice none 0 0) := HS14.out.e.cell 24; have f24_3 := HS14.out.e.frozen 24; have HS14_ : Hid (LnS gp gs gt A n c ts w6 (.mk k_if at_ zR zE zE zE [] zR X2 X3 []) ⟨pA0.a, pA0.b, pA0.c, pA0.r, (A3, c3), pA0.z⟩ q3 (w14_.setCell ⟨gt, 24, none⟩ (.slice A3 X3.length c3))) := HS14.out.one 24 _ rfl ⟨HS14.out.ar.1, HR, HS14.out.ar.2.2⟩; clear hr h2 hW2 HR)
    | (refine wpList_store rfl 36 (.tmp 53) (.tmp 52) rfl gt 22 (rfC X2) (by rfl) (by rfl) 42 (stC (.mk k_if at_ zR zE zE zE [] zR zR [] []) ⟨pA0.a, pA0.b, pA0.c, pA0.r, pA0.y, pA0.z⟩) (by exact HS12.out.e) hdRf (rfC_one X2) (by show 22 + 2 ≤ 26; omega) ?_; intro w13_ hb3 ho3; have HS13 : Hid (LnS gp gs gt A n c ts w6 (.mk k_if at_ zR zE zE zE [] zR X2 [] []) ⟨pA0.a, pA0.b, pA0.c, pA0.r, pA0.y, pA0.z⟩ q2 w13_) := HS12.out.put ho3 (by exact hb3) HS12.out.ar; clear hb3 ho3)
    | (go_at_call 48; (refine (C2.out _ (by exact HS11.out.st)).mono ?_); rintro e w12_ ⟨rfl, h2, hW2⟩; have HS12 := Lib.hid (HS11.out.call h2 hW2); clear h2 hW2)
    | (go_at_call 49; (with_reducible refine (C1.out _ (by exact HS6.out.st)).mono ?_); rintro e w11_ ⟨rfl, h2, hW2⟩; have HS11 := Lib.hid (HS6.out.call h2 hW2); clear h2 hW2))
  obtain ⟨e1, e2, e3⟩ := StE HS16_.out HW6.out hgt.out HLO.out ho9
  refine bodyPost_ret (res_c rfl _ w.heap.size 42 (stC (.mk k_if at_ zR zE zE zE [] zR X2 X3 X5) ⟨pA0.a, pA0.b, pA0.c, pA0.r, (A3, c3), (A5, c5)⟩) rfl hb9 _ Tryz.underlying42 rfl hdSt) rfl ⟨⟨pA0.a, pA0.b, pA0.c, pA0.r, (A3, c3), (A5, c5)⟩, rfl, e1, e2, e3⟩
end
end Go.Proofs.YtafjkbbiaopemaaGreatDoor.Tr
