/- Part of the proof: Tao. -/
import Derived.Test.YtafjkbbiaopemaaGreatDoorTox44
set_option linter.unusedVariables false
namespace Go.Proofs.YtafjkbbiaopemaaGreatDoor.Tr
open Go.RowKit
attribute [local go_sem ↓] ldq_St
section
variable {gp : Nat} {A : Option Addr} {n c : Nat} {ts : List Lx.Tok}
set_option maxRecDepth 100000 in
set_option maxHeartbeats 4000000 in
theorem rstmt_send00 (cx : RCx gp A n ts) (st : RS → St × RS) (d : Nat) (hbo : RBoK gp A n c ts 91 (rbody ts st) (RQS d)) (hg : ∀ s, RP s (st s).2) (s : RS) (w : World) (h : RSt gp A n c ts s w) (hq : RQS d s) (hs : rbegins ts s = true) (hK : bytesOf (rk ts s).text = k_send) (hw : rIs ts k_with (rroutes ts false (rneed ts k_via (REX ts (rnx s)).2)).2 = false) (ha : rIs ts k_as (rroutes ts false (rneed ts k_via (REX ts (rnx s)).2)).2 = false) :
    Calls Tryz.prog 68 #[.pointer (some ⟨gp, 0, none⟩)] w fun e w' => ∃ p : StA, e = .returned (.agg (stC (rstmtG ts st s).1 p).toArray) ∧ StIn (Fr w.heap.size) w' (rstmtG ts st s).1 p ∧ RSt gp A n c ts (rstmtG ts st s).2 w' ∧ Wr [gp] w w' := by
  have e0 : rwith ts k_with (rroutes ts false (rneed ts k_via (REX ts (rnx s)).2)).2 = (zR, (rroutes ts false (rneed ts k_via (REX ts (rnx s)).2)).2) := by unfold rwith; rw [hw]; rfl
  have e1 : rwith ts k_as (rroutes ts false (rneed ts k_via (REX ts (rnx s)).2)).2 = (zR, (rroutes ts false (rneed ts k_via (REX ts (rnx s)).2)).2) := by unfold rwith; rw [ha]; rfl
  have HT : Hid (rstmtG ts st s = (.mk k_send ((rk ts s).at_ : Int) zR (REX ts (rnx s)).1 zE zE (rroutes ts false (rneed ts k_via (REX ts (rnx s)).2)).1 zR zR [] [], (rneed ts m_semi (rroutes ts false (rneed ts k_via (REX ts (rnx s)).2)).2))) := (by show _ = _; unfold rstmtG; dsimp only; rw [hK]; rw [if_pos rfl]; rw [e0, e1])
  rw [HT.out]
  have HNW := Lib.hid (fun W (h : RSt gp A n c ts s W) => now_c cx h)
  have HH := Lib.hid (h.alloc (.cells (stC zT pA0).toArray 42))
  have HE : Hid (Wr [gp] w (w.alloc (.cells (stC zT pA0).toArray 42))) := (Wr.refl _ _).alloc _
  have HB : Hid (Blk (w.alloc (.cells (stC zT pA0).toArray 42)) w.heap.size 42 (stC zT pA0)) := Blk.new _ _ _
  have HLO := Lib.hid (h.lo cx)
  have HX : Hid (∀ W, RSt gp A n c ts s W → W.cell? ⟨gp, 1, none⟩ = some (.int .i64 s.i) ∧ W.frozen? ⟨gp, 1, none⟩ = false ∧ gp < W.heap.size) := fun W h => ⟨h.b.cell 1, h.b.frozen 1, h.b.lt⟩
  have hi8 : s.i < 100000 := by have := h.lt; have := cx.hn; have := cx.hn8; omega
  have hltt := rbegins_lt cx.ends hs
  have HNX := Lib.hid (fun W (h : RSt gp A n c ts s W) => RSt.next cx h hltt)
  unfold tokCells at HNW
  have C1 := Lib.hid (fun W (h : RSt gp A n c ts (rnx s) W) => rexpr_all cx 14 (rnx s) W h (hq.q.rp (rnx_p)))
  have C2 := Lib.hid (fun W (h : RSt gp A n c ts (REX ts (rnx s)).2 W) => need_c k_via cx h)
  have C3 := Lib.hid (fun W (h : RSt gp A n c ts (rneed ts k_via (REX ts (rnx s)).2) W) => routes_c cx h false)
  have C4 := Lib.hid (fun W (h : RSt gp A n c ts (rroutes ts false (rneed ts k_via (REX ts (rnx s)).2)).2 W) => over_c k_with cx h)
  rw [hw, show rover ts k_with (rroutes ts false (rneed ts k_via (REX ts (rnx s)).2)).2 = (rroutes ts false (rneed ts k_via (REX ts (rnx s)).2)).2 by unfold rover; rw [hw]; rfl] at C4
  have C5 := Lib.hid (fun W (h : RSt gp A n c ts (rroutes ts false (rneed ts k_via (REX ts (rnx s)).2)).2 W) => over_c k_as cx h)
  rw [ha, show rover ts k_as (rroutes ts false (rneed ts k_via (REX ts (rnx s)).2)).2 = (rroutes ts false (rneed ts k_via (REX ts (rnx s)).2)).2 by unfold rover; rw [ha]; rfl] at C5
  have C6 := Lib.hid (fun W (h : RSt gp A n c ts (rroutes ts false (rneed ts k_via (REX ts (rnx s)).2)).2 W) => need_c m_semi cx h)
  clear h hq hs hltt HT hbo ha hw e0 e1
  generalize rnx s = q0 at *
  generalize (REX ts q0).1 = X1 at *
  generalize (REX ts q0).2 = q1 at *
  generalize (rneed ts k_via q1) = q2 at *
  generalize (rroutes ts false q2).1 = X3 at *
  generalize (rroutes ts false q2).2 = q3 at *
  generalize (rneed ts m_semi q3) = q6 at *
  rw [hK] at HNW
  generalize ((rk ts s).at_ : Int) = at_ at *
  generalize ((rk ts s).kind : Int) = tk at *
  generalize (rk ts s).num = tn at *
  clear hK cx hg
  have hf1 := fld1 (.int .i64 tk) (.string k_send) (.int .i64 tn) (.int .i64 at_)
  have hf3 := fld3 (.int .i64 tk) (.string k_send) (.int .i64 tn) (.int .i64 at_)
  go_enter Tryz.func68, Tryz.ntmps68
  go_upto_region 2 with (first
    | (go_at_call 27; (refine (HNW.out _ (by exact H2.out)).mono ?_); rintro e w3 ⟨rfl, hB3⟩
       have H3 := Lib.hid (H2.out.below hB3)
       have HE3 := Lib.hid (HE2.out.trans (Wr.of_below hB3))
       have HB3 := qbl HB2 hB3
       clear hB3)
    | (go_at_call 27; (refine (HNW.out _ (by exact HH.out)).mono ?_); rintro e w2 ⟨rfl, hB2⟩
       have H2 := Lib.hid (HH.out.below hB2)
       have HE2 := Lib.hid (HE.out.trans (Wr.of_below hB2))
       have HB2 := qbl HB hB2
       clear hB2)
    | refine wpList_build rfl 42 [(0, .tmp 6), (1, .tmp 9)] rfl _ (by rfl) _ (bld_St _ _ _) ?_
    | (refine wpList_store_all rfl 42 (.tmp 3) (.tmp 10) rfl w3.heap.size (stC (kT k_send at_) pA0) (by rfl) (by rfl) 42 (stC zT pA0) (by exact Blk.new' (by simp) rfl) hdSt (stC_one _ _) rfl ?_
       intro w6 hb6 ho6
       have hz3 := HB3.out.lt
       have hgt : Hid (w.heap.size < w3.heap.size) := (by show _ < _; omega)
       have HS6 : Hid (RLn gp w3.heap.size A n c ts w6 (kT k_send at_) pA0 s w6) := ⟨(H3.out.alloc _).only (HLO.out.mono (by omega)) (Nat.le_refl _) ho6, Wr.refl _ _, hb6, StIn.zero _ _ _ _, HLO.out.mono (by omega), hb6.lt⟩
       have HW6 : Hid (Wr [gp] w w6) := (HE3.out.alloc _).thenb (ho6.below (Below.refl _ _) (by omega) (by have := HE3.out.size; simp; omega))
       have HB6 : Hid (Blk w6 w.heap.size 42 (stC zT pA0)) := ho6.blk (HB3.out.alloc _) (by omega)
       obtain ⟨k1, j1, l1⟩ := HX.out w6 HS6.out.st
       clear hb6 ho6 hz3))
  obtain ⟨gt, hgx⟩ : ∃ gt, gt = w3.heap.size := ⟨_, rfl⟩
  rw [← hgx] at hgt HS6
  rw [← hgx]
  clear hgx H2 HE2 HB2 H3 HE3 HB3 HNW HH HE HB
  go_upto_region 3 with fail
  have HS0 : Hid (RLn gp gt A n c ts w6 (kT k_send at_) pA0 q0 (w6.setCell ⟨gp, 1, none⟩ (.int .i64 ((s.i : Int) + 1)))) := HS6.out.call (HNX.out w6 HS6.out.st).1 (HNX.out w6 HS6.out.st).2
  generalize w6.setCell ⟨gp, 1, none⟩ (.int .i64 ((s.i : Int) + 1)) = w7 at *
  have hc0 : w7.cell? ⟨gt, 0, none⟩ = some (.string k_send) := HS0.out.e.cell 0
  clear HX HNX k1 j1 l1 HS6
  go_wp2_with (first
    | (refine wpList_store_all rfl 42 (.tmp 2) (.tmp 168) rfl w.heap.size (stC (.mk k_send at_ zR X1 zE zE X3 zR zR [] []) ⟨a1, pA0.b, pA0.c, (A3, c3), pA0.y, pA0.z⟩) (by rfl) (by rfl) 42 (stC zT pA0) (by exact HZ8.out) hdSt (stC_one _ _) rfl ?_; intro w9_ hb9 ho9)
    | (go_at_call 63; (with_reducible refine (C6.out _ (by exact HS6.out.st)).mono ?_); rintro e v7 ⟨rfl, h2, hW2⟩; have HS7 := Lib.hid (HS6.out.call h2 hW2); have kk7 : v7.cell? ⟨gt, 0, none⟩ = some (.string k_send) := HS7.out.e.cell 0; have hl8 := sd_ld HS7.out.e; have HZ8 := Lib.hid (HS7.out.res HB6.out hgt.out HLO.out); clear h2 hW2)
    | (go_at_call 65; (with_reducible refine (C5.out _ (by exact HS5.out.st)).mono ?_); rintro e v6 ⟨rfl, h2, hW2⟩; have HS6 := Lib.hid (HS5.out.call h2 hW2); have kk6 : v6.cell? ⟨gt, 0, none⟩ = some (.string k_send) := HS6.out.e.cell 0; clear h2 hW2)
    | (go_at_call 65; (with_reducible refine (C4.out _ (by exact HS4_.out.st)).mono ?_); rintro e v5 ⟨rfl, h2, hW2⟩; have HS5 := Lib.hid (HS4_.out.call h2 hW2); have kk5 : v5.cell? ⟨gt, 0, none⟩ = some (.string k_send) := HS5.out.e.cell 0; clear h2 hW2)
    | (go_at_call 90; (refine (C3.out _ (by exact HS3.out.st)).mono ?_); rintro e v4 ⟨A3, c3, rfl, hr, h2, hW2⟩; have HR := Lib.hid (RfsIn.rup HS3.out hr); have HS4 := Lib.hid (HS3.out.call h2 hW2); have c19_ : v4.cell? ⟨gt, 19, none⟩ = some (.slice none 0 0) := HS4.out.e.cell 19; have f19_ := HS4.out.e.frozen 19; have lt19 := HS4.out.e.lt; have HS4_ : Hid (RLn gp gt A n c ts w6 (.mk k_send at_ zR X1 zE zE X3 zR zR [] []) ⟨a1, pA0.b, pA0.c, (A3, c3), pA0.y, pA0.z⟩ q3 (v4.setCell ⟨gt, 19, none⟩ (.slice A3 X3.length c3))) := HS4.out.one 19 _ rfl ⟨⟨HS4.out.ar.1.1, HS4.out.ar.1.2.1, HS4.out.ar.1.2.2.1, HR.out⟩, HS4.out.ar.2⟩; have kk4 : v4.cell? ⟨gt, 0, none⟩ = some (.string k_send) := HS4.out.e.cell 0; clear hr h2 hW2)
    | (go_at_call 63; (with_reducible refine (C2.out _ (by exact HS2.out.st)).mono ?_); rintro e v3 ⟨rfl, h2, hW2⟩; have HS3 := Lib.hid (HS2.out.call h2 hW2); have kk3 : v3.cell? ⟨gt, 0, none⟩ = some (.string k_send) := HS3.out.e.cell 0; clear h2 hW2)
    | (refine wpList_store rfl 39 (.tmp 25) (.tmp 24) rfl gt 4 (exC X1 a1) (by rfl) (by rfl) 42 (stC (.mk k_send at_ zR zE zE zE [] zR zR [] []) ⟨pA0.a, pA0.b, pA0.c, pA0.r, pA0.y, pA0.z⟩) (by exact HS1.out.e) hdEx (exC_one X1 a1) (by show 4 + 5 ≤ 26; omega) ?_; intro v2 hb3 ho3; have HS2 : Hid (RLn gp gt A n c ts w6 (.mk k_send at_ zR X1 zE zE [] zR zR [] []) ⟨a1, pA0.b, pA0.c, pA0.r, pA0.y, pA0.z⟩ q1 v2) := HS1.out.put ho3 (by exact hb3) ⟨⟨HA1.out, HS1.out.ar.1.2⟩, HS1.out.ar.2⟩; have kk2 : v2.cell? ⟨gt, 0, none⟩ = some (.string k_send) := HS2.out.e.cell 0; clear hb3 ho3)
    | (go_at_call 64; (refine (C1.out _ (by exact HS0.out.st)).mono ?_); rintro e v1 ⟨a1, rfl, ha, h2, hW2⟩; have HA1 := Lib.hid (ArgsIn.rup HS0.out ha); have HS1 := Lib.hid (HS0.out.call h2 hW2); clear ha h2 hW2))
  obtain ⟨e1, e2, e3⟩ := RStE HS7.out HW6.out hgt.out HLO.out ho9
  refine bodyPost_ret (res_c rfl _ w.heap.size 42 (stC (.mk k_send at_ zR X1 zE zE X3 zR zR [] []) ⟨a1, pA0.b, pA0.c, (A3, c3), pA0.y, pA0.z⟩) rfl hb9 _ Tryz.underlying42 rfl hdSt) rfl ⟨⟨a1, pA0.b, pA0.c, (A3, c3), pA0.y, pA0.z⟩, rfl, e1, e2, e3⟩
set_option maxRecDepth 100000 in
set_option maxHeartbeats 4000000 in
theorem rstmt_send01 (cx : RCx gp A n ts) (st : RS → St × RS) (d : Nat) (hbo : RBoK gp A n c ts 91 (rbody ts st) (RQS d)) (hg : ∀ s, RP s (st s).2) (s : RS) (w : World) (h : RSt gp A n c ts s w) (hq : RQS d s) (hs : rbegins ts s = true) (hK : bytesOf (rk ts s).text = k_send) (hw : rIs ts k_with (rroutes ts false (rneed ts k_via (REX ts (rnx s)).2)).2 = false) (ha : rIs ts k_as (rroutes ts false (rneed ts k_via (REX ts (rnx s)).2)).2 = true) :
    Calls Tryz.prog 68 #[.pointer (some ⟨gp, 0, none⟩)] w fun e w' => ∃ p : StA, e = .returned (.agg (stC (rstmtG ts st s).1 p).toArray) ∧ StIn (Fr w.heap.size) w' (rstmtG ts st s).1 p ∧ RSt gp A n c ts (rstmtG ts st s).2 w' ∧ Wr [gp] w w' := by
  have e0 : rwith ts k_with (rroutes ts false (rneed ts k_via (REX ts (rnx s)).2)).2 = (zR, (rroutes ts false (rneed ts k_via (REX ts (rnx s)).2)).2) := by unfold rwith; rw [hw]; rfl
  have e1 : rwith ts k_as (rroutes ts false (rneed ts k_via (REX ts (rnx s)).2)).2 = rname ts (rnx (rroutes ts false (rneed ts k_via (REX ts (rnx s)).2)).2) := by unfold rwith; rw [ha]; rfl
  have HT : Hid (rstmtG ts st s = (.mk k_send ((rk ts s).at_ : Int) zR (REX ts (rnx s)).1 zE zE (rroutes ts false (rneed ts k_via (REX ts (rnx s)).2)).1 zR (rname ts (rnx (rroutes ts false (rneed ts k_via (REX ts (rnx s)).2)).2)).1 [] [], (rneed ts m_semi (rname ts (rnx (rroutes ts false (rneed ts k_via (REX ts (rnx s)).2)).2)).2))) := (by show _ = _; unfold rstmtG; dsimp only; rw [hK]; rw [if_pos rfl]; rw [e0, e1])
  rw [HT.out]
  have HNW := Lib.hid (fun W (h : RSt gp A n c ts s W) => now_c cx h)
  have HH := Lib.hid (h.alloc (.cells (stC zT pA0).toArray 42))
  have HE : Hid (Wr [gp] w (w.alloc (.cells (stC zT pA0).toArray 42))) := (Wr.refl _ _).alloc _
  have HB : Hid (Blk (w.alloc (.cells (stC zT pA0).toArray 42)) w.heap.size 42 (stC zT pA0)) := Blk.new _ _ _
  have HLO := Lib.hid (h.lo cx)
  have HX : Hid (∀ W, RSt gp A n c ts s W → W.cell? ⟨gp, 1, none⟩ = some (.int .i64 s.i) ∧ W.frozen? ⟨gp, 1, none⟩ = false ∧ gp < W.heap.size) := fun W h => ⟨h.b.cell 1, h.b.frozen 1, h.b.lt⟩
  have hi8 : s.i < 100000 := by have := h.lt; have := cx.hn; have := cx.hn8; omega
  have hltt := rbegins_lt cx.ends hs
  have HNX := Lib.hid (fun W (h : RSt gp A n c ts s W) => RSt.next cx h hltt)
  unfold tokCells at HNW
  have C1 := Lib.hid (fun W (h : RSt gp A n c ts (rnx s) W) => rexpr_all cx 14 (rnx s) W h (hq.q.rp (rnx_p)))
  have C2 := Lib.hid (fun W (h : RSt gp A n c ts (REX ts (rnx s)).2 W) => need_c k_via cx h)
  have C3 := Lib.hid (fun W (h : RSt gp A n c ts (rneed ts k_via (REX ts (rnx s)).2) W) => routes_c cx h false)
  have C4 := Lib.hid (fun W (h : RSt gp A n c ts (rroutes ts false (rneed ts k_via (REX ts (rnx s)).2)).2 W) => over_c k_with cx h)
  rw [hw, show rover ts k_with (rroutes ts false (rneed ts k_via (REX ts (rnx s)).2)).2 = (rroutes ts false (rneed ts k_via (REX ts (rnx s)).2)).2 by unfold rover; rw [hw]; rfl] at C4
  have C5 := Lib.hid (fun W (h : RSt gp A n c ts (rroutes ts false (rneed ts k_via (REX ts (rnx s)).2)).2 W) => over_c k_as cx h)
  rw [ha, show rover ts k_as (rroutes ts false (rneed ts k_via (REX ts (rnx s)).2)).2 = (rnx (rroutes ts false (rneed ts k_via (REX ts (rnx s)).2)).2) by unfold rover; rw [ha]; rfl] at C5
  have C6 := Lib.hid (fun W (h : RSt gp A n c ts (rnx (rroutes ts false (rneed ts k_via (REX ts (rnx s)).2)).2) W) => name_c cx h)
  have C7 := Lib.hid (fun W (h : RSt gp A n c ts (rname ts (rnx (rroutes ts false (rneed ts k_via (REX ts (rnx s)).2)).2)).2 W) => need_c m_semi cx h)
  clear h hq hs hltt HT hbo ha hw e0 e1
  generalize rnx s = q0 at *
  generalize (REX ts q0).1 = X1 at *
  generalize (REX ts q0).2 = q1 at *
  generalize (rneed ts k_via q1) = q2 at *
  generalize (rroutes ts false q2).1 = X3 at *
  generalize (rroutes ts false q2).2 = q3 at *
  generalize (rnx q3) = q5 at *
  generalize (rname ts q5).1 = X6 at *
  generalize (rname ts q5).2 = q6 at *
  generalize (rneed ts m_semi q6) = q7 at *
  rw [hK] at HNW
  generalize ((rk ts s).at_ : Int) = at_ at *
  generalize ((rk ts s).kind : Int) = tk at *
  generalize (rk ts s).num = tn at *
  clear hK cx hg
  have hf1 := fld1 (.int .i64 tk) (.string k_send) (.int .i64 tn) (.int .i64 at_)
  have hf3 := fld3 (.int .i64 tk) (.string k_send) (.int .i64 tn) (.int .i64 at_)
  go_enter Tryz.func68, Tryz.ntmps68
  go_upto_region 2 with (first
    | (go_at_call 27; (refine (HNW.out _ (by exact H2.out)).mono ?_); rintro e w3 ⟨rfl, hB3⟩
       have H3 := Lib.hid (H2.out.below hB3)
       have HE3 := Lib.hid (HE2.out.trans (Wr.of_below hB3))
       have HB3 := qbl HB2 hB3
       clear hB3)
    | (go_at_call 27; (refine (HNW.out _ (by exact HH.out)).mono ?_); rintro e w2 ⟨rfl, hB2⟩
       have H2 := Lib.hid (HH.out.below hB2)
       have HE2 := Lib.hid (HE.out.trans (Wr.of_below hB2))
       have HB2 := qbl HB hB2
       clear hB2)
    | refine wpList_build rfl 42 [(0, .tmp 6), (1, .tmp 9)] rfl _ (by rfl) _ (bld_St _ _ _) ?_
    | (refine wpList_store_all rfl 42 (.tmp 3) (.tmp 10) rfl w3.heap.size (stC (kT k_send at_) pA0) (by rfl) (by rfl) 42 (stC zT pA0) (by exact Blk.new' (by simp) rfl) hdSt (stC_one _ _) rfl ?_
       intro w6 hb6 ho6
       have hz3 := HB3.out.lt
       have hgt : Hid (w.heap.size < w3.heap.size) := (by show _ < _; omega)
       have HS6 : Hid (RLn gp w3.heap.size A n c ts w6 (kT k_send at_) pA0 s w6) := ⟨(H3.out.alloc _).only (HLO.out.mono (by omega)) (Nat.le_refl _) ho6, Wr.refl _ _, hb6, StIn.zero _ _ _ _, HLO.out.mono (by omega), hb6.lt⟩
       have HW6 : Hid (Wr [gp] w w6) := (HE3.out.alloc _).thenb (ho6.below (Below.refl _ _) (by omega) (by have := HE3.out.size; simp; omega))
       have HB6 : Hid (Blk w6 w.heap.size 42 (stC zT pA0)) := ho6.blk (HB3.out.alloc _) (by omega)
       obtain ⟨k1, j1, l1⟩ := HX.out w6 HS6.out.st
       clear hb6 ho6 hz3))
  obtain ⟨gt, hgx⟩ : ∃ gt, gt = w3.heap.size := ⟨_, rfl⟩
  rw [← hgx] at hgt HS6
  rw [← hgx]
  clear hgx H2 HE2 HB2 H3 HE3 HB3 HNW HH HE HB
  go_upto_region 3 with fail
  have HS0 : Hid (RLn gp gt A n c ts w6 (kT k_send at_) pA0 q0 (w6.setCell ⟨gp, 1, none⟩ (.int .i64 ((s.i : Int) + 1)))) := HS6.out.call (HNX.out w6 HS6.out.st).1 (HNX.out w6 HS6.out.st).2
  generalize w6.setCell ⟨gp, 1, none⟩ (.int .i64 ((s.i : Int) + 1)) = w7 at *
  have hc0 : w7.cell? ⟨gt, 0, none⟩ = some (.string k_send) := HS0.out.e.cell 0
  clear HX HNX k1 j1 l1 HS6
  go_wp2_with (first
    | (refine wpList_store_all rfl 42 (.tmp 2) (.tmp 168) rfl w.heap.size (stC (.mk k_send at_ zR X1 zE zE X3 zR X6 [] []) ⟨a1, pA0.b, pA0.c, (A3, c3), pA0.y, pA0.z⟩) (by rfl) (by rfl) 42 (stC zT pA0) (by exact HZ8.out) hdSt (stC_one _ _) rfl ?_; intro w9_ hb9 ho9)
    | (go_at_call 63; (with_reducible refine (C7.out _ (by exact HS8.out.st)).mono ?_); rintro e v9 ⟨rfl, h2, hW2⟩; have HS9 := Lib.hid (HS8.out.call h2 hW2); have kk9 : v9.cell? ⟨gt, 0, none⟩ = some (.string k_send) := HS9.out.e.cell 0; have hl8 := sd_ld HS9.out.e; have HZ8 := Lib.hid (HS9.out.res HB6.out hgt.out HLO.out); clear h2 hW2)
    | (refine wpList_store rfl 36 (.tmp 152) (.tmp 151) rfl gt 22 (rfC X6) (by rfl) (by rfl) 42 (stC (.mk k_send at_ zR X1 zE zE X3 zR zR [] []) ⟨a1, pA0.b, pA0.c, (A3, c3), pA0.y, pA0.z⟩) (by exact HS7.out.e) hdRf (rfC_one X6) (by show 22 + 2 ≤ 26; omega) ?_; intro v8 hb3 ho3; have HS8 : Hid (RLn gp gt A n c ts w6 (.mk k_send at_ zR X1 zE zE X3 zR X6 [] []) ⟨a1, pA0.b, pA0.c, (A3, c3), pA0.y, pA0.z⟩ q6 v8) := HS7.out.put ho3 (by exact hb3) HS7.out.ar; have kk8 : v8.cell? ⟨gt, 0, none⟩ = some (.string k_send) := HS8.out.e.cell 0; clear hb3 ho3)
    | (go_at_call 62; (with_reducible refine (C6.out _ (by exact HS6.out.st)).mono ?_); rintro e v7 ⟨rfl, h2, hW2⟩; have HS7 := Lib.hid (HS6.out.call h2 hW2); clear h2 hW2)
    | (go_at_call 65; (with_reducible refine (C5.out _ (by exact HS5.out.st)).mono ?_); rintro e v6 ⟨rfl, h2, hW2⟩; have HS6 := Lib.hid (HS5.out.call h2 hW2); have kk6 : v6.cell? ⟨gt, 0, none⟩ = some (.string k_send) := HS6.out.e.cell 0; clear h2 hW2)
    | (go_at_call 65; (with_reducible refine (C4.out _ (by exact HS4_.out.st)).mono ?_); rintro e v5 ⟨rfl, h2, hW2⟩; have HS5 := Lib.hid (HS4_.out.call h2 hW2); have kk5 : v5.cell? ⟨gt, 0, none⟩ = some (.string k_send) := HS5.out.e.cell 0; clear h2 hW2)
    | (go_at_call 90; (refine (C3.out _ (by exact HS3.out.st)).mono ?_); rintro e v4 ⟨A3, c3, rfl, hr, h2, hW2⟩; have HR := Lib.hid (RfsIn.rup HS3.out hr); have HS4 := Lib.hid (HS3.out.call h2 hW2); have c19_ : v4.cell? ⟨gt, 19, none⟩ = some (.slice none 0 0) := HS4.out.e.cell 19; have f19_ := HS4.out.e.frozen 19; have lt19 := HS4.out.e.lt; have HS4_ : Hid (RLn gp gt A n c ts w6 (.mk k_send at_ zR X1 zE zE X3 zR zR [] []) ⟨a1, pA0.b, pA0.c, (A3, c3), pA0.y, pA0.z⟩ q3 (v4.setCell ⟨gt, 19, none⟩ (.slice A3 X3.length c3))) := HS4.out.one 19 _ rfl ⟨⟨HS4.out.ar.1.1, HS4.out.ar.1.2.1, HS4.out.ar.1.2.2.1, HR.out⟩, HS4.out.ar.2⟩; have kk4 : v4.cell? ⟨gt, 0, none⟩ = some (.string k_send) := HS4.out.e.cell 0; clear hr h2 hW2)
    | (go_at_call 63; (with_reducible refine (C2.out _ (by exact HS2.out.st)).mono ?_); rintro e v3 ⟨rfl, h2, hW2⟩; have HS3 := Lib.hid (HS2.out.call h2 hW2); have kk3 : v3.cell? ⟨gt, 0, none⟩ = some (.string k_send) := HS3.out.e.cell 0; clear h2 hW2)
    | (refine wpList_store rfl 39 (.tmp 25) (.tmp 24) rfl gt 4 (exC X1 a1) (by rfl) (by rfl) 42 (stC (.mk k_send at_ zR zE zE zE [] zR zR [] []) ⟨pA0.a, pA0.b, pA0.c, pA0.r, pA0.y, pA0.z⟩) (by exact HS1.out.e) hdEx (exC_one X1 a1) (by show 4 + 5 ≤ 26; omega) ?_; intro v2 hb3 ho3; have HS2 : Hid (RLn gp gt A n c ts w6 (.mk k_send at_ zR X1 zE zE [] zR zR [] []) ⟨a1, pA0.b, pA0.c, pA0.r, pA0.y, pA0.z⟩ q1 v2) := HS1.out.put ho3 (by exact hb3) ⟨⟨HA1.out, HS1.out.ar.1.2⟩, HS1.out.ar.2⟩; have kk2 : v2.cell? ⟨gt, 0, none⟩ = some (.string k_send) := HS2.out.e.cell 0; clear hb3 ho3)
    | (go_at_call 64; (refine (C1.out _ (by exact HS0.out.st)).mono ?_); rintro e v1 ⟨a1, rfl, ha, h2, hW2⟩; have HA1 := Lib.hid (ArgsIn.rup HS0.out ha); have HS1 := Lib.hid (HS0.out.call h2 hW2); clear ha h2 hW2))
  obtain ⟨e1, e2, e3⟩ := RStE HS9.out HW6.out hgt.out HLO.out ho9
  refine bodyPost_ret (res_c rfl _ w.heap.size 42 (stC (.mk k_send at_ zR X1 zE zE X3 zR X6 [] []) ⟨a1, pA0.b, pA0.c, (A3, c3), pA0.y, pA0.z⟩) rfl hb9 _ Tryz.underlying42 rfl hdSt) rfl ⟨⟨a1, pA0.b, pA0.c, (A3, c3), pA0.y, pA0.z⟩, rfl, e1, e2, e3⟩
set_option maxRecDepth 100000 in
set_option maxHeartbeats 4000000 in
theorem rstmt_send10 (cx : RCx gp A n ts) (st : RS → St × RS) (d : Nat) (hbo : RBoK gp A n c ts 91 (rbody ts st) (RQS d)) (hg : ∀ s, RP s (st s).2) (s : RS) (w : World) (h : RSt gp A n c ts s w) (hq : RQS d s) (hs : rbegins ts s = true) (hK : bytesOf (rk ts s).text = k_send) (hw : rIs ts k_with (rroutes ts false (rneed ts k_via (REX ts (rnx s)).2)).2 = true) (ha : rIs ts k_as (rname ts (rnx (rroutes ts false (rneed ts k_via (REX ts (rnx s)).2)).2)).2 = false) :
    Calls Tryz.prog 68 #[.pointer (some ⟨gp, 0, none⟩)] w fun e w' => ∃ p : StA, e = .returned (.agg (stC (rstmtG ts st s).1 p).toArray) ∧ StIn (Fr w.heap.size) w' (rstmtG ts st s).1 p ∧ RSt gp A n c ts (rstmtG ts st s).2 w' ∧ Wr [gp] w w' := by
  have e0 : rwith ts k_with (rroutes ts false (rneed ts k_via (REX ts (rnx s)).2)).2 = rname ts (rnx (rroutes ts false (rneed ts k_via (REX ts (rnx s)).2)).2) := by unfold rwith; rw [hw]; rfl
  have e1 : rwith ts k_as (rname ts (rnx (rroutes ts false (rneed ts k_via (REX ts (rnx s)).2)).2)).2 = (zR, (rname ts (rnx (rroutes ts false (rneed ts k_via (REX ts (rnx s)).2)).2)).2) := by unfold rwith; rw [ha]; rfl
  have HT : Hid (rstmtG ts st s = (.mk k_send ((rk ts s).at_ : Int) zR (REX ts (rnx s)).1 zE zE (rroutes ts false (rneed ts k_via (REX ts (rnx s)).2)).1 (rname ts (rnx (rroutes ts false (rneed ts k_via (REX ts (rnx s)).2)).2)).1 zR [] [], (rneed ts m_semi (rname ts (rnx (rroutes ts false (rneed ts k_via (REX ts (rnx s)).2)).2)).2))) := (by show _ = _; unfold rstmtG; dsimp only; rw [hK]; rw [if_pos rfl]; rw [e0, e1])
  rw [HT.out]
  have HNW := Lib.hid (fun W (h : RSt gp A n c ts s W) => now_c cx h)
  have HH := Lib.hid (h.alloc (.cells (stC zT pA0).toArray 42))
  have HE : Hid (Wr [gp] w (w.alloc (.cells (stC zT pA0).toArray 42))) := (Wr.refl _ _).alloc _
  have HB : Hid (Blk (w.alloc (.cells (stC zT pA0).toArray 42)) w.heap.size 42 (stC zT pA0)) := Blk.new _ _ _
  have HLO := Lib.hid (h.lo cx)
  have HX : Hid (∀ W, RSt gp A n c ts s W → W.cell? ⟨gp, 1, none⟩ = some (.int .i64 s.i) ∧ W.frozen? ⟨gp, 1, none⟩ = false ∧ gp < W.heap.size) := fun W h => ⟨h.b.cell 1, h.b.frozen 1, h.b.lt⟩
  have hi8 : s.i < 100000 := by have := h.lt; have := cx.hn; have := cx.hn8; omega
  have hltt := rbegins_lt cx.ends hs
  have HNX := Lib.hid (fun W (h : RSt gp A n c ts s W) => RSt.next cx h hltt)
  unfold tokCells at HNW
  have C1 := Lib.hid (fun W (h : RSt gp A n c ts (rnx s) W) => rexpr_all cx 14 (rnx s) W h (hq.q.rp (rnx_p)))
  have C2 := Lib.hid (fun W (h : RSt gp A n c ts (REX ts (rnx s)).2 W) => need_c k_via cx h)
  have C3 := Lib.hid (fun W (h : RSt gp A n c ts (rneed ts k_via (REX ts (rnx s)).2) W) => routes_c cx h false)
  have C4 := Lib.hid (fun W (h : RSt gp A n c ts (rroutes ts false (rneed ts k_via (REX ts (rnx s)).2)).2 W) => over_c k_with cx h)
  rw [hw, show rover ts k_with (rroutes ts false (rneed ts k_via (REX ts (rnx s)).2)).2 = (rnx (rroutes ts false (rneed ts k_via (REX ts (rnx s)).2)).2) by unfold rover; rw [hw]; rfl] at C4
  have C5 := Lib.hid (fun W (h : RSt gp A n c ts (rnx (rroutes ts false (rneed ts k_via (REX ts (rnx s)).2)).2) W) => name_c cx h)
  have C6 := Lib.hid (fun W (h : RSt gp A n c ts (rname ts (rnx (rroutes ts false (rneed ts k_via (REX ts (rnx s)).2)).2)).2 W) => over_c k_as cx h)
  rw [ha, show rover ts k_as (rname ts (rnx (rroutes ts false (rneed ts k_via (REX ts (rnx s)).2)).2)).2 = (rname ts (rnx (rroutes ts false (rneed ts k_via (REX ts (rnx s)).2)).2)).2 by unfold rover; rw [ha]; rfl] at C6
  have C7 := Lib.hid (fun W (h : RSt gp A n c ts (rname ts (rnx (rroutes ts false (rneed ts k_via (REX ts (rnx s)).2)).2)).2 W) => need_c m_semi cx h)
  clear h hq hs hltt HT hbo ha hw e0 e1
  generalize rnx s = q0 at *
  generalize (REX ts q0).1 = X1 at *
  generalize (REX ts q0).2 = q1 at *
  generalize (rneed ts k_via q1) = q2 at *
  generalize (rroutes ts false q2).1 = X3 at *
  generalize (rroutes ts false q2).2 = q3 at *
  generalize (rnx q3) = q4 at *
  generalize (rname ts q4).1 = X5 at *
  generalize (rname ts q4).2 = q5 at *
  generalize (rneed ts m_semi q5) = q7 at *
  rw [hK] at HNW
  generalize ((rk ts s).at_ : Int) = at_ at *
  generalize ((rk ts s).kind : Int) = tk at *
  generalize (rk ts s).num = tn at *
  clear hK cx hg
  have hf1 := fld1 (.int .i64 tk) (.string k_send) (.int .i64 tn) (.int .i64 at_)
  have hf3 := fld3 (.int .i64 tk) (.string k_send) (.int .i64 tn) (.int .i64 at_)
  go_enter Tryz.func68, Tryz.ntmps68
  go_upto_region 2 with (first
    | (go_at_call 27; (refine (HNW.out _ (by exact H2.out)).mono ?_); rintro e w3 ⟨rfl, hB3⟩
       have H3 := Lib.hid (H2.out.below hB3)
       have HE3 := Lib.hid (HE2.out.trans (Wr.of_below hB3))
       have HB3 := qbl HB2 hB3
       clear hB3)
    | (go_at_call 27; (refine (HNW.out _ (by exact HH.out)).mono ?_); rintro e w2 ⟨rfl, hB2⟩
       have H2 := Lib.hid (HH.out.below hB2)
       have HE2 := Lib.hid (HE.out.trans (Wr.of_below hB2))
       have HB2 := qbl HB hB2
       clear hB2)
    | refine wpList_build rfl 42 [(0, .tmp 6), (1, .tmp 9)] rfl _ (by rfl) _ (bld_St _ _ _) ?_
    | (refine wpList_store_all rfl 42 (.tmp 3) (.tmp 10) rfl w3.heap.size (stC (kT k_send at_) pA0) (by rfl) (by rfl) 42 (stC zT pA0) (by exact Blk.new' (by simp) rfl) hdSt (stC_one _ _) rfl ?_
       intro w6 hb6 ho6
       have hz3 := HB3.out.lt
       have hgt : Hid (w.heap.size < w3.heap.size) := (by show _ < _; omega)
       have HS6 : Hid (RLn gp w3.heap.size A n c ts w6 (kT k_send at_) pA0 s w6) := ⟨(H3.out.alloc _).only (HLO.out.mono (by omega)) (Nat.le_refl _) ho6, Wr.refl _ _, hb6, StIn.zero _ _ _ _, HLO.out.mono (by omega), hb6.lt⟩
       have HW6 : Hid (Wr [gp] w w6) := (HE3.out.alloc _).thenb (ho6.below (Below.refl _ _) (by omega) (by have := HE3.out.size; simp; omega))
       have HB6 : Hid (Blk w6 w.heap.size 42 (stC zT pA0)) := ho6.blk (HB3.out.alloc _) (by omega)
       obtain ⟨k1, j1, l1⟩ := HX.out w6 HS6.out.st
       clear hb6 ho6 hz3))
  obtain ⟨gt, hgx⟩ : ∃ gt, gt = w3.heap.size := ⟨_, rfl⟩
  rw [← hgx] at hgt HS6
  rw [← hgx]
  clear hgx H2 HE2 HB2 H3 HE3 HB3 HNW HH HE HB
  go_upto_region 3 with fail
  have HS0 : Hid (RLn gp gt A n c ts w6 (kT k_send at_) pA0 q0 (w6.setCell ⟨gp, 1, none⟩ (.int .i64 ((s.i : Int) + 1)))) := HS6.out.call (HNX.out w6 HS6.out.st).1 (HNX.out w6 HS6.out.st).2
  generalize w6.setCell ⟨gp, 1, none⟩ (.int .i64 ((s.i : Int) + 1)) = w7 at *
  have hc0 : w7.cell? ⟨gt, 0, none⟩ = some (.string k_send) := HS0.out.e.cell 0
  clear HX HNX k1 j1 l1 HS6
  go_wp2_with (first
    | (refine wpList_store_all rfl 42 (.tmp 2) (.tmp 168) rfl w.heap.size (stC (.mk k_send at_ zR X1 zE zE X3 X5 zR [] []) ⟨a1, pA0.b, pA0.c, (A3, c3), pA0.y, pA0.z⟩) (by rfl) (by rfl) 42 (stC zT pA0) (by exact HZ8.out) hdSt (stC_one _ _) rfl ?_; intro w9_ hb9 ho9)
    | (go_at_call 63; (with_reducible refine (C7.out _ (by exact HS8.out.st)).mono ?_); rintro e v9 ⟨rfl, h2, hW2⟩; have HS9 := Lib.hid (HS8.out.call h2 hW2); have kk9 : v9.cell? ⟨gt, 0, none⟩ = some (.string k_send) := HS9.out.e.cell 0; have hl8 := sd_ld HS9.out.e; have HZ8 := Lib.hid (HS9.out.res HB6.out hgt.out HLO.out); clear h2 hW2)
    | (go_at_call 65; (with_reducible refine (C6.out _ (by exact HS7.out.st)).mono ?_); rintro e v8 ⟨rfl, h2, hW2⟩; have HS8 := Lib.hid (HS7.out.call h2 hW2); have kk8 : v8.cell? ⟨gt, 0, none⟩ = some (.string k_send) := HS8.out.e.cell 0; clear h2 hW2)
    | (refine wpList_store rfl 36 (.tmp 43) (.tmp 42) rfl gt 20 (rfC X5) (by rfl) (by rfl) 42 (stC (.mk k_send at_ zR X1 zE zE X3 zR zR [] []) ⟨a1, pA0.b, pA0.c, (A3, c3), pA0.y, pA0.z⟩) (by exact HS6.out.e) hdRf (rfC_one X5) (by show 20 + 2 ≤ 26; omega) ?_; intro v7 hb3 ho3; have HS7 : Hid (RLn gp gt A n c ts w6 (.mk k_send at_ zR X1 zE zE X3 X5 zR [] []) ⟨a1, pA0.b, pA0.c, (A3, c3), pA0.y, pA0.z⟩ q5 v7) := HS6.out.put ho3 (by exact hb3) HS6.out.ar; have kk7 : v7.cell? ⟨gt, 0, none⟩ = some (.string k_send) := HS7.out.e.cell 0; clear hb3 ho3)
    | (go_at_call 62; (with_reducible refine (C5.out _ (by exact HS5.out.st)).mono ?_); rintro e v6 ⟨rfl, h2, hW2⟩; have HS6 := Lib.hid (HS5.out.call h2 hW2); clear h2 hW2)
    | (go_at_call 65; (with_reducible refine (C4.out _ (by exact HS4_.out.st)).mono ?_); rintro e v5 ⟨rfl, h2, hW2⟩; have HS5 := Lib.hid (HS4_.out.call h2 hW2); have kk5 : v5.cell? ⟨gt, 0, none⟩ = some (.string k_send) := HS5.out.e.cell 0; clear h2 hW2)
    | (go_at_call 90; (refine (C3.out _ (by exact HS3.out.st)).mono ?_); rintro e v4 ⟨A3, c3, rfl, hr, h2, hW2⟩; have HR := Lib.hid (RfsIn.rup HS3.out hr); have HS4 := Lib.hid (HS3.out.call h2 hW2); have c19_ : v4.cell? ⟨gt, 19, none⟩ = some (.slice none 0 0) := HS4.out.e.cell 19; have f19_ := HS4.out.e.frozen 19; have lt19 := HS4.out.e.lt; have HS4_ : Hid (RLn gp gt A n c ts w6 (.mk k_send at_ zR X1 zE zE X3 zR zR [] []) ⟨a1, pA0.b, pA0.c, (A3, c3), pA0.y, pA0.z⟩ q3 (v4.setCell ⟨gt, 19, none⟩ (.slice A3 X3.length c3))) := HS4.out.one 19 _ rfl ⟨⟨HS4.out.ar.1.1, HS4.out.ar.1.2.1, HS4.out.ar.1.2.2.1, HR.out⟩, HS4.out.ar.2⟩; have kk4 : v4.cell? ⟨gt, 0, none⟩ = some (.string k_send) := HS4.out.e.cell 0; clear hr h2 hW2)
    | (go_at_call 63; (with_reducible refine (C2.out _ (by exact HS2.out.st)).mono ?_); rintro e v3 ⟨rfl, h2, hW2⟩; have HS3 := Lib.hid (HS2.out.call h2 hW2); have kk3 : v3.cell? ⟨gt, 0, none⟩ = some (.string k_send) := HS3.out.e.cell 0; clear h2 hW2)
    | (refine wpList_store rfl 39 (.tmp 25) (.tmp 24) rfl gt 4 (exC X1 a1) (by rfl) (by rfl) 42 (stC (.mk k_send at_ zR zE zE zE [] zR zR [] []) ⟨pA0.a, pA0.b, pA0.c, pA0.r, pA0.y, pA0.z⟩) (by exact HS1.out.e) hdEx (exC_one X1 a1) (by show 4 + 5 ≤ 26; omega) ?_; intro v2 hb3 ho3; have HS2 : Hid (RLn gp gt A n c ts w6 (.mk k_send at_ zR X1 zE zE [] zR zR [] []) ⟨a1, pA0.b, pA0.c, pA0.r, pA0.y, pA0.z⟩ q1 v2) := HS1.out.put ho3 (by exact hb3) ⟨⟨HA1.out, HS1.out.ar.1.2⟩, HS1.out.ar.2⟩; have kk2 : v2.cell? ⟨gt, 0, none⟩ = some (.string k_send) := HS2.out.e.cell 0; clear hb3 ho3)
    | (go_at_call 64; (refine (C1.out _ (by exact HS0.out.st)).mono ?_); rintro e v1 ⟨a1, rfl, ha, h2, hW2⟩; have HA1 := Lib.hid (ArgsIn.rup HS0.out ha); have HS1 := Lib.hid (HS0.out.call h2 hW2); clear ha h2 hW2))
  obtain ⟨e1, e2, e3⟩ := RStE HS9.out HW6.out hgt.out HLO.out ho9
  refine bodyPost_ret (res_c rfl _ w.heap.size 42 (stC (.mk k_send at_ zR X1 zE zE X3 X5 zR [] []) ⟨a1, pA0.b, pA0.c, (A3, c3), pA0.y, pA0.z⟩) rfl hb9 _ Tryz.underlying42 rfl hdSt) rfl ⟨⟨a1, pA0.b, pA0.c, (A3, c3), pA0.y, pA0.z⟩, rfl, e1, e2, e3⟩
set_option maxRecDepth 100000 in
set_option maxHeartbeats 4000000 in
theorem rstmt_send11 (cx : RCx gp A n ts) (st : RS → St × RS) (d : Nat) (hbo : RBoK gp A n c ts 91 (rbody ts st) (RQS d)) (hg : ∀ s, RP s (st s).2) (s : RS) (w : World) (h : RSt gp A n c ts s w) (hq : RQS d s) (hs : rbegins ts s = true) (hK : bytesOf (rk ts s).text = k_send) (hw : rIs ts k_with (rroutes ts false (rneed ts k_via (REX ts (rnx s)).2)).2 = true) (ha : rIs ts k_as (rname ts (rnx (rroutes ts false (rneed ts k_via (REX ts (rnx s)).2)).2)).2 = true) :
    Calls Tryz.prog 68 #[.pointer (some ⟨gp, 0, none⟩)] w fun e w' => ∃ p : StA, e = .returned (.agg (stC (rstmtG ts st s).1 p).toArray) ∧ StIn (Fr w.heap.size) w' (rstmtG ts st s).1 p ∧ RSt gp A n c ts (rstmtG ts st s).2 w' ∧ Wr [gp] w w' := by
  have e0 : rwith ts k_with (rroutes ts false (rneed ts k_via (REX ts (rnx s)).2)).2 = rname ts (rnx (rroutes ts false (rneed ts k_via (REX ts (rnx s)).2)).2) := by unfold rwith; rw [hw]; rfl
  have e1 : rwith ts k_as (rname ts (rnx (rroutes ts false (rneed ts k_via (REX ts (rnx s)).2)).2)).2 = rname ts (rnx (rname ts (rnx (rroutes ts false (rneed ts k_via (REX ts (rnx s)).2)).2)).2) := by unfold rwith; rw [ha]; rfl
  have HT : Hid (rstmtG ts st s = (.mk k_send ((rk ts s).at_ : Int) zR (REX ts (rnx s)).1 zE zE (rroutes ts false (rneed ts k_via (REX ts (rnx s)).2)).1 (rname ts (rnx (rroutes ts false (rneed ts k_via (REX ts (rnx s)).2)).2)).1 (rname ts (rnx (rname ts (rnx (rroutes ts false (rneed ts k_via (REX ts (rnx s)).2)).2)).2)).1 [] [], (rneed ts m_semi (rname ts (rnx (rname ts (rnx (rroutes ts false (rneed ts k_via (REX ts (rnx s)).2)).2)).2)).2))) := (by show _ = _; unfold rstmtG; dsimp only; rw [hK]; rw [if_pos rfl]; rw [e0, e1])
  rw [HT.out]
  have HNW := Lib.hid (fun W (h : RSt gp A n c ts s W) => now_c cx h)
  have HH := Lib.hid (h.alloc (.cells (stC zT pA0).toArray 42))
  have HE : Hid (Wr [gp] w (w.alloc (.cells (stC zT pA0).toArray 42))) := (Wr.refl _ _).alloc _
  have HB : Hid (Blk (w.alloc (.cells (stC zT pA0).toArray 42)) w.heap.size 42 (stC zT pA0)) := Blk.new _ _ _
  have HLO := Lib.hid (h.lo cx)
  have HX : Hid (∀ W, RSt gp A n c ts s W → W.cell? ⟨gp, 1, none⟩ = some (.int .i64 s.i) ∧ W.frozen? ⟨gp, 1, none⟩ = false ∧ gp < W.heap.size) := fun W h => ⟨h.b.cell 1, h.b.frozen 1, h.b.lt⟩
  have hi8 : s.i < 100000 := by have := h.lt; have := cx.hn; have := cx.hn8; omega
  have hltt := rbegins_lt cx.ends hs
  have HNX := Lib.hid (fun W (h : RSt gp A n c ts s W) => RSt.next cx h hltt)
  unfold tokCells at HNW
  have C1 := Lib.hid (fun W (h : RSt gp A n c ts (rnx s) W) => rexpr_all cx 14 (rnx s) W h (hq.q.rp (rnx_p)))
  have C2 := Lib.hid (fun W (h : RSt gp A n c ts (REX ts (rnx s)).2 W) => need_c k_via cx h)
  have C3 := Lib.hid (fun W (h : RSt gp A n c ts (rneed ts k_via (REX ts (rnx s)).2) W) => routes_c cx h false)
  have C4 := Lib.hid (fun W (h : RSt gp A n c ts (rroutes ts false (rneed ts k_via (REX ts (rnx s)).2)).2 W) => over_c k_with cx h)
  rw [hw, show rover ts k_with (rroutes ts false (rneed ts k_via (REX ts (rnx s)).2)).2 = (rnx (rroutes ts false (rneed ts k_via (REX ts (rnx s)).2)).2) by unfold rover; rw [hw]; rfl] at C4
  have C5 := Lib.hid (fun W (h : RSt gp A n c ts (rnx (rroutes ts false (rneed ts k_via (REX ts (rnx s)).2)).2) W) => name_c cx h)
  have C6 := Lib.hid (fun W (h : RSt gp A n c ts (rname ts (rnx (rroutes ts false (rneed ts k_via (REX ts (rnx s)).2)).2)).2 W) => over_c k_as cx h)
  rw [ha, show rover ts k_as (rname ts (rnx (rroutes ts false (rneed ts k_via (REX ts (rnx s)).2)).2)).2 = (rnx (rname ts (rnx (rroutes ts false (rneed ts k_via (REX ts (rnx s)).2)).2)).2) by unfold rover; rw [ha]; rfl] at C6
  have C7 := Lib.hid (fun W (h : RSt gp A n c ts (rnx (rname ts (rnx (rroutes ts false (rneed ts k_via (REX ts (rnx s)).2)).2)).2) W) => name_c cx h)
  have C8 := Lib.hid (fun W (h : RSt gp A n c ts (rname ts (rnx (rname ts (rnx (rroutes ts false (rneed ts k_via (REX ts (rnx s)).2)).2)).2)).2 W) => need_c m_semi cx h)
  clear h hq hs hltt HT hbo ha hw e0 e1
  generalize rnx s = q0 at *
  generalize (REX ts q0).1 = X1 at *
  generalize (REX ts q0).2 = q1 at *
  generalize (rneed ts k_via q1) = q2 at *
  generalize (rroutes ts false q2).1 = X3 at *
  generalize (rroutes ts false q2).2 = q3 at *
  generalize (rnx q3) = q4 at *
  generalize (rname ts q4).1 = X5 at *
  generalize (rname ts q4).2 = q5 at *
  generalize (rnx q5) = q6 at *
  generalize (rname ts q6).1 = X7 at *
  generalize (rname ts q6).2 = q7 at *
  generalize (rneed ts m_semi q7) = q8 at *
  rw [hK] at HNW
  generalize ((rk ts s).at_ : Int) = at_ at *
  generalize ((rk ts s).kind : Int) = tk at *
  generalize (rk ts s).num = tn at *
  clear hK cx hg
  have hf1 := fld1 (.int .i64 tk) (.string k_send) (.int .i64 tn) (.int .i64 at_)
  have hf3 := fld3 (.int .i64 tk) (.string k_send) (.int .i64 tn) (.int .i64 at_)
  go_enter Tryz.func68, Tryz.ntmps68
  go_upto_region 2 with (first
    | (go_at_call 27; (refine (HNW.out _ (by exact H2.out)).mono ?_); rintro e w3 ⟨rfl, hB3⟩
       have H3 := Lib.hid (H2.out.below hB3)
       have HE3 := Lib.hid (HE2.out.trans (Wr.of_below hB3))
       have HB3 := qbl HB2 hB3
       clear hB3)
    | (go_at_call 27; (refine (HNW.out _ (by exact HH.out)).mono ?_); rintro e w2 ⟨rfl, hB2⟩
       have H2 := Lib.hid (HH.out.below hB2)
       have HE2 := Lib.hid (HE.out.trans (Wr.of_below hB2))
       have HB2 := qbl HB hB2
       clear hB2)
    | refine wpList_build rfl 42 [(0, .tmp 6), (1, .tmp 9)] rfl _ (by rfl) _ (bld_St _ _ _) ?_
    | (refine wpList_store_all rfl 42 (.tmp 3) (.tmp 10) rfl w3.heap.size (stC (kT k_send at_) pA0) (by rfl) (by rfl) 42 (stC zT pA0) (by exact Blk.new' (by simp) rfl) hdSt (stC_one _ _) rfl ?_
       intro w6 hb6 ho6
       have hz3 := HB3.out.lt
       have hgt : Hid (w.heap.size < w3.heap.size) := (by show _ < _; omega)
       have HS6 : Hid (RLn gp w3.heap.size A n c ts w6 (kT k_send at_) pA0 s w6) := ⟨(H3.out.alloc _).only (HLO.out.mono (by omega)) (Nat.le_refl _) ho6, Wr.refl _ _, hb6, StIn.zero _ _ _ _, HLO.out.mono (by omega), hb6.lt⟩
       have HW6 : Hid (Wr [gp] w w6) := (HE3.out.alloc _).thenb (ho6.below (Below.refl _ _) (by omega) (by have := HE3.out.size; simp; omega))
       have HB6 : Hid (Blk w6 w.heap.size 42 (stC zT pA0)) := ho6.blk (HB3.out.alloc _) (by omega)
       obtain ⟨k1, j1, l1⟩ := HX.out w6 HS6.out.st
       clear hb6 ho6 hz3))
  obtain ⟨gt, hgx⟩ : ∃ gt, gt = w3.heap.size := ⟨_, rfl⟩
  rw [← hgx] at hgt HS6
  rw [← hgx]
  clear hgx H2 HE2 HB2 H3 HE3 HB3 HNW HH HE HB
  go_upto_region 3 with fail
  have HS0 : Hid (RLn gp gt A n c ts w6 (kT k_send at_) pA0 q0 (w6.setCell ⟨gp, 1, none⟩ (.int .i64 ((s.i : Int) + 1)))) := HS6.out.call (HNX.out w6 HS6.out.st).1 (HNX.out w6 HS6.out.st).2
  generalize w6.setCell ⟨gp, 1, none⟩ (.int .i64 ((s.i : Int) + 1)) = w7 at *
  have hc0 : w7.cell? ⟨gt, 0, none⟩ = some (.string k_send) := HS0.out.e.cell 0
  clear HX HNX k1 j1 l1 HS6
  go_wp2_with (first
    | (refine wpList_store_all rfl 42 (.tmp 2) (.tmp 168) rfl w.heap.size (stC (.mk k_send at_ zR X1 zE zE X3 X5 X7 [] []) ⟨a1, pA0.b, pA0.c, (A3, c3), pA0.y, pA0.z⟩) (by rfl) (by rfl) 42 (stC zT pA0) (by exact HZ8.out) hdSt (stC_one _ _) rfl ?_; intro w9_ hb9 ho9)
    | (go_at_call 63; (with_reducible refine (C8.out _ (by exact HS10.out.st)).mono ?_); rintro e v11 ⟨rfl, h2, hW2⟩; have HS11 := Lib.hid (HS10.out.call h2 hW2); have kk11 : v11.cell? ⟨gt, 0, none⟩ = some (.string k_send) := HS11.out.e.cell 0; have hl8 := sd_ld HS11.out.e; have HZ8 := Lib.hid (HS11.out.res HB6.out hgt.out HLO.out); clear h2 hW2)
    | (refine wpList_store rfl 36 (.tmp 152) (.tmp 151) rfl gt 22 (rfC X7) (by rfl) (by rfl) 42 (stC (.mk k_send at_ zR X1 zE zE X3 X5 zR [] []) ⟨a1, pA0.b, pA0.c, (A3, c3), pA0.y, pA0.z⟩) (by exact HS9.out.e) hdRf (rfC_one X7) (by show 22 + 2 ≤ 26; omega) ?_; intro v10 hb3 ho3; have HS10 : Hid (RLn gp gt A n c ts w6 (.mk k_send at_ zR X1 zE zE X3 X5 X7 [] []) ⟨a1, pA0.b, pA0.c, (A3, c3), pA0.y, pA0.z⟩ q7 v10) := HS9.out.put ho3 (by exact hb3) HS9.out.ar; have kk10 : v10.cell? ⟨gt, 0, none⟩ = some (.string k_send) := HS10.out.e.cell 0; clear hb3 ho3)
    | (go_at_call 62; (with_reducible refine (C7.out _ (by exact HS8.out.st)).mono ?_); rintro e v9 ⟨rfl, h2, hW2⟩; have HS9 := Lib.hid (HS8.out.call h2 hW2); clear h2 hW2)
    | (go_at_call 65; (with_reducible refine (C6.out _ (by exact HS7.out.st)).mono ?_); rintro e v8 ⟨rfl, h2, hW2⟩; have HS8 := Lib.hid (HS7.out.call h2 hW2); have kk8 : v8.cell? ⟨gt, 0, none⟩ = some (.string k_send) := HS8.out.e.cell 0; clear h2 hW2)
    | (refine wpList_store rfl 36 (.tmp 43) (.tmp 42) rfl gt 20 (rfC X5) (by rfl) (by rfl) 42 (stC (.mk k_send at_ zR X1 zE zE X3 zR zR [] []) ⟨a1, pA0.b, pA0.c, (A3, c3), pA0.y, pA0.z⟩) (by exact HS6.out.e) hdRf (rfC_one X5) (by show 20 + 2 ≤ 26; omega) ?_; intro v7 hb3 ho3; have HS7 : Hid (RLn gp gt A n c ts w6 (.mk k_send at_ zR X1 zE zE X3 X5 zR [] []) ⟨a1, pA0.b, pA0.c, (A3, c3), pA0.y, pA0.z⟩ q5 v7) := HS6.out.put ho3 (by exact hb3) HS6.out.ar; have kk7 : v7.cell? ⟨gt, 0, none⟩ = some (.string k_send) := HS7.out.e.cell 0; clear hb3 ho3)
    | (go_at_call 62; (with_reducible refine (C5.out _ (by exact HS5.out.st)).mono ?_); rintro e v6 ⟨rfl, h2, hW2⟩; have HS6 := Lib.hid (HS5.out.call h2 hW2); clear h2 hW2)
    | (go_at_call 65; (with_reducible refine (C4.out _ (by exact HS4_.out.st)).mono ?_); rintro e v5 ⟨rfl, h2, hW2⟩; have HS5 := Lib.hid (HS4_.out.call h2 hW2); have kk5 : v5.cell? ⟨gt, 0, none⟩ = some (.string k_send) := HS5.out.e.cell 0; clear h2 hW2)
    | (go_at_call 90; (refine (C3.out _ (by exact HS3.out.st)).mono ?_); rintro e v4 ⟨A3, c3, rfl, hr, h2, hW2⟩; have HR := Lib.hid (RfsIn.rup HS3.out hr); have HS4 := Lib.hid (HS3.out.call h2 hW2); have c19_ : v4.cell? ⟨gt, 19, none⟩ = some (.slice none 0 0) := HS4.out.e.cell 19; have f19_ := HS4.out.e.frozen 19; have lt19 := HS4.out.e.lt; have HS4_ : Hid (RLn gp gt A n c ts w6 (.mk k_send at_ zR X1 zE zE X3 zR zR [] []) ⟨a1, pA0.b, pA0.c, (A3, c3), pA0.y, pA0.z⟩ q3 (v4.setCell ⟨gt, 19, none⟩ (.slice A3 X3.length c3))) := HS4.out.one 19 _ rfl ⟨⟨HS4.out.ar.1.1, HS4.out.ar.1.2.1, HS4.out.ar.1.2.2.1, HR.out⟩, HS4.out.ar.2⟩; have kk4 : v4.cell? ⟨gt, 0, none⟩ = some (.string k_send) := HS4.out.e.cell 0; clear hr h2 hW2)
    | (go_at_call 63; (with_reducible refine (C2.out _ (by exact HS2.out.st)).mono ?_); rintro e v3 ⟨rfl, h2, hW2⟩; have HS3 := Lib.hid (HS2.out.call h2 hW2); have kk3 : v3.cell? ⟨gt, 0, none⟩ = some (.string k_send) := HS3.out.e.cell 0; clear h2 hW2)
    | (refine wpList_store rfl 39 (.tmp 25) (.tmp 24) rfl gt 4 (exC X1 a1) (by rfl) (by rfl) 42 (stC (.mk k_send at_ zR zE zE zE [] zR zR [] []) ⟨pA0.a, pA0.b, pA0.c, pA0.r, pA0.y, pA0.z⟩) (by exact HS1.out.e) hdEx (exC_one X1 a1) (by show 4 + 5 ≤ 26; omega) ?_; intro v2 hb3 ho3; have HS2 : Hid (RLn gp gt A n c ts w6 (.mk k_send at_ zR X1 zE zE [] zR zR [] []) ⟨a1, pA0.b, pA0.c, pA0.r, pA0.y, pA0.z⟩ q1 v2) := HS1.out.put ho3 (by exact hb3) ⟨⟨HA1.out, HS1.out.ar.1.2⟩, HS1.out.ar.2⟩; have kk2 : v2.cell? ⟨gt, 0, none⟩ = some (.string k_send) := HS2.out.e.cell 0; clear hb3 ho3)
    | (go_at_call 64; (refine (C1.out _ (by exact HS0.out.st)).mono ?_); rintro e v1 ⟨a1, rfl, ha, h2, hW2⟩; have HA1 := Lib.hid (ArgsIn.rup HS0.out ha); have HS1 := Lib.hid (HS0.out.call h2 hW2); clear ha h2 hW2))
  obtain ⟨e1, e2, e3⟩ := RStE HS11.out HW6.out hgt.out HLO.out ho9
  refine bodyPost_ret (res_c rfl _ w.heap.size 42 (stC (.mk k_send at_ zR X1 zE zE X3 X5 X7 [] []) ⟨a1, pA0.b, pA0.c, (A3, c3), pA0.y, pA0.z⟩) rfl hb9 _ Tryz.underlying42 rfl hdSt) rfl ⟨⟨a1, pA0.b, pA0.c, (A3, c3), pA0.y, pA0.z⟩, rfl, e1, e2, e3⟩
end
end Go.Proofs.YtafjkbbiaopemaaGreatDoor.Tr
