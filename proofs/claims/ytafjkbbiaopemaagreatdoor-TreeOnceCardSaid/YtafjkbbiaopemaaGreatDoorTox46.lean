/- Part of the proof: Tan. -/
import Derived.Test.YtafjkbbiaopemaaGreatDoorTox44
set_option linter.unusedVariables false
namespace Go.Proofs.YtafjkbbiaopemaaGreatDoor.Tr
open Go.RowKit
attribute [local go_sem ↓] ldq_St
section
variable {gp : Nat} {A : Option Addr} {n c : Nat} {ts : List Lx.Tok}
set_option maxRecDepth 100000 in
set_option maxHeartbeats 4000000 in
theorem rstmt_every (cx : RCx gp A n ts) (st : RS → St × RS) (d : Nat) (hbo : RBoK gp A n c ts 91 (rbody ts st) (RQS d)) (hg : ∀ s, RP s (st s).2) (s : RS) (w : World) (h : RSt gp A n c ts s w) (hq : RQS d s) (hs : rbegins ts s = true) (hK : bytesOf (rk ts s).text = k_every) :
    Calls Tryz.prog 68 #[.pointer (some ⟨gp, 0, none⟩)] w fun e w' => ∃ p : StA, e = .returned (.agg (stC (rstmtG ts st s).1 p).toArray) ∧ StIn (Fr w.heap.size) w' (rstmtG ts st s).1 p ∧ RSt gp A n c ts (rstmtG ts st s).2 w' ∧ Wr [gp] w w' := by
  have HT : Hid (rstmtG ts st s = (.mk k_every ((rk ts s).at_ : Int) zR (REX ts (rnx s)).1 (REX ts (rneed ts k_times (REX ts (rnx s)).2)).1 zE (rroutes ts false (rneed ts k_cover (REX ts (rneed ts k_times (REX ts (rnx s)).2)).2)).1 zR zR [] [], (rneed ts m_semi (rroutes ts false (rneed ts k_cover (REX ts (rneed ts k_times (REX ts (rnx s)).2)).2)).2))) := (by show _ = _; unfold rstmtG; dsimp only; rw [hK]; rw [if_neg (by decide), if_neg (by decide), if_neg (by decide), if_neg (by decide), if_neg (by decide), if_neg (by decide), if_pos rfl])
  rw [HT.out]
  have HNW := Lib.hid (fun W (h : RSt gp A n c ts s W) => now_c cx h)
  have HH := Lib.hid (h.alloc (.cells (stC zT pA0).toArray 42))
  have HE : Hid (Wr [gp] w (w.alloc (.cells (stC zT pA0).toArray 42))) := (Wr.refl _ _).alloc _
  have HB : Hid (Blk (w.alloc (.cells (stC zT pA0).toArray 42)) w.heap.size 42 (stC zT pA0)) := Blk.new _ _ _
  have HLO := Lib.hid (h.lo cx)
  have HX : Hid (∀ W, RSt gp A n c ts s W → W.cell? ⟨gp, 1, none⟩ = some (.int .i64 s.i) ∧ W.frozen? ⟨gp, 1, none⟩ = false ∧ gp < W.heap.size) := fun W h => ⟨h.b.cell 1, h.b.frozen 1, h.b.lt⟩
  have hi8 : s.i < 100000 := by have := h.lt; have := cx.hn; have := cx.hn8; omega
  have hltt := rbegins_lt cx.ends hs
  have HNX := Lib.hid (fun W (h : RSt gp A n c ts s W) => RSt.next cx h hltt)
  unfold tokCells at HNW
  have C1 := Lib.hid (fun W (h : RSt gp A n c ts (rnx s) W) => rexpr_all cx 14 (rnx s) W h (hq.q.rp (rnx_p)))
  have C2 := Lib.hid (fun W (h : RSt gp A n c ts (REX ts (rnx s)).2 W) => need_c k_times cx h)
  have C3 := Lib.hid (fun W (h : RSt gp A n c ts (rneed ts k_times (REX ts (rnx s)).2) W) => rexpr_all cx 14 (rneed ts k_times (REX ts (rnx s)).2) W h (hq.q.rp (((rnx_p).trans (REX_p (rnx s))).trans (rneed_p k_times (REX ts (rnx s)).2))))
  have C4 := Lib.hid (fun W (h : RSt gp A n c ts (REX ts (rneed ts k_times (REX ts (rnx s)).2)).2 W) => need_c k_cover cx h)
  have C5 := Lib.hid (fun W (h : RSt gp A n c ts (rneed ts k_cover (REX ts (rneed ts k_times (REX ts (rnx s)).2)).2) W) => routes_c cx h false)
  have C6 := Lib.hid (fun W (h : RSt gp A n c ts (rroutes ts false (rneed ts k_cover (REX ts (rneed ts k_times (REX ts (rnx s)).2)).2)).2 W) => need_c m_semi cx h)
  clear h hq hs hltt HT hbo 
  generalize rnx s = q0 at *
  generalize (REX ts q0).1 = X1 at *
  generalize (REX ts q0).2 = q1 at *
  generalize (rneed ts k_times q1) = q2 at *
  generalize (REX ts q2).1 = X3 at *
  generalize (REX ts q2).2 = q3 at *
  generalize (rneed ts k_cover q3) = q4 at *
  generalize (rroutes ts false q4).1 = X5 at *
  generalize (rroutes ts false q4).2 = q5 at *
  generalize (rneed ts m_semi q5) = q6 at *
  rw [hK] at HNW
  generalize ((rk ts s).at_ : Int) = at_ at *
  generalize ((rk ts s).kind : Int) = tk at *
  generalize (rk ts s).num = tn at *
  clear hK cx hg
  have hf1 := fld1 (.int .i64 tk) (.string k_every) (.int .i64 tn) (.int .i64 at_)
  have hf3 := fld3 (.int .i64 tk) (.string k_every) (.int .i64 tn) (.int .i64 at_)
  go_enter Tryz.func68, Tryz.ntmps68
  go_upto_region 2 with (first
    | (go_at_call 27; (refine (HNW.out _ (by exact H2.out)).mono ?_); rintro e w3 ⟨rfl, hB3⟩
       have H3 := Lib.hid (H2.out.below hB3)
       have HE3 := Lib.hid (HE2.out.trans (Wr.of_below hB3))
       have HB3 := qbl HB2 hB3
       clear hB3)
    | (go_at_call 27; (refine (HNW.out _ (by exact HH.out)).mono ?_); rintro e w2 ⟨rfl, hB2⟩
       have H2 := Lib.hid (HH.out.below hB2)
       have HE2 := Lib.hid (HE.out.trans (Wr.of_below hB2))
       have HB2 := qbl HB hB2
       clear hB2)
    | refine wpList_build rfl 42 [(0, .tmp 6), (1, .tmp 9)] rfl _ (by rfl) _ (bld_St _ _ _) ?_
    | (refine wpList_store_all rfl 42 (.tmp 3) (.tmp 10) rfl w3.heap.size (stC (kT k_every at_) pA0) (by rfl) (by rfl) 42 (stC zT pA0) (by exact Blk.new' (by simp) rfl) hdSt (stC_one _ _) rfl ?_
       intro w6 hb6 ho6
       have hz3 := HB3.out.lt
       have hgt : Hid (w.heap.size < w3.heap.size) := (by show _ < _; omega)
       have HS6 : Hid (RLn gp w3.heap.size A n c ts w6 (kT k_every at_) pA0 s w6) := ⟨(H3.out.alloc _).only (HLO.out.mono (by omega)) (Nat.le_refl _) ho6, Wr.refl _ _, hb6, StIn.zero _ _ _ _, HLO.out.mono (by omega), hb6.lt⟩
       have HW6 : Hid (Wr [gp] w w6) := (HE3.out.alloc _).thenb (ho6.below (Below.refl _ _) (by omega) (by have := HE3.out.size; simp; omega))
       have HB6 : Hid (Blk w6 w.heap.size 42 (stC zT pA0)) := ho6.blk (HB3.out.alloc _) (by omega)
       obtain ⟨k1, j1, l1⟩ := HX.out w6 HS6.out.st
       clear hb6 ho6 hz3))
  obtain ⟨gt, hgx⟩ : ∃ gt, gt = w3.heap.size := ⟨_, rfl⟩
  rw [← hgx] at hgt HS6
  rw [← hgx]
  clear hgx H2 HE2 HB2 H3 HE3 HB3 HNW HH HE HB
  go_upto_region 3 with fail
  have HS0 : Hid (RLn gp gt A n c ts w6 (kT k_every at_) pA0 q0 (w6.setCell ⟨gp, 1, none⟩ (.int .i64 ((s.i : Int) + 1)))) := HS6.out.call (HNX.out w6 HS6.out.st).1 (HNX.out w6 HS6.out.st).2
  generalize w6.setCell ⟨gp, 1, none⟩ (.int .i64 ((s.i : Int) + 1)) = w7 at *
  have hc0 : w7.cell? ⟨gt, 0, none⟩ = some (.string k_every) := HS0.out.e.cell 0
  clear HX HNX k1 j1 l1 HS6
  go_wp2_with (first
    | (refine wpList_store_all rfl 42 (.tmp 2) (.tmp 168) rfl w.heap.size (stC (.mk k_every at_ zR X1 X3 zE X5 zR zR [] []) ⟨a1, a3, pA0.c, (A5, c5), pA0.y, pA0.z⟩) (by rfl) (by rfl) 42 (stC zT pA0) (by exact HZ8.out) hdSt (stC_one _ _) rfl ?_; intro w9_ hb9 ho9)
    | (go_at_call 63; (with_reducible refine (C6.out _ (by exact HS7_.out.st)).mono ?_); rintro e v8 ⟨rfl, h2, hW2⟩; have HS8 := Lib.hid (HS7_.out.call h2 hW2); have kk8 : v8.cell? ⟨gt, 0, none⟩ = some (.string k_every) := HS8.out.e.cell 0; have hl8 := sd_ld HS8.out.e; have HZ8 := Lib.hid (HS8.out.res HB6.out hgt.out HLO.out); clear h2 hW2)
    | (go_at_call 90; (refine (C5.out _ (by exact HS6.out.st)).mono ?_); rintro e v7 ⟨A5, c5, rfl, hr, h2, hW2⟩; have HR := Lib.hid (RfsIn.rup HS6.out hr); have HS7 := Lib.hid (HS6.out.call h2 hW2); have c19_ : v7.cell? ⟨gt, 19, none⟩ = some (.slice none 0 0) := HS7.out.e.cell 19; have f19_ := HS7.out.e.frozen 19; have lt19 := HS7.out.e.lt; have HS7_ : Hid (RLn gp gt A n c ts w6 (.mk k_every at_ zR X1 X3 zE X5 zR zR [] []) ⟨a1, a3, pA0.c, (A5, c5), pA0.y, pA0.z⟩ q5 (v7.setCell ⟨gt, 19, none⟩ (.slice A5 X5.length c5))) := HS7.out.one 19 _ rfl ⟨⟨HS7.out.ar.1.1, HS7.out.ar.1.2.1, HS7.out.ar.1.2.2.1, HR.out⟩, HS7.out.ar.2⟩; have kk7 : v7.cell? ⟨gt, 0, none⟩ = some (.string k_every) := HS7.out.e.cell 0; clear hr h2 hW2)
    | (go_at_call 63; (with_reducible refine (C4.out _ (by exact HS5.out.st)).mono ?_); rintro e v6 ⟨rfl, h2, hW2⟩; have HS6 := Lib.hid (HS5.out.call h2 hW2); have kk6 : v6.cell? ⟨gt, 0, none⟩ = some (.string k_every) := HS6.out.e.cell 0; clear h2 hW2)
    | (refine wpList_store rfl 39 (.tmp 93) (.tmp 92) rfl gt 9 (exC X3 a3) (by rfl) (by rfl) 42 (stC (.mk k_every at_ zR X1 zE zE [] zR zR [] []) ⟨a1, pA0.b, pA0.c, pA0.r, pA0.y, pA0.z⟩) (by exact HS4.out.e) hdEx (exC_one X3 a3) (by show 9 + 5 ≤ 26; omega) ?_; intro v5 hb3 ho3; have HS5 : Hid (RLn gp gt A n c ts w6 (.mk k_every at_ zR X1 X3 zE [] zR zR [] []) ⟨a1, a3, pA0.c, pA0.r, pA0.y, pA0.z⟩ q3 v5) := HS4.out.put ho3 (by exact hb3) ⟨⟨HS4.out.ar.1.1, HA3.out, HS4.out.ar.1.2.2⟩, HS4.out.ar.2⟩; have kk5 : v5.cell? ⟨gt, 0, none⟩ = some (.string k_every) := HS5.out.e.cell 0; clear hb3 ho3)
    | (go_at_call 64; (refine (C3.out _ (by exact HS3.out.st)).mono ?_); rintro e v4 ⟨a3, rfl, ha, h2, hW2⟩; have HA3 := Lib.hid (ArgsIn.rup HS3.out ha); have HS4 := Lib.hid (HS3.out.call h2 hW2); clear ha h2 hW2)
    | (go_at_call 63; (with_reducible refine (C2.out _ (by exact HS2.out.st)).mono ?_); rintro e v3 ⟨rfl, h2, hW2⟩; have HS3 := Lib.hid (HS2.out.call h2 hW2); have kk3 : v3.cell? ⟨gt, 0, none⟩ = some (.string k_every) := HS3.out.e.cell 0; clear h2 hW2)
    | (refine wpList_store rfl 39 (.tmp 88) (.tmp 87) rfl gt 4 (exC X1 a1) (by rfl) (by rfl) 42 (stC (.mk k_every at_ zR zE zE zE [] zR zR [] []) ⟨pA0.a, pA0.b, pA0.c, pA0.r, pA0.y, pA0.z⟩) (by exact HS1.out.e) hdEx (exC_one X1 a1) (by show 4 + 5 ≤ 26; omega) ?_; intro v2 hb3 ho3; have HS2 : Hid (RLn gp gt A n c ts w6 (.mk k_every at_ zR X1 zE zE [] zR zR [] []) ⟨a1, pA0.b, pA0.c, pA0.r, pA0.y, pA0.z⟩ q1 v2) := HS1.out.put ho3 (by exact hb3) ⟨⟨HA1.out, HS1.out.ar.1.2⟩, HS1.out.ar.2⟩; have kk2 : v2.cell? ⟨gt, 0, none⟩ = some (.string k_every) := HS2.out.e.cell 0; clear hb3 ho3)
    | (go_at_call 64; (refine (C1.out _ (by exact HS0.out.st)).mono ?_); rintro e v1 ⟨a1, rfl, ha, h2, hW2⟩; have HA1 := Lib.hid (ArgsIn.rup HS0.out ha); have HS1 := Lib.hid (HS0.out.call h2 hW2); clear ha h2 hW2))
  obtain ⟨e1, e2, e3⟩ := RStE HS8.out HW6.out hgt.out HLO.out ho9
  refine bodyPost_ret (res_c rfl _ w.heap.size 42 (stC (.mk k_every at_ zR X1 X3 zE X5 zR zR [] []) ⟨a1, a3, pA0.c, (A5, c5), pA0.y, pA0.z⟩) rfl hb9 _ Tryz.underlying42 rfl hdSt) rfl ⟨⟨a1, a3, pA0.c, (A5, c5), pA0.y, pA0.z⟩, rfl, e1, e2, e3⟩
set_option maxRecDepth 100000 in
set_option maxHeartbeats 4000000 in
theorem rstmt_repeat (cx : RCx gp A n ts) (st : RS → St × RS) (d : Nat) (hbo : RBoK gp A n c ts 91 (rbody ts st) (RQS d)) (hg : ∀ s, RP s (st s).2) (s : RS) (w : World) (h : RSt gp A n c ts s w) (hq : RQS d s) (hs : rbegins ts s = true) (hK : bytesOf (rk ts s).text = k_repeat) :
    Calls Tryz.prog 68 #[.pointer (some ⟨gp, 0, none⟩)] w fun e w' => ∃ p : StA, e = .returned (.agg (stC (rstmtG ts st s).1 p).toArray) ∧ StIn (Fr w.heap.size) w' (rstmtG ts st s).1 p ∧ RSt gp A n c ts (rstmtG ts st s).2 w' ∧ Wr [gp] w w' := by
  have HT : Hid (rstmtG ts st s = (.mk k_repeat ((rk ts s).at_ : Int) (rname ts (rnx s)).1 (REX ts (rname ts (rnx s)).2).1 zE zE [] zR zR (rbody ts st (REX ts (rname ts (rnx s)).2).2).1 [], (rbody ts st (REX ts (rname ts (rnx s)).2).2).2)) := (by show _ = _; unfold rstmtG; dsimp only; rw [hK]; rw [if_neg (by decide), if_neg (by decide), if_neg (by decide), if_neg (by decide), if_neg (by decide), if_neg (by decide), if_neg (by decide), if_neg (by decide), if_pos rfl])
  rw [HT.out]
  have HNW := Lib.hid (fun W (h : RSt gp A n c ts s W) => now_c cx h)
  have HH := Lib.hid (h.alloc (.cells (stC zT pA0).toArray 42))
  have HE : Hid (Wr [gp] w (w.alloc (.cells (stC zT pA0).toArray 42))) := (Wr.refl _ _).alloc _
  have HB : Hid (Blk (w.alloc (.cells (stC zT pA0).toArray 42)) w.heap.size 42 (stC zT pA0)) := Blk.new _ _ _
  have HLO := Lib.hid (h.lo cx)
  have HX : Hid (∀ W, RSt gp A n c ts s W → W.cell? ⟨gp, 1, none⟩ = some (.int .i64 s.i) ∧ W.frozen? ⟨gp, 1, none⟩ = false ∧ gp < W.heap.size) := fun W h => ⟨h.b.cell 1, h.b.frozen 1, h.b.lt⟩
  have hi8 : s.i < 100000 := by have := h.lt; have := cx.hn; have := cx.hn8; omega
  have hltt := rbegins_lt cx.ends hs
  have HNX := Lib.hid (fun W (h : RSt gp A n c ts s W) => RSt.next cx h hltt)
  unfold tokCells at HNW
  have C1 := Lib.hid (fun W (h : RSt gp A n c ts (rnx s) W) => name_c cx h)
  have C2 := Lib.hid (fun W (h : RSt gp A n c ts (rname ts (rnx s)).2 W) => rexpr_all cx 14 (rname ts (rnx s)).2 W h (hq.q.rp ((rnx_p).trans (rname_p (rnx s)))))
  have C3 := Lib.hid (fun W (h : RSt gp A n c ts (REX ts (rname ts (rnx s)).2).2 W) => hbo (REX ts (rname ts (rnx s)).2).2 W h (hq.rp (((rnx_p).trans (rname_p (rnx s))).trans (REX_p (rname ts (rnx s)).2))))
  clear h hq hs hltt HT hbo 
  generalize rnx s = q0 at *
  generalize (rname ts q0).1 = X1 at *
  generalize (rname ts q0).2 = q1 at *
  generalize (REX ts q1).1 = X2 at *
  generalize (REX ts q1).2 = q2 at *
  generalize (rbody ts st q2).1 = X3 at *
  generalize (rbody ts st q2).2 = q3 at *
  rw [hK] at HNW
  generalize ((rk ts s).at_ : Int) = at_ at *
  generalize ((rk ts s).kind : Int) = tk at *
  generalize (rk ts s).num = tn at *
  clear hK cx hg
  have hf1 := fld1 (.int .i64 tk) (.string k_repeat) (.int .i64 tn) (.int .i64 at_)
  have hf3 := fld3 (.int .i64 tk) (.string k_repeat) (.int .i64 tn) (.int .i64 at_)
  go_enter Tryz.func68, Tryz.ntmps68
  go_upto_region 2 with (first
    | (go_at_call 27; (refine (HNW.out _ (by exact H2.out)).mono ?_); rintro e w3 ⟨rfl, hB3⟩
       have H3 := Lib.hid (H2.out.below hB3)
       have HE3 := Lib.hid (HE2.out.trans (Wr.of_below hB3))
       have HB3 := qbl HB2 hB3
       clear hB3)
    | (go_at_call 27; (refine (HNW.out _ (by exact HH.out)).mono ?_); rintro e w2 ⟨rfl, hB2⟩
       have H2 := Lib.hid (HH.out.below hB2)
       have HE2 := Lib.hid (HE.out.trans (Wr.of_below hB2))
       have HB2 := qbl HB hB2
       clear hB2)
    | refine wpList_build rfl 42 [(0, .tmp 6), (1, .tmp 9)] rfl _ (by rfl) _ (bld_St _ _ _) ?_
    | (refine wpList_store_all rfl 42 (.tmp 3) (.tmp 10) rfl w3.heap.size (stC (kT k_repeat at_) pA0) (by rfl) (by rfl) 42 (stC zT pA0) (by exact Blk.new' (by simp) rfl) hdSt (stC_one _ _) rfl ?_
       intro w6 hb6 ho6
       have hz3 := HB3.out.lt
       have hgt : Hid (w.heap.size < w3.heap.size) := (by show _ < _; omega)
       have HS6 : Hid (RLn gp w3.heap.size A n c ts w6 (kT k_repeat at_) pA0 s w6) := ⟨(H3.out.alloc _).only (HLO.out.mono (by omega)) (Nat.le_refl _) ho6, Wr.refl _ _, hb6, StIn.zero _ _ _ _, HLO.out.mono (by omega), hb6.lt⟩
       have HW6 : Hid (Wr [gp] w w6) := (HE3.out.alloc _).thenb (ho6.below (Below.refl _ _) (by omega) (by have := HE3.out.size; simp; omega))
       have HB6 : Hid (Blk w6 w.heap.size 42 (stC zT pA0)) := ho6.blk (HB3.out.alloc _) (by omega)
       obtain ⟨k1, j1, l1⟩ := HX.out w6 HS6.out.st
       clear hb6 ho6 hz3))
  obtain ⟨gt, hgx⟩ : ∃ gt, gt = w3.heap.size := ⟨_, rfl⟩
  rw [← hgx] at hgt HS6
  rw [← hgx]
  clear hgx H2 HE2 HB2 H3 HE3 HB3 HNW HH HE HB
  go_upto_region 3 with fail
  have HS0 : Hid (RLn gp gt A n c ts w6 (kT k_repeat at_) pA0 q0 (w6.setCell ⟨gp, 1, none⟩ (.int .i64 ((s.i : Int) + 1)))) := HS6.out.call (HNX.out w6 HS6.out.st).1 (HNX.out w6 HS6.out.st).2
  generalize w6.setCell ⟨gp, 1, none⟩ (.int .i64 ((s.i : Int) + 1)) = w7 at *
  have hc0 : w7.cell? ⟨gt, 0, none⟩ = some (.string k_repeat) := HS0.out.e.cell 0
  clear HX HNX k1 j1 l1 HS6
  go_wp2_with (first
    | (refine wpList_store_all rfl 42 (.tmp 2) (.tmp 168) rfl w.heap.size (stC (.mk k_repeat at_ X1 X2 zE zE [] zR zR X3 []) ⟨a2, pA0.b, pA0.c, pA0.r, (A3, c3), pA0.z⟩) (by rfl) (by rfl) 42 (stC zT pA0) (by exact HZ8.out) hdSt (stC_one _ _) rfl ?_; intro w9_ hb9 ho9)
    | (go_at_call 91; (with_reducible refine (C3.out _ (by exact HS4.out.st)).mono ?_); rintro e v5 ⟨A3, c3, rfl, hr, h2, hW2⟩; have HR := hr.keep (keep_low HS4.out.wr.size); have HS5 := Lib.hid (HS4.out.call h2 hW2); have c24_ : v5.cell? ⟨gt, 24, none⟩ = some (.slice none 0 0) := HS5.out.e.cell 24; have f24_ := HS5.out.e.frozen 24; have lt24 := HS5.out.e.lt; have HS5_ : Hid (RLn gp gt A n c ts w6 (.mk k_repeat at_ X1 X2 zE zE [] zR zR X3 []) ⟨a2, pA0.b, pA0.c, pA0.r, (A3, c3), pA0.z⟩ q3 (v5.setCell ⟨gt, 24, none⟩ (.slice A3 X3.length c3))) := HS5.out.one 24 _ rfl ⟨HS5.out.ar.1, HR, HS5.out.ar.2.2⟩; have kk5 : v5.cell? ⟨gt, 0, none⟩ = some (.string k_repeat) := HS5.out.e.cell 0; have hl8 := sd_ld HS5_.out.e; have HZ8 := Lib.hid (HS5_.out.res HB6.out hgt.out HLO.out); clear hr h2 hW2 HR)
    | (refine wpList_store rfl 39 (.tmp 114) (.tmp 113) rfl gt 4 (exC X2 a2) (by rfl) (by rfl) 42 (stC (.mk k_repeat at_ X1 zE zE zE [] zR zR [] []) ⟨pA0.a, pA0.b, pA0.c, pA0.r, pA0.y, pA0.z⟩) (by exact HS3.out.e) hdEx (exC_one X2 a2) (by show 4 + 5 ≤ 26; omega) ?_; intro v4 hb3 ho3; have HS4 : Hid (RLn gp gt A n c ts w6 (.mk k_repeat at_ X1 X2 zE zE [] zR zR [] []) ⟨a2, pA0.b, pA0.c, pA0.r, pA0.y, pA0.z⟩ q2 v4) := HS3.out.put ho3 (by exact hb3) ⟨⟨HA2.out, HS3.out.ar.1.2⟩, HS3.out.ar.2⟩; have kk4 : v4.cell? ⟨gt, 0, none⟩ = some (.string k_repeat) := HS4.out.e.cell 0; clear hb3 ho3)
    | (go_at_call 64; (refine (C2.out _ (by exact HS2.out.st)).mono ?_); rintro e v3 ⟨a2, rfl, ha, h2, hW2⟩; have HA2 := Lib.hid (ArgsIn.rup HS2.out ha); have HS3 := Lib.hid (HS2.out.call h2 hW2); clear ha h2 hW2)
    | (refine wpList_store rfl 36 (.tmp 111) (.tmp 110) rfl gt 2 (rfC X1) (by rfl) (by rfl) 42 (stC (.mk k_repeat at_ zR zE zE zE [] zR zR [] []) ⟨pA0.a, pA0.b, pA0.c, pA0.r, pA0.y, pA0.z⟩) (by exact HS1.out.e) hdRf (rfC_one X1) (by show 2 + 2 ≤ 26; omega) ?_; intro v2 hb3 ho3; have HS2 : Hid (RLn gp gt A n c ts w6 (.mk k_repeat at_ X1 zE zE zE [] zR zR [] []) ⟨pA0.a, pA0.b, pA0.c, pA0.r, pA0.y, pA0.z⟩ q1 v2) := HS1.out.put ho3 (by exact hb3) HS1.out.ar; have kk2 : v2.cell? ⟨gt, 0, none⟩ = some (.string k_repeat) := HS2.out.e.cell 0; clear hb3 ho3)
    | (go_at_call 62; (with_reducible refine (C1.out _ (by exact HS0.out.st)).mono ?_); rintro e v1 ⟨rfl, h2, hW2⟩; have HS1 := Lib.hid (HS0.out.call h2 hW2); clear h2 hW2))
  obtain ⟨e1, e2, e3⟩ := RStE HS5_.out HW6.out hgt.out HLO.out ho9
  refine bodyPost_ret (res_c rfl _ w.heap.size 42 (stC (.mk k_repeat at_ X1 X2 zE zE [] zR zR X3 []) ⟨a2, pA0.b, pA0.c, pA0.r, (A3, c3), pA0.z⟩) rfl hb9 _ Tryz.underlying42 rfl hdSt) rfl ⟨⟨a2, pA0.b, pA0.c, pA0.r, (A3, c3), pA0.z⟩, rfl, e1, e2, e3⟩
set_option maxRecDepth 100000 in
set_option maxHeartbeats 4000000 in
theorem rstmt_if0 (cx : RCx gp A n ts) (st : RS → St × RS) (d : Nat) (hbo : RBoK gp A n c ts 91 (rbody ts st) (RQS d)) (hg : ∀ s, RP s (st s).2) (s : RS) (w : World) (h : RSt gp A n c ts s w) (hq : RQS d s) (hs : rbegins ts s = true) (hK : bytesOf (rk ts s).text = k_if) (hw : rIs ts k_else (rbody ts st (rname ts (rneed ts k_acked (rnx s))).2).2 = false) :
    Calls Tryz.prog 68 #[.pointer (some ⟨gp, 0, none⟩)] w fun e w' => ∃ p : StA, e = .returned (.agg (stC (rstmtG ts st s).1 p).toArray) ∧ StIn (Fr w.heap.size) w' (rstmtG ts st s).1 p ∧ RSt gp A n c ts (rstmtG ts st s).2 w' ∧ Wr [gp] w w' := by
  have HT : Hid (rstmtG ts st s = (.mk k_if ((rk ts s).at_ : Int) zR zE zE zE [] zR (rname ts (rneed ts k_acked (rnx s))).1 (rbody ts st (rname ts (rneed ts k_acked (rnx s))).2).1 [], (rbody ts st (rname ts (rneed ts k_acked (rnx s))).2).2)) := (by show _ = _; unfold rstmtG; dsimp only; rw [hK]; rw [if_neg (c := k_if = k_send) (by decide), if_neg (c := k_if = k_split) (by decide), if_neg (c := k_if = k_retry) (by decide), if_neg (c := k_if = k_cover) (by decide), if_neg (c := k_if = k_wait) (by decide), if_neg (c := k_if = k_block) (by decide), if_neg (c := k_if = k_every) (by decide), if_neg (c := k_if = k_after) (by decide), if_neg (c := k_if = k_repeat) (by decide), if_pos (c := k_if = k_if) rfl]; rw [hw]; rfl)
  rw [HT.out]
  have HNW := Lib.hid (fun W (h : RSt gp A n c ts s W) => now_c cx h)
  have HH := Lib.hid (h.alloc (.cells (stC zT pA0).toArray 42))
  have HE : Hid (Wr [gp] w (w.alloc (.cells (stC zT pA0).toArray 42))) := (Wr.refl _ _).alloc _
  have HB : Hid (Blk (w.alloc (.cells (stC zT pA0).toArray 42)) w.heap.size 42 (stC zT pA0)) := Blk.new _ _ _
  have HLO := Lib.hid (h.lo cx)
  have HX : Hid (∀ W, RSt gp A n c ts s W → W.cell? ⟨gp, 1, none⟩ = some (.int .i64 s.i) ∧ W.frozen? ⟨gp, 1, none⟩ = false ∧ gp < W.heap.size) := fun W h => ⟨h.b.cell 1, h.b.frozen 1, h.b.lt⟩
  have hi8 : s.i < 100000 := by have := h.lt; have := cx.hn; have := cx.hn8; omega
  have hltt := rbegins_lt cx.ends hs
  have HNX := Lib.hid (fun W (h : RSt gp A n c ts s W) => RSt.next cx h hltt)
  unfold tokCells at HNW
  have C1 := Lib.hid (fun W (h : RSt gp A n c ts (rnx s) W) => need_c k_acked cx h)
  have C2 := Lib.hid (fun W (h : RSt gp A n c ts (rneed ts k_acked (rnx s)) W) => name_c cx h)
  have C3 := Lib.hid (fun W (h : RSt gp A n c ts (rname ts (rneed ts k_acked (rnx s))).2 W) => hbo (rname ts (rneed ts k_acked (rnx s))).2 W h (hq.rp (((rnx_p).trans (rneed_p k_acked (rnx s))).trans (rname_p (rneed ts k_acked (rnx s))))))
  have C4 := Lib.hid (fun W (h : RSt gp A n c ts (rbody ts st (rname ts (rneed ts k_acked (rnx s))).2).2 W) => over_c k_else cx h)
  rw [hw, show rover ts k_else (rbody ts st (rname ts (rneed ts k_acked (rnx s))).2).2 = (rbody ts st (rname ts (rneed ts k_acked (rnx s))).2).2 by unfold rover; rw [hw]; rfl] at C4
  clear h hq hs hltt HT hbo hw
  generalize rnx s = q0 at *
  generalize (rneed ts k_acked q0) = q1 at *
  generalize (rname ts q1).1 = X2 at *
  generalize (rname ts q1).2 = q2 at *
  generalize (rbody ts st q2).1 = X3 at *
  generalize (rbody ts st q2).2 = q3 at *
  rw [hK] at HNW
  generalize ((rk ts s).at_ : Int) = at_ at *
  generalize ((rk ts s).kind : Int) = tk at *
  generalize (rk ts s).num = tn at *
  clear hK cx hg
  have hf1 := fld1 (.int .i64 tk) (.string k_if) (.int .i64 tn) (.int .i64 at_)
  have hf3 := fld3 (.int .i64 tk) (.string k_if) (.int .i64 tn) (.int .i64 at_)
  go_enter Tryz.func68, Tryz.ntmps68
  go_upto_region 2 with (first
    | (go_at_call 27; (refine (HNW.out _ (by exact H2.out)).mono ?_); rintro e w3 ⟨rfl, hB3⟩
       have H3 := Lib.hid (H2.out.below hB3)
       have HE3 := Lib.hid (HE2.out.trans (Wr.of_below hB3))
       have HB3 := qbl HB2 hB3
       clear hB3)
    | (go_at_call 27; (refine (HNW.out _ (by exact HH.out)).mono ?_); rintro e w2 ⟨rfl, hB2⟩
       have H2 := Lib.hid (HH.out.below hB2)
       have HE2 := Lib.hid (HE.out.trans (Wr.of_below hB2))
       have HB2 := qbl HB hB2
       clear hB2)
    | refine wpList_build rfl 42 [(0, .tmp 6), (1, .tmp 9)] rfl _ (by rfl) _ (bld_St _ _ _) ?_
    | (refine wpList_store_all rfl 42 (.tmp 3) (.tmp 10) rfl w3.heap.size (stC (kT k_if at_) pA0) (by rfl) (by rfl) 42 (stC zT pA0) (by exact Blk.new' (by simp) rfl) hdSt (stC_one _ _) rfl ?_
       intro w6 hb6 ho6
       have hz3 := HB3.out.lt
       have hgt : Hid (w.heap.size < w3.heap.size) := (by show _ < _; omega)
       have HS6 : Hid (RLn gp w3.heap.size A n c ts w6 (kT k_if at_) pA0 s w6) := ⟨(H3.out.alloc _).only (HLO.out.mono (by omega)) (Nat.le_refl _) ho6, Wr.refl _ _, hb6, StIn.zero _ _ _ _, HLO.out.mono (by omega), hb6.lt⟩
       have HW6 : Hid (Wr [gp] w w6) := (HE3.out.alloc _).thenb (ho6.below (Below.refl _ _) (by omega) (by have := HE3.out.size; simp; omega))
       have HB6 : Hid (Blk w6 w.heap.size 42 (stC zT pA0)) := ho6.blk (HB3.out.alloc _) (by omega)
       obtain ⟨k1, j1, l1⟩ := HX.out w6 HS6.out.st
       clear hb6 ho6 hz3))
  obtain ⟨gt, hgx⟩ : ∃ gt, gt = w3.heap.size := ⟨_, rfl⟩
  rw [← hgx] at hgt HS6
  rw [← hgx]
  clear hgx H2 HE2 HB2 H3 HE3 HB3 HNW HH HE HB
  go_upto_region 3 with fail
  have HS0 : Hid (RLn gp gt A n c ts w6 (kT k_if at_) pA0 q0 (w6.setCell ⟨gp, 1, none⟩ (.int .i64 ((s.i : Int) + 1)))) := HS6.out.call (HNX.out w6 HS6.out.st).1 (HNX.out w6 HS6.out.st).2
  generalize w6.setCell ⟨gp, 1, none⟩ (.int .i64 ((s.i : Int) + 1)) = w7 at *
  have hc0 : w7.cell? ⟨gt, 0, none⟩ = some (.string k_if) := HS0.out.e.cell 0
  clear HX HNX k1 j1 l1 HS6
  go_wp2_with (first
    | (refine wpList_store_all rfl 42 (.tmp 2) (.tmp 168) rfl w.heap.size (stC (.mk k_if at_ zR zE zE zE [] zR X2 X3 []) ⟨pA0.a, pA0.b, pA0.c, pA0.r, (A3, c3), pA0.z⟩) (by rfl) (by rfl) 42 (stC zT pA0) (by exact HZ8.out) hdSt (stC_one _ _) rfl ?_; intro w9_ hb9 ho9)
    | (go_at_call 65; (with_reducible refine (C4.out _ (by exact HS4_.out.st)).mono ?_); rintro e v5 ⟨rfl, h2, hW2⟩; have HS5 := Lib.hid (HS4_.out.call h2 hW2); have kk5 : v5.cell? ⟨gt, 0, none⟩ = some (.string k_if) := HS5.out.e.cell 0; have hl8 := sd_ld HS5.out.e; have HZ8 := Lib.hid (HS5.out.res HB6.out hgt.out HLO.out); clear h2 hW2)
    | (go_at_call 91; (with_reducible refine (C3.out _ (by exact HS3.out.st)).mono ?_); rintro e v4 ⟨A3, c3, rfl, hr, h2, hW2⟩; have HR := hr.keep (keep_low HS3.out.wr.size); have HS4 := Lib.hid (HS3.out.call h2 hW2); have c24_ : v4.cell? ⟨gt, 24, none⟩ = some (.slice none 0 0) := HS4.out.e.cell 24; have f24_ := HS4.out.e.frozen 24; have lt24 := HS4.out.e.lt; have HS4_ : Hid (RLn gp gt A n c ts w6 (.mk k_if at_ zR zE zE zE [] zR X2 X3 []) ⟨pA0.a, pA0.b, pA0.c, pA0.r, (A3, c3), pA0.z⟩ q3 (v4.setCell ⟨gt, 24, none⟩ (.slice A3 X3.length c3))) := HS4.out.one 24 _ rfl ⟨HS4.out.ar.1, HR, HS4.out.ar.2.2⟩; have kk4 : v4.cell? ⟨gt, 0, none⟩ = some (.string k_if) := HS4.out.e.cell 0; clear hr h2 hW2 HR)
    | (refine wpList_store rfl 36 (.tmp 124) (.tmp 123) rfl gt 22 (rfC X2) (by rfl) (by rfl) 42 (stC (.mk k_if at_ zR zE zE zE [] zR zR [] []) ⟨pA0.a, pA0.b, pA0.c, pA0.r, pA0.y, pA0.z⟩) (by exact HS2.out.e) hdRf (rfC_one X2) (by show 22 + 2 ≤ 26; omega) ?_; intro v3 hb3 ho3; have HS3 : Hid (RLn gp gt A n c ts w6 (.mk k_if at_ zR zE zE zE [] zR X2 [] []) ⟨pA0.a, pA0.b, pA0.c, pA0.r, pA0.y, pA0.z⟩ q2 v3) := HS2.out.put ho3 (by exact hb3) HS2.out.ar; have kk3 : v3.cell? ⟨gt, 0, none⟩ = some (.string k_if) := HS3.out.e.cell 0; clear hb3 ho3)
    | (go_at_call 62; (with_reducible refine (C2.out _ (by exact HS1.out.st)).mono ?_); rintro e v2 ⟨rfl, h2, hW2⟩; have HS2 := Lib.hid (HS1.out.call h2 hW2); clear h2 hW2)
    | (go_at_call 63; (with_reducible refine (C1.out _ (by exact HS0.out.st)).mono ?_); rintro e v1 ⟨rfl, h2, hW2⟩; have HS1 := Lib.hid (HS0.out.call h2 hW2); have kk1 : v1.cell? ⟨gt, 0, none⟩ = some (.string k_if) := HS1.out.e.cell 0; clear h2 hW2))
  obtain ⟨e1, e2, e3⟩ := RStE HS5.out HW6.out hgt.out HLO.out ho9
  refine bodyPost_ret (res_c rfl _ w.heap.size 42 (stC (.mk k_if at_ zR zE zE zE [] zR X2 X3 []) ⟨pA0.a, pA0.b, pA0.c, pA0.r, (A3, c3), pA0.z⟩) rfl hb9 _ Tryz.underlying42 rfl hdSt) rfl ⟨⟨pA0.a, pA0.b, pA0.c, pA0.r, (A3, c3), pA0.z⟩, rfl, e1, e2, e3⟩
set_option maxRecDepth 100000 in
set_option maxHeartbeats 4000000 in
theorem rstmt_if1 (cx : RCx gp A n ts) (st : RS → St × RS) (d : Nat) (hbo : RBoK gp A n c ts 91 (rbody ts st) (RQS d)) (hg : ∀ s, RP s (st s).2) (s : RS) (w : World) (h : RSt gp A n c ts s w) (hq : RQS d s) (hs : rbegins ts s = true) (hK : bytesOf (rk ts s).text = k_if) (hw : rIs ts k_else (rbody ts st (rname ts (rneed ts k_acked (rnx s))).2).2 = true) :
    Calls Tryz.prog 68 #[.pointer (some ⟨gp, 0, none⟩)] w fun e w' => ∃ p : StA, e = .returned (.agg (stC (rstmtG ts st s).1 p).toArray) ∧ StIn (Fr w.heap.size) w' (rstmtG ts st s).1 p ∧ RSt gp A n c ts (rstmtG ts st s).2 w' ∧ Wr [gp] w w' := by
  have HT : Hid (rstmtG ts st s = (.mk k_if ((rk ts s).at_ : Int) zR zE zE zE [] zR (rname ts (rneed ts k_acked (rnx s))).1 (rbody ts st (rname ts (rneed ts k_acked (rnx s))).2).1 (rbody ts st (rnx (rbody ts st (rname ts (rneed ts k_acked (rnx s))).2).2)).1, (rbody ts st (rnx (rbody ts st (rname ts (rneed ts k_acked (rnx s))).2).2)).2)) := (by show _ = _; unfold rstmtG; dsimp only; rw [hK]; rw [if_neg (c := k_if = k_send) (by decide), if_neg (c := k_if = k_split) (by decide), if_neg (c := k_if = k_retry) (by decide), if_neg (c := k_if = k_cover) (by decide), if_neg (c := k_if = k_wait) (by decide), if_neg (c := k_if = k_block) (by decide), if_neg (c := k_if = k_every) (by decide), if_neg (c := k_if = k_after) (by decide), if_neg (c := k_if = k_repeat) (by decide), if_pos (c := k_if = k_if) rfl]; rw [hw]; rfl)
  rw [HT.out]
  have HNW := Lib.hid (fun W (h : RSt gp A n c ts s W) => now_c cx h)
  have HH := Lib.hid (h.alloc (.cells (stC zT pA0).toArray 42))
  have HE : Hid (Wr [gp] w (w.alloc (.cells (stC zT pA0).toArray 42))) := (Wr.refl _ _).alloc _
  have HB : Hid (Blk (w.alloc (.cells (stC zT pA0).toArray 42)) w.heap.size 42 (stC zT pA0)) := Blk.new _ _ _
  have HLO := Lib.hid (h.lo cx)
  have HX : Hid (∀ W, RSt gp A n c ts s W → W.cell? ⟨gp, 1, none⟩ = some (.int .i64 s.i) ∧ W.frozen? ⟨gp, 1, none⟩ = false ∧ gp < W.heap.size) := fun W h => ⟨h.b.cell 1, h.b.frozen 1, h.b.lt⟩
  have hi8 : s.i < 100000 := by have := h.lt; have := cx.hn; have := cx.hn8; omega
  have hltt := rbegins_lt cx.ends hs
  have HNX := Lib.hid (fun W (h : RSt gp A n c ts s W) => RSt.next cx h hltt)
  unfold tokCells at HNW
  have C1 := Lib.hid (fun W (h : RSt gp A n c ts (rnx s) W) => need_c k_acked cx h)
  have C2 := Lib.hid (fun W (h : RSt gp A n c ts (rneed ts k_acked (rnx s)) W) => name_c cx h)
  have C3 := Lib.hid (fun W (h : RSt gp A n c ts (rname ts (rneed ts k_acked (rnx s))).2 W) => hbo (rname ts (rneed ts k_acked (rnx s))).2 W h (hq.rp (((rnx_p).trans (rneed_p k_acked (rnx s))).trans (rname_p (rneed ts k_acked (rnx s))))))
  have C4 := Lib.hid (fun W (h : RSt gp A n c ts (rbody ts st (rname ts (rneed ts k_acked (rnx s))).2).2 W) => over_c k_else cx h)
  rw [hw, show rover ts k_else (rbody ts st (rname ts (rneed ts k_acked (rnx s))).2).2 = (rnx (rbody ts st (rname ts (rneed ts k_acked (rnx s))).2).2) by unfold rover; rw [hw]; rfl] at C4
  have C5 := Lib.hid (fun W (h : RSt gp A n c ts (rnx (rbody ts st (rname ts (rneed ts k_acked (rnx s))).2).2) W) => hbo (rnx (rbody ts st (rname ts (rneed ts k_acked (rnx s))).2).2) W h (hq.rp (((((rnx_p).trans (rneed_p k_acked (rnx s))).trans (rname_p (rneed ts k_acked (rnx s)))).trans (rbody_p hg (rname ts (rneed ts k_acked (rnx s))).2)).trans rnx_p)))
  clear h hq hs hltt HT hbo hw
  generalize rnx s = q0 at *
  generalize (rneed ts k_acked q0) = q1 at *
  generalize (rname ts q1).1 = X2 at *
  generalize (rname ts q1).2 = q2 at *
  generalize (rbody ts st q2).1 = X3 at *
  generalize (rbody ts st q2).2 = q3 at *
  generalize (rnx q3) = q4 at *
  generalize (rbody ts st q4).1 = X5 at *
  generalize (rbody ts st q4).2 = q5 at *
  rw [hK] at HNW
  generalize ((rk ts s).at_ : Int) = at_ at *
  generalize ((rk ts s).kind : Int) = tk at *
  generalize (rk ts s).num = tn at *
  clear hK cx hg
  have hf1 := fld1 (.int .i64 tk) (.string k_if) (.int .i64 tn) (.int .i64 at_)
  have hf3 := fld3 (.int .i64 tk) (.string k_if) (.int .i64 tn) (.int .i64 at_)
  go_enter Tryz.func68, Tryz.ntmps68
  go_upto_region 2 with (first
    | (go_at_call 27; (refine (HNW.out _ (by exact H2.out)).mono ?_); rintro e w3 ⟨rfl, hB3⟩
       have H3 := Lib.hid (H2.out.below hB3)
       have HE3 := Lib.hid (HE2.out.trans (Wr.of_below hB3))
       have HB3 := qbl HB2 hB3
       clear hB3)
    | (go_at_call 27; (refine (HNW.out _ (by exact HH.out)).mono ?_); rintro e w2 ⟨rfl, hB2⟩
       have H2 := Lib.hid (HH.out.below hB2)
       have HE2 := Lib.hid (HE.out.trans (Wr.of_below hB2))
       have HB2 := qbl HB hB2
       clear hB2)
    | refine wpList_build rfl 42 [(0, .tmp 6), (1, .tmp 9)] rfl _ (by rfl) _ (bld_St _ _ _) ?_
    | (refine wpList_store_all rfl 42 (.tmp 3) (.tmp 10) rfl w3.heap.size (stC (kT k_if at_) pA0) (by rfl) (by rfl) 42 (stC zT pA0) (by exact Blk.new' (by simp) rfl) hdSt (stC_one _ _) rfl ?_
       intro w6 hb6 ho6
       have hz3 := HB3.out.lt
       have hgt : Hid (w.heap.size < w3.heap.size) := (by show _ < _; omega)
       have HS6 : Hid (RLn gp w3.heap.size A n c ts w6 (kT k_if at_) pA0 s w6) := ⟨(H3.out.alloc _).only (HLO.out.mono (by omega)) (Nat.le_refl _) ho6, Wr.refl _ _, hb6, StIn.zero _ _ _ _, HLO.out.mono (by omega), hb6.lt⟩
       have HW6 : Hid (Wr [gp] w w6) := (HE3.out.alloc _).thenb (ho6.below (Below.refl _ _) (by omega) (by have := HE3.out.size; simp; omega))
       have HB6 : Hid (Blk w6 w.heap.size 42 (stC zT pA0)) := ho6.blk (HB3.out.alloc _) (by omega)
       obtain ⟨k1, j1, l1⟩ := HX.out w6 HS6.out.st
       clear hb6 ho6 hz3))
  obtain ⟨gt, hgx⟩ : ∃ gt, gt = w3.heap.size := ⟨_, rfl⟩
  rw [← hgx] at hgt HS6
  rw [← hgx]
  clear hgx H2 HE2 HB2 H3 HE3 HB3 HNW HH HE HB
  go_upto_region 3 with fail
  have HS0 : Hid (RLn gp gt A n c ts w6 (kT k_if at_) pA0 q0 (w6.setCell ⟨gp, 1, none⟩ (.int .i64 ((s.i : Int) + 1)))) := HS6.out.call (HNX.out w6 HS6.out.st).1 (HNX.out w6 HS6.out.st).2
  generalize w6.setCell ⟨gp, 1, none⟩ (.int .i64 ((s.i : Int) + 1)) = w7 at *
  have hc0 : w7.cell? ⟨gt, 0, none⟩ = some (.string k_if) := HS0.out.e.cell 0
  clear HX HNX k1 j1 l1 HS6
  go_wp2_with (first
    | (refine wpList_store_all rfl 42 (.tmp 2) (.tmp 168) rfl w.heap.size (stC (.mk k_if at_ zR zE zE zE [] zR X2 X3 X5) ⟨pA0.a, pA0.b, pA0.c, pA0.r, (A3, c3), (A5, c5)⟩) (by rfl) (by rfl) 42 (stC zT pA0) (by exact HZ8.out) hdSt (stC_one _ _) rfl ?_; intro w9_ hb9 ho9)
    | (go_at_call 91; (with_reducible refine (C5.out _ (by exact HS5.out.st)).mono ?_); rintro e v6 ⟨A5, c5, rfl, hr, h2, hW2⟩; have HR := hr.keep (keep_low HS5.out.wr.size); have HS6 := Lib.hid (HS5.out.call h2 hW2); have c24_ : v6.cell? ⟨gt, 25, none⟩ = some (.slice none 0 0) := HS6.out.e.cell 25; have f24_ := HS6.out.e.frozen 25; have lt24 := HS6.out.e.lt; have HS6_ : Hid (RLn gp gt A n c ts w6 (.mk k_if at_ zR zE zE zE [] zR X2 X3 X5) ⟨pA0.a, pA0.b, pA0.c, pA0.r, (A3, c3), (A5, c5)⟩ q5 (v6.setCell ⟨gt, 25, none⟩ (.slice A5 X5.length c5))) := HS6.out.one 25 _ rfl ⟨HS6.out.ar.1, HS6.out.ar.2.1, HR⟩; have kk6 : v6.cell? ⟨gt, 0, none⟩ = some (.string k_if) := HS6.out.e.cell 0; have hl8 := sd_ld HS6_.out.e; have HZ8 := Lib.hid (HS6_.out.res HB6.out hgt.out HLO.out); clear hr h2 hW2 HR)
    | (go_at_call 65; (with_reducible refine (C4.out _ (by exact HS4_.out.st)).mono ?_); rintro e v5 ⟨rfl, h2, hW2⟩; have HS5 := Lib.hid (HS4_.out.call h2 hW2); have kk5 : v5.cell? ⟨gt, 0, none⟩ = some (.string k_if) := HS5.out.e.cell 0; clear h2 hW2)
    | (go_at_call 91; (with_reducible refine (C3.out _ (by exact HS3.out.st)).mono ?_); rintro e v4 ⟨A3, c3, rfl, hr, h2, hW2⟩; have HR := hr.keep (keep_low HS3.out.wr.size); have HS4 := Lib.hid (HS3.out.call h2 hW2); have c24_ : v4.cell? ⟨gt, 24, none⟩ = some (.slice none 0 0) := HS4.out.e.cell 24; have f24_ := HS4.out.e.frozen 24; have lt24 := HS4.out.e.lt; have HS4_ : Hid (RLn gp gt A n c ts w6 (.mk k_if at_ zR zE zE zE [] zR X2 X3 []) ⟨pA0.a, pA0.b, pA0.c, pA0.r, (A3, c3), pA0.z⟩ q3 (v4.setCell ⟨gt, 24, none⟩ (.slice A3 X3.length c3))) := HS4.out.one 24 _ rfl ⟨HS4.out.ar.1, HR, HS4.out.ar.2.2⟩; have kk4 : v4.cell? ⟨gt, 0, none⟩ = some (.string k_if) := HS4.out.e.cell 0; clear hr h2 hW2 HR)
    | (refine wpList_store rfl 36 (.tmp 124) (.tmp 123) rfl gt 22 (rfC X2) (by rfl) (by rfl) 42 (stC (.mk k_if at_ zR zE zE zE [] zR zR [] []) ⟨pA0.a, pA0.b, pA0.c, pA0.r, pA0.y, pA0.z⟩) (by exact HS2.out.e) hdRf (rfC_one X2) (by show 22 + 2 ≤ 26; omega) ?_; intro v3 hb3 ho3; have HS3 : Hid (RLn gp gt A n c ts w6 (.mk k_if at_ zR zE zE zE [] zR X2 [] []) ⟨pA0.a, pA0.b, pA0.c, pA0.r, pA0.y, pA0.z⟩ q2 v3) := HS2.out.put ho3 (by exact hb3) HS2.out.ar; have kk3 : v3.cell? ⟨gt, 0, none⟩ = some (.string k_if) := HS3.out.e.cell 0; clear hb3 ho3)
    | (go_at_call 62; (with_reducible refine (C2.out _ (by exact HS1.out.st)).mono ?_); rintro e v2 ⟨rfl, h2, hW2⟩; have HS2 := Lib.hid (HS1.out.call h2 hW2); clear h2 hW2)
    | (go_at_call 63; (with_reducible refine (C1.out _ (by exact HS0.out.st)).mono ?_); rintro e v1 ⟨rfl, h2, hW2⟩; have HS1 := Lib.hid (HS0.out.call h2 hW2); have kk1 : v1.cell? ⟨gt, 0, none⟩ = some (.string k_if) := HS1.out.e.cell 0; clear h2 hW2))
  obtain ⟨e1, e2, e3⟩ := RStE HS6_.out HW6.out hgt.out HLO.out ho9
  refine bodyPost_ret (res_c rfl _ w.heap.size 42 (stC (.mk k_if at_ zR zE zE zE [] zR X2 X3 X5) ⟨pA0.a, pA0.b, pA0.c, pA0.r, (A3, c3), (A5, c5)⟩) rfl hb9 _ Tryz.underlying42 rfl hdSt) rfl ⟨⟨pA0.a, pA0.b, pA0.c, pA0.r, (A3, c3), (A5, c5)⟩, rfl, e1, e2, e3⟩
end
end Go.Proofs.YtafjkbbiaopemaaGreatDoor.Tr
