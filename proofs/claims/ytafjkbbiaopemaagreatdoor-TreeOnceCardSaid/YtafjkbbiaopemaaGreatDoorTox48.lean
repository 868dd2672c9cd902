/- Part of the proof: Tap, Tas. -/
import Derived.Test.YtafjkbbiaopemaaGreatDoorTox45
import Derived.Test.YtafjkbbiaopemaaGreatDoorTox46
import Derived.Test.YtafjkbbiaopemaaGreatDoorTox47
set_option linter.unusedVariables false
namespace Go.Proofs.YtafjkbbiaopemaaGreatDoor.Tr
open Go.RowKit
attribute [local go_sem ↓] ldq_St
section
variable {gp : Nat} {A : Option Addr} {n c : Nat} {ts : List Lx.Tok}
set_option maxRecDepth 100000 in
set_option maxHeartbeats 4000000 in
theorem rstmt_split0 (cx : RCx gp A n ts) (st : RS → St × RS) (d : Nat) (hbo : RBoK gp A n c ts 91 (rbody ts st) (RQS d)) (hg : ∀ s, RP s (st s).2) (s : RS) (w : World) (h : RSt gp A n c ts s w) (hq : RQS d s) (hs : rbegins ts s = true) (hK : bytesOf (rk ts s).text = k_split) (ha : rIs ts k_as (rroutes ts true (rneed ts k_via (REX ts (rnx s)).2)).2 = false) :
    Calls Tryz.prog 68 #[.pointer (some ⟨gp, 0, none⟩)] w fun e w' => ∃ p : StA, e = .returned (.agg (stC (rstmtG ts st s).1 p).toArray) ∧ StIn (Fr w.heap.size) w' (rstmtG ts st s).1 p ∧ RSt gp A n c ts (rstmtG ts st s).2 w' ∧ Wr [gp] w w' := by
  have e0 : rwith ts k_as (rroutes ts true (rneed ts k_via (REX ts (rnx s)).2)).2 = (zR, (rroutes ts true (rneed ts k_via (REX ts (rnx s)).2)).2) := by unfold rwith; rw [ha]; rfl
  have HT : Hid (rstmtG ts st s = (.mk k_split ((rk ts s).at_ : Int) zR (REX ts (rnx s)).1 zE zE (rroutes ts true (rneed ts k_via (REX ts (rnx s)).2)).1 zR zR [] [], (rneed ts m_semi (rroutes ts true (rneed ts k_via (REX ts (rnx s)).2)).2))) := (by show _ = _; unfold rstmtG; dsimp only; rw [hK]; rw [if_neg (by decide), if_pos rfl]; rw [e0])
  rw [HT.out]
  have HNW := Lib.hid (fun W (h : RSt gp A n c ts s W) => now_c cx h)
  have HH := Lib.hid (h.alloc (.cells (stC zT pA0).toArray 42))
  have HE : Hid (Wr [gp] w (w.alloc (.cells (stC zT pA0).toArray 42))) := (Wr.refl _ _).alloc _
  have HB : Hid (Blk (w.alloc (.cells (stC zT pA0).toArray 42)) w.heap.size 42 (stC zT pA0)) := Blk.new _ _ _
  have HLO := Lib.hid (h.lo cx)
  have HX : Hid (∀ W, RSt gp A n c ts s W → W.cell? ⟨gp, 1, none⟩ = some (.int .i64 s.i) ∧ W.frozen? ⟨gp, 1, none⟩ = false ∧ gp < W.heap.size) := fun W h => ⟨h.b.cell 1, h.b.frozen 1, h.b.lt⟩
  have hi8 : s.i < 100000 := by have := h.lt; have := cx.hn; have := cx.hn8; omega
  have hltt := rbegins_lt cx.ends hs
  have HNX := Lib.hid (fun W (h : RSt gp A n c ts s W) => RSt.next cx h hltt)
  unfold tokCells at HNW
  have C1 := Lib.hid (fun W (h : RSt gp A n c ts (rnx s) W) => rexpr_all cx 14 (rnx s) W h (hq.q.rp (rnx_p)))
  have C2 := Lib.hid (fun W (h : RSt gp A n c ts (REX ts (rnx s)).2 W) => need_c k_via cx h)
  have C3 := Lib.hid (fun W (h : RSt gp A n c ts (rneed ts k_via (REX ts (rnx s)).2) W) => routes_c cx h true)
  have C4 := Lib.hid (fun W (h : RSt gp A n c ts (rroutes ts true (rneed ts k_via (REX ts (rnx s)).2)).2 W) => over_c k_as cx h)
  rw [ha, show rover ts k_as (rroutes ts true (rneed ts k_via (REX ts (rnx s)).2)).2 = (rroutes ts true (rneed ts k_via (REX ts (rnx s)).2)).2 by unfold rover; rw [ha]; rfl] at C4
  have C5 := Lib.hid (fun W (h : RSt gp A n c ts (rroutes ts true (rneed ts k_via (REX ts (rnx s)).2)).2 W) => need_c m_semi cx h)
  clear h hq hs hltt HT hbo ha e0
  generalize rnx s = q0 at *
  generalize (REX ts q0).1 = X1 at *
  generalize (REX ts q0).2 = q1 at *
  generalize (rneed ts k_via q1) = q2 at *
  generalize (rroutes ts true q2).1 = X3 at *
  generalize (rroutes ts true q2).2 = q3 at *
  generalize (rneed ts m_semi q3) = q5 at *
  rw [hK] at HNW
  generalize ((rk ts s).at_ : Int) = at_ at *
  generalize ((rk ts s).kind : Int) = tk at *
  generalize (rk ts s).num = tn at *
  clear hK cx hg
  have hf1 := fld1 (.int .i64 tk) (.string k_split) (.int .i64 tn) (.int .i64 at_)
  have hf3 := fld3 (.int .i64 tk) (.string k_split) (.int .i64 tn) (.int .i64 at_)
  go_enter Tryz.func68, Tryz.ntmps68
  go_upto_region 2 with (first
    | (go_at_call 27; (refine (HNW.out _ (by exact H2.out)).mono ?_); rintro e w3 ⟨rfl, hB3⟩
       have H3 := Lib.hid (H2.out.below hB3)
       have HE3 := Lib.hid (HE2.out.trans (Wr.of_below hB3))
       have HB3 := qbl HB2 hB3
       clear hB3)
    | (go_at_call 27; (refine (HNW.out _ (by exact HH.out)).mono ?_); rintro e w2 ⟨rfl, hB2⟩
       have H2 := Lib.hid (HH.out.below hB2)
       have HE2 := Lib.hid (HE.out.trans (Wr.of_below hB2))
       have HB2 := qbl HB hB2
       clear hB2)
    | refine wpList_build rfl 42 [(0, .tmp 6), (1, .tmp 9)] rfl _ (by rfl) _ (bld_St _ _ _) ?_
    | (refine wpList_store_all rfl 42 (.tmp 3) (.tmp 10) rfl w3.heap.size (stC (kT k_split at_) pA0) (by rfl) (by rfl) 42 (stC zT pA0) (by exact Blk.new' (by simp) rfl) hdSt (stC_one _ _) rfl ?_
       intro w6 hb6 ho6
       have hz3 := HB3.out.lt
       have hgt : Hid (w.heap.size < w3.heap.size) := (by show _ < _; omega)
       have HS6 : Hid (RLn gp w3.heap.size A n c ts w6 (kT k_split at_) pA0 s w6) := ⟨(H3.out.alloc _).only (HLO.out.mono (by omega)) (Nat.le_refl _) ho6, Wr.refl _ _, hb6, StIn.zero _ _ _ _, HLO.out.mono (by omega), hb6.lt⟩
       have HW6 : Hid (Wr [gp] w w6) := (HE3.out.alloc _).thenb (ho6.below (Below.refl _ _) (by omega) (by have := HE3.out.size; simp; omega))
       have HB6 : Hid (Blk w6 w.heap.size 42 (stC zT pA0)) := ho6.blk (HB3.out.alloc _) (by omega)
       obtain ⟨k1, j1, l1⟩ := HX.out w6 HS6.out.st
       clear hb6 ho6 hz3))
  obtain ⟨gt, hgx⟩ : ∃ gt, gt = w3.heap.size := ⟨_, rfl⟩
  rw [← hgx] at hgt HS6
  rw [← hgx]
  clear hgx H2 HE2 HB2 H3 HE3 HB3 HNW HH HE HB
  go_upto_region 3 with fail
  have HS0 : Hid (RLn gp gt A n c ts w6 (kT k_split at_) pA0 q0 (w6.setCell ⟨gp, 1, none⟩ (.int .i64 ((s.i : Int) + 1)))) := HS6.out.call (HNX.out w6 HS6.out.st).1 (HNX.out w6 HS6.out.st).2
  generalize w6.setCell ⟨gp, 1, none⟩ (.int .i64 ((s.i : Int) + 1)) = w7 at *
  have hc0 : w7.cell? ⟨gt, 0, none⟩ = some (.string k_split) := HS0.out.e.cell 0
  clear HX HNX k1 j1 l1 HS6
  go_wp2_with (first
    | (refine wpList_store_all rfl 42 (.tmp 2) (.tmp 168) rfl w.heap.size (stC (.mk k_split at_ zR X1 zE zE X3 zR zR [] []) ⟨a1, pA0.b, pA0.c, (A3, c3), pA0.y, pA0.z⟩) (by rfl) (by rfl) 42 (stC zT pA0) (by exact HZ8.out) hdSt (stC_one _ _) rfl ?_; intro w9_ hb9 ho9)
    | (go_at_call 63; (with_reducible refine (C5.out _ (by exact HS5.out.st)).mono ?_); rintro e v6 ⟨rfl, h2, hW2⟩; have HS6 := Lib.hid (HS5.out.call h2 hW2); have kk6 : v6.cell? ⟨gt, 0, none⟩ = some (.string k_split) := HS6.out.e.cell 0; have hl8 := sd_ld HS6.out.e; have HZ8 := Lib.hid (HS6.out.res HB6.out hgt.out HLO.out); clear h2 hW2)
    | (go_at_call 65; (with_reducible refine (C4.out _ (by exact HS4_.out.st)).mono ?_); rintro e v5 ⟨rfl, h2, hW2⟩; have HS5 := Lib.hid (HS4_.out.call h2 hW2); have kk5 : v5.cell? ⟨gt, 0, none⟩ = some (.string k_split) := HS5.out.e.cell 0; clear h2 hW2)
    | (go_at_call 90; (refine (C3.out _ (by exact HS3.out.st)).mono ?_); rintro e v4 ⟨A3, c3, rfl, hr, h2, hW2⟩; have HR := Lib.hid (RfsIn.rup HS3.out hr); have HS4 := Lib.hid (HS3.out.call h2 hW2); have c19_ : v4.cell? ⟨gt, 19, none⟩ = some (.slice none 0 0) := HS4.out.e.cell 19; have f19_ := HS4.out.e.frozen 19; have lt19 := HS4.out.e.lt; have HS4_ : Hid (RLn gp gt A n c ts w6 (.mk k_split at_ zR X1 zE zE X3 zR zR [] []) ⟨a1, pA0.b, pA0.c, (A3, c3), pA0.y, pA0.z⟩ q3 (v4.setCell ⟨gt, 19, none⟩ (.slice A3 X3.length c3))) := HS4.out.one 19 _ rfl ⟨⟨HS4.out.ar.1.1, HS4.out.ar.1.2.1, HS4.out.ar.1.2.2.1, HR.out⟩, HS4.out.ar.2⟩; have kk4 : v4.cell? ⟨gt, 0, none⟩ = some (.string k_split) := HS4.out.e.cell 0; clear hr h2 hW2)
    | (go_at_call 63; (with_reducible refine (C2.out _ (by exact HS2.out.st)).mono ?_); rintro e v3 ⟨rfl, h2, hW2⟩; have HS3 := Lib.hid (HS2.out.call h2 hW2); have kk3 : v3.cell? ⟨gt, 0, none⟩ = some (.string k_split) := HS3.out.e.cell 0; clear h2 hW2)
    | (refine wpList_store rfl 39 (.tmp 25) (.tmp 24) rfl gt 4 (exC X1 a1) (by rfl) (by rfl) 42 (stC (.mk k_split at_ zR zE zE zE [] zR zR [] []) ⟨pA0.a, pA0.b, pA0.c, pA0.r, pA0.y, pA0.z⟩) (by exact HS1.out.e) hdEx (exC_one X1 a1) (by show 4 + 5 ≤ 26; omega) ?_; intro v2 hb3 ho3; have HS2 : Hid (RLn gp gt A n c ts w6 (.mk k_split at_ zR X1 zE zE [] zR zR [] []) ⟨a1, pA0.b, pA0.c, pA0.r, pA0.y, pA0.z⟩ q1 v2) := HS1.out.put ho3 (by exact hb3) ⟨⟨HA1.out, HS1.out.ar.1.2⟩, HS1.out.ar.2⟩; have kk2 : v2.cell? ⟨gt, 0, none⟩ = some (.string k_split) := HS2.out.e.cell 0; clear hb3 ho3)
    | (go_at_call 64; (refine (C1.out _ (by exact HS0.out.st)).mono ?_); rintro e v1 ⟨a1, rfl, ha, h2, hW2⟩; have HA1 := Lib.hid (ArgsIn.rup HS0.out ha); have HS1 := Lib.hid (HS0.out.call h2 hW2); clear ha h2 hW2))
  obtain ⟨e1, e2, e3⟩ := RStE HS6.out HW6.out hgt.out HLO.out ho9
  refine bodyPost_ret (res_c rfl _ w.heap.size 42 (stC (.mk k_split at_ zR X1 zE zE X3 zR zR [] []) ⟨a1, pA0.b, pA0.c, (A3, c3), pA0.y, pA0.z⟩) rfl hb9 _ Tryz.underlying42 rfl hdSt) rfl ⟨⟨a1, pA0.b, pA0.c, (A3, c3), pA0.y, pA0.z⟩, rfl, e1, e2, e3⟩
set_option maxRecDepth 100000 in
set_option maxHeartbeats 4000000 in
theorem rstmt_split1 (cx : RCx gp A n ts) (st : RS → St × RS) (d : Nat) (hbo : RBoK gp A n c ts 91 (rbody ts st) (RQS d)) (hg : ∀ s, RP s (st s).2) (s : RS) (w : World) (h : RSt gp A n c ts s w) (hq : RQS d s) (hs : rbegins ts s = true) (hK : bytesOf (rk ts s).text = k_split) (ha : rIs ts k_as (rroutes ts true (rneed ts k_via (REX ts (rnx s)).2)).2 = true) :
    Calls Tryz.prog 68 #[.pointer (some ⟨gp, 0, none⟩)] w fun e w' => ∃ p : StA, e = .returned (.agg (stC (rstmtG ts st s).1 p).toArray) ∧ StIn (Fr w.heap.size) w' (rstmtG ts st s).1 p ∧ RSt gp A n c ts (rstmtG ts st s).2 w' ∧ Wr [gp] w w' := by
  have e0 : rwith ts k_as (rroutes ts true (rneed ts k_via (REX ts (rnx s)).2)).2 = rname ts (rnx (rroutes ts true (rneed ts k_via (REX ts (rnx s)).2)).2) := by unfold rwith; rw [ha]; rfl
  have HT : Hid (rstmtG ts st s = (.mk k_split ((rk ts s).at_ : Int) zR (REX ts (rnx s)).1 zE zE (rroutes ts true (rneed ts k_via (REX ts (rnx s)).2)).1 zR (rname ts (rnx (rroutes ts true (rneed ts k_via (REX ts (rnx s)).2)).2)).1 [] [], (rneed ts m_semi (rname ts (rnx (rroutes ts true (rneed ts k_via (REX ts (rnx s)).2)).2)).2))) := (by show _ = _; unfold rstmtG; dsimp only; rw [hK]; rw [if_neg (by decide), if_pos rfl]; rw [e0])
  rw [HT.out]
  have HNW := Lib.hid (fun W (h : RSt gp A n c ts s W) => now_c cx h)
  have HH := Lib.hid (h.alloc (.cells (stC zT pA0).toArray 42))
  have HE : Hid (Wr [gp] w (w.alloc (.cells (stC zT pA0).toArray 42))) := (Wr.refl _ _).alloc _
  have HB : Hid (Blk (w.alloc (.cells (stC zT pA0).toArray 42)) w.heap.size 42 (stC zT pA0)) := Blk.new _ _ _
  have HLO := Lib.hid (h.lo cx)
  have HX : Hid (∀ W, RSt gp A n c ts s W → W.cell? ⟨gp, 1, none⟩ = some (.int .i64 s.i) ∧ W.frozen? ⟨gp, 1, none⟩ = false ∧ gp < W.heap.size) := fun W h => ⟨h.b.cell 1, h.b.frozen 1, h.b.lt⟩
  have hi8 : s.i < 100000 := by have := h.lt; have := cx.hn; have := cx.hn8; omega
  have hltt := rbegins_lt cx.ends hs
  have HNX := Lib.hid (fun W (h : RSt gp A n c ts s W) => RSt.next cx h hltt)
  unfold tokCells at HNW
  have C1 := Lib.hid (fun W (h : RSt gp A n c ts (rnx s) W) => rexpr_all cx 14 (rnx s) W h (hq.q.rp (rnx_p)))
  have C2 := Lib.hid (fun W (h : RSt gp A n c ts (REX ts (rnx s)).2 W) => need_c k_via cx h)
  have C3 := Lib.hid (fun W (h : RSt gp A n c ts (rneed ts k_via (REX ts (rnx s)).2) W) => routes_c cx h true)
  have C4 := Lib.hid (fun W (h : RSt gp A n c ts (rroutes ts true (rneed ts k_via (REX ts (rnx s)).2)).2 W) => over_c k_as cx h)
  rw [ha, show rover ts k_as (rroutes ts true (rneed ts k_via (REX ts (rnx s)).2)).2 = (rnx (rroutes ts true (rneed ts k_via (REX ts (rnx s)).2)).2) by unfold rover; rw [ha]; rfl] at C4
  have C5 := Lib.hid (fun W (h : RSt gp A n c ts (rnx (rroutes ts true (rneed ts k_via (REX ts (rnx s)).2)).2) W) => name_c cx h)
  have C6 := Lib.hid (fun W (h : RSt gp A n c ts (rname ts (rnx (rroutes ts true (rneed ts k_via (REX ts (rnx s)).2)).2)).2 W) => need_c m_semi cx h)
  clear h hq hs hltt HT hbo ha e0
  generalize rnx s = q0 at *
  generalize (REX ts q0).1 = X1 at *
  generalize (REX ts q0).2 = q1 at *
  generalize (rneed ts k_via q1) = q2 at *
  generalize (rroutes ts true q2).1 = X3 at *
  generalize (rroutes ts true q2).2 = q3 at *
  generalize (rnx q3) = q4 at *
  generalize (rname ts q4).1 = X5 at *
  generalize (rname ts q4).2 = q5 at *
  generalize (rneed ts m_semi q5) = q6 at *
  rw [hK] at HNW
  generalize ((rk ts s).at_ : Int) = at_ at *
  generalize ((rk ts s).kind : Int) = tk at *
  generalize (rk ts s).num = tn at *
  clear hK cx hg
  have hf1 := fld1 (.int .i64 tk) (.string k_split) (.int .i64 tn) (.int .i64 at_)
  have hf3 := fld3 (.int .i64 tk) (.string k_split) (.int .i64 tn) (.int .i64 at_)
  go_enter Tryz.func68, Tryz.ntmps68
  go_upto_region 2 with (first
    | (go_at_call 27; (refine (HNW.out _ (by exact H2.out)).mono ?_); rintro e w3 ⟨rfl, hB3⟩
       have H3 := Lib.hid (H2.out.below hB3)
       have HE3 := Lib.hid (HE2.out.trans (Wr.of_below hB3))
       have HB3 := qbl HB2 hB3
       clear hB3)
    | (go_at_call 27; (refine (HNW.out _ (by exact HH.out)).mono ?_); rintro e w2 ⟨rfl, hB2⟩
       have H2 := Lib.hid (HH.out.below hB2)
       have HE2 := Lib.hid (HE.out.trans (Wr.of_below hB2))
       have HB2 := qbl HB hB2
       clear hB2)
    | refine wpList_build rfl 42 [(0, .tmp 6), (1, .tmp 9)] rfl _ (by rfl) _ (bld_St _ _ _) ?_
    | (refine wpList_store_all rfl 42 (.tmp 3) (.tmp 10) rfl w3.heap.size (stC (kT k_split at_) pA0) (by rfl) (by rfl) 42 (stC zT pA0) (by exact Blk.new' (by simp) rfl) hdSt (stC_one _ _) rfl ?_
       intro w6 hb6 ho6
       have hz3 := HB3.out.lt
       have hgt : Hid (w.heap.size < w3.heap.size) := (by show _ < _; omega)
       have HS6 : Hid (RLn gp w3.heap.size A n c ts w6 (kT k_split at_) pA0 s w6) := ⟨(H3.out.alloc _).only (HLO.out.mono (by omega)) (Nat.le_refl _) ho6, Wr.refl _ _, hb6, StIn.zero _ _ _ _, HLO.out.mono (by omega), hb6.lt⟩
       have HW6 : Hid (Wr [gp] w w6) := (HE3.out.alloc _).thenb (ho6.below (Below.refl _ _) (by omega) (by have := HE3.out.size; simp; omega))
       have HB6 : Hid (Blk w6 w.heap.size 42 (stC zT pA0)) := ho6.blk (HB3.out.alloc _) (by omega)
       obtain ⟨k1, j1, l1⟩ := HX.out w6 HS6.out.st
       clear hb6 ho6 hz3))
  obtain ⟨gt, hgx⟩ : ∃ gt, gt = w3.heap.size := ⟨_, rfl⟩
  rw [← hgx] at hgt HS6
  rw [← hgx]
  clear hgx H2 HE2 HB2 H3 HE3 HB3 HNW HH HE HB
  go_upto_region 3 with fail
  have HS0 : Hid (RLn gp gt A n c ts w6 (kT k_split at_) pA0 q0 (w6.setCell ⟨gp, 1, none⟩ (.int .i64 ((s.i : Int) + 1)))) := HS6.out.call (HNX.out w6 HS6.out.st).1 (HNX.out w6 HS6.out.st).2
  generalize w6.setCell ⟨gp, 1, none⟩ (.int .i64 ((s.i : Int) + 1)) = w7 at *
  have hc0 : w7.cell? ⟨gt, 0, none⟩ = some (.string k_split) := HS0.out.e.cell 0
  clear HX HNX k1 j1 l1 HS6
  go_wp2_with (first
    | (refine wpList_store_all rfl 42 (.tmp 2) (.tmp 168) rfl w.heap.size (stC (.mk k_split at_ zR X1 zE zE X3 zR X5 [] []) ⟨a1, pA0.b, pA0.c, (A3, c3), pA0.y, pA0.z⟩) (by rfl) (by rfl) 42 (stC zT pA0) (by exact HZ8.out) hdSt (stC_one _ _) rfl ?_; intro w9_ hb9 ho9)
    | (go_at_call 63; (with_reducible refine (C6.out _ (by exact HS7.out.st)).mono ?_); rintro e v8 ⟨rfl, h2, hW2⟩; have HS8 := Lib.hid (HS7.out.call h2 hW2); have kk8 : v8.cell? ⟨gt, 0, none⟩ = some (.string k_split) := HS8.out.e.cell 0; have hl8 := sd_ld HS8.out.e; have HZ8 := Lib.hid (HS8.out.res HB6.out hgt.out HLO.out); clear h2 hW2)
    | (refine wpList_store rfl 36 (.tmp 152) (.tmp 151) rfl gt 22 (rfC X5) (by rfl) (by rfl) 42 (stC (.mk k_split at_ zR X1 zE zE X3 zR zR [] []) ⟨a1, pA0.b, pA0.c, (A3, c3), pA0.y, pA0.z⟩) (by exact HS6.out.e) hdRf (rfC_one X5) (by show 22 + 2 ≤ 26; omega) ?_; intro v7 hb3 ho3; have HS7 : Hid (RLn gp gt A n c ts w6 (.mk k_split at_ zR X1 zE zE X3 zR X5 [] []) ⟨a1, pA0.b, pA0.c, (A3, c3), pA0.y, pA0.z⟩ q5 v7) := HS6.out.put ho3 (by exact hb3) HS6.out.ar; have kk7 : v7.cell? ⟨gt, 0, none⟩ = some (.string k_split) := HS7.out.e.cell 0; clear hb3 ho3)
    | (go_at_call 62; (with_reducible refine (C5.out _ (by exact HS5.out.st)).mono ?_); rintro e v6 ⟨rfl, h2, hW2⟩; have HS6 := Lib.hid (HS5.out.call h2 hW2); clear h2 hW2)
    | (go_at_call 65; (with_reducible refine (C4.out _ (by exact HS4_.out.st)).mono ?_); rintro e v5 ⟨rfl, h2, hW2⟩; have HS5 := Lib.hid (HS4_.out.call h2 hW2); have kk5 : v5.cell? ⟨gt, 0, none⟩ = some (.string k_split) := HS5.out.e.cell 0; clear h2 hW2)
    | (go_at_call 90; (refine (C3.out _ (by exact HS3.out.st)).mono ?_); rintro e v4 ⟨A3, c3, rfl, hr, h2, hW2⟩; have HR := Lib.hid (RfsIn.rup HS3.out hr); have HS4 := Lib.hid (HS3.out.call h2 hW2); have c19_ : v4.cell? ⟨gt, 19, none⟩ = some (.slice none 0 0) := HS4.out.e.cell 19; have f19_ := HS4.out.e.frozen 19; have lt19 := HS4.out.e.lt; have HS4_ : Hid (RLn gp gt A n c ts w6 (.mk k_split at_ zR X1 zE zE X3 zR zR [] []) ⟨a1, pA0.b, pA0.c, (A3, c3), pA0.y, pA0.z⟩ q3 (v4.setCell ⟨gt, 19, none⟩ (.slice A3 X3.length c3))) := HS4.out.one 19 _ rfl ⟨⟨HS4.out.ar.1.1, HS4.out.ar.1.2.1, HS4.out.ar.1.2.2.1, HR.out⟩, HS4.out.ar.2⟩; have kk4 : v4.cell? ⟨gt, 0, none⟩ = some (.string k_split) := HS4.out.e.cell 0; clear hr h2 hW2)
    | (go_at_call 63; (with_reducible refine (C2.out _ (by exact HS2.out.st)).mono ?_); rintro e v3 ⟨rfl, h2, hW2⟩; have HS3 := Lib.hid (HS2.out.call h2 hW2); have kk3 : v3.cell? ⟨gt, 0, none⟩ = some (.string k_split) := HS3.out.e.cell 0; clear h2 hW2)
    | (refine wpList_store rfl 39 (.tmp 25) (.tmp 24) rfl gt 4 (exC X1 a1) (by rfl) (by rfl) 42 (stC (.mk k_split at_ zR zE zE zE [] zR zR [] []) ⟨pA0.a, pA0.b, pA0.c, pA0.r, pA0.y, pA0.z⟩) (by exact HS1.out.e) hdEx (exC_one X1 a1) (by show 4 + 5 ≤ 26; omega) ?_; intro v2 hb3 ho3; have HS2 : Hid (RLn gp gt A n c ts w6 (.mk k_split at_ zR X1 zE zE [] zR zR [] []) ⟨a1, pA0.b, pA0.c, pA0.r, pA0.y, pA0.z⟩ q1 v2) := HS1.out.put ho3 (by exact hb3) ⟨⟨HA1.out, HS1.out.ar.1.2⟩, HS1.out.ar.2⟩; have kk2 : v2.cell? ⟨gt, 0, none⟩ = some (.string k_split) := HS2.out.e.cell 0; clear hb3 ho3)
    | (go_at_call 64; (refine (C1.out _ (by exact HS0.out.st)).mono ?_); rintro e v1 ⟨a1, rfl, ha, h2, hW2⟩; have HA1 := Lib.hid (ArgsIn.rup HS0.out ha); have HS1 := Lib.hid (HS0.out.call h2 hW2); clear ha h2 hW2))
  obtain ⟨e1, e2, e3⟩ := RStE HS8.out HW6.out hgt.out HLO.out ho9
  refine bodyPost_ret (res_c rfl _ w.heap.size 42 (stC (.mk k_split at_ zR X1 zE zE X3 zR X5 [] []) ⟨a1, pA0.b, pA0.c, (A3, c3), pA0.y, pA0.z⟩) rfl hb9 _ Tryz.underlying42 rfl hdSt) rfl ⟨⟨a1, pA0.b, pA0.c, (A3, c3), pA0.y, pA0.z⟩, rfl, e1, e2, e3⟩
set_option maxRecDepth 100000 in
set_option maxHeartbeats 4000000 in
theorem rstmt_retry0 (cx : RCx gp A n ts) (st : RS → St × RS) (d : Nat) (hbo : RBoK gp A n c ts 91 (rbody ts st) (RQS d)) (hg : ∀ s, RP s (st s).2) (s : RS) (w : World) (h : RSt gp A n c ts s w) (hq : RQS d s) (hs : rbegins ts s = true) (hK : bytesOf (rk ts s).text = k_retry) (ha : rIs ts k_as (rroutes ts false (rneed ts k_via (REX ts (rneed ts k_send (REX ts (rneed ts k_every (REX ts (rnx s)).2)).2)).2)).2 = false) :
    Calls Tryz.prog 68 #[.pointer (some ⟨gp, 0, none⟩)] w fun e w' => ∃ p : StA, e = .returned (.agg (stC (rstmtG ts st s).1 p).toArray) ∧ StIn (Fr w.heap.size) w' (rstmtG ts st s).1 p ∧ RSt gp A n c ts (rstmtG ts st s).2 w' ∧ Wr [gp] w w' := by
  have e0 : rwith ts k_as (rroutes ts false (rneed ts k_via (REX ts (rneed ts k_send (REX ts (rneed ts k_every (REX ts (rnx s)).2)).2)).2)).2 = (zR, (rroutes ts false (rneed ts k_via (REX ts (rneed ts k_send (REX ts (rneed ts k_every (REX ts (rnx s)).2)).2)).2)).2) := by unfold rwith; rw [ha]; rfl
  have HT : Hid (rstmtG ts st s = (.mk k_retry ((rk ts s).at_ : Int) zR (REX ts (rnx s)).1 (REX ts (rneed ts k_every (REX ts (rnx s)).2)).1 (REX ts (rneed ts k_send (REX ts (rneed ts k_every (REX ts (rnx s)).2)).2)).1 (rroutes ts false (rneed ts k_via (REX ts (rneed ts k_send (REX ts (rneed ts k_every (REX ts (rnx s)).2)).2)).2)).1 zR zR [] [], (rneed ts m_semi (rroutes ts false (rneed ts k_via (REX ts (rneed ts k_send (REX ts (rneed ts k_every (REX ts (rnx s)).2)).2)).2)).2))) := (by show _ = _; unfold rstmtG; dsimp only; rw [hK]; rw [if_neg (by decide), if_neg (by decide), if_pos rfl]; rw [e0])
  rw [HT.out]
  have HNW := Lib.hid (fun W (h : RSt gp A n c ts s W) => now_c cx h)
  have HH := Lib.hid (h.alloc (.cells (stC zT pA0).toArray 42))
  have HE : Hid (Wr [gp] w (w.alloc (.cells (stC zT pA0).toArray 42))) := (Wr.refl _ _).alloc _
  have HB : Hid (Blk (w.alloc (.cells (stC zT pA0).toArray 42)) w.heap.size 42 (stC zT pA0)) := Blk.new _ _ _
  have HLO := Lib.hid (h.lo cx)
  have HX : Hid (∀ W, RSt gp A n c ts s W → W.cell? ⟨gp, 1, none⟩ = some (.int .i64 s.i) ∧ W.frozen? ⟨gp, 1, none⟩ = false ∧ gp < W.heap.size) := fun W h => ⟨h.b.cell 1, h.b.frozen 1, h.b.lt⟩
  have hi8 : s.i < 100000 := by have := h.lt; have := cx.hn; have := cx.hn8; omega
  have hltt := rbegins_lt cx.ends hs
  have HNX := Lib.hid (fun W (h : RSt gp A n c ts s W) => RSt.next cx h hltt)
  unfold tokCells at HNW
  have C1 := Lib.hid (fun W (h : RSt gp A n c ts (rnx s) W) => rexpr_all cx 14 (rnx s) W h (hq.q.rp (rnx_p)))
  have C2 := Lib.hid (fun W (h : RSt gp A n c ts (REX ts (rnx s)).2 W) => need_c k_every cx h)
  have C3 := Lib.hid (fun W (h : RSt gp A n c ts (rneed ts k_every (REX ts (rnx s)).2) W) => rexpr_all cx 14 (rneed ts k_every (REX ts (rnx s)).2) W h (hq.q.rp (((rnx_p).trans (REX_p (rnx s))).trans (rneed_p k_every (REX ts (rnx s)).2))))
  have C4 := Lib.hid (fun W (h : RSt gp A n c ts (REX ts (rneed ts k_every (REX ts (rnx s)).2)).2 W) => need_c k_send cx h)
  have C5 := Lib.hid (fun W (h : RSt gp A n c ts (rneed ts k_send (REX ts (rneed ts k_every (REX ts (rnx s)).2)).2) W) => rexpr_all cx 14 (rneed ts k_send (REX ts (rneed ts k_every (REX ts (rnx s)).2)).2) W h (hq.q.rp (((((rnx_p).trans (REX_p (rnx s))).trans (rneed_p k_every (REX ts (rnx s)).2)).trans (REX_p (rneed ts k_every (REX ts (rnx s)).2))).trans (rneed_p k_send (REX ts (rneed ts k_every (REX ts (rnx s)).2)).2))))
  have C6 := Lib.hid (fun W (h : RSt gp A n c ts (REX ts (rneed ts k_send (REX ts (rneed ts k_every (REX ts (rnx s)).2)).2)).2 W) => need_c k_via cx h)
  have C7 := Lib.hid (fun W (h : RSt gp A n c ts (rneed ts k_via (REX ts (rneed ts k_send (REX ts (rneed ts k_every (REX ts (rnx s)).2)).2)).2) W) => routes_c cx h false)
  have C8 := Lib.hid (fun W (h : RSt gp A n c ts (rroutes ts false (rneed ts k_via (REX ts (rneed ts k_send (REX ts (rneed ts k_every (REX ts (rnx s)).2)).2)).2)).2 W) => over_c k_as cx h)
  rw [ha, show rover ts k_as (rroutes ts false (rneed ts k_via (REX ts (rneed ts k_send (REX ts (rneed ts k_every (REX ts (rnx s)).2)).2)).2)).2 = (rroutes ts false (rneed ts k_via (REX ts (rneed ts k_send (REX ts (rneed ts k_every (REX ts (rnx s)).2)).2)).2)).2 by unfold rover; rw [ha]; rfl] at C8
  have C9 := Lib.hid (fun W (h : RSt gp A n c ts (rroutes ts false (rneed ts k_via (REX ts (rneed ts k_send (REX ts (rneed ts k_every (REX ts (rnx s)).2)).2)).2)).2 W) => need_c m_semi cx h)
  clear h hq hs hltt HT hbo ha e0
  generalize rnx s = q0 at *
  generalize (REX ts q0).1 = X1 at *
  generalize (REX ts q0).2 = q1 at *
  generalize (rneed ts k_every q1) = q2 at *
  generalize (REX ts q2).1 = X3 at *
  generalize (REX ts q2).2 = q3 at *
  generalize (rneed ts k_send q3) = q4 at *
  generalize (REX ts q4).1 = X5 at *
  generalize (REX ts q4).2 = q5 at *
  generalize (rneed ts k_via q5) = q6 at *
  generalize (rroutes ts false q6).1 = X7 at *
  generalize (rroutes ts false q6).2 = q7 at *
  generalize (rneed ts m_semi q7) = q9 at *
  rw [hK] at HNW
  generalize ((rk ts s).at_ : Int) = at_ at *
  generalize ((rk ts s).kind : Int) = tk at *
  generalize (rk ts s).num = tn at *
  clear hK cx hg
  have hf1 := fld1 (.int .i64 tk) (.string k_retry) (.int .i64 tn) (.int .i64 at_)
  have hf3 := fld3 (.int .i64 tk) (.string k_retry) (.int .i64 tn) (.int .i64 at_)
  go_enter Tryz.func68, Tryz.ntmps68
  go_upto_region 2 with (first
    | (go_at_call 27; (refine (HNW.out _ (by exact H2.out)).mono ?_); rintro e w3 ⟨rfl, hB3⟩
       have H3 := Lib.hid (H2.out.below hB3)
       have HE3 := Lib.hid (HE2.out.trans (Wr.of_below hB3))
       have HB3 := qbl HB2 hB3
       clear hB3)
    | (go_at_call 27; (refine (HNW.out _ (by exact HH.out)).mono ?_); rintro e w2 ⟨rfl, hB2⟩
       have H2 := Lib.hid (HH.out.below hB2)
       have HE2 := Lib.hid (HE.out.trans (Wr.of_below hB2))
       have HB2 := qbl HB hB2
       clear hB2)
    | refine wpList_build rfl 42 [(0, .tmp 6), (1, .tmp 9)] rfl _ (by rfl) _ (bld_St _ _ _) ?_
    | (refine wpList_store_all rfl 42 (.tmp 3) (.tmp 10) rfl w3.heap.size (stC (kT k_retry at_) pA0) (by rfl) (by rfl) 42 (stC zT pA0) (by exact Blk.new' (by simp) rfl) hdSt (stC_one _ _) rfl ?_
       intro w6 hb6 ho6
       have hz3 := HB3.out.lt
       have hgt : Hid (w.heap.size < w3.heap.size) := (by show _ < _; omega)
       have HS6 : Hid (RLn gp w3.heap.size A n c ts w6 (kT k_retry at_) pA0 s w6) := ⟨(H3.out.alloc _).only (HLO.out.mono (by omega)) (Nat.le_refl _) ho6, Wr.refl _ _, hb6, StIn.zero _ _ _ _, HLO.out.mono (by omega), hb6.lt⟩
       have HW6 : Hid (Wr [gp] w w6) := (HE3.out.alloc _).thenb (ho6.below (Below.refl _ _) (by omega) (by have := HE3.out.size; simp; omega))
       have HB6 : Hid (Blk w6 w.heap.size 42 (stC zT pA0)) := ho6.blk (HB3.out.alloc _) (by omega)
       obtain ⟨k1, j1, l1⟩ := HX.out w6 HS6.out.st
       clear hb6 ho6 hz3))
  obtain ⟨gt, hgx⟩ : ∃ gt, gt = w3.heap.size := ⟨_, rfl⟩
  rw [← hgx] at hgt HS6
  rw [← hgx]
  clear hgx H2 HE2 HB2 H3 HE3 HB3 HNW HH HE HB
  go_upto_region 3 with fail
  have HS0 : Hid (RLn gp gt A n c ts w6 (kT k_retry at_) pA0 q0 (w6.setCell ⟨gp, 1, none⟩ (.int .i64 ((s.i : Int) + 1)))) := HS6.out.call (HNX.out w6 HS6.out.st).1 (HNX.out w6 HS6.out.st).2
  generalize w6.setCell ⟨gp, 1, none⟩ (.int .i64 ((s.i : Int) + 1)) = w7 at *
  have hc0 : w7.cell? ⟨gt, 0, none⟩ = some (.string k_retry) := HS0.out.e.cell 0
  clear HX HNX k1 j1 l1 HS6
  go_wp2_with (first
    | (refine wpList_store_all rfl 42 (.tmp 2) (.tmp 168) rfl w.heap.size (stC (.mk k_retry at_ zR X1 X3 X5 X7 zR zR [] []) ⟨a1, a3, a5, (A7, c7), pA0.y, pA0.z⟩) (by rfl) (by rfl) 42 (stC zT pA0) (by exact HZ8.out) hdSt (stC_one _ _) rfl ?_; intro w9_ hb9 ho9)
    | (go_at_call 63; (with_reducible refine (C9.out _ (by exact HS11.out.st)).mono ?_); rintro e v12 ⟨rfl, h2, hW2⟩; have HS12 := Lib.hid (HS11.out.call h2 hW2); have kk12 : v12.cell? ⟨gt, 0, none⟩ = some (.string k_retry) := HS12.out.e.cell 0; have hl8 := sd_ld HS12.out.e; have HZ8 := Lib.hid (HS12.out.res HB6.out hgt.out HLO.out); clear h2 hW2)
    | (go_at_call 65; (with_reducible refine (C8.out _ (by exact HS10_.out.st)).mono ?_); rintro e v11 ⟨rfl, h2, hW2⟩; have HS11 := Lib.hid (HS10_.out.call h2 hW2); have kk11 : v11.cell? ⟨gt, 0, none⟩ = some (.string k_retry) := HS11.out.e.cell 0; clear h2 hW2)
    | (go_at_call 90; (refine (C7.out _ (by exact HS9.out.st)).mono ?_); rintro e v10 ⟨A7, c7, rfl, hr, h2, hW2⟩; have HR := Lib.hid (RfsIn.rup HS9.out hr); have HS10 := Lib.hid (HS9.out.call h2 hW2); have c19_ : v10.cell? ⟨gt, 19, none⟩ = some (.slice none 0 0) := HS10.out.e.cell 19; have f19_ := HS10.out.e.frozen 19; have lt19 := HS10.out.e.lt; have HS10_ : Hid (RLn gp gt A n c ts w6 (.mk k_retry at_ zR X1 X3 X5 X7 zR zR [] []) ⟨a1, a3, a5, (A7, c7), pA0.y, pA0.z⟩ q7 (v10.setCell ⟨gt, 19, none⟩ (.slice A7 X7.length c7))) := HS10.out.one 19 _ rfl ⟨⟨HS10.out.ar.1.1, HS10.out.ar.1.2.1, HS10.out.ar.1.2.2.1, HR.out⟩, HS10.out.ar.2⟩; have kk10 : v10.cell? ⟨gt, 0, none⟩ = some (.string k_retry) := HS10.out.e.cell 0; clear hr h2 hW2)
    | (go_at_call 63; (with_reducible refine (C6.out _ (by exact HS8.out.st)).mono ?_); rintro e v9 ⟨rfl, h2, hW2⟩; have HS9 := Lib.hid (HS8.out.call h2 hW2); have kk9 : v9.cell? ⟨gt, 0, none⟩ = some (.string k_retry) := HS9.out.e.cell 0; clear h2 hW2)
    | (refine wpList_store rfl 39 (.tmp 58) (.tmp 57) rfl gt 14 (exC X5 a5) (by rfl) (by rfl) 42 (stC (.mk k_retry at_ zR X1 X3 zE [] zR zR [] []) ⟨a1, a3, pA0.c, pA0.r, pA0.y, pA0.z⟩) (by exact HS7.out.e) hdEx (exC_one X5 a5) (by show 14 + 5 ≤ 26; omega) ?_; intro v8 hb3 ho3; have HS8 : Hid (RLn gp gt A n c ts w6 (.mk k_retry at_ zR X1 X3 X5 [] zR zR [] []) ⟨a1, a3, a5, pA0.r, pA0.y, pA0.z⟩ q5 v8) := HS7.out.put ho3 (by exact hb3) ⟨⟨HS7.out.ar.1.1, HS7.out.ar.1.2.1, HA5.out, HS7.out.ar.1.2.2.2⟩, HS7.out.ar.2⟩; have kk8 : v8.cell? ⟨gt, 0, none⟩ = some (.string k_retry) := HS8.out.e.cell 0; clear hb3 ho3)
    | (go_at_call 64; (refine (C5.out _ (by exact HS6.out.st)).mono ?_); rintro e v7 ⟨a5, rfl, ha, h2, hW2⟩; have HA5 := Lib.hid (ArgsIn.rup HS6.out ha); have HS7 := Lib.hid (HS6.out.call h2 hW2); clear ha h2 hW2)
    | (go_at_call 63; (with_reducible refine (C4.out _ (by exact HS5.out.st)).mono ?_); rintro e v6 ⟨rfl, h2, hW2⟩; have HS6 := Lib.hid (HS5.out.call h2 hW2); have kk6 : v6.cell? ⟨gt, 0, none⟩ = some (.string k_retry) := HS6.out.e.cell 0; clear h2 hW2)
    | (refine wpList_store rfl 39 (.tmp 53) (.tmp 52) rfl gt 9 (exC X3 a3) (by rfl) (by rfl) 42 (stC (.mk k_retry at_ zR X1 zE zE [] zR zR [] []) ⟨a1, pA0.b, pA0.c, pA0.r, pA0.y, pA0.z⟩) (by exact HS4.out.e) hdEx (exC_one X3 a3) (by show 9 + 5 ≤ 26; omega) ?_; intro v5 hb3 ho3; have HS5 : Hid (RLn gp gt A n c ts w6 (.mk k_retry at_ zR X1 X3 zE [] zR zR [] []) ⟨a1, a3, pA0.c, pA0.r, pA0.y, pA0.z⟩ q3 v5) := HS4.out.put ho3 (by exact hb3) ⟨⟨HS4.out.ar.1.1, HA3.out, HS4.out.ar.1.2.2⟩, HS4.out.ar.2⟩; have kk5 : v5.cell? ⟨gt, 0, none⟩ = some (.string k_retry) := HS5.out.e.cell 0; clear hb3 ho3)
    | (go_at_call 64; (refine (C3.out _ (by exact HS3.out.st)).mono ?_); rintro e v4 ⟨a3, rfl, ha, h2, hW2⟩; have HA3 := Lib.hid (ArgsIn.rup HS3.out ha); have HS4 := Lib.hid (HS3.out.call h2 hW2); clear ha h2 hW2)
    | (go_at_call 63; (with_reducible refine (C2.out _ (by exact HS2.out.st)).mono ?_); rintro e v3 ⟨rfl, h2, hW2⟩; have HS3 := Lib.hid (HS2.out.call h2 hW2); have kk3 : v3.cell? ⟨gt, 0, none⟩ = some (.string k_retry) := HS3.out.e.cell 0; clear h2 hW2)
    | (refine wpList_store rfl 39 (.tmp 48) (.tmp 47) rfl gt 4 (exC X1 a1) (by rfl) (by rfl) 42 (stC (.mk k_retry at_ zR zE zE zE [] zR zR [] []) ⟨pA0.a, pA0.b, pA0.c, pA0.r, pA0.y, pA0.z⟩) (by exact HS1.out.e) hdEx (exC_one X1 a1) (by show 4 + 5 ≤ 26; omega) ?_; intro v2 hb3 ho3; have HS2 : Hid (RLn gp gt A n c ts w6 (.mk k_retry at_ zR X1 zE zE [] zR zR [] []) ⟨a1, pA0.b, pA0.c, pA0.r, pA0.y, pA0.z⟩ q1 v2) := HS1.out.put ho3 (by exact hb3) ⟨⟨HA1.out, HS1.out.ar.1.2⟩, HS1.out.ar.2⟩; have kk2 : v2.cell? ⟨gt, 0, none⟩ = some (.string k_retry) := HS2.out.e.cell 0; clear hb3 ho3)
    | (go_at_call 64; (refine (C1.out _ (by exact HS0.out.st)).mono ?_); rintro e v1 ⟨a1, rfl, ha, h2, hW2⟩; have HA1 := Lib.hid (ArgsIn.rup HS0.out ha); have HS1 := Lib.hid (HS0.out.call h2 hW2); clear ha h2 hW2))
  obtain ⟨e1, e2, e3⟩ := RStE HS12.out HW6.out hgt.out HLO.out ho9
  refine bodyPost_ret (res_c rfl _ w.heap.size 42 (stC (.mk k_retry at_ zR X1 X3 X5 X7 zR zR [] []) ⟨a1, a3, a5, (A7, c7), pA0.y, pA0.z⟩) rfl hb9 _ Tryz.underlying42 rfl hdSt) rfl ⟨⟨a1, a3, a5, (A7, c7), pA0.y, pA0.z⟩, rfl, e1, e2, e3⟩
set_option maxRecDepth 100000 in
set_option maxHeartbeats 4000000 in
theorem rstmt_retry1 (cx : RCx gp A n ts) (st : RS → St × RS) (d : Nat) (hbo : RBoK gp A n c ts 91 (rbody ts st) (RQS d)) (hg : ∀ s, RP s (st s).2) (s : RS) (w : World) (h : RSt gp A n c ts s w) (hq : RQS d s) (hs : rbegins ts s = true) (hK : bytesOf (rk ts s).text = k_retry) (ha : rIs ts k_as (rroutes ts false (rneed ts k_via (REX ts (rneed ts k_send (REX ts (rneed ts k_every (REX ts (rnx s)).2)).2)).2)).2 = true) :
    Calls Tryz.prog 68 #[.pointer (some ⟨gp, 0, none⟩)] w fun e w' => ∃ p : StA, e = .returned (.agg (stC (rstmtG ts st s).1 p).toArray) ∧ StIn (Fr w.heap.size) w' (rstmtG ts st s).1 p ∧ RSt gp A n c ts (rstmtG ts st s).2 w' ∧ Wr [gp] w w' := by
  have e0 : rwith ts k_as (rroutes ts false (rneed ts k_via (REX ts (rneed ts k_send (REX ts (rneed ts k_every (REX ts (rnx s)).2)).2)).2)).2 = rname ts (rnx (rroutes ts false (rneed ts k_via (REX ts (rneed ts k_send (REX ts (rneed ts k_every (REX ts (rnx s)).2)).2)).2)).2) := by unfold rwith; rw [ha]; rfl
  have HT : Hid (rstmtG ts st s = (.mk k_retry ((rk ts s).at_ : Int) zR (REX ts (rnx s)).1 (REX ts (rneed ts k_every (REX ts (rnx s)).2)).1 (REX ts (rneed ts k_send (REX ts (rneed ts k_every (REX ts (rnx s)).2)).2)).1 (rroutes ts false (rneed ts k_via (REX ts (rneed ts k_send (REX ts (rneed ts k_every (REX ts (rnx s)).2)).2)).2)).1 zR (rname ts (rnx (rroutes ts false (rneed ts k_via (REX ts (rneed ts k_send (REX ts (rneed ts k_every (REX ts (rnx s)).2)).2)).2)).2)).1 [] [], (rneed ts m_semi (rname ts (rnx (rroutes ts false (rneed ts k_via (REX ts (rneed ts k_send (REX ts (rneed ts k_every (REX ts (rnx s)).2)).2)).2)).2)).2))) := (by show _ = _; unfold rstmtG; dsimp only; rw [hK]; rw [if_neg (by decide), if_neg (by decide), if_pos rfl]; rw [e0])
  rw [HT.out]
  have HNW := Lib.hid (fun W (h : RSt gp A n c ts s W) => now_c cx h)
  have HH := Lib.hid (h.alloc (.cells (stC zT pA0).toArray 42))
  have HE : Hid (Wr [gp] w (w.alloc (.cells (stC zT pA0).toArray 42))) := (Wr.refl _ _).alloc _
  have HB : Hid (Blk (w.alloc (.cells (stC zT pA0).toArray 42)) w.heap.size 42 (stC zT pA0)) := Blk.new _ _ _
  have HLO := Lib.hid (h.lo cx)
  have HX : Hid (∀ W, RSt gp A n c ts s W → W.cell? ⟨gp, 1, none⟩ = some (.int .i64 s.i) ∧ W.frozen? ⟨gp, 1, none⟩ = false ∧ gp < W.heap.size) := fun W h => ⟨h.b.cell 1, h.b.frozen 1, h.b.lt⟩
  have hi8 : s.i < 100000 := by have := h.lt; have := cx.hn; have := cx.hn8; omega
  have hltt := rbegins_lt cx.ends hs
  have HNX := Lib.hid (fun W (h : RSt gp A n c ts s W) => RSt.next cx h hltt)
  unfold tokCells at HNW
  have C1 := Lib.hid (fun W (h : RSt gp A n c ts (rnx s) W) => rexpr_all cx 14 (rnx s) W h (hq.q.rp (rnx_p)))
  have C2 := Lib.hid (fun W (h : RSt gp A n c ts (REX ts (rnx s)).2 W) => need_c k_every cx h)
  have C3 := Lib.hid (fun W (h : RSt gp A n c ts (rneed ts k_every (REX ts (rnx s)).2) W) => rexpr_all cx 14 (rneed ts k_every (REX ts (rnx s)).2) W h (hq.q.rp (((rnx_p).trans (REX_p (rnx s))).trans (rneed_p k_every (REX ts (rnx s)).2))))
  have C4 := Lib.hid (fun W (h : RSt gp A n c ts (REX ts (rneed ts k_every (REX ts (rnx s)).2)).2 W) => need_c k_send cx h)
  have C5 := Lib.hid (fun W (h : RSt gp A n c ts (rneed ts k_send (REX ts (rneed ts k_every (REX ts (rnx s)).2)).2) W) => rexpr_all cx 14 (rneed ts k_send (REX ts (rneed ts k_every (REX ts (rnx s)).2)).2) W h (hq.q.rp (((((rnx_p).trans (REX_p (rnx s))).trans (rneed_p k_every (REX ts (rnx s)).2)).trans (REX_p (rneed ts k_every (REX ts (rnx s)).2))).trans (rneed_p k_send (REX ts (rneed ts k_every (REX ts (rnx s)).2)).2))))
  have C6 := Lib.hid (fun W (h : RSt gp A n c ts (REX ts (rneed ts k_send (REX ts (rneed ts k_every (REX ts (rnx s)).2)).2)).2 W) => need_c k_via cx h)
  have C7 := Lib.hid (fun W (h : RSt gp A n c ts (rneed ts k_via (REX ts (rneed ts k_send (REX ts (rneed ts k_every (REX ts (rnx s)).2)).2)).2) W) => routes_c cx h false)
  have C8 := Lib.hid (fun W (h : RSt gp A n c ts (rroutes ts false (rneed ts k_via (REX ts (rneed ts k_send (REX ts (rneed ts k_every (REX ts (rnx s)).2)).2)).2)).2 W) => over_c k_as cx h)
  rw [ha, show rover ts k_as (rroutes ts false (rneed ts k_via (REX ts (rneed ts k_send (REX ts (rneed ts k_every (REX ts (rnx s)).2)).2)).2)).2 = (rnx (rroutes ts false (rneed ts k_via (REX ts (rneed ts k_send (REX ts (rneed ts k_every (REX ts (rnx s)).2)).2)).2)).2) by unfold rover; rw [ha]; rfl] at C8
  have C9 := Lib.hid (fun W (h : RSt gp A n c ts (rnx (rroutes ts false (rneed ts k_via (REX ts (rneed ts k_send (REX ts (rneed ts k_every (REX ts (rnx s)).2)).2)).2)).2) W) => name_c cx h)
  have C10 := Lib.hid (fun W (h : RSt gp A n c ts (rname ts (rnx (rroutes ts false (rneed ts k_via (REX ts (rneed ts k_send (REX ts (rneed ts k_every (REX ts (rnx s)).2)).2)).2)).2)).2 W) => need_c m_semi cx h)
  clear h hq hs hltt HT hbo ha e0
  generalize rnx s = q0 at *
  generalize (REX ts q0).1 = X1 at *
  generalize (REX ts q0).2 = q1 at *
  generalize (rneed ts k_every q1) = q2 at *
  generalize (REX ts q2).1 = X3 at *
  generalize (REX ts q2).2 = q3 at *
  generalize (rneed ts k_send q3) = q4 at *
  generalize (REX ts q4).1 = X5 at *
  generalize (REX ts q4).2 = q5 at *
  generalize (rneed ts k_via q5) = q6 at *
  generalize (rroutes ts false q6).1 = X7 at *
  generalize (rroutes ts false q6).2 = q7 at *
  generalize (rnx q7) = q8 at *
  generalize (rname ts q8).1 = X9 at *
  generalize (rname ts q8).2 = q9 at *
  generalize (rneed ts m_semi q9) = q10 at *
  rw [hK] at HNW
  generalize ((rk ts s).at_ : Int) = at_ at *
  generalize ((rk ts s).kind : Int) = tk at *
  generalize (rk ts s).num = tn at *
  clear hK cx hg
  have hf1 := fld1 (.int .i64 tk) (.string k_retry) (.int .i64 tn) (.int .i64 at_)
  have hf3 := fld3 (.int .i64 tk) (.string k_retry) (.int .i64 tn) (.int .i64 at_)
  go_enter Tryz.func68, Tryz.ntmps68
  go_upto_region 2 with (first
    | (go_at_call 27; (refine (HNW.out _ (by exact H2.out)).mono ?_); rintro e w3 ⟨rfl, hB3⟩
       have H3 := Lib.hid (H2.out.below hB3)
       have HE3 := Lib.hid (HE2.out.trans (Wr.of_below hB3))
       have HB3 := qbl HB2 hB3
       clear hB3)
    | (go_at_call 27; (refine (HNW.out _ (by exact HH.out)).mono ?_); rintro e w2 ⟨rfl, hB2⟩
       have H2 := Lib.hid (HH.out.below hB2)
       have HE2 := Lib.hid (HE.out.trans (Wr.of_below hB2))
       have HB2 := qbl HB hB2
       clear hB2)
    | refine wpList_build rfl 42 [(0, .tmp 6), (1, .tmp 9)] rfl _ (by rfl) _ (bld_St _ _ _) ?_
    | (refine wpList_store_all rfl 42 (.tmp 3) (.tmp 10) rfl w3.heap.size (stC (kT k_retry at_) pA0) (by rfl) (by rfl) 42 (stC zT pA0) (by exact Blk.new' (by simp) rfl) hdSt (stC_one _ _) rfl ?_
       intro w6 hb6 ho6
       have hz3 := HB3.out.lt
       have hgt : Hid (w.heap.size < w3.heap.size) := (by show _ < _; omega)
       have HS6 : Hid (RLn gp w3.heap.size A n c ts w6 (kT k_retry at_) pA0 s w6) := ⟨(H3.out.alloc _).only (HLO.out.mono (by omega)) (Nat.le_refl _) ho6, Wr.refl _ _, hb6, StIn.zero _ _ _ _, HLO.out.mono (by omega), hb6.lt⟩
       have HW6 : Hid (Wr [gp] w w6) := (HE3.out.alloc _).thenb (ho6.below (Below.refl _ _) (by omega) (by have := HE3.out.size; simp; omega))
       have HB6 : Hid (Blk w6 w.heap.size 42 (stC zT pA0)) := ho6.blk (HB3.out.alloc _) (by omega)
       obtain ⟨k1, j1, l1⟩ := HX.out w6 HS6.out.st
       clear hb6 ho6 hz3))
  obtain ⟨gt, hgx⟩ : ∃ gt, gt = w3.heap.size := ⟨_, rfl⟩
  rw [← hgx] at hgt HS6
  rw [← hgx]
  clear hgx H2 HE2 HB2 H3 HE3 HB3 HNW HH HE HB
  go_upto_region 3 with fail
  have HS0 : Hid (RLn gp gt A n c ts w6 (kT k_retry at_) pA0 q0 (w6.setCell ⟨gp, 1, none⟩ (.int .i64 ((s.i : Int) + 1)))) := HS6.out.call (HNX.out w6 HS6.out.st).1 (HNX.out w6 HS6.out.st).2
  generalize w6.setCell ⟨gp, 1, none⟩ (.int .i64 ((s.i : Int) + 1)) = w7 at *
  have hc0 : w7.cell? ⟨gt, 0, none⟩ = some (.string k_retry) := HS0.out.e.cell 0
  clear HX HNX k1 j1 l1 HS6
  go_wp2_with (first
    | (refine wpList_store_all rfl 42 (.tmp 2) (.tmp 168) rfl w.heap.size (stC (.mk k_retry at_ zR X1 X3 X5 X7 zR X9 [] []) ⟨a1, a3, a5, (A7, c7), pA0.y, pA0.z⟩) (by rfl) (by rfl) 42 (stC zT pA0) (by exact HZ8.out) hdSt (stC_one _ _) rfl ?_; intro w9_ hb9 ho9)
    | (go_at_call 63; (with_reducible refine (C10.out _ (by exact HS13.out.st)).mono ?_); rintro e v14 ⟨rfl, h2, hW2⟩; have HS14 := Lib.hid (HS13.out.call h2 hW2); have kk14 : v14.cell? ⟨gt, 0, none⟩ = some (.string k_retry) := HS14.out.e.cell 0; have hl8 := sd_ld HS14.out.e; have HZ8 := Lib.hid (HS14.out.res HB6.out hgt.out HLO.out); clear h2 hW2)
    | (refine wpList_store rfl 36 (.tmp 152) (.tmp 151) rfl gt 22 (rfC X9) (by rfl) (by rfl) 42 (stC (.mk k_retry at_ zR X1 X3 X5 X7 zR zR [] []) ⟨a1, a3, a5, (A7, c7), pA0.y, pA0.z⟩) (by exact HS12.out.e) hdRf (rfC_one X9) (by show 22 + 2 ≤ 26; omega) ?_; intro v13 hb3 ho3; have HS13 : Hid (RLn gp gt A n c ts w6 (.mk k_retry at_ zR X1 X3 X5 X7 zR X9 [] []) ⟨a1, a3, a5, (A7, c7), pA0.y, pA0.z⟩ q9 v13) := HS12.out.put ho3 (by exact hb3) HS12.out.ar; have kk13 : v13.cell? ⟨gt, 0, none⟩ = some (.string k_retry) := HS13.out.e.cell 0; clear hb3 ho3)
    | (go_at_call 62; (with_reducible refine (C9.out _ (by exact HS11.out.st)).mono ?_); rintro e v12 ⟨rfl, h2, hW2⟩; have HS12 := Lib.hid (HS11.out.call h2 hW2); clear h2 hW2)
    | (go_at_call 65; (with_reducible refine (C8.out _ (by exact HS10_.out.st)).mono ?_); rintro e v11 ⟨rfl, h2, hW2⟩; have HS11 := Lib.hid (HS10_.out.call h2 hW2); have kk11 : v11.cell? ⟨gt, 0, none⟩ = some (.string k_retry) := HS11.out.e.cell 0; clear h2 hW2)
    | (go_at_call 90; (refine (C7.out _ (by exact HS9.out.st)).mono ?_); rintro e v10 ⟨A7, c7, rfl, hr, h2, hW2⟩; have HR := Lib.hid (RfsIn.rup HS9.out hr); have HS10 := Lib.hid (HS9.out.call h2 hW2); have c19_ : v10.cell? ⟨gt, 19, none⟩ = some (.slice none 0 0) := HS10.out.e.cell 19; have f19_ := HS10.out.e.frozen 19; have lt19 := HS10.out.e.lt; have HS10_ : Hid (RLn gp gt A n c ts w6 (.mk k_retry at_ zR X1 X3 X5 X7 zR zR [] []) ⟨a1, a3, a5, (A7, c7), pA0.y, pA0.z⟩ q7 (v10.setCell ⟨gt, 19, none⟩ (.slice A7 X7.length c7))) := HS10.out.one 19 _ rfl ⟨⟨HS10.out.ar.1.1, HS10.out.ar.1.2.1, HS10.out.ar.1.2.2.1, HR.out⟩, HS10.out.ar.2⟩; have kk10 : v10.cell? ⟨gt, 0, none⟩ = some (.string k_retry) := HS10.out.e.cell 0; clear hr h2 hW2)
    | (go_at_call 63; (with_reducible refine (C6.out _ (by exact HS8.out.st)).mono ?_); rintro e v9 ⟨rfl, h2, hW2⟩; have HS9 := Lib.hid (HS8.out.call h2 hW2); have kk9 : v9.cell? ⟨gt, 0, none⟩ = some (.string k_retry) := HS9.out.e.cell 0; clear h2 hW2)
    | (refine wpList_store rfl 39 (.tmp 58) (.tmp 57) rfl gt 14 (exC X5 a5) (by rfl) (by rfl) 42 (stC (.mk k_retry at_ zR X1 X3 zE [] zR zR [] []) ⟨a1, a3, pA0.c, pA0.r, pA0.y, pA0.z⟩) (by exact HS7.out.e) hdEx (exC_one X5 a5) (by show 14 + 5 ≤ 26; omega) ?_; intro v8 hb3 ho3; have HS8 : Hid (RLn gp gt A n c ts w6 (.mk k_retry at_ zR X1 X3 X5 [] zR zR [] []) ⟨a1, a3, a5, pA0.r, pA0.y, pA0.z⟩ q5 v8) := HS7.out.put ho3 (by exact hb3) ⟨⟨HS7.out.ar.1.1, HS7.out.ar.1.2.1, HA5.out, HS7.out.ar.1.2.2.2⟩, HS7.out.ar.2⟩; have kk8 : v8.cell? ⟨gt, 0, none⟩ = some (.string k_retry) := HS8.out.e.cell 0; clear hb3 ho3)
    | (go_at_call 64; (refine (C5.out _ (by exact HS6.out.st)).mono ?_); rintro e v7 ⟨a5, rfl, ha, h2, hW2⟩; have HA5 := Lib.hid (ArgsIn.rup HS6.out ha); have HS7 := Lib.hid (HS6.out.call h2 hW2); clear ha h2 hW2)
    | (go_at_call 63; (with_reducible refine (C4.out _ (by exact HS5.out.st)).mono ?_); rintro e v6 ⟨rfl, h2, hW2⟩; have HS6 := Lib.hid (HS5.out.call h2 hW2); have kk6 : v6.cell? ⟨gt, 0, none⟩ = some (.string k_retry) := HS6.out.e.cell 0; clear h2 hW2)
    | (refine wpList_store rfl 39 (.tmp 53) (.tmp 52) rfl gt 9 (exC X3 a3) (by rfl) (by rfl) 42 (stC (.mk k_retry at_ zR X1 zE zE [] zR zR [] []) ⟨a1, pA0.b, pA0.c, pA0.r, pA0.y, pA0.z⟩) (by exact HS4.out.e) hdEx (exC_one X3 a3) (by show 9 + 5 ≤ 26; omega) ?_; intro v5 hb3 ho3; have HS5 : Hid (RLn gp gt A n c ts w6 (.mk k_retry at_ zR X1 X3 zE [] zR zR [] []) ⟨a1, a3, pA0.c, pA0.r, pA0.y, pA0.z⟩ q3 v5) := HS4.out.put ho3 (by exact hb3) ⟨⟨HS4.out.ar.1.1, HA3.out, HS4.out.ar.1.2.2⟩, HS4.out.ar.2⟩; have kk5 : v5.cell? ⟨gt, 0, none⟩ = some (.string k_retry) := HS5.out.e.cell 0; clear hb3 ho3)
    | (go_at_call 64; (refine (C3.out _ (by exact HS3.out.st)).mono ?_); rintro e v4 ⟨a3, rfl, ha, h2, hW2⟩; have HA3 := Lib.hid (ArgsIn.rup HS3.out ha); have HS4 := Lib.hid (HS3.out.call h2 hW2); clear ha h2 hW2)
    | (go_at_call 63; (with_reducible refine (C2.out _ (by exact HS2.out.st)).mono ?_); rintro e v3 ⟨rfl, h2, hW2⟩; have HS3 := Lib.hid (HS2.out.call h2 hW2); have kk3 : v3.cell? ⟨gt, 0, none⟩ = some (.string k_retry) := HS3.out.e.cell 0; clear h2 hW2)
    | (refine wpList_store rfl 39 (.tmp 48) (.tmp 47) rfl gt 4 (exC X1 a1) (by rfl) (by rfl) 42 (stC (.mk k_retry at_ zR zE zE zE [] zR zR [] []) ⟨pA0.a, pA0.b, pA0.c, pA0.r, pA0.y, pA0.z⟩) (by exact HS1.out.e) hdEx (exC_one X1 a1) (by show 4 + 5 ≤ 26; omega) ?_; intro v2 hb3 ho3; have HS2 : Hid (RLn gp gt A n c ts w6 (.mk k_retry at_ zR X1 zE zE [] zR zR [] []) ⟨a1, pA0.b, pA0.c, pA0.r, pA0.y, pA0.z⟩ q1 v2) := HS1.out.put ho3 (by exact hb3) ⟨⟨HA1.out, HS1.out.ar.1.2⟩, HS1.out.ar.2⟩; have kk2 : v2.cell? ⟨gt, 0, none⟩ = some (.string k_retry) := HS2.out.e.cell 0; clear hb3 ho3)
    | (go_at_call 64; (refine (C1.out _ (by exact HS0.out.st)).mono ?_); rintro e v1 ⟨a1, rfl, ha, h2, hW2⟩; have HA1 := Lib.hid (ArgsIn.rup HS0.out ha); have HS1 := Lib.hid (HS0.out.call h2 hW2); clear ha h2 hW2))
  obtain ⟨e1, e2, e3⟩ := RStE HS14.out HW6.out hgt.out HLO.out ho9
  refine bodyPost_ret (res_c rfl _ w.heap.size 42 (stC (.mk k_retry at_ zR X1 X3 X5 X7 zR X9 [] []) ⟨a1, a3, a5, (A7, c7), pA0.y, pA0.z⟩) rfl hb9 _ Tryz.underlying42 rfl hdSt) rfl ⟨⟨a1, a3, a5, (A7, c7), pA0.y, pA0.z⟩, rfl, e1, e2, e3⟩
end
end Go.Proofs.YtafjkbbiaopemaaGreatDoor.Tr
namespace Go.Proofs.YtafjkbbiaopemaaGreatDoor.Tr
open Go.RowKit
section
variable {gp : Nat} {A : Option Addr} {n c : Nat} {ts : List Lx.Tok}
theorem rstmt_adv (d : Nat) (s : RS) : s.i + 1 ≤ (rstmt ts (d + 1) s).2.i := (rstmtG_pn (ts := ts) (fun s => rstmt_p d s) s).le
theorem rstmt_any (cx : RCx gp A n ts) (st : RS → St × RS) (d : Nat) (hbo : RBoK gp A n c ts 91 (rbody ts st) (RQS d)) (hg : ∀ s, RP s (st s).2) : RStK gp A n c ts (rstmtG ts st) (RQS d) := fun s w h hq hs => by
  have hk := rbegins_in hs
  simp only [ten, List.mem_cons, List.not_mem_nil, or_false] at hk
  rcases hk with hk | hk | hk | hk | hk | hk | hk | hk | hk | hk
  · cases hw : rIs ts k_with (rroutes ts false (rneed ts k_via (REX ts (rnx s)).2)).2
    · cases ha : rIs ts k_as (rroutes ts false (rneed ts k_via (REX ts (rnx s)).2)).2
      · exact rstmt_send00 cx st d hbo hg s w h hq hs hk hw ha
      · exact rstmt_send01 cx st d hbo hg s w h hq hs hk hw ha
    · cases ha : rIs ts k_as (rname ts (rnx (rroutes ts false (rneed ts k_via (REX ts (rnx s)).2)).2)).2
      · exact rstmt_send10 cx st d hbo hg s w h hq hs hk hw ha
      · exact rstmt_send11 cx st d hbo hg s w h hq hs hk hw ha
  · cases ha : rIs ts k_as (rroutes ts true (rneed ts k_via (REX ts (rnx s)).2)).2
    · exact rstmt_split0 cx st d hbo hg s w h hq hs hk ha
    · exact rstmt_split1 cx st d hbo hg s w h hq hs hk ha
  · exact rstmt_cover cx st d hbo hg s w h hq hs hk
  · exact rstmt_wait cx st d hbo hg s w h hq hs hk
  · exact rstmt_block cx st d hbo hg s w h hq hs hk
  · exact rstmt_after cx st d hbo hg s w h hq hs hk
  · exact rstmt_repeat cx st d hbo hg s w h hq hs hk
  · cases ha : rIs ts k_as (rroutes ts false (rneed ts k_via (REX ts (rneed ts k_send (REX ts (rneed ts k_every (REX ts (rnx s)).2)).2)).2)).2
    · exact rstmt_retry0 cx st d hbo hg s w h hq hs hk ha
    · exact rstmt_retry1 cx st d hbo hg s w h hq hs hk ha
  · exact rstmt_every cx st d hbo hg s w h hq hs hk
  · cases hw : rIs ts k_else (rbody ts st (rname ts (rneed ts k_acked (rnx s))).2).2
    · exact rstmt_if0 cx st d hbo hg s w h hq hs hk hw
    · exact rstmt_if1 cx st d hbo hg s w h hq hs hk hw
theorem rstmt_all (cx : RCx gp A n ts) : ∀ (d : Nat), RStK gp A n c ts (rstmt ts d) (RQS d)
  | 0 => fun s w h hq _ => absurd hq.d1 (by omega)
  | d + 1 => rstmt_any cx (rstmt ts d) (d + 1) (body_rc cx (rstmt ts d) d (rstmt_all cx d) (rstmt_p d) (fun s hq _ => by
      obtain ⟨k, rfl⟩ : ∃ k, d = k + 1 := ⟨d - 1, by have := hq.d1; omega⟩
      exact rstmt_adv k s)) (rstmt_p d)
end
end Go.Proofs.YtafjkbbiaopemaaGreatDoor.Tr
