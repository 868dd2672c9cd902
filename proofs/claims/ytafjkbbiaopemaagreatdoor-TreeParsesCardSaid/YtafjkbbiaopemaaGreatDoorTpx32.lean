/- Part of the proof: Vd. -/
import Derived.Test.YtafjkbbiaopemaaGreatDoorTpx30
set_option linter.unusedVariables false
namespace Go.Proofs.YtafjkbbiaopemaaGreatDoor.Tr
open Go.RowKit
attribute [local go_sem ↓] ldq_Dc
section
variable {gp gs gt : Nat} {A : Option Addr} {n c : Nat} {ts : List Lx.Tok} {s q q' : PS} {w w' w0 : World}
set_option maxRecDepth 100000 in
set_option maxHeartbeats 4000000 in
theorem decl_route (cx : Cx gp gs A n ts) (h : PSt gp gs A n c ts s w) (hq : Q 14 s) (hs : s.i + 1 < ts.length) (hok : s.ok = true) (hK : bytesOf (pk ts s).text = k_route) (hk6 : (tokAt ts s.i).kind ≠ 6) : DeK gp gs A n c ts s w := by
  unfold DeK
  have HNX := Lib.hid (fun W (h : PSt gp gs A n c ts s W) => next_c cx h hk6)
  have HRF := Lib.hid (fun W (h : PSt gp gs A n c ts (nxt s) W) => ref_c cx h)
  have HT1 := Lib.hid (fun W (h : PSt gp gs A n c ts (refP ts (nxt s)).2 W) => take_c cx h m_eq)
  have g1 := nxt_g hs hok
  have g2 := g1.trans (ref_g cx.ends (nxt s))
  have g3 := g2.trans (take_g cx.ends m_eq _)
  have HPL := Lib.hid (fun q W (h : PSt gp gs A n c ts q W) (hq : Q 14 q) => place_c cx h hq)
  have HPL1 := Lib.hid (fun W (h : PSt gp gs A n c ts (takeP ts m_eq (refP ts (nxt s)).2) W) => HPL.out _ W h (hq.pg g3))
  have HAL := Lib.hid (fun q W (h : PSt gp gs A n c ts q W) => also_c cx h m_gt)
  have HT2 := Lib.hid (fun q W (h : PSt gp gs A n c ts q W) => take_c cx h m_semi)
  have HT : Hid (declP ts s = (⟨k_route, (refP ts (nxt s)).1, zE, (placeLoop ts (ts.length + 1) [(placeP ts (takeP ts m_eq (refP ts (nxt s)).2)).1] (placeP ts (takeP ts m_eq (refP ts (nxt s)).2)).2).1⟩, takeP ts m_semi (placeLoop ts (ts.length + 1) [(placeP ts (takeP ts m_eq (refP ts (nxt s)).2)).1] (placeP ts (takeP ts m_eq (refP ts (nxt s)).2)).2).2)) := by show _ = _; unfold declP; dsimp only; rw [hK, if_neg (by decide)]
  rw [HT.out]
  have HQ8 := Lib.hid ((hq.pg g3).pg (place_g cx.ends (takeP ts m_eq (refP ts (nxt s)).2)))
  have HLO := Lib.hid (h.lo cx)
  have HH := Lib.hid (h.alloc (.cells (dcC zDc pl0).toArray 45))
  have c0 : w.cell? ⟨gp, 0, none⟩ = some (.pointer (some ⟨gs, 0, none⟩)) := h.par.cell 0
  have hgl := h.par.lt
  have HCX := Lib.hid cx
  clear h hq hs hok hk6 g1 g2 g3 HT
  generalize (placeP ts (takeP ts m_eq (refP ts (nxt s)).2)).1 = X8 at *
  generalize (placeP ts (takeP ts m_eq (refP ts (nxt s)).2)).2 = q8 at *
  generalize takeP ts m_eq (refP ts (nxt s)).2 = q3 at *
  generalize (refP ts (nxt s)).1 = X at *
  generalize (refP ts (nxt s)).2 = q2 at *
  generalize nxt s = q1 at *
  generalize hRR : placeLoop ts (ts.length + 1) [X8] q8 = R at *
  have HRR := Lib.hid hRR
  clear hRR
  unfold pk at hK
  unfold tokCells at HNX
  rw [hK] at HNX
  generalize tokAt ts s.i = t at *
  have hf := fld1 (.int .i64 t.kind) (.string k_route) (.int .i64 t.num) (.int .i64 t.at_)
  unfold rfC at HRF
  clear hK
  go_enter Tryz.func21, Tryz.ntmps21
  go_upto_region 6 with (first
    | (go_at_call 47; (refine (HNX.out _ (by exact HH.out)).mono ?_); rintro e w2 ⟨rfl, h2, hW2⟩; have H2 := Lib.hid h2; have HZ2 : Hid (Blk w2 w.heap.size 45 (dcC zDc pl0) ∧ Wr [gp, gs] w w2) := ⟨Blk.wr (Blk.new w _ _) hW2 HLO.out (Nat.le_refl _), ((Wr.refl _ w).alloc _).trans hW2⟩; clear h2 hW2 c0)
    | refine wpList_build rfl 45 [(0, .tmp 9)] rfl _ (by rfl) _ (bld_Dc _ _) ?_
    | (refine wpList_store_all rfl 45 (.tmp 3) (.tmp 10) rfl w2.heap.size (dcC ⟨k_route, zR, zE, []⟩ pl0) (by rfl) (by rfl) 45 (dcC zDc pl0) (by exact Blk.new' rfl rfl) hdDc (dcC_one _ _) rfl ?_; intro w3 hb3 ho3; have HP3 : Hid (DeS gp gs w2.heap.size A n c ts w ⟨k_route, zR, zE, []⟩ pl0 q1 w3) := ⟨(H2.out.alloc _).only HLO.out HZ2.out.2.size ho3, Wr.newL (HZ2.out.2.alloc _) (Wr.onlyg (L := [w2.heap.size]) ho3 (by simp)) (fun g hg => .inr (by simp at hg; have := HZ2.out.2.size; omega)), ho3.blk (HZ2.out.1.alloc _) (by have := HZ2.out.1.lt; omega), hb3, DcIn.zero _ _ _ _, HLO.out, HZ2.out.1.lt⟩; clear hb3 ho3)
    | (go_at_call 48; (refine (HRF.out _ (by exact HP3.out.st)).mono ?_); rintro e w4 ⟨rfl, h4, hW4⟩; have HP4 := Lib.hid (HP3.out.call h4 hW4); clear h4 hW4)
    | (refine wpList_store rfl 36 (.tmp 13) (.tmp 12) rfl w2.heap.size 1 (rfC X) (by rfl) (by rfl) 45 (dcC ⟨k_route, zR, zE, []⟩ pl0) (by exact HP4.out.e) hdRf (rfC_one X) (by show 1 + 2 ≤ 9; omega) ?_; intro w5 hb5 ho5; have HP5 : Hid (DeS gp gs w2.heap.size A n c ts w ⟨k_route, X, zE, []⟩ pl0 q2 w5) := HP4.out.put ho5 (by exact hb5) HP4.out.ar; clear hb5 ho5)
    | (go_at_call 49; (with_reducible refine (HT1.out _ (by exact HP5.out.st)).mono ?_); rintro e w6 ⟨rfl, h6, hW6⟩; have HP6 := Lib.hid (HP5.out.call h6 hW6); have k6 : w6.cell? ⟨w2.heap.size, 0, none⟩ = some (.string k_route) := HP6.out.e.cell 0; clear h6 hW6))
  have J5 : Hid (DlS gp gs A n c ts w w2.heap.size k_route X [] [] (.slice none 0 0) q3 w6) := ⟨HP6.out.st, HP6.out.wr, HP6.out.z, HP6.out.e, World.ownsRow_nil _ _ _ _, rfl, fun k hk => (by cases hk), fun i e a h1 _ => (by simp at h1), HP6.out.gl, HP6.out.lo⟩
  clear HP3 HP4 HP5 HP6 H2 HZ2 k6 HNX HRF HT1 HH
  generalize w2.heap.size = G at *
  have HD8 : Hid (DlS gp gs A n c ts w G k_route X [] [] (.slice none 0 0) q3 w6.drew) := J5.out.call (J5.out.st.below ((Below.refl _ _).drew)) (Wr.of_below ((Below.refl _ _).drew))
  refine region_K (by kernel_rfl) 7 (fun W' => Blk W' G 45 (dlC k_route X (.slice none 0 0))) ?_
  refine AnyK.pure 0 (v := .pointer (some ⟨G, 8, none⟩)) rfl (by kernel_rfl) (fun _ _ _ h => h) rfl (fun _ => by kernel_rfl) (fun _ => HD8.out.e) ?_
  refine AnyK.load 1 (v := .slice none 0 0) rfl (by kernel_rfl) (by kernel_rfl) (by kernel_rfl) (fun _ _ _ h => h) rfl (fun w' hw' => ex_load (t := 43) (x := .tmp 22) (by rfl) (by kernel_rfl) agSpl (hw'.cell 8)) HD8.out.e ?_
  refine AnyK.pure 2 (v := .pointer (some ⟨gp, 0, none⟩)) rfl (by kernel_rfl) (fun _ _ _ h => h) rfl (fun _ => by kernel_rfl) (fun _ => HD8.out.e) ?_
  refine AnyK.enter 3 (d := some 25) (f := 51) (args := #[.pointer (some ⟨gp, 0, none⟩)]) (by rfl) (by kernel_rfl) (by kernel_rfl) ?_
  refine (HPL1.out _ HD8.out.st).mono ?_
  rintro e wx ⟨y, rfl, hy, hx, hWx⟩
  have HX8 := Lib.hid (HD8.out.call hx hWx)
  have HY8 : Hid (PlIn (Fj w.heap.size G (.slice none 0 0)) wx X8 y) := HD8.out.fr (Nat.le_refl _) hy
  have hl8 := HX8.out.lt
  have hm8 := HX8.out.e.lt
  clear hy hx hWx
  refine ⟨_, rfl, fun _ => HX8.out.e, ?_⟩
  refine AnyK.main 4 (by rfl) (by kernel_rfl) rfl (fun K hK => wp_val (ex_one1 43 80 (.tmp 25) (by rfl) (plC X8 y) (by kernel_rfl) Tryz.underlying43 (by exact onePl X8 y) (by rw [plC_len]; omega) (by rw [plC_len]; omega)) (hK _ _ ⟨fun _ => HX8.out.e.alloc _, ?_⟩))
  refine AnyK.main 5 (by rfl) (by kernel_rfl) rfl (fun K hK => wp_app (.tmp 23) (.tmp 26) 43 (by rfl) (w.heap.size + 1) 80 12 168 Tryz.underlying43 ePl (.slice none 0 0) 0 (zipC plC [] []) (by kernel_rfl) (HX8.out.own.alloc _) (some ⟨wx.heap.size, 0, none⟩) 1 1 (plC X8 y) (by kernel_rfl) (RdS.new wx _ (plC X8 y) 12 rfl) (plC_one _ _) (by omega) (by omega) (by simp; omega) (fun A7 c7 w7 hown7 hc7 hg7 hat7 => hK _ _ ⟨fun _ => (HX8.out.e.alloc _).grown hg7 (fun e => HX8.out.ob _ e.symm rfl), ?_⟩))
  have hb7 := (HX8.out.e.alloc (.cells (plC X8 y).toArray 80)).grown hg7 (fun e => HX8.out.ob _ e.symm rfl)
  refine AnyK.val 6 (v := .pointer (some ⟨G, 8, none⟩)) (by rfl) (by kernel_rfl) rfl (by kernel_rfl) (fun _ => hb7) ?_
  have HP8 := Lib.hid (HX8.out.push HY8.out hg7 hown7 hat7)
  refine AnyK.store 7 (d := none) (w' := w7.setCell ⟨G, 8, none⟩ (.slice A7 (0 + 1) c7)) (by rfl) (fun o ho => ey_storeS ho (by kernel_rfl) (by kernel_rfl) szSpl (hb7.cell 8) (hb7.frozen 8)) (by kernel_rfl) (fun h => (by cases h)) ?_
  refine AnyK.done (by kernel_rfl) ?_
  clear hb7 hown7 hg7 hat7
  go_wp2
  simp only [List.getElem_toArray, List.getElem_cons_zero, List.getElem_cons_succ, Act.put, List.setIfInBounds_toArray, List.set_cons_succ, List.set_cons_zero]
  have HTL := Lib.hid (fun (kk : Nat) (l : List Pl) (q : PS) => (⟨fun h => (by rw [placeLoop, if_neg (by rw [h]; simp)]), fun h => (by rw [placeLoop, if_pos h])⟩ : (sees ts [m_gt] q = false → placeLoop ts (kk + 1) l q = (l, q)) ∧ (sees ts [m_gt] q = true → placeLoop ts (kk + 1) l q = placeLoop ts kk (l ++ [(placeP ts (nxt q)).1]) (placeP ts (nxt q)).2)))
  clear J5 HD8 HX8 HY8 hm8 HPL1
  go_loopg [] ts.length (fun kk wr => ∃ (l : List Pl) (sl : List plA) (A1 : Option Addr) (c1 : Nat) (q : PS), DlS gp gs A n c ts w G k_route X l sl (.slice A1 l.length c1) q wr ∧ ts.length ≤ kk + q.i ∧ l.length ≤ q.i + 1 ∧ placeLoop ts (kk + 1) l q = R ∧ Q 14 q)
  case atStart => exact ⟨[X8], [y], A7, c7, q8, HP8.out, by omega, by simp, HRR.out, HQ8.out⟩
  case round =>
    clear HP8 HRR HQ8
    obtain ⟨l, sl, A1, c1, q, hS, hk, hll, hT, hQ⟩ := hrel
    cases hs : sees ts [m_gt] q
    · have HS := Lib.hid hS
      have HAA := HAL.out q _ hS.st
      have HRE : Hid (R = (l, q)) := hT.symm.trans ((HTL.out gk l q).1 hs)
      have HAP : Hid (alsoP ts m_gt q = q) := (by show _ = _; unfold alsoP; rw [hs]; rfl)
      rw [hs, HAP.out] at HAA
      have HALL := Lib.hid HAA
      have HTT := Lib.hid (fun W (h : PSt gp gs A n c ts q W) => HT2.out q W h)
      clear hS hk hll hT hQ hs HAA HTL HAL HT2 HPL
      go_wp2_with (first
        | (go_at_call 52; (refine (HALL.out).mono ?_); rintro e w8 ⟨rfl, h8, hW8⟩
           have HS8 := Lib.hid (HS.out.call h8 hW8)
           clear h8 hW8)
        | (go_at_call 49; (refine (HTT.out _ (by exact HS8.out.st)).mono ?_); rintro e w9 ⟨rfl, h9, hW9⟩
           have HS9 := Lib.hid (HS8.out.call h9 hW9)
           have hl9 := ldAt_run HS9.out.e 45 0 (dlC k_route X (.slice A1 l.length c1)) rfl _ Tryz.underlying45 rfl hdDc
           clear h9 hW9)
        | (refine wpList_store_all rfl 45 (.tmp 2) (.tmp 40) rfl w.heap.size (dcC ⟨k_route, X, zE, l⟩ ((none, 0), (A1, c1))) (by rfl) (by rfl) 45 (dcC zDc pl0) (by exact HS9.out.z) hdDc (dcC_one _ _) rfl ?_; intro w10 hb10 ho10))
      obtain ⟨e1, e2, e3⟩ := HS9.out.fin ho10
      refine bodyPost_ret (res_c rfl _ w.heap.size 45 (dcC ⟨k_route, X, zE, l⟩ ((none, 0), (A1, c1))) rfl hb10 _ Tryz.underlying45 rfl hdDc) rfl ?_
      rw [HRE.out]
      exact ⟨((none, 0), (A1, c1)), rfl, e1, e2, e3⟩
    · have HS := Lib.hid hS
      have HAA := HAL.out q _ hS.st
      have hlt := sees_lt HCX.out.ends hs
      have HAP : Hid (alsoP ts m_gt q = nxt q) := (by show _ = _; unfold alsoP; rw [hs]; rfl)
      rw [hs, HAP.out] at HAA
      have HALL := Lib.hid HAA
      have hQ2 : Q 14 (nxt q) := hQ.pg (nxt_g hlt (sees_ok hs))
      have HFX := Lib.hid (fun W (h : PSt gp gs A n c ts (nxt q) W) => HPL.out (nxt q) W h hQ2)
      have HQ3 := Lib.hid (hQ2.pg (place_g HCX.out.ends (nxt q)))
      have HI3 : Hid (q.i + 1 ≤ (placeP ts (nxt q)).2.i) := (place_g HCX.out.ends (nxt q)).le
      have HT3 := Lib.hid (((HTL.out gk l q).2 hs).symm.trans hT)
      have hl9 : l.length ≤ 100000 := by have h1 := HCX.out.hn; have h2 := HCX.out.hn8; omega
      have HKL := Lib.hid (And.intro hk (And.intro hlt hll))
      clear hS hk hll hT hQ hs HAA HTL HAL HPL hlt hQ2 HAP HT2
      generalize (placeP ts (nxt q)).1 = X9 at *
      generalize (placeP ts (nxt q)).2 = q3' at *
      go_wp2_with (go_at_call 52; (refine (HALL.out).mono ?_); rintro e w8 ⟨rfl, h8, hW8⟩
                   have HS8 := Lib.hid (HS.out.call h8 hW8)
                   clear h8 hW8)
      have HD9 : Hid (DlS gp gs A n c ts w G k_route X l sl (.slice A1 l.length c1) (nxt q) w8.drew) := HS8.out.call (HS8.out.st.below ((Below.refl _ _).drew)) (Wr.of_below ((Below.refl _ _).drew))
      refine region_K (by kernel_rfl) 7 (fun W' => Blk W' G 45 (dlC k_route X (.slice A1 l.length c1))) ?_
      refine AnyK.pure 0 (v := .pointer (some ⟨G, 8, none⟩)) rfl (by kernel_rfl) (fun _ _ _ h => h) rfl (fun _ => by kernel_rfl) (fun _ => HD9.out.e) ?_
      refine AnyK.load 1 (v := .slice A1 l.length c1) rfl (by kernel_rfl) (by kernel_rfl) (by kernel_rfl) (fun _ _ _ h => h) rfl (fun w' hw' => ex_load (t := 43) (x := .tmp 31) (by rfl) (by kernel_rfl) agSpl (hw'.cell 8)) HD9.out.e ?_
      refine AnyK.pure 2 (v := .pointer (some ⟨gp, 0, none⟩)) rfl (by kernel_rfl) (fun _ _ _ h => h) rfl (fun _ => by kernel_rfl) (fun _ => HD9.out.e) ?_
      refine AnyK.enter 3 (d := some 34) (f := 51) (args := #[.pointer (some ⟨gp, 0, none⟩)]) (by rfl) (by kernel_rfl) (by kernel_rfl) ?_
      refine (HFX.out _ HD9.out.st).mono ?_
      rintro e wx ⟨y, rfl, hy, hx, hWx⟩
      have HX9 := Lib.hid (HD9.out.call hx hWx)
      have HY9 : Hid (PlIn (Fj w.heap.size G (.slice A1 l.length c1)) wx X9 y) := HD9.out.fr (Nat.le_refl _) hy
      have hl9 := HX9.out.lt
      have hm9 := HX9.out.e.lt
      clear hy hx hWx
      refine ⟨_, rfl, fun _ => HX9.out.e, ?_⟩
      refine AnyK.main 4 (by rfl) (by kernel_rfl) rfl (fun K hK => wp_val (ex_one1 43 80 (.tmp 34) (by rfl) (plC X9 y) (by kernel_rfl) Tryz.underlying43 (by exact onePl X9 y) (by rw [plC_len]; omega) (by rw [plC_len]; omega)) (hK _ _ ⟨fun _ => HX9.out.e.alloc _, ?_⟩))
      refine AnyK.main 5 (by rfl) (by kernel_rfl) rfl (fun K hK => wp_app (.tmp 32) (.tmp 35) 43 (by rfl) (w.heap.size + 1) 80 12 168 Tryz.underlying43 ePl (.slice A1 l.length c1) l.length (zipC plC l sl) (by kernel_rfl) (HX9.out.own.alloc _) (some ⟨wx.heap.size, 0, none⟩) 1 1 (plC X9 y) (by kernel_rfl) (RdS.new wx _ (plC X9 y) 12 rfl) (plC_one _ _) (by omega) (by omega) (by simp; omega) (fun A7 c7 w7 hown7 hc7 hg7 hat7 => hK _ _ ⟨fun _ => (HX9.out.e.alloc _).grown hg7 (fun e => HX9.out.ob _ e.symm rfl), ?_⟩))
      have hb7 := (HX9.out.e.alloc (.cells (plC X9 y).toArray 80)).grown hg7 (fun e => HX9.out.ob _ e.symm rfl)
      refine AnyK.val 6 (v := .pointer (some ⟨G, 8, none⟩)) (by rfl) (by kernel_rfl) rfl (by kernel_rfl) (fun _ => hb7) ?_
      have HP9 := Lib.hid (HX9.out.push HY9.out hg7 hown7 hat7)
      refine AnyK.store 7 (d := none) (w' := w7.setCell ⟨G, 8, none⟩ (.slice A7 (l.length + 1) c7)) (by rfl) (fun o ho => ey_storeS ho (by kernel_rfl) (by kernel_rfl) szSpl (hb7.cell 8) (hb7.frozen 8)) (by kernel_rfl) (fun h => (by cases h)) ?_
      refine AnyK.done (by kernel_rfl) ?_
      clear hb7 hown7 hg7 hat7
      go_wp2
      have hk5 := HKL.out
      have hi5 := HI3.out
      go_roundg (gk - 1)
      case measure => omega
      case rel => exact ⟨l ++ [X9], sl ++ [y], A7, c7, q3', by rw [List.length_append]; exact HP9.out, by omega, by rw [List.length_append, List.length_singleton]; omega, by rw [show gk - 1 + 1 = gk by omega]; exact HT3.out, HQ3.out⟩
theorem decl_c (cx : Cx gp gs A n ts) (h : PSt gp gs A n c ts s w) (hq : Q 14 s) (hs : sees ts [k_let, k_route] s = true) : DeK gp gs A n c ts s w := by
  have h1 := sees_lt cx.ends hs
  have h2 := sees_ok hs
  have h3 : isOf (pk ts s) [k_let, k_route] = true := by unfold sees at hs; rw [h2] at hs; simpa using hs
  have hk6 : (tokAt ts s.i).kind ≠ 6 := fun e => by unfold isOf pk at h3; rw [e] at h3; simp at h3
  have h4 : bytesOf (pk ts s).text ∈ [k_let, k_route] := by
    unfold isOf at h3
    simp only [Bool.and_eq_true] at h3
    exact bmem_iff.1 h3.2
  simp only [List.mem_cons, List.not_mem_nil, or_false] at h4
  rcases h4 with h4 | h4
  · exact decl_let cx h hq h1 h2 h4 hk6
  · exact decl_route cx h hq h1 h2 h4 hk6
end
end Go.Proofs.YtafjkbbiaopemaaGreatDoor.Tr
