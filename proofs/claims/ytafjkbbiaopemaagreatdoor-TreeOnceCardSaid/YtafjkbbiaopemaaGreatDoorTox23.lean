/- Part of the proof: Tz. -/
import Derived.Test.YtafjkbbiaopemaaGreatDoorTox21
set_option linter.unusedVariables false
namespace Go.Proofs.YtafjkbbiaopemaaGreatDoor.Tr
open Go.RowKit
section
variable {gp gs : Nat} {A : Option Addr} {n c : Nat} {ts : List Lx.Tok} {s : PS} {w : World}
set_option maxRecDepth 100000 in
set_option maxHeartbeats 4000000 in
theorem factor_jn (cx : Cx gp gs A n ts) (ex : PS → Ex × PS) (d : Nat) (hex : ExK gp gs A n c ts 50 ex (Q d)) (hg : ∀ s, Pg ts s (ex s).2) (h : PSt gp gs A n c ts s w) (hq : Q (d + 1) s) (hk4 : kindIs ts 4 s = false) (hkj : sees ts [k_join] s = true) : Calls Tryz.prog 111 #[.pointer (some ⟨gp, 0, none⟩)] w fun e w' => ∃ a : Option Addr × Nat, e = .returned (.agg (exC (factorP ts ex s).1 a).toArray) ∧ ArgsIn (Fr w.heap.size) w' a.1 (factorP ts ex s).1.args ∧ PSt gp gs A n c ts (factorP ts ex s).2 w' ∧ Wr [gp, gs] w w' := by
  have hk6 : (tokAt ts s.i).kind ≠ 6 := fun e => by have h2 := hkj; unfold sees isOf pk at h2; rw [e] at h2; simp at h2
  have hpn : Pg ts s (nxt s) := nxt_g (sees_lt cx.ends hkj) (sees_ok hkj)
  have hq1 := open_Q2 cx (hq.pg hpn) (show (nxt s).ok = true from (sees_ok hkj : s.ok = true))
  have hpa : 0 ≤ (nxt s).pa ∧ (nxt s).pa ≤ 100 := ⟨hq.p0, by have h2 : s.pa ≤ 13 := hq.p1; have h3 : (nxt s).pa = s.pa := rfl; omega⟩
  have hopa := (open_g cx.ends (nxt s)).1
  have HNX := Lib.hid (fun W (h : PSt gp gs A n c ts s W) => next_c cx h hk6)
  have HOP := Lib.hid (fun W (h : PSt gp gs A n c ts (nxt s) W) => open_c cx h hpa)
  have HS := Lib.hid (fun W A1 (h : PSt gp gs A n c ts s W) (hl : Rd W A1 1 (strs [k_join])) => sees_c cx h [k_join] A1 1 1 hl (by omega))
  have HEX0 := Lib.hid (fun q W (h : PSt gp gs A n c ts q W) (hq : Q d q) => hex q W h hq)
  have HEX := Lib.hid (fun W (h : PSt gp gs A n c ts (openP ts (nxt s)) W) => HEX0.out _ W h hq1)
  have HAL := Lib.hid (fun q W (h : PSt gp gs A n c ts q W) => also_c cx h m_comma)
  have HSH := Lib.hid (fun q W (h : PSt gp gs A n c ts q W) hp => shut_c cx h hp)
  have HK4 := Lib.hid (fun W (h : PSt gp gs A n c ts s W) => kind4_c cx h)
  have HH := Lib.hid (h.alloc (.cells #[.string { data := #[] }, .int .i64 0, .string { data := #[] }, .int .i64 0, .slice none 0 0] 39))
  have HE : Hid (Wr [gp, gs] w (w.alloc (.cells #[.string { data := #[] }, .int .i64 0, .string { data := #[] }, .int .i64 0, .slice none 0 0] 39))) := (Wr.refl _ _).alloc _
  have HB : Hid (Blk (w.alloc (.cells #[.string { data := #[] }, .int .i64 0, .string { data := #[] }, .int .i64 0, .slice none 0 0] 39)) w.heap.size 39 zEc) := Blk.new' rfl rfl
  have HLO := Lib.hid (h.lo cx)
  have hpl := h.par.lt
  have hsl := h.stm.1.lt
  have c0 : ∀ W, PSt gp gs A n c ts s W → W.cell? ⟨gp, 0, none⟩ = some (.pointer (some ⟨gs, 0, none⟩)) := fun W h => h.par.cell 0
  have HC0 := Lib.hid c0
  clear c0
  rw [hk4] at HK4
  rw [hkj] at HS
  have HR : Hid (factorP ts ex s = (.mk k_join 0 zs ((pk ts s).at_ : Int) (joinLoop ts ex (ts.length + 1) [(ex (openP ts (nxt s))).1] (ex (openP ts (nxt s))).2).1, shutP ts (joinLoop ts ex (ts.length + 1) [(ex (openP ts (nxt s))).1] (ex (openP ts (nxt s))).2).2)) := (by show _ = _; unfold factorP; rw [hk4, hkj]; rfl)
  rw [HR.out]
  have HQR := Lib.hid (hq1.pg (hg (openP ts (nxt s))))
  have HPR : Hid ((ex (openP ts (nxt s))).2.pa = s.pa + 1) := (hg _).pa.trans hopa
  have HSP : Hid (0 ≤ s.pa ∧ s.pa ≤ 13) := ⟨hq.p0, hq.p1⟩
  clear h hk4 hkj hk6 hpn hq1 hq hpa hopa HR hex
  generalize (ex (openP ts (nxt s))).1 = X8 at *
  generalize (ex (openP ts (nxt s))).2 = q8 at *
  generalize openP ts (nxt s) = q1 at *
  generalize nxt s = q0 at *
  generalize hRR : joinLoop ts ex (ts.length + 1) [X8] q8 = R at *
  have HRR := Lib.hid hRR
  clear hRR
  unfold pk
  generalize tokAt ts s.i = t at *
  obtain ⟨p, hp⟩ : ∃ p : Int, p = (t.at_ : Int) := ⟨_, rfl⟩
  rw [← hp]
  unfold tokCells at HNX
  rw [← hp] at HNX
  have hf := fld3 (.int .i64 t.kind) (.string (bytesOf t.text)) (.int .i64 t.num) (.int .i64 p)
  clear hp
  go_enter Tryz.func111, Tryz.ntmps111
  go_wp2_with (first
    | (go_at_call 23; (with_reducible refine (HK4.out _ (by exact HH.out)).mono ?_); rintro e w2 ⟨rfl, hB2⟩
       have H2 := Lib.hid (HH.out.below hB2)
       have HE2 := Lib.hid (HE.out.trans (Wr.of_below hB2))
       have HB2 := qbl HB hB2
       have c2 := HC0.out _ H2.out
       clear hB2)
    | (go_at_call 20; (refine (HS.out _ _ (by exact H2.out.alloc _) (by exact Rd.new1' rfl)).mono ?_); rintro e w3 ⟨rfl, hB3⟩
       have H3 := Lib.hid ((H2.out.alloc _).below hB3)
       have HE3 := Lib.hid ((HE2.out.alloc _).trans (Wr.of_below hB3))
       have HB3 := Lib.hid ((HB2.out.alloc _).below hB3 (HB2.out.alloc _).lt)
       have c3 := HC0.out _ H3.out
       clear hB3)
    | (go_at_call 47; (refine (HNX.out _ (by exact H3.out)).mono ?_); rintro e w4 ⟨rfl, h4, hW4⟩
       have H4 := Lib.hid h4
       have HE4 := Lib.hid (HE3.out.trans hW4)
       have HB4 : Hid (Blk w4 w.heap.size 39 zEc) := Blk.wr HB3.out hW4 HLO.out (Nat.le_refl _)
       have HJ4 : Hid (JnS gp gs A n c ts w w4.heap.size p [] [] (.slice none 0 0) q0 (w4.alloc (.cells #[.string k_join, .int .i64 0, .string zs, .int .i64 p, .slice none 0 0] 39))) := ⟨H4.out.alloc _, HE4.out.alloc _, HB4.out.alloc _, Blk.new' rfl rfl, World.ownsRow_nil _ _ _ _, rfl, fun k hk => (by cases hk), fun i e a h1 _ => (by simp at h1), HB4.out.lt, HLO.out⟩
       clear h4 hW4)
    | (go_at_call 112; (refine (HOP.out _ (by exact HJ4.out.st)).mono ?_); rintro e w5 ⟨rfl, h5, hW5⟩
       have J5 := Lib.hid (HJ4.out.call h5 hW5)
       clear h5 hW5))
  have HD8 : Hid (JnS gp gs A n c ts w w4.heap.size p [] [] (.slice none 0 0) q1 w5.drew) := J5.out.call (J5.out.st.below ((Below.refl _ _).drew)) (Wr.of_below ((Below.refl _ _).drew))
  refine region_K (by kernel_rfl) 7 (fun W' => Blk W' w4.heap.size 39 [.string k_join, .int .i64 0, .string zs, .int .i64 p, .slice none 0 0]) ?_
  refine AnyK.pure 0 (v := .pointer (some ⟨w4.heap.size, 4, none⟩)) rfl (by kernel_rfl) (fun _ _ _ h => h) rfl (fun _ => by kernel_rfl) (fun _ => HD8.out.e) ?_
  refine AnyK.load 1 (v := .slice none 0 0) rfl (by kernel_rfl) (by kernel_rfl) (by kernel_rfl) (fun _ _ _ h => h) rfl (fun w' hw' => ex_load (t := 37) (x := .tmp 32) (by rfl) (by kernel_rfl) agSlx (hw'.cell 4)) HD8.out.e ?_
  refine AnyK.pure 2 (v := .pointer (some ⟨gp, 0, none⟩)) rfl (by kernel_rfl) (fun _ _ _ h => h) rfl (fun _ => by kernel_rfl) (fun _ => HD8.out.e) ?_
  refine AnyK.enter 3 (d := some 35) (f := 50) (args := #[.pointer (some ⟨gp, 0, none⟩)]) (by rfl) (by kernel_rfl) (by kernel_rfl) ?_
  refine (HEX.out _ HD8.out.st).mono ?_
  rintro e wx ⟨y, rfl, hy, hx, hWx⟩
  have HX8 := Lib.hid (HD8.out.call hx hWx)
  have HY8 : Hid (ArgsIn (Fj w.heap.size w4.heap.size (.slice none 0 0)) wx y.1 X8.args) := HD8.out.fr (Nat.le_refl _) hy
  have hl8 := HX8.out.lt
  have hm8 := HX8.out.e.lt
  clear hy hx hWx
  refine ⟨_, rfl, fun _ => HX8.out.e, ?_⟩
  refine AnyK.main 4 (by rfl) (by kernel_rfl) rfl (fun K hK => wp_val (ex_one1 37 39 (.tmp 35) (by rfl) (exC X8 y) (by kernel_rfl) Tryz.underlying37 (by kernel_rfl) (by rw [exC_len]; omega) (by rw [exC_len]; omega)) (hK _ _ ⟨fun _ => HX8.out.e.alloc _, ?_⟩))
  refine AnyK.main 5 (by rfl) (by kernel_rfl) rfl (fun K hK => wp_app (.tmp 33) (.tmp 36) 37 (by rfl) (w.heap.size + 1) 39 5 72 Tryz.underlying37 eEx (.slice none 0 0) 0 (zipC exC [] []) (by kernel_rfl) (HX8.out.own.alloc _) (some ⟨wx.heap.size, 0, none⟩) 1 1 (exC X8 y) (by kernel_rfl) (RdS.new wx _ (exC X8 y) 5 rfl) (exC_one _ _) (by omega) (by omega) (by simp; omega) (fun A7 c7 w7 hown7 hc7 hg7 hat7 => hK _ _ ⟨fun _ => (HX8.out.e.alloc _).grown hg7 (fun e => HX8.out.ob _ e.symm rfl), ?_⟩))
  have hb7 := (HX8.out.e.alloc (.cells (exC X8 y).toArray 39)).grown hg7 (fun e => HX8.out.ob _ e.symm rfl)
  refine AnyK.val 6 (v := .pointer (some ⟨w4.heap.size, 4, none⟩)) (by rfl) (by kernel_rfl) rfl (by kernel_rfl) (fun _ => hb7) ?_
  have HP8 := Lib.hid (HX8.out.push HY8.out hg7 hown7 hat7)
  refine AnyK.store 7 (d := none) (w' := w7.setCell ⟨w4.heap.size, 4, none⟩ (.slice A7 (0 + 1) c7)) (by rfl) (fun o ho => ey_storeS ho (by kernel_rfl) (by kernel_rfl) szSlx (hb7.cell 4) (hb7.frozen 4)) (by kernel_rfl) (fun h => (by cases h)) ?_
  refine AnyK.done (by kernel_rfl) ?_
  clear hb7 hown7 hg7 hat7
  go_wp2
  simp only [List.getElem_toArray, List.getElem_cons_zero, List.getElem_cons_succ, Act.put, List.setIfInBounds_toArray, List.set_cons_succ, List.set_cons_zero]
  have HTL := Lib.hid (fun (kk : Nat) (l : List Ex) (q : PS) => (⟨fun h => (by rw [joinLoop, if_neg (by rw [h]; simp)]), fun h => (by rw [joinLoop, if_pos h])⟩ : (sees ts [m_comma] q = false → joinLoop ts ex (kk + 1) l q = (l, q)) ∧ (sees ts [m_comma] q = true → joinLoop ts ex (kk + 1) l q = joinLoop ts ex kk (l ++ [(ex (nxt q)).1]) (ex (nxt q)).2)))
  clear HH HE HB HNX HOP HS HEX HK4 HC0 H2 HE2 HB2 c2 H3 HE3 HB3 c3 H4 HE4 HB4 HJ4 J5 HD8 HX8 HY8 hm8
  go_loopg [] ts.length (fun kk wr => ∃ (l : List Ex) (sl : List (Option Addr × Nat)) (A1 : Option Addr) (c1 : Nat) (q : PS), JnS gp gs A n c ts w w4.heap.size p l sl (.slice A1 l.length c1) q wr ∧ ts.length ≤ kk + q.i ∧ l.length ≤ q.i + 1 ∧ joinLoop ts ex (kk + 1) l q = R ∧ Q d q ∧ q.pa = s.pa + 1)
  case atStart => exact ⟨[X8], [y], A7, c7, q8, HP8.out, by omega, by simp, HRR.out, HQR.out, HPR.out⟩
  case round =>
    clear HP8 HRR HQR HPR
    obtain ⟨l, sl, A1, c1, q, hS, hk, hll, hT, hQ, hqp⟩ := hrel
    cases hs : sees ts [m_comma] q
    · have HS := Lib.hid hS
      have HAA := HAL.out q _ hS.st
      have HRE : Hid (R = (l, q)) := hT.symm.trans ((HTL.out gk l q).1 hs)
      have HAP : Hid (alsoP ts m_comma q = q) := (by show _ = _; unfold alsoP; rw [hs]; rfl)
      rw [hs, HAP.out] at HAA
      have HALL := Lib.hid HAA
      have HSP2 := HSP.out
      have HSHH := Lib.hid (fun W (h : PSt gp gs A n c ts q W) => HSH.out q W h ⟨by omega, by omega⟩)
      clear hS hk hll hT hQ hqp hs HAA HTL HAL HSH HEX0 HSP2 HSP
      go_wp2_with (first
        | (go_at_call 52; (refine (HALL.out).mono ?_); rintro e w8 ⟨rfl, h8, hW8⟩
           have HS8 := Lib.hid (HS.out.call h8 hW8)
           clear h8 hW8)
        | (go_at_call 113; (refine (HSHH.out _ (by exact HS8.out.st)).mono ?_); rintro e w9 ⟨rfl, h9, hW9⟩
           have HS9 := Lib.hid (HS8.out.call h9 hW9)
           obtain ⟨n0, n1, n2, n3, n4⟩ := Blk.five HS9.out.e
           obtain ⟨z0, z1, z2, z3, z4⟩ := Blk.five HS9.out.z
           obtain ⟨f0, f1, f2, f3, f4⟩ := Blk.fro5 HS9.out.z
           clear h9 hW9))
      refine bodyPost_ret (res_c rfl _ w.heap.size 39 (exC (.mk k_join 0 zs p l) (A1, c1)) rfl (by exact ((((HS9.out.z.set_ 0 _).set_ 1 _).set_ 2 _).set_ 3 _).set_ 4 _) _ Tryz.underlying39 rfl hdEx) rfl ?_
      rw [HRE.out]
      refine ⟨(A1, c1), rfl, ?_, ?_, ?_⟩
      · exact ((((((ArgsIn.jn HS9.out).keep (keep_fxset _)).keep (keep_fxset _)).keep (keep_fxset _)).keep (keep_fxset _)).keep (keep_fxset _)).keep keep_fxfr
      · exact ((((HS9.out.st.setNew HLO.out (Nat.le_refl _) _).setNew HLO.out (Nat.le_refl _) _).setNew HLO.out (Nat.le_refl _) _).setNew HLO.out (Nat.le_refl _) _).setNew HLO.out (Nat.le_refl _) _
      · exact ((((HS9.out.wr.setNew (Nat.le_refl _) _).setNew (Nat.le_refl _) _).setNew (Nat.le_refl _) _).setNew (Nat.le_refl _) _).setNew (Nat.le_refl _) _
    · have HS := Lib.hid hS
      have HAA := HAL.out q _ hS.st
      have hlt := sees_lt cx.ends hs
      have HAP : Hid (alsoP ts m_comma q = nxt q) := (by show _ = _; unfold alsoP; rw [hs]; rfl)
      rw [hs, HAP.out] at HAA
      have HALL := Lib.hid HAA
      have hQ2 : Q d (nxt q) := hQ.pg (nxt_g hlt (sees_ok hs))
      have HFX := Lib.hid (fun W (h : PSt gp gs A n c ts (nxt q) W) => HEX0.out (nxt q) W h hQ2)
      have HQ3 := Lib.hid (hQ2.pg (hg (nxt q)))
      have HPA3 : Hid ((ex (nxt q)).2.pa = s.pa + 1) := (hg (nxt q)).pa.trans hqp
      have HI3 : Hid (q.i + 1 ≤ (ex (nxt q)).2.i) := (hg (nxt q)).le
      have HT2 := Lib.hid (((HTL.out gk l q).2 hs).symm.trans hT)
      have hl9 : l.length ≤ 100000 := by have h1 := cx.hn; have h2 := cx.hn8; omega
      have HKL := Lib.hid (And.intro hk (And.intro hlt hll))
      clear hS hk hll hT hQ hqp hs HAA HTL HAL HSH HEX0 HSP hlt hQ2 HAP
      generalize (ex (nxt q)).1 = X9 at *
      generalize (ex (nxt q)).2 = q3 at *
      go_wp2_with (go_at_call 52; (refine (HALL.out).mono ?_); rintro e w8 ⟨rfl, h8, hW8⟩
                   have HS8 := Lib.hid (HS.out.call h8 hW8)
                   clear h8 hW8)
      have HD9 : Hid (JnS gp gs A n c ts w w4.heap.size p l sl (.slice A1 l.length c1) (nxt q) w8.drew) := HS8.out.call (HS8.out.st.below ((Below.refl _ _).drew)) (Wr.of_below ((Below.refl _ _).drew))
      refine region_K (by kernel_rfl) 7 (fun W' => Blk W' w4.heap.size 39 [.string k_join, .int .i64 0, .string zs, .int .i64 p, .slice A1 l.length c1]) ?_
      refine AnyK.pure 0 (v := .pointer (some ⟨w4.heap.size, 4, none⟩)) rfl (by kernel_rfl) (fun _ _ _ h => h) rfl (fun _ => by kernel_rfl) (fun _ => HD9.out.e) ?_
      refine AnyK.load 1 (v := .slice A1 l.length c1) rfl (by kernel_rfl) (by kernel_rfl) (by kernel_rfl) (fun _ _ _ h => h) rfl (fun w' hw' => ex_load (t := 37) (x := .tmp 41) (by rfl) (by kernel_rfl) agSlx (hw'.cell 4)) HD9.out.e ?_
      refine AnyK.pure 2 (v := .pointer (some ⟨gp, 0, none⟩)) rfl (by kernel_rfl) (fun _ _ _ h => h) rfl (fun _ => by kernel_rfl) (fun _ => HD9.out.e) ?_
      refine AnyK.enter 3 (d := some 44) (f := 50) (args := #[.pointer (some ⟨gp, 0, none⟩)]) (by rfl) (by kernel_rfl) (by kernel_rfl) ?_
      refine (HFX.out _ HD9.out.st).mono ?_
      rintro e wx ⟨y, rfl, hy, hx, hWx⟩
      have HX9 := Lib.hid (HD9.out.call hx hWx)
      have HY9 : Hid (ArgsIn (Fj w.heap.size w4.heap.size (.slice A1 l.length c1)) wx y.1 X9.args) := HD9.out.fr (Nat.le_refl _) hy
      have hl9 := HX9.out.lt
      have hm9 := HX9.out.e.lt
      clear hy hx hWx
      refine ⟨_, rfl, fun _ => HX9.out.e, ?_⟩
      refine AnyK.main 4 (by rfl) (by kernel_rfl) rfl (fun K hK => wp_val (ex_one1 37 39 (.tmp 44) (by rfl) (exC X9 y) (by kernel_rfl) Tryz.underlying37 (by kernel_rfl) (by rw [exC_len]; omega) (by rw [exC_len]; omega)) (hK _ _ ⟨fun _ => HX9.out.e.alloc _, ?_⟩))
      refine AnyK.main 5 (by rfl) (by kernel_rfl) rfl (fun K hK => wp_app (.tmp 42) (.tmp 45) 37 (by rfl) (w.heap.size + 1) 39 5 72 Tryz.underlying37 eEx (.slice A1 l.length c1) l.length (zipC exC l sl) (by kernel_rfl) (HX9.out.own.alloc _) (some ⟨wx.heap.size, 0, none⟩) 1 1 (exC X9 y) (by kernel_rfl) (RdS.new wx _ (exC X9 y) 5 rfl) (exC_one _ _) (by omega) (by omega) (by simp; omega) (fun A7 c7 w7 hown7 hc7 hg7 hat7 => hK _ _ ⟨fun _ => (HX9.out.e.alloc _).grown hg7 (fun e => HX9.out.ob _ e.symm rfl), ?_⟩))
      have hb7 := (HX9.out.e.alloc (.cells (exC X9 y).toArray 39)).grown hg7 (fun e => HX9.out.ob _ e.symm rfl)
      refine AnyK.val 6 (v := .pointer (some ⟨w4.heap.size, 4, none⟩)) (by rfl) (by kernel_rfl) rfl (by kernel_rfl) (fun _ => hb7) ?_
      have HP9 := Lib.hid (HX9.out.push HY9.out hg7 hown7 hat7)
      refine AnyK.store 7 (d := none) (w' := w7.setCell ⟨w4.heap.size, 4, none⟩ (.slice A7 (l.length + 1) c7)) (by rfl) (fun o ho => ey_storeS ho (by kernel_rfl) (by kernel_rfl) szSlx (hb7.cell 4) (hb7.frozen 4)) (by kernel_rfl) (fun h => (by cases h)) ?_
      refine AnyK.done (by kernel_rfl) ?_
      clear hb7 hown7 hg7 hat7
      go_wp2
      have hk5 := HKL.out
      have hi5 := HI3.out
      go_roundg (gk - 1)
      case measure => omega
      case rel => exact ⟨l ++ [X9], sl ++ [y], A7, c7, q3, by rw [List.length_append]; exact HP9.out, by omega, by rw [List.length_append, List.length_singleton]; omega, by rw [show gk - 1 + 1 = gk by omega]; exact HT2.out, HQ3.out, HPA3.out⟩
end
end Go.Proofs.YtafjkbbiaopemaaGreatDoor.Tr
