/- Part of the proof: Taj, Tal. -/
import Derived.Test.YtafjkbbiaopemaaGreatDoorTox41
set_option linter.unusedVariables false
namespace Go.Proofs.YtafjkbbiaopemaaGreatDoor.Tr
open Go.RowKit
structure RQS (d : Nat) (s : RS) : Prop where
  q : RQ 14 s
  b0 : 0 ≤ s.bo
  b1 : s.bo ≤ 13
  d1 : 1 ≤ d
  ok : s.bad = false → s.bo ≤ 12 ∧ 14 ≤ (d : Int) + s.bo
section
variable {ts : List Lx.Tok} {s q : RS} {d : Nat}
theorem RP.okof (h : RP s q) (hq : q.bad = false) : s.bad = false := by
  cases hb : s.bad
  · rfl
  · rw [(h.st hb).1] at hq; cases hq
theorem RQS.rp (h : RQS d s) (k : RP s q) : RQS d q := ⟨h.q.rp k, by rw [k.bo]; exact h.b0, by rw [k.bo]; exact h.b1, h.d1, fun hq => by rw [k.bo]; exact h.ok (k.okof hq)⟩
theorem RQ.bo {d : Nat} (h : RQ d s) (b : Int) : RQ d { s with bo := b } := ⟨h.p0, h.p1, h.d1, h.ok⟩
theorem rbo_ok (h : (rbo ts s).bad = false) : s.bad = false ∧ s.bo ≠ 12 := by
  have h1 := rbo_pre (ts := ts) s
  refine ⟨h1.okof h, fun h12 => ?_⟩
  cases hi : rIs ts m_lbr s
  · have hh : (rbo ts s).bad = (rneed ts m_lbr s).bad := by unfold rbo; dsimp only; rw [hi]; rfl
    rw [hh, rneed_b hi] at h
    cases h
  · have hh : (rbo ts s).bad = (rneed ts m_lbr (rstop ts 11 s)).bad := by unfold rbo; dsimp only; rw [if_pos (by rw [hi, h12]; rfl)]
    rw [hh, ((rneed_p m_lbr (rstop ts 11 s)).st (rstop_b _ _)).1] at h
    cases h
theorem RQS.down (hq : RQS (d + 1) s) (h : (rbo ts s).bad = false) : RQS d (rbo ts s) := by
  obtain ⟨h1, h2⟩ := rbo_ok h
  obtain ⟨h3, h4⟩ := hq.ok h1
  have h5 : (rbo ts s).bo = s.bo + 1 := rfl
  have h6 := hq.b0
  exact ⟨(hq.q.rp (rbo_pre (ts := ts) s)).bo _, by omega, by omega, by omega, fun _ => by omega⟩
end
def RStK (gp : Nat) (A : Option Addr) (n c : Nat) (ts : List Lx.Tok) (P : RS → St × RS) (R : RS → Prop) : Prop :=
  ∀ (s : RS) (w : World), RSt gp A n c ts s w → R s → rbegins ts s = true → Calls Tryz.prog 68 #[.pointer (some ⟨gp, 0, none⟩)] w fun e w' => ∃ p : StA, e = .returned (.agg (stC (P s).1 p).toArray) ∧ StIn (Fr w.heap.size) w' (P s).1 p ∧ RSt gp A n c ts (P s).2 w' ∧ Wr [gp] w w'
def RBoK (gp : Nat) (A : Option Addr) (n c : Nat) (ts : List Lx.Tok) (f : FuncId) (P : RS → List St × RS) (R : RS → Prop) : Prop :=
  ∀ (s : RS) (w : World), RSt gp A n c ts s w → R s → Calls Tryz.prog f #[.pointer (some ⟨gp, 0, none⟩)] w fun e w' => ∃ A' c', e = .returned (.slice A' (P s).1.length c') ∧ BodyIn (Fr w.heap.size) w' A' (P s).1 ∧ RSt gp A n c ts (P s).2 w' ∧ Wr [gp] w w'
end Go.Proofs.YtafjkbbiaopemaaGreatDoor.Tr
namespace Go.Proofs.YtafjkbbiaopemaaGreatDoor.Tr
open Go.RowKit
section
variable {ts : List Lx.Tok} {s : RS}
theorem isOf_ten {t : Lx.Tok} : isOf t ten = (isOf t [k_send] || (isOf t [k_split] || (isOf t [k_cover] || (isOf t [k_wait] || (isOf t [k_block] || (isOf t [k_after] || (isOf t [k_repeat] || (isOf t [k_retry] || (isOf t [k_every] || isOf t [k_if]))))))))) := by
  unfold isOf bmem ten
  simp only [List.map_cons, List.map_nil, List.contains_cons, List.contains_nil, Bool.or_false]
  generalize (decide (t.kind = 2) || decide (t.kind = 5)) = z
  cases z
  · rfl
  · simp only [Bool.true_and]
theorem rb_yes {j : Nat} (hj : j < 10) (h : rIs ts (ten.getD j zs) s = true) : rbegins ts s = true := by
  unfold rIs at h
  unfold rbegins
  simp only [Bool.and_eq_true] at h ⊢
  refine ⟨h.1, ?_⟩
  rw [isOf_ten]
  have h2 := h.2
  match j, hj with
  | 0, _ => rw [show isOf (rk ts s) [k_send] = true from h2]; rfl
  | 1, _ => rw [show isOf (rk ts s) [k_split] = true from h2]; simp
  | 2, _ => rw [show isOf (rk ts s) [k_cover] = true from h2]; simp
  | 3, _ => rw [show isOf (rk ts s) [k_wait] = true from h2]; simp
  | 4, _ => rw [show isOf (rk ts s) [k_block] = true from h2]; simp
  | 5, _ => rw [show isOf (rk ts s) [k_after] = true from h2]; simp
  | 6, _ => rw [show isOf (rk ts s) [k_repeat] = true from h2]; simp
  | 7, _ => rw [show isOf (rk ts s) [k_retry] = true from h2]; simp
  | 8, _ => rw [show isOf (rk ts s) [k_every] = true from h2]; simp
  | 9, _ => rw [show isOf (rk ts s) [k_if] = true from h2]; simp
theorem rb_no (h : ∀ j, j < 10 → rIs ts (ten.getD j zs) s = false) : rbegins ts s = false := by
  cases hb : s.bad
  · have e : ∀ T, rIs ts T s = isOf (rk ts s) [T] := fun T => by unfold rIs; rw [hb]; rfl
    unfold rbegins
    rw [hb, isOf_ten]
    have h0 := h 0 (by omega); have h1 := h 1 (by omega); have h2 := h 2 (by omega); have h3 := h 3 (by omega); have h4 := h 4 (by omega)
    have h5 := h 5 (by omega); have h6 := h 6 (by omega); have h7 := h 7 (by omega); have h8 := h 8 (by omega); have h9 := h 9 (by omega)
    rw [e] at h0 h1 h2 h3 h4 h5 h6 h7 h8 h9
    rw [show isOf (rk ts s) [k_send] = false from h0, show isOf (rk ts s) [k_split] = false from h1, show isOf (rk ts s) [k_cover] = false from h2, show isOf (rk ts s) [k_wait] = false from h3, show isOf (rk ts s) [k_block] = false from h4, show isOf (rk ts s) [k_after] = false from h5, show isOf (rk ts s) [k_repeat] = false from h6, show isOf (rk ts s) [k_retry] = false from h7, show isOf (rk ts s) [k_every] = false from h8, show isOf (rk ts s) [k_if] = false from h9]
    rfl
  · unfold rbegins; rw [hb]; rfl
end
section
variable {gp : Nat} {A : Option Addr} {n c : Nat} {ts : List Lx.Tok} {s : RS} {w w' : World}
set_option maxRecDepth 100000 in
set_option maxHeartbeats 2000000 in
theorem begins_c (cx : RCx gp A n ts) (h : RSt gp A n c ts s w) : Calls Tryz.prog 67 #[.pointer (some ⟨gp, 0, none⟩)] w fun e w' => e = .returned (.bool (rbegins ts s)) ∧ Below w.heap.size w w' := by
  have HI := Lib.hid (fun T W (h : RSt gp A n c ts s W) => is_c T cx h)
  have HW0 : Hid (RSt gp A n c ts s (w.alloc (.cells (strs ten).toArray 132)) ∧ Blk (w.alloc (.cells (strs ten).toArray 132)) w.heap.size 132 (strs ten) ∧ Below w.heap.size w (w.alloc (.cells (strs ten).toArray 132))) := ⟨h.alloc _, Blk.new _ _ _, (Below.refl _ _).alloc (Nat.le_refl _) _⟩
  have HY := Lib.hid (fun j hj h => @rb_yes ts s j hj h)
  have HN := Lib.hid (fun h => @rb_no ts s h)
  have HG : Hid (∀ (W : World) j, j < 10 → Blk W w.heap.size 132 (strs ten) → W.cell? ⟨w.heap.size, j, none⟩ = some (.string (ten.getD j zs)) ∧ w.heap.size < W.heap.size) := fun W j hj hb => by
    refine ⟨?_, hb.lt⟩
    rw [hb.cell]
    match j, hj with
    | 0, _ => rfl
    | 1, _ => rfl
    | 2, _ => rfl
    | 3, _ => rfl
    | 4, _ => rfl
    | 5, _ => rfl
    | 6, _ => rfl
    | 7, _ => rfl
    | 8, _ => rfl
    | 9, _ => rfl
  clear h cx
  go_enter Tryz.func67, Tryz.ntmps67
  go_wp2
  go_loopg [4] 10 (fun kk v wr => ∃ j : Nat, v = .int .i64 j ∧ kk + j = 10 ∧ (∀ k, k < j → rIs ts (ten.getD k zs) s = false) ∧ RSt gp A n c ts s wr ∧ Blk wr w.heap.size 132 (strs ten) ∧ Below w.heap.size w wr)
  case atStart => exact ⟨0, rfl, rfl, fun k hk => absurd hk (by omega), HW0.out⟩
  case round =>
    obtain ⟨j, rfl, hk, hno, hS, hb, hB⟩ := hrel
    have HS := Lib.hid (And.intro hS (And.intro hb hB))
    have HNO := Lib.hid hno
    clear hno hB hS HW0
    by_cases hj : j < 10
    · obtain ⟨hc, hgl⟩ := HG.out wr j hj hb
      have hj2 : (j : Int) < 10 := by omega
      have HIJ := Lib.hid (HI.out (ten.getD j zs) wr HS.out.1)
      have HNO1 := Lib.hid (fun hh : rIs ts (ten.getD j zs) s = false => (fun k (hk : k < j + 1) => (by
        rcases Nat.lt_or_ge k j with h5 | h5
        · exact HNO.out k h5
        · rw [show k = j by omega]; exact hh) : ∀ k, k < j + 1 → rIs ts (ten.getD k zs) s = false))
      have HYJ := Lib.hid (HY.out j hj)
      clear hb HY HN HI HNO HG
      generalize ten.getD j zs = T at *
      cases hz : rIs ts T s
      · rw [hz] at HIJ
        have HNO2 := Lib.hid (HNO1.out hz)
        clear hz HNO1 HYJ
        go_wp2_with (go_at_call 26; (refine (HIJ.out).mono ?_); rintro e1 w2 ⟨rfl, hB2⟩
                     have H2 : Hid (RSt gp A n c ts s w2 ∧ Blk w2 w.heap.size 132 (strs ten) ∧ Below w.heap.size w w2) := ⟨HS.out.1.below hB2, HS.out.2.1.below hB2 HS.out.2.1.lt, HS.out.2.2.trans (hB2.mono HS.out.2.2.size)⟩
                     clear hB2)
        go_roundg (gk - 1)
        case measure => omega
        case rel => exact ⟨j + 1, by simp, by omega, HNO2.out, H2.out⟩
      · rw [hz] at HIJ
        have HRT : Hid (rbegins ts s = true) := HYJ.out hz
        clear hz HNO1 HYJ
        go_wp2_with (go_at_call 26; (refine (HIJ.out).mono ?_); rintro e1 w2 ⟨rfl, hB2⟩
                     have H2 : Hid (Below w.heap.size w w2) := HS.out.2.2.trans (hB2.mono HS.out.2.2.size)
                     clear hB2)
        go_ret
        rw [HRT.out]
        exact ⟨rfl, H2.out⟩
    · have hj2 : ¬ (j : Int) < 10 := by omega
      have HRF : Hid (rbegins ts s = false) := HN.out (fun k hk => HNO.out k (by omega))
      clear hb
      go_wp2
      go_ret
      rw [HRF.out]
      exact ⟨rfl, HS.out.2.2⟩
def rviL (ts : List Lx.Tok) (b : Bool) (kk : Nat) (l : List Rf) (q : RS) : List Rf × RS := if b = true then rrefLoop ts kk l q else (l, q)
set_option maxRecDepth 100000 in
set_option maxHeartbeats 2000000 in
theorem routes_c (cx : RCx gp A n ts) (h : RSt gp A n c ts s w) (b : Bool) : Calls Tryz.prog 90 #[.pointer (some ⟨gp, 0, none⟩), .bool b] w fun e w' => ∃ A' c', e = .returned (.slice A' (rroutes ts b s).1.length c') ∧ RfsIn (Fr w.heap.size) w' A' (rroutes ts b s).1 ∧ RSt gp A n c ts (rroutes ts b s).2 w' ∧ Wr [gp] w w' := by
  have HRF := Lib.hid (fun q W (h : RSt gp A n c ts q W) => name_c cx h)
  have HAL := Lib.hid (fun q W (h : RSt gp A n c ts q W) => over_c m_comma cx h)
  have HT : Hid (rroutes ts b s = rviL ts b (ts.length + 1) [(rname ts s).1] (rname ts s).2) := (by show _ = _; unfold rroutes rviL; cases b <;> rfl)
  rw [HT.out]
  have HLO := Lib.hid (h.lo cx)
  have HH := Lib.hid h
  have HRF1 := Lib.hid (fun W (h : RSt gp A n c ts s W) => HRF.out _ W h)
  generalize (rname ts s).1 = X0 at *
  generalize (rname ts s).2 = q1 at *
  generalize hR : rviL ts b (ts.length + 1) [X0] q1 = R at *
  have HR := Lib.hid hR
  have HCX := Lib.hid cx
  clear h hR HT cx
  go_enter Tryz.func90, Tryz.ntmps90
  go_wp2_with (go_at_call 62; (refine (HRF1.out _ (by exact HH.out)).mono ?_); rintro e w3 ⟨rfl, h3, hW3⟩
               have HV0 : Hid (RVi gp A n c ts w [X0] (.slice (some ⟨w3.heap.size, 0, none⟩) 1 1) q1 (w3.alloc (.cells (rfC X0).toArray 36))) :=
                 ⟨h3.alloc _, hW3.alloc _, own_of_blk (cs := rfC X0) (Blk.new' rfl rfl) hW3.size 1 1 2 (by omega) (by simp [rfC_len]) (by omega), HLO.out⟩
               clear h3 hW3)
  have HTL := Lib.hid (fun (kk : Nat) (l : List Rf) (q : RS) => (⟨rfl, fun h => (by rw [rviL, if_pos rfl, rrefLoop, if_neg (by rw [h]; simp)]), fun h => (by rw [rviL, if_pos rfl, rviL, if_pos rfl, rrefLoop, if_pos h])⟩ : (rviL ts false (kk + 1) l q = (l, q)) ∧ (rIs ts m_comma q = false → rviL ts true (kk + 1) l q = (l, q)) ∧ (rIs ts m_comma q = true → rviL ts true (kk + 1) l q = rviL ts true kk (l ++ [(rname ts (rnx q)).1]) (rname ts (rnx q)).2)))
  clear HRF1 HH
  go_loopg [5] ts.length (fun kk v wr => ∃ (l : List Rf) (q : RS), RVi gp A n c ts w l v q wr ∧ ts.length ≤ kk + q.i ∧ rviL ts b (kk + 1) l q = R ∧ l.length ≤ q.i + 1)
  case atStart => exact ⟨[X0], q1, HV0.out, by omega, HR.out, by simp⟩
  case round =>
    clear HV0 HR
    obtain ⟨l, q, hV, hk, hT, hl⟩ := hrel
    cases b
    · have HF := Lib.hid hV
      have HRR : Hid (R = (l, q)) := hT.symm.trans (HTL.out gk l q).1
      obtain ⟨A9, c9, rfl, hr9⟩ := hV.fin
      have HR9 := Lib.hid hr9
      clear hV hT hk hl hr9
      go_wp2_with fail
      go_ret
      rw [HRR.out]
      exact ⟨A9, c9, rfl, HR9.out, HF.out.st, HF.out.wr⟩
    · cases hs : rIs ts m_comma q
      · have HAL1 := HAL.out q _ hV.st
        have hA : rover ts m_comma q = q := by unfold rover; rw [hs]; rfl
        rw [hs, hA] at HAL1
        have HAL1 := Lib.hid HAL1
        have HRR : Hid (R = (l, q)) := hT.symm.trans ((HTL.out gk l q).2.1 hs)
        have HS := Lib.hid hV
        obtain ⟨A9, c9, rfl, _⟩ := hV.fin
        clear hV hT hk hl hs hA
        go_wp2_with (go_at_call 65; (refine (HAL1.out).mono ?_); rintro e w2 ⟨rfl, h2, hW2⟩
                     have HS2 := Lib.hid (HS.out.call h2 hW2)
                     clear h2 hW2)
        obtain ⟨A8, c8, e8, hr8⟩ := HS2.out.fin
        injection e8 with e8 _ e9
        subst e8 e9
        go_ret
        rw [HRR.out]
        exact ⟨A9, c9, rfl, hr8, HS2.out.st, HS2.out.wr⟩
      · have HAL1 := HAL.out q _ hV.st
        have hA : rover ts m_comma q = rnx q := by unfold rover; rw [hs]; rfl
        rw [hs, hA] at HAL1
        have HAL1 := Lib.hid HAL1
        have hlt := rIs_lt HCX.out hs
        have HI3 : Hid (q.i + 1 ≤ (rname ts (rnx q)).2.i) := (rname_p (ts := ts) (rnx q)).le
        have HT2 := Lib.hid (((HTL.out gk l q).2.2 hs).symm.trans hT)
        have HKL := Lib.hid (And.intro hk (And.intro hlt hl))
        have HX := Lib.hid (fun W (h : RSt gp A n c ts (rnx q) W) => HRF.out _ W h)
        have HS := Lib.hid hV
        have hl8 : l.length ≤ 100000 := by have := HCX.out.hn; have := HCX.out.hn8; omega
        obtain ⟨A9, c9, rfl, _⟩ := hV.fin
        generalize (rname ts (rnx q)).1 = X at *
        generalize (rname ts (rnx q)).2 = q3 at *
        clear hV hT hk hl hs hA hlt
        go_wp2_with (first
          | (go_at_call 65; (refine (HAL1.out).mono ?_); rintro e w2 ⟨rfl, h2, hW2⟩
             have HS2 := Lib.hid (HS.out.call h2 hW2)
             clear h2 hW2)
          | (go_at_call 62; (refine (HX.out _ (by exact HS2.out.st)).mono ?_); rintro e w3 ⟨rfl, h3, hW3⟩
             have HS3 := Lib.hid (HS2.out.call h3 hW3)
             clear h3 hW3)
          | (at_builtin; refine wpList_app rfl (.tmp 14) (.tmp 17) 40 rfl w.heap.size 36 2 24 Tryz.underlying40 eRf (.slice A9 l.length c9) l.length (l.flatMap rfC) (by rfl) (by exact HS3.out.own.alloc _) (some ⟨w3.heap.size, 0, none⟩) 1 1 (rfC X) (by rfl) (by exact RdS.new w3 _ (rfC X) 2 rfl) (rfC_one X) (by omega) (by omega) (by have := HS3.out.wr.size; simp; omega) ?_
             intro A5 c5 w5 hown5 hc5 hg5 hat5
             have HS5 := Lib.hid (HS3.out.push (by exact hg5) hown5)
             clear hown5 hc5 hg5 hat5))
        have hk5 := HKL.out
        have hi5 := HI3.out
        have e5 : (l ++ [X]).length = l.length + 1 := by simp
        go_roundg (gk - 1)
        case measure => omega
        case rel => exact ⟨l ++ [X], q3, HS5.out, by omega, by rw [show gk - 1 + 1 = gk by omega]; exact HT2.out, by omega⟩
set_option maxRecDepth 100000 in
set_option maxHeartbeats 4000000 in
theorem stmts_c (cx : RCx gp A n ts) (st : RS → St × RS) (d : Nat) (hst : RStK gp A n c ts st (RQS d)) (hg : ∀ s, RP s (st s).2) (hcs : ∀ s, RQS d s → rbegins ts s = true → s.i + 1 ≤ (st s).2.i) : RBoK gp A n c ts 29 (rstmts ts st) (fun s => s.bad = false → RQS d s) := by
  intro s w h hq
  have HBG := Lib.hid (fun q W (h : RSt gp A n c ts q W) => begins_c cx h)
  have HLO := Lib.hid (h.lo cx)
  have HCX := Lib.hid cx
  have HST := Lib.hid (fun q W (h : RSt gp A n c ts q W) (hq : RQS d q) (hb : rbegins ts q = true) => hst q W h hq hb)
  have HQS : Hid (∀ q, RP s q → q.bad = false → RQS d q) := fun q k hb => (hq (k.okof hb)).rp k
  have HBS : Hid (RBd gp A n c ts w [] [] (.slice none 0 0) s w) := ⟨h, Wr.refl _ _, World.ownsRow_nil _ _ _ _, rfl, fun i s p h => by simp at h, h.lo cx⟩
  generalize hR : rstmts ts st s = R
  have HR : Hid (rstmtsLoop ts st (ts.length + 1) [] s = R) := hR
  have HBL := Lib.hid (fun (kk : Nat) (l : List St) (q : RS) => (⟨fun h => (by rw [rstmtsLoop, if_neg (by rw [h]; simp)]), fun h => (by rw [rstmtsLoop, if_pos h])⟩ : (rbegins ts q = false → rstmtsLoop ts st (kk + 1) l q = (l, q)) ∧ (rbegins ts q = true → rstmtsLoop ts st (kk + 1) l q = rstmtsLoop ts st kk (l ++ [(st q).1]) (st q).2)))
  clear h hq hR cx
  go_enter Tryz.func29, Tryz.ntmps29
  go_wp2
  go_loopg [3] ts.length (fun kk v wr => ∃ (l : List St) (sl : List StA) (q : RS), RBd gp A n c ts w l sl v q wr ∧ ts.length ≤ kk + q.i ∧ rstmtsLoop ts st (kk + 1) l q = R ∧ l.length ≤ q.i ∧ RP s q)
  case atStart => exact ⟨[], [], s, HBS.out, by omega, HR.out, by simp, RP.refl _⟩
  case round =>
    clear HBS HR
    obtain ⟨l, sl, q, hB, hk, hT, hl, hpg⟩ := hrel
    have HB := Lib.hid hB
    obtain ⟨A9, c9, rfl, _⟩ := hB.fin
    have HBQ := Lib.hid (fun W h => HBG.out q W h)
    cases hs : rbegins ts q
    · rw [hs] at HBQ
      have HRR : Hid (R = (l, q)) := hT.symm.trans ((HBL.out gk l q).1 hs)
      clear hB hk hT hl hpg hs HBL HBG HST HQS
      go_wp2_with (go_at_call 67; (refine (HBQ.out _ (by exact HB.out.st)).mono ?_); rintro e w2 ⟨rfl, hB2⟩; have HB2 := Lib.hid (HB.out.call (HB.out.st.below hB2) (Wr.of_below hB2)); clear hB2)
      go_ret
      rw [HRR.out]
      obtain ⟨A8, c8, e8, hr8⟩ := HB2.out.fin
      injection e8 with e8 _ e9
      subst e8 e9
      exact ⟨A9, c9, rfl, hr8, HB2.out.st, HB2.out.wr⟩
    · rw [hs] at HBQ
      have hlt := hB.st.lt
      have HS1 := Lib.hid (fun W (h : RSt gp A n c ts q W) => HST.out q W h (HQS.out q hpg (rbegins_ok hs)) hs)
      have HT3 := Lib.hid (((HBL.out gk l q).2 hs).symm.trans hT)
      have HI3 : Hid (q.i + 1 ≤ (st q).2.i) := hcs q (HQS.out q hpg (rbegins_ok hs)) hs
      have HP3 := Lib.hid (hpg.trans (hg q))
      have HK3 := Lib.hid (And.intro hk (And.intro hl hlt))
      have hl8 : l.length ≤ 100000 := by have := HCX.out.hn; have := HCX.out.hn8; omega
      generalize (st q).1 = X at *
      generalize (st q).2 = q3 at *
      clear hB hk hT hl hpg hs HBL HBG HST HQS hlt
      go_wp2_with (first
        | (go_at_call 67; (refine (HBQ.out _ (by exact HB.out.st)).mono ?_); rintro e w2 ⟨rfl, hB2⟩; have HB2 := Lib.hid (HB.out.call (HB.out.st.below hB2) (Wr.of_below hB2)); clear hB2)
        | (go_at_call 68; (refine (HS1.out _ (by exact HB2.out.st)).mono ?_); rintro e w8 ⟨y, rfl, hy, h8, hW8⟩; have HY8 := Lib.hid (HB2.out.fr (Nat.le_refl _) hy); have HB8 := Lib.hid (HB2.out.call h8 hW8); clear hy h8 hW8)
        | (refine wpList_one1 rfl 24 42 (.tmp 8) rfl (stC X y) (by rfl) Tryz.underlying24 (by exact oneSt X y) (by rw [stC_len]; omega) (by rw [stC_len]; omega) ?_)
        | (at_builtin; refine wpList_app rfl (.tmp 6) (.tmp 9) 24 rfl w.heap.size 42 26 384 Tryz.underlying24 eSt (.slice A9 l.length c9) l.length (zipC stC l sl) (by rfl) (by exact HB8.out.own.alloc _) (some ⟨w8.heap.size, 0, none⟩) 1 1 (stC X y) (by rfl) (by exact RdS.new w8 _ (stC X y) 26 rfl) (stC_one X y) (by omega) (by omega) (by have := HB8.out.wr.size; simp; omega) ?_
           intro A5 c5 w9 hown5 hc5 hg5 hat5
           have HB9 := Lib.hid (HB8.out.push HY8.out hg5 hown5 hat5)
           clear hown5 hc5 hg5 hat5))
      have hk5 := HK3.out
      have hi5 := HI3.out
      have e5 : (l ++ [X]).length = l.length + 1 := by simp
      go_roundg (gk - 1)
      case measure => omega
      case rel => exact ⟨l ++ [X], sl ++ [y], q3, HB9.out, by omega, by rw [show gk - 1 + 1 = gk by omega]; exact HT3.out, by omega, HP3.out⟩
end
end Go.Proofs.YtafjkbbiaopemaaGreatDoor.Tr
