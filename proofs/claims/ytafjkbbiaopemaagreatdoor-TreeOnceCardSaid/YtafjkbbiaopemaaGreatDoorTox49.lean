/- Part of the proof: Tar, Tat. -/
import Derived.Test.YtafjkbbiaopemaaGreatDoorTox16
import Derived.Test.YtafjkbbiaopemaaGreatDoorTox36
import Derived.Test.YtafjkbbiaopemaaGreatDoorTox48
set_option linter.unusedVariables false
namespace Go.Proofs.YtafjkbbiaopemaaGreatDoor.Tr
open Go.RowKit
theorem RQ.up {d : Nat} {s : RS} (h : RQ d s) : RQ (d + 1) s := ⟨h.p0, h.p1, by omega, fun hq => ⟨(h.ok hq).1, by have := (h.ok hq).2; omega⟩⟩
def Fz (B g k : Nat) : Prop := B ≤ k ∧ k ≠ g
structure RPq (gp gt : Nat) (A : Option Addr) (n c : Nat) (ts : List Lx.Tok) (w0 : World) (T : Pl) (p : plA) (q : RS) (w : World) : Prop where
  st : RSt gp A n c ts q w
  wr : Wr [gp] w0 w
  e : Blk w gt 80 (plC T p)
  ar : PlIn (Fz w0.heap.size gt) w T p
  lo : RLo gp A w0.heap.size
  gl : w0.heap.size ≤ gt
section
variable {gp gt : Nat} {A : Option Addr} {n c : Nat} {ts : List Lx.Tok} {s q q' : RS} {w w' w0 : World} {T T' : Pl} {p p' : plA}
theorem RPq.call (h : RPq gp gt A n c ts w0 T p q w) (hs : RSt gp A n c ts q' w') (hW : Wr [gp] w w') : RPq gp gt A n c ts w0 T p q' w' :=
  ⟨hs, h.wr.trans hW, Blk.wrR h.e hW h.lo h.gl, h.ar.keep (hW.keep _ _ (fun k hk _ hm => by have h5 := h.lo.nin k hm; have h6 := hk.1; omega) (fun _ h _ => h)), h.lo, h.gl⟩
theorem RPq.put (h : RPq gp gt A n c ts w0 T p q w) (ho : Only w w' gt) (hb : Blk w' gt 80 (plC T' p')) (ha : PlIn (Fz w0.heap.size gt) w T' p') : RPq gp gt A n c ts w0 T' p' q w' :=
  ⟨h.st.only (h.lo.mono h.gl) (Nat.le_refl _) ho, Wr.newL h.wr (Wr.onlyg (L := [gt]) ho (by simp)) (fun g hg => .inr (by simp at hg; have := h.gl; omega)), hb,
    ha.keep ((Wr.onlyg (L := [gt]) ho (by simp)).keep _ _ (fun k hk _ hm => hk.2 (by simpa using hm)) (fun _ h _ => h)), h.lo, h.gl⟩
theorem RPq.fr (h : RPq gp gt A n c ts w0 T p q w) {W : World} {B : Option Addr} {es : List Ex} (ha : ArgsIn (Fr w.heap.size) W B es) : ArgsIn (Fz w0.heap.size gt) W B es :=
  ha.keep ⟨Nat.le_refl _, fun _ _ _ => rfl, fun k hk _ => ⟨by have := h.e.lt; have := h.gl; unfold Fr at hk; omega, by have := h.e.lt; unfold Fr at hk; omega⟩⟩
theorem RPq.all (h : RPq gp gt A n c ts w0 T p q w) : PlIn (Fr w0.heap.size) w T p := h.ar.keep ⟨Nat.le_refl _, fun _ _ _ => rfl, fun _ hk _ => hk.1⟩
end
section
variable {gp : Nat} {A : Option Addr} {n c : Nat} {ts : List Lx.Tok} {s q q' : RS} {w w' w0 : World}
attribute [local go_sem ↓] ldq_Dc ldq_Pl
theorem dlC_one (K : ByteArray) (N : Rf) (A : Option Addr) {m d : Nat} : ∀ v ∈ dlC K N (.slice A m d), v.oneCell' = true := by
  intro v hv
  simp only [dlC, List.mem_cons, List.not_mem_nil, or_false] at hv
  rcases hv with rfl | rfl | rfl | rfl | rfl | rfl | rfl | rfl | rfl <;> rfl
def RDeK (gp : Nat) (A : Option Addr) (n c : Nat) (ts : List Lx.Tok) (K : ByteArray) (s : RS) (w : World) : Prop :=
  Calls Tryz.prog 28 #[.pointer (some ⟨gp, 0, none⟩), .string K] w fun e w' => ∃ p : plA, e = .returned (.agg (dcC (rdecl ts K s).1 p).toArray) ∧ DcIn (Fr w.heap.size) w' (rdecl ts K s).1 p ∧ RSt gp A n c ts (rdecl ts K s).2 w' ∧ Wr [gp] w w'
set_option maxRecDepth 100000 in
set_option maxHeartbeats 2000000 in
theorem rdecl_let (cx : RCx gp A n ts) (h : RSt gp A n c ts s w) (hq : RQ 14 s) (K : ByteArray) (hK : K = k_let) : RDeK gp A n c ts K s w := by
  unfold RDeK
  have HNM0 := Lib.hid (fun q W (h : RSt gp A n c ts q W) => name_c cx h)
  have HNM := Lib.hid (fun W (h : RSt gp A n c ts s W) => HNM0.out s W h)
  have HE1 := Lib.hid (fun W (h : RSt gp A n c ts (rname ts s).2 W) => need_c m_eq cx h)
  have g3 : RP s (rneed ts m_eq (rname ts s).2) := (rname_p s).trans (rneed_p _ _)
  have HLO := Lib.hid (h.lo cx)
  have HH := Lib.hid (h.alloc (.cells (dcC zDc pl0).toArray 45))
  have hgl := h.b.lt
  have HGP : Hid (gp < w.heap.size) := hgl
  have HEX := Lib.hid (fun W (h : RSt gp A n c ts (rneed ts m_eq (rname ts s).2) W) => rexpr_all cx 14 _ W h (hq.rp g3))
  have HT2 := Lib.hid (fun W (h : RSt gp A n c ts (rexpr ts 14 (rneed ts m_eq (rname ts s).2)).2 W) => need_c m_semi cx h)
  have HT : Hid (rdecl ts K s = (⟨K, (rname ts s).1, (rexpr ts 14 (rneed ts m_eq (rname ts s).2)).1, []⟩, rneed ts m_semi (rexpr ts 14 (rneed ts m_eq (rname ts s).2)).2)) := by show _ = _; unfold rdecl; dsimp only; rw [if_pos hK]
  rw [HT.out]
  clear h hq g3 HT HNM0 cx
  generalize (rexpr ts 14 (rneed ts m_eq (rname ts s).2)).1 = E at *
  generalize (rexpr ts 14 (rneed ts m_eq (rname ts s).2)).2 = q4 at *
  generalize rneed ts m_eq (rname ts s).2 = q3 at *
  generalize (rname ts s).1 = X at *
  generalize (rname ts s).2 = q2 at *
  subst hK
  go_enter Tryz.func28, Tryz.ntmps28
  go_wp2_with (first
    | (go_at_call 64; (refine (HEX.out _ (by exact HP6.out.st)).mono ?_); rintro e w7 ⟨a7, rfl, ha7, h7, hW7⟩; have HE7 := Lib.hid (RDe.fr HP6.out ha7); have HP7 := Lib.hid (HP6.out.call h7 hW7); clear ha7 h7 hW7)
    | (refine wpList_store rfl 39 (.tmp 18) (.tmp 17) rfl (w.heap.size + 1) 3 (exC E a7) (by rfl) (by rfl) 45 (dcC ⟨k_let, X, zE, []⟩ pl0) (by exact HP7.out.e) hdEx (exC_one E a7) (by show 3 + 5 ≤ 9; omega) ?_; intro w8 hb8 ho8; have HP8 : Hid (RDe gp (w.heap.size + 1) A n c ts w ⟨k_let, X, E, []⟩ (a7, pl0.2) q4 w8) := HP7.out.put ho8 (by exact hb8) ⟨HE7.out, HP7.out.ar.2⟩; clear hb8 ho8)
    | (go_at_call 63; (with_reducible refine (HT2.out _ (by exact HP8.out.st)).mono ?_); rintro e w9 ⟨rfl, h9, hW9⟩; have HP9 := Lib.hid (HP8.out.call h9 hW9); have hl9 := ldAt_run HP9.out.e 45 0 (dcC ⟨k_let, X, E, []⟩ (a7, pl0.2)) rfl _ Tryz.underlying45 rfl hdDc; clear h9 hW9)
    | (refine wpList_store_all rfl 45 (.tmp 4) (.tmp 21) rfl w.heap.size (dcC ⟨k_let, X, E, []⟩ (a7, pl0.2)) (by rfl) (by rfl) 45 (dcC zDc pl0) (by exact HP9.out.z) hdDc (dcC_one _ _) rfl ?_; intro w10 hb10 ho10)
    | (go_at_call 63; (with_reducible refine (HE1.out _ (by exact HP5.out.st)).mono ?_); rintro e w6 ⟨rfl, h6, hW6⟩; have HP6 := Lib.hid (HP5.out.call h6 hW6); clear h6 hW6)
    | (go_at_call 62; (with_reducible refine (HNM.out _ (by exact HP3.out.st)).mono ?_); rintro e w4 ⟨rfl, h4, hW4⟩; have HP4 := Lib.hid (HP3.out.call h4 hW4); clear h4 hW4)
    | (refine wpList_store rfl 36 (.tmp 11) (.tmp 10) rfl (w.heap.size + 1) 1 (rfC X) (by rfl) (by rfl) 45 (dcC ⟨k_let, zR, zE, []⟩ pl0) (by exact HP4.out.e) hdRf (rfC_one X) (by show 1 + 2 ≤ 9; omega) ?_; intro w5 hb5 ho5; have HP5 : Hid (RDe gp (w.heap.size + 1) A n c ts w ⟨k_let, X, zE, []⟩ pl0 q2 w5) := HP4.out.put ho5 (by exact hb5) HP4.out.ar; clear hb5 ho5)
    | refine wpList_build rfl 45 [(0, .tmp 7)] rfl _ (by rfl) _ (bld_Dc _ _) ?_
    | (refine wpList_store_all rfl 45 (.tmp 5) (.tmp 8) rfl (w.heap.size + 1) (dcC ⟨k_let, zR, zE, []⟩ pl0) (by rfl) (by rfl) 45 (dcC zDc pl0) (by exact Blk.new' (by simp) rfl) hdDc (dcC_one _ _) rfl ?_; intro w3 hb3 ho3; have HP3 : Hid (RDe gp (w.heap.size + 1) A n c ts w ⟨k_let, zR, zE, []⟩ pl0 s w3) := ⟨(HH.out.alloc _).only HLO.out (Nat.le_succ _) ho3, Wr.newL (((Wr.refl [gp] w).alloc _).alloc _) (Wr.onlyg (L := [w.heap.size + 1]) ho3 (by simp)) (fun g hg => .inr (by simp at hg; omega)), ho3.blk ((Blk.new w _ _).alloc _) (by omega), hb3, DcIn.zero _ _ _ _, HLO.out, Nat.lt_succ_self _⟩; clear hb3 ho3))
  obtain ⟨e1, e2, e3⟩ := HP9.out.fin ho10
  exact bodyPost_ret (res_c rfl _ w.heap.size 45 (dcC ⟨k_let, X, E, []⟩ (a7, pl0.2)) rfl hb10 _ Tryz.underlying45 rfl hdDc) rfl ⟨(a7, pl0.2), rfl, e1, e2, e3⟩
set_option maxRecDepth 100000 in
set_option maxHeartbeats 8000000 in
theorem rdecl_route (cx : RCx gp A n ts) (h : RSt gp A n c ts s w) (hq : RQ 14 s) (K : ByteArray) (hK : K = k_route) : RDeK gp A n c ts K s w := by
  unfold RDeK
  have HNM0 := Lib.hid (fun q W (h : RSt gp A n c ts q W) => name_c cx h)
  have HNM := Lib.hid (fun W (h : RSt gp A n c ts s W) => HNM0.out s W h)
  have HE1 := Lib.hid (fun W (h : RSt gp A n c ts (rname ts s).2 W) => need_c m_eq cx h)
  have g3 : RP s (rneed ts m_eq (rname ts s).2) := (rname_p s).trans (rneed_p _ _)
  have HLO := Lib.hid (h.lo cx)
  have HH := Lib.hid (h.alloc (.cells (dcC zDc pl0).toArray 45))
  have hgl := h.b.lt
  have HGP : Hid (gp < w.heap.size) := hgl
  have HAT := Lib.hid (fun q W (h : RSt gp A n c ts q W) (hq : RQ 14 q) => ratom_all cx 14 q W h hq.up)
  have HOV := Lib.hid (fun T q W (h : RSt gp A n c ts q W) => over_c T cx h)
  have HT2 := Lib.hid (fun q W (h : RSt gp A n c ts q W) => need_c m_semi cx h)
  have HT : Hid (rdecl ts K s = (⟨K, (rname ts s).1, zE, (rplaceLoop ts (ts.length + 2) [] (rneed ts m_eq (rname ts s).2)).1⟩, rneed ts m_semi (rplaceLoop ts (ts.length + 2) [] (rneed ts m_eq (rname ts s).2)).2)) := by show _ = _; unfold rdecl; dsimp only; rw [if_neg (by rw [hK]; decide)]
  rw [HT.out]
  have HQ8 := Lib.hid (hq.rp g3)
  have HCX := Lib.hid cx
  have HRV : Hid (∀ T q, rover ts T q = if rIs ts T q then rnx q else q) := fun T q => rfl
  clear h hq g3 HT cx
  generalize rneed ts m_eq (rname ts s).2 = q3 at *
  generalize (rname ts s).1 = X at *
  generalize (rname ts s).2 = q2 at *
  generalize hRR : rplaceLoop ts (ts.length + 2) [] q3 = R at *
  have HRR := Lib.hid hRR
  clear hRR
  subst hK
  have HTL := Lib.hid (fun (kk : Nat) (l : List Pl) (q : RS) => (⟨fun h => (by rw [rplaceLoop, if_pos h]), fun h h2 => (by rw [rplaceLoop, if_neg (by rw [h]; simp), if_neg (by rw [h2]; simp)]), fun h h2 => (by rw [rplaceLoop, if_neg (by rw [h]; simp), if_pos h2])⟩ : (q.bad = true → rplaceLoop ts (kk + 1) l q = (l, q)) ∧ (q.bad = false → rIs ts m_gt (rplace ts q).2 = false → rplaceLoop ts (kk + 1) l q = (l ++ [(rplace ts q).1], (rplace ts q).2)) ∧ (q.bad = false → rIs ts m_gt (rplace ts q).2 = true → rplaceLoop ts (kk + 1) l q = rplaceLoop ts kk (l ++ [(rplace ts q).1]) (rnx (rplace ts q).2))))
  go_enter Tryz.func28, Tryz.ntmps28
  go_upto_region 8 with (first
    | (go_at_call 63; (with_reducible refine (HE1.out _ (by exact HP5.out.st)).mono ?_); rintro e w6 ⟨rfl, h6, hW6⟩; have HP6 := Lib.hid (HP5.out.call h6 hW6); clear h6 hW6)
    | (go_at_call 62; (with_reducible refine (HNM.out _ (by exact HP3.out.st)).mono ?_); rintro e w4 ⟨rfl, h4, hW4⟩; have HP4 := Lib.hid (HP3.out.call h4 hW4); clear h4 hW4)
    | (refine wpList_store rfl 36 (.tmp 11) (.tmp 10) rfl (w.heap.size + 1) 1 (rfC X) (by rfl) (by rfl) 45 (dcC ⟨k_route, zR, zE, []⟩ pl0) (by exact HP4.out.e) hdRf (rfC_one X) (by show 1 + 2 ≤ 9; omega) ?_; intro w5 hb5 ho5; have HP5 : Hid (RDe gp (w.heap.size + 1) A n c ts w ⟨k_route, X, zE, []⟩ pl0 q2 w5) := HP4.out.put ho5 (by exact hb5) HP4.out.ar; clear hb5 ho5)
    | refine wpList_build rfl 45 [(0, .tmp 7)] rfl _ (by rfl) _ (bld_Dc _ _) ?_
    | (refine wpList_store_all rfl 45 (.tmp 5) (.tmp 8) rfl (w.heap.size + 1) (dcC ⟨k_route, zR, zE, []⟩ pl0) (by rfl) (by rfl) 45 (dcC zDc pl0) (by exact Blk.new' (by simp) rfl) hdDc (dcC_one _ _) rfl ?_; intro w3 hb3 ho3; have HP3 : Hid (RDe gp (w.heap.size + 1) A n c ts w ⟨k_route, zR, zE, []⟩ pl0 s w3) := ⟨(HH.out.alloc _).only HLO.out (Nat.le_succ _) ho3, Wr.newL (((Wr.refl [gp] w).alloc _).alloc _) (Wr.onlyg (L := [w.heap.size + 1]) ho3 (by simp)) (fun g hg => .inr (by simp at hg; omega)), ho3.blk ((Blk.new w _ _).alloc _) (by omega), hb3, DcIn.zero _ _ _ _, HLO.out, Nat.lt_succ_self _⟩; clear hb3 ho3))
  obtain ⟨G, hG⟩ : ∃ G, G = w.heap.size + 1 := ⟨_, rfl⟩
  rw [← hG] at HP6
  rw [← hG]
  have J5 : Hid (RDl gp A n c ts w G k_route X [] [] (.slice none 0 0) q3 w6) := ⟨HP6.out.st, HP6.out.wr, HP6.out.z, HP6.out.e, World.ownsRow_nil _ _ _ _, rfl, fun k hk => (by cases hk), fun i e a h1 _ => (by simp at h1), HP6.out.gl, HP6.out.lo⟩
  clear HP3 HP4 HP5 HP6 HNM HE1 HH hG
  go_loopg [6] (ts.length + 1) (fun kk v6 wr => ∃ (l : List Pl) (sl : List plA) (A1 : Option Addr) (c1 : Nat) (q : RS), RDl gp A n c ts w G k_route X l sl (.slice A1 l.length c1) q wr ∧ ts.length ≤ kk + q.i ∧ l.length ≤ q.i ∧ rplaceLoop ts (kk + 1) l q = R ∧ RQ 14 q)
  case atStart => exact ⟨[], [], none, 0, q3, J5.out, by omega, by simp, HRR.out, HQ8.out⟩
  case round =>
    clear J5 HRR HQ8
    obtain ⟨l, sl, A1, c1, q, hS, hk, hll, hT, hQ⟩ := hrel
    have g4 : wr.cell? ⟨gp, 4, none⟩ = some (.bool q.bad) := hS.st.b.cell 4
    have gl4 := hS.st.b.lt
    have hgG : gp ≠ G := by have := hS.lt; have := HGP.out; omega
    cases hs : q.bad
    · have HS := Lib.hid hS
      rw [hs] at g4
      have hlt := hS.st.lt
      have hl9 : l.length ≤ 100000 := by have h1 := HCX.out.hn; have h2 := HCX.out.hn8; omega
      have HQ3 := Lib.hid (hQ.rp (rplace_p (ts := ts) q))
      have HI3 : Hid (q.i ≤ (rplace ts q).2.i) := (rplace_p (ts := ts) q).le
      have HT1 := Lib.hid (fun h2 => ((HTL.out gk l q).2.1 hs h2).symm.trans hT)
      have HT3 := Lib.hid (fun h2 => ((HTL.out gk l q).2.2 hs h2).symm.trans hT)
      have HKL := Lib.hid (And.intro hk (And.intro hlt hll))
      have HOC2 := Lib.hid (fun W (h : RSt gp A n c ts (rplace ts q).2 W) => HOV.out m_gt (rplace ts q).2 W h)
      have HTT := Lib.hid (fun W (h : RSt gp A n c ts (rplace ts q).2 W) => HT2.out (rplace ts q).2 W h)
      have HPL : Hid (rplace ts q = (⟨(rname ts q).1, (if rIs ts m_at (rname ts q).2 then ratom ts (rexpr ts 14) (rnx (rname ts q).2) else (zE, (rname ts q).2)).1, (if rIs ts m_ex (if rIs ts m_at (rname ts q).2 then ratom ts (rexpr ts 14) (rnx (rname ts q).2) else (zE, (rname ts q).2)).2 then ratom ts (rexpr ts 14) (rnx (if rIs ts m_at (rname ts q).2 then ratom ts (rexpr ts 14) (rnx (rname ts q).2) else (zE, (rname ts q).2)).2) else (zE, (if rIs ts m_at (rname ts q).2 then ratom ts (rexpr ts 14) (rnx (rname ts q).2) else (zE, (rname ts q).2)).2)).1⟩, (if rIs ts m_ex (if rIs ts m_at (rname ts q).2 then ratom ts (rexpr ts 14) (rnx (rname ts q).2) else (zE, (rname ts q).2)).2 then ratom ts (rexpr ts 14) (rnx (if rIs ts m_at (rname ts q).2 then ratom ts (rexpr ts 14) (rnx (rname ts q).2) else (zE, (rname ts q).2)).2) else (zE, (if rIs ts m_at (rname ts q).2 then ratom ts (rexpr ts 14) (rnx (rname ts q).2) else (zE, (rname ts q).2)).2)).2)) := rfl
      have HNQ := Lib.hid (fun W (h : RSt gp A n c ts q W) => HNM0.out q W h)
      have HQ1 := Lib.hid (hQ.rp (rname_p (ts := ts) q))
      rw [HPL.out] at HQ3 HI3 HT1 HT3 HOC2 HTT
      clear hS hk hll hT hQ hs HTL hlt HPL HNM0 HT2
      generalize (rname ts q).1 = N1 at *
      generalize (rname ts q).2 = q1 at *
      cases h1 : rIs ts m_at q1
      · have xA := fun W h => HOV.out m_at q1 W h
        rw [HRV.out, h1] at xA
        simp only [h1, Bool.false_eq_true, if_false] at xA HQ3 HI3 HT1 HT3 HOC2 HTT
        have HQB := Lib.hid HQ1.out
        have HA1 := Lib.hid xA
        clear xA
        cases h2 : rIs ts m_ex q1
        · have xB := fun W h => HOV.out m_ex q1 W h
          rw [HRV.out, h2] at xB
          simp only [h2, Bool.false_eq_true, if_false] at xB HQ3 HI3 HT1 HT3 HOC2 HTT
          have HA2 := Lib.hid xB
          clear xB
          cases h3 : rIs ts m_gt q1
          · have xG := fun W h => HOC2.out W h
            rw [HRV.out, h3] at xG
            simp only [Bool.false_eq_true, if_false] at xG
            have HTG : Hid (R = _) := (HT1.out h3).symm
            have HOG := Lib.hid xG
            clear xG HT1 HT3 h1 h2 h3 HOC2 HRV HOV HAT
            go_wp2_with (first
              | (refine wpList_store_all rfl 45 (.tmp 4) (.tmp 51) rfl w.heap.size (dlC k_route X (.slice A7 (l.length + 1) c7)) (by rfl) (by rfl) 45 (dcC zDc pl0) (by exact HS14.out.z) hdDc (dlC_one _ _ _) rfl ?_; intro w15 hb15 ho15)
              | (go_at_call 63; (with_reducible refine (HTT.out _ (by exact HS13.out.st)).mono ?_); rintro e w14 ⟨rfl, h14, hW14⟩
                 have HS14 := Lib.hid (HS13.out.call h14 hW14)
                 have hl14 := ldAt_run HS14.out.e 45 0 (dlC k_route X (.slice A7 (l.length + 1) c7)) rfl _ Tryz.underlying45 rfl hdDc
                 clear h14 hW14)
              | (go_at_call 65; (with_reducible refine (HOG.out _ (by exact HP12.out.st)).mono ?_); rintro e w13 ⟨rfl, h13, hW13⟩; have HS13 := Lib.hid (HP12.out.call h13 hW13); clear h13 hW13)
              | (at_builtin; refine wpList_app rfl (.tmp 41) (.tmp 43) 43 rfl (w.heap.size + 1) 80 12 168 Tryz.underlying43 ePl (.slice A1 l.length c1) l.length (zipC plC l sl) (by rfl) (by exact HS11.out.own.alloc _) (some ⟨w8.heap.size, 0, none⟩) 1 1 (plC ⟨N1, zE, zE⟩ pl0) (by rfl) (by exact RdS.new w8 _ (plC ⟨N1, zE, zE⟩ pl0) 12 rfl) (plC_one _ _) (by omega) (by omega) (by have := HS11.out.wr.size; simp; omega) ?_
                 intro A7 c7 w12 hown7 hc7 hg7 hat7
                 have hb12 := (HS11.out.e.alloc (.cells (plC ⟨N1, zE, zE⟩ pl0).toArray 80)).grown (by exact hg7) (fun e => HS11.out.ob _ e.symm rfl)
                 have c12 := hb12.cell 8
                 have f12 := hb12.frozen 8
                 have G12 := hb12.lt
                 have HP12 := Lib.hid (HS11.out.push HY11.out (by exact hg7) hown7 hat7)
                 clear hown7 hc7 hg7 hat7 hb12)
              | (refine wpList_one1 rfl 43 80 (.tmp 42) rfl (plC ⟨N1, zE, zE⟩ pl0) (by rfl) Tryz.underlying43 (by exact onePl ⟨N1, zE, zE⟩ pl0) (by rw [plC_len]; omega) (by rw [plC_len]; omega) ?_)
              | (go_at_call 65; (with_reducible refine (HA2.out _ (by exact HP5.out.st)).mono ?_); rintro e w8 ⟨rfl, h8, hW8⟩; have HP8 := Lib.hid (HP5.out.call h8 hW8); have HS11 := Lib.hid (HS.out.call HP8.out.st HP8.out.wr); have HY11 := Lib.hid (RDl.fr HS.out (Nat.le_refl _) HP8.out.all); have hl11 := ldAt_run HP8.out.e 80 0 (plC ⟨N1, zE, zE⟩ pl0) rfl _ Tryz.underlying80 rfl hdPl; have c11 : w8.cell? ⟨G, 8, none⟩ = some (.slice A1 l.length c1) := HS11.out.e.cell 8; have G11 : G < w8.heap.size := HS11.out.e.lt; clear h8 hW8)
              | (go_at_call 65; (with_reducible refine (HA1.out _ (by exact HP4.out.st)).mono ?_); rintro e w5 ⟨rfl, h5, hW5⟩; have HP5 := Lib.hid (HP4.out.call h5 hW5); clear h5 hW5)
              | (refine wpList_store_all rfl 80 (.tmp 6) (.tmp 29) rfl w3.heap.size (plC ⟨N1, zE, zE⟩ pl0) (by rfl) (by rfl) 80 (plC zPl pl0) (by exact Blk.new' rfl rfl) hdPl (plC_one _ _) rfl ?_; intro w4 hb4 ho4; have HP4 : Hid (RPq gp w3.heap.size A n c ts wr ⟨N1, zE, zE⟩ pl0 q1 w4) := ⟨(H3.out.1.alloc _).only (HLO.out.mono HS.out.wr.size) H3.out.2.size ho4, Wr.newL (H3.out.2.alloc _) (Wr.onlyg (L := [w3.heap.size]) ho4 (by simp)) (fun g hg => .inr (by simp at hg; have := H3.out.2.size; omega)), hb4, PlIn.zero _ _ _, HLO.out.mono HS.out.wr.size, H3.out.2.size⟩; clear hb4 ho4)
              | refine wpList_build rfl 80 [(0, .tmp 28)] rfl _ (by rfl) _ (bld_Pl N1 _) ?_
              | (go_at_call 62; (with_reducible refine (HNQ.out _ (by exact HS.out.st)).mono ?_); rintro e w3 ⟨rfl, h3, hW3⟩; have H3 := Lib.hid (And.intro h3 hW3); clear h3 hW3))
            have hlen : l.length + 1 = (l ++ [(⟨N1, zE, zE⟩ : Pl)]).length := by simp
            rw [hlen] at HS14 hb15
            obtain ⟨e1, e2, e3⟩ := HS14.out.fin ho15
            refine bodyPost_ret (res_c rfl _ w.heap.size 45 (dcC ⟨k_route, X, zE, l ++ [(⟨N1, zE, zE⟩ : Pl)]⟩ ((none, 0), (A7, c7))) rfl hb15 _ Tryz.underlying45 rfl hdDc) rfl ?_
            rw [HTG.out]
            exact ⟨((none, 0), (A7, c7)), rfl, e1, e2, e3⟩
          · have xG := fun W h => HOC2.out W h
            rw [HRV.out, h3] at xG
            simp only [if_true] at xG
            have HTG := Lib.hid (HT3.out h3)
            have hlt3 := rIs_lt HCX.out h3
            have HOG := Lib.hid xG
            clear xG HT1 HT3 h1 h2 h3 HOC2 HRV HOV HAT
            go_wp2_with (first
              | (go_at_call 65; (with_reducible refine (HOG.out _ (by exact HP12.out.st)).mono ?_); rintro e w13 ⟨rfl, h13, hW13⟩; have HS13 := Lib.hid (HP12.out.call h13 hW13); clear h13 hW13)
              | (at_builtin; refine wpList_app rfl (.tmp 41) (.tmp 43) 43 rfl (w.heap.size + 1) 80 12 168 Tryz.underlying43 ePl (.slice A1 l.length c1) l.length (zipC plC l sl) (by rfl) (by exact HS11.out.own.alloc _) (some ⟨w8.heap.size, 0, none⟩) 1 1 (plC ⟨N1, zE, zE⟩ pl0) (by rfl) (by exact RdS.new w8 _ (plC ⟨N1, zE, zE⟩ pl0) 12 rfl) (plC_one _ _) (by omega) (by omega) (by have := HS11.out.wr.size; simp; omega) ?_
                 intro A7 c7 w12 hown7 hc7 hg7 hat7
                 have hb12 := (HS11.out.e.alloc (.cells (plC ⟨N1, zE, zE⟩ pl0).toArray 80)).grown (by exact hg7) (fun e => HS11.out.ob _ e.symm rfl)
                 have c12 := hb12.cell 8
                 have f12 := hb12.frozen 8
                 have G12 := hb12.lt
                 have HP12 := Lib.hid (HS11.out.push HY11.out (by exact hg7) hown7 hat7)
                 clear hown7 hc7 hg7 hat7 hb12)
              | (refine wpList_one1 rfl 43 80 (.tmp 42) rfl (plC ⟨N1, zE, zE⟩ pl0) (by rfl) Tryz.underlying43 (by exact onePl ⟨N1, zE, zE⟩ pl0) (by rw [plC_len]; omega) (by rw [plC_len]; omega) ?_)
              | (go_at_call 65; (with_reducible refine (HA2.out _ (by exact HP5.out.st)).mono ?_); rintro e w8 ⟨rfl, h8, hW8⟩; have HP8 := Lib.hid (HP5.out.call h8 hW8); have HS11 := Lib.hid (HS.out.call HP8.out.st HP8.out.wr); have HY11 := Lib.hid (RDl.fr HS.out (Nat.le_refl _) HP8.out.all); have hl11 := ldAt_run HP8.out.e 80 0 (plC ⟨N1, zE, zE⟩ pl0) rfl _ Tryz.underlying80 rfl hdPl; have c11 : w8.cell? ⟨G, 8, none⟩ = some (.slice A1 l.length c1) := HS11.out.e.cell 8; have G11 : G < w8.heap.size := HS11.out.e.lt; clear h8 hW8)
              | (go_at_call 65; (with_reducible refine (HA1.out _ (by exact HP4.out.st)).mono ?_); rintro e w5 ⟨rfl, h5, hW5⟩; have HP5 := Lib.hid (HP4.out.call h5 hW5); clear h5 hW5)
              | (refine wpList_store_all rfl 80 (.tmp 6) (.tmp 29) rfl w3.heap.size (plC ⟨N1, zE, zE⟩ pl0) (by rfl) (by rfl) 80 (plC zPl pl0) (by exact Blk.new' rfl rfl) hdPl (plC_one _ _) rfl ?_; intro w4 hb4 ho4; have HP4 : Hid (RPq gp w3.heap.size A n c ts wr ⟨N1, zE, zE⟩ pl0 q1 w4) := ⟨(H3.out.1.alloc _).only (HLO.out.mono HS.out.wr.size) H3.out.2.size ho4, Wr.newL (H3.out.2.alloc _) (Wr.onlyg (L := [w3.heap.size]) ho4 (by simp)) (fun g hg => .inr (by simp at hg; have := H3.out.2.size; omega)), hb4, PlIn.zero _ _ _, HLO.out.mono HS.out.wr.size, H3.out.2.size⟩; clear hb4 ho4)
              | refine wpList_build rfl 80 [(0, .tmp 28)] rfl _ (by rfl) _ (bld_Pl N1 _) ?_
              | (go_at_call 62; (with_reducible refine (HNQ.out _ (by exact HS.out.st)).mono ?_); rintro e w3 ⟨rfl, h3, hW3⟩; have H3 := Lib.hid (And.intro h3 hW3); clear h3 hW3))
            have hk5 := HKL.out
            have hi5 := HI3.out
            have hi6 : (rnx q1).i = q1.i + 1 := rfl
            go_roundg (gk - 1)
            case measure => omega
            case rel => exact ⟨l ++ [⟨N1, zE, zE⟩], sl ++ [pl0], A7, c7, rnx q1, by rw [List.length_append]; exact HS13.out, by omega, by rw [List.length_append, List.length_singleton]; omega, by rw [show gk - 1 + 1 = gk by omega]; exact HTG.out, HQ3.out.rp rnx_p⟩
        · have xB := fun W h => HOV.out m_ex q1 W h
          rw [HRV.out, h2] at xB
          simp only [h2, if_true] at xB HQ3 HI3 HT1 HT3 HOC2 HTT
          have HQC : RQ 14 (rnx q1) := HQB.out.rp rnx_p
          have HD2 := Lib.hid (fun W (h : RSt gp A n c ts (rnx q1) W) => HAT.out (rnx q1) W h HQC)
          generalize (ratom ts (rexpr ts 14) (rnx q1)).1 = E2 at *
          generalize (ratom ts (rexpr ts 14) (rnx q1)).2 = qx at *
          have HA2 := Lib.hid xB
          clear xB
          cases h3 : rIs ts m_gt qx
          · have xG := fun W h => HOC2.out W h
            rw [HRV.out, h3] at xG
            simp only [Bool.false_eq_true, if_false] at xG
            have HTG : Hid (R = _) := (HT1.out h3).symm
            have HOG := Lib.hid xG
            clear xG HT1 HT3 h1 h2 h3 HOC2 HRV HOV HAT
            go_wp2_with (first
              | (refine wpList_store_all rfl 45 (.tmp 4) (.tmp 51) rfl w.heap.size (dlC k_route X (.slice A7 (l.length + 1) c7)) (by rfl) (by rfl) 45 (dcC zDc pl0) (by exact HS14.out.z) hdDc (dlC_one _ _ _) rfl ?_; intro w15 hb15 ho15)
              | (go_at_call 63; (with_reducible refine (HTT.out _ (by exact HS13.out.st)).mono ?_); rintro e w14 ⟨rfl, h14, hW14⟩
                 have HS14 := Lib.hid (HS13.out.call h14 hW14)
                 have hl14 := ldAt_run HS14.out.e 45 0 (dlC k_route X (.slice A7 (l.length + 1) c7)) rfl _ Tryz.underlying45 rfl hdDc
                 clear h14 hW14)
              | (go_at_call 65; (with_reducible refine (HOG.out _ (by exact HP12.out.st)).mono ?_); rintro e w13 ⟨rfl, h13, hW13⟩; have HS13 := Lib.hid (HP12.out.call h13 hW13); clear h13 hW13)
              | (at_builtin; refine wpList_app rfl (.tmp 41) (.tmp 43) 43 rfl (w.heap.size + 1) 80 12 168 Tryz.underlying43 ePl (.slice A1 l.length c1) l.length (zipC plC l sl) (by rfl) (by exact HS11.out.own.alloc _) (some ⟨w10.heap.size, 0, none⟩) 1 1 (plC ⟨N1, zE, E2⟩ (pl0.1, a8)) (by rfl) (by exact RdS.new w10 _ (plC ⟨N1, zE, E2⟩ (pl0.1, a8)) 12 rfl) (plC_one _ _) (by omega) (by omega) (by have := HS11.out.wr.size; simp; omega) ?_
                 intro A7 c7 w12 hown7 hc7 hg7 hat7
                 have hb12 := (HS11.out.e.alloc (.cells (plC ⟨N1, zE, E2⟩ (pl0.1, a8)).toArray 80)).grown (by exact hg7) (fun e => HS11.out.ob _ e.symm rfl)
                 have c12 := hb12.cell 8
                 have f12 := hb12.frozen 8
                 have G12 := hb12.lt
                 have HP12 := Lib.hid (HS11.out.push HY11.out (by exact hg7) hown7 hat7)
                 clear hown7 hc7 hg7 hat7 hb12)
              | (refine wpList_one1 rfl 43 80 (.tmp 42) rfl (plC ⟨N1, zE, E2⟩ (pl0.1, a8)) (by rfl) Tryz.underlying43 (by exact onePl ⟨N1, zE, E2⟩ (pl0.1, a8)) (by rw [plC_len]; omega) (by rw [plC_len]; omega) ?_)
              | (refine wpList_store rfl 39 (.tmp 39) (.tmp 38) rfl w3.heap.size 7 (exC E2 a8) (by rfl) (by rfl) 80 (plC ⟨N1, zE, zE⟩ pl0) (by exact HP9.out.e) hdEx (exC_one E2 a8) (by show 7 + 5 ≤ 12; omega) ?_; intro w10 hb10 ho10; have HP10 : Hid (RPq gp w3.heap.size A n c ts wr ⟨N1, zE, E2⟩ (pl0.1, a8) qx w10) := HP9.out.put ho10 (by exact hb10) ⟨HP9.out.ar.1, HE9.out⟩; have HS11 := Lib.hid (HS.out.call HP10.out.st HP10.out.wr); have HY11 := Lib.hid (RDl.fr HS.out (Nat.le_refl _) HP10.out.all); have hl11 := ldAt_run HP10.out.e 80 0 (plC ⟨N1, zE, E2⟩ (pl0.1, a8)) rfl _ Tryz.underlying80 rfl hdPl; have c11 : w10.cell? ⟨G, 8, none⟩ = some (.slice A1 l.length c1) := HS11.out.e.cell 8; have G11 : G < w10.heap.size := HS11.out.e.lt; clear hb10 ho10)
              | (go_at_call 66; (with_reducible refine (HD2.out _ (by exact HP8.out.st)).mono ?_); rintro e w9 ⟨a8, rfl, ha9, h9, hW9⟩; have HE9 := Lib.hid (RPq.fr HP8.out ha9); have HP9 := Lib.hid (HP8.out.call h9 hW9); clear ha9 h9 hW9)
              | (go_at_call 65; (with_reducible refine (HA2.out _ (by exact HP5.out.st)).mono ?_); rintro e w8 ⟨rfl, h8, hW8⟩; have HP8 := Lib.hid (HP5.out.call h8 hW8); clear h8 hW8)
              | (go_at_call 65; (with_reducible refine (HA1.out _ (by exact HP4.out.st)).mono ?_); rintro e w5 ⟨rfl, h5, hW5⟩; have HP5 := Lib.hid (HP4.out.call h5 hW5); clear h5 hW5)
              | (refine wpList_store_all rfl 80 (.tmp 6) (.tmp 29) rfl w3.heap.size (plC ⟨N1, zE, zE⟩ pl0) (by rfl) (by rfl) 80 (plC zPl pl0) (by exact Blk.new' rfl rfl) hdPl (plC_one _ _) rfl ?_; intro w4 hb4 ho4; have HP4 : Hid (RPq gp w3.heap.size A n c ts wr ⟨N1, zE, zE⟩ pl0 q1 w4) := ⟨(H3.out.1.alloc _).only (HLO.out.mono HS.out.wr.size) H3.out.2.size ho4, Wr.newL (H3.out.2.alloc _) (Wr.onlyg (L := [w3.heap.size]) ho4 (by simp)) (fun g hg => .inr (by simp at hg; have := H3.out.2.size; omega)), hb4, PlIn.zero _ _ _, HLO.out.mono HS.out.wr.size, H3.out.2.size⟩; clear hb4 ho4)
              | refine wpList_build rfl 80 [(0, .tmp 28)] rfl _ (by rfl) _ (bld_Pl N1 _) ?_
              | (go_at_call 62; (with_reducible refine (HNQ.out _ (by exact HS.out.st)).mono ?_); rintro e w3 ⟨rfl, h3, hW3⟩; have H3 := Lib.hid (And.intro h3 hW3); clear h3 hW3))
            have hlen : l.length + 1 = (l ++ [(⟨N1, zE, E2⟩ : Pl)]).length := by simp
            rw [hlen] at HS14 hb15
            obtain ⟨e1, e2, e3⟩ := HS14.out.fin ho15
            refine bodyPost_ret (res_c rfl _ w.heap.size 45 (dcC ⟨k_route, X, zE, l ++ [(⟨N1, zE, E2⟩ : Pl)]⟩ ((none, 0), (A7, c7))) rfl hb15 _ Tryz.underlying45 rfl hdDc) rfl ?_
            rw [HTG.out]
            exact ⟨((none, 0), (A7, c7)), rfl, e1, e2, e3⟩
          · have xG := fun W h => HOC2.out W h
            rw [HRV.out, h3] at xG
            simp only [if_true] at xG
            have HTG := Lib.hid (HT3.out h3)
            have hlt3 := rIs_lt HCX.out h3
            have HOG := Lib.hid xG
            clear xG HT1 HT3 h1 h2 h3 HOC2 HRV HOV HAT
            go_wp2_with (first
              | (go_at_call 65; (with_reducible refine (HOG.out _ (by exact HP12.out.st)).mono ?_); rintro e w13 ⟨rfl, h13, hW13⟩; have HS13 := Lib.hid (HP12.out.call h13 hW13); clear h13 hW13)
              | (at_builtin; refine wpList_app rfl (.tmp 41) (.tmp 43) 43 rfl (w.heap.size + 1) 80 12 168 Tryz.underlying43 ePl (.slice A1 l.length c1) l.length (zipC plC l sl) (by rfl) (by exact HS11.out.own.alloc _) (some ⟨w10.heap.size, 0, none⟩) 1 1 (plC ⟨N1, zE, E2⟩ (pl0.1, a8)) (by rfl) (by exact RdS.new w10 _ (plC ⟨N1, zE, E2⟩ (pl0.1, a8)) 12 rfl) (plC_one _ _) (by omega) (by omega) (by have := HS11.out.wr.size; simp; omega) ?_
                 intro A7 c7 w12 hown7 hc7 hg7 hat7
                 have hb12 := (HS11.out.e.alloc (.cells (plC ⟨N1, zE, E2⟩ (pl0.1, a8)).toArray 80)).grown (by exact hg7) (fun e => HS11.out.ob _ e.symm rfl)
                 have c12 := hb12.cell 8
                 have f12 := hb12.frozen 8
                 have G12 := hb12.lt
                 have HP12 := Lib.hid (HS11.out.push HY11.out (by exact hg7) hown7 hat7)
                 clear hown7 hc7 hg7 hat7 hb12)
              | (refine wpList_one1 rfl 43 80 (.tmp 42) rfl (plC ⟨N1, zE, E2⟩ (pl0.1, a8)) (by rfl) Tryz.underlying43 (by exact onePl ⟨N1, zE, E2⟩ (pl0.1, a8)) (by rw [plC_len]; omega) (by rw [plC_len]; omega) ?_)
              | (refine wpList_store rfl 39 (.tmp 39) (.tmp 38) rfl w3.heap.size 7 (exC E2 a8) (by rfl) (by rfl) 80 (plC ⟨N1, zE, zE⟩ pl0) (by exact HP9.out.e) hdEx (exC_one E2 a8) (by show 7 + 5 ≤ 12; omega) ?_; intro w10 hb10 ho10; have HP10 : Hid (RPq gp w3.heap.size A n c ts wr ⟨N1, zE, E2⟩ (pl0.1, a8) qx w10) := HP9.out.put ho10 (by exact hb10) ⟨HP9.out.ar.1, HE9.out⟩; have HS11 := Lib.hid (HS.out.call HP10.out.st HP10.out.wr); have HY11 := Lib.hid (RDl.fr HS.out (Nat.le_refl _) HP10.out.all); have hl11 := ldAt_run HP10.out.e 80 0 (plC ⟨N1, zE, E2⟩ (pl0.1, a8)) rfl _ Tryz.underlying80 rfl hdPl; have c11 : w10.cell? ⟨G, 8, none⟩ = some (.slice A1 l.length c1) := HS11.out.e.cell 8; have G11 : G < w10.heap.size := HS11.out.e.lt; clear hb10 ho10)
              | (go_at_call 66; (with_reducible refine (HD2.out _ (by exact HP8.out.st)).mono ?_); rintro e w9 ⟨a8, rfl, ha9, h9, hW9⟩; have HE9 := Lib.hid (RPq.fr HP8.out ha9); have HP9 := Lib.hid (HP8.out.call h9 hW9); clear ha9 h9 hW9)
              | (go_at_call 65; (with_reducible refine (HA2.out _ (by exact HP5.out.st)).mono ?_); rintro e w8 ⟨rfl, h8, hW8⟩; have HP8 := Lib.hid (HP5.out.call h8 hW8); clear h8 hW8)
              | (go_at_call 65; (with_reducible refine (HA1.out _ (by exact HP4.out.st)).mono ?_); rintro e w5 ⟨rfl, h5, hW5⟩; have HP5 := Lib.hid (HP4.out.call h5 hW5); clear h5 hW5)
              | (refine wpList_store_all rfl 80 (.tmp 6) (.tmp 29) rfl w3.heap.size (plC ⟨N1, zE, zE⟩ pl0) (by rfl) (by rfl) 80 (plC zPl pl0) (by exact Blk.new' rfl rfl) hdPl (plC_one _ _) rfl ?_; intro w4 hb4 ho4; have HP4 : Hid (RPq gp w3.heap.size A n c ts wr ⟨N1, zE, zE⟩ pl0 q1 w4) := ⟨(H3.out.1.alloc _).only (HLO.out.mono HS.out.wr.size) H3.out.2.size ho4, Wr.newL (H3.out.2.alloc _) (Wr.onlyg (L := [w3.heap.size]) ho4 (by simp)) (fun g hg => .inr (by simp at hg; have := H3.out.2.size; omega)), hb4, PlIn.zero _ _ _, HLO.out.mono HS.out.wr.size, H3.out.2.size⟩; clear hb4 ho4)
              | refine wpList_build rfl 80 [(0, .tmp 28)] rfl _ (by rfl) _ (bld_Pl N1 _) ?_
              | (go_at_call 62; (with_reducible refine (HNQ.out _ (by exact HS.out.st)).mono ?_); rintro e w3 ⟨rfl, h3, hW3⟩; have H3 := Lib.hid (And.intro h3 hW3); clear h3 hW3))
            have hk5 := HKL.out
            have hi5 := HI3.out
            have hi6 : (rnx qx).i = qx.i + 1 := rfl
            go_roundg (gk - 1)
            case measure => omega
            case rel => exact ⟨l ++ [⟨N1, zE, E2⟩], sl ++ [(pl0.1, a8)], A7, c7, rnx qx, by rw [List.length_append]; exact HS13.out, by omega, by rw [List.length_append, List.length_singleton]; omega, by rw [show gk - 1 + 1 = gk by omega]; exact HTG.out, HQ3.out.rp rnx_p⟩
      
      · have xA := fun W h => HOV.out m_at q1 W h
        rw [HRV.out, h1] at xA
        simp only [h1, if_true] at xA HQ3 HI3 HT1 HT3 HOC2 HTT
        have HQA : RQ 14 (rnx q1) := HQ1.out.rp rnx_p
        have HD1 := Lib.hid (fun W (h : RSt gp A n c ts (rnx q1) W) => HAT.out (rnx q1) W h HQA)
        have HQB := Lib.hid (HQA.rp (ratom14_p (ts := ts) (rnx q1)))
        generalize (ratom ts (rexpr ts 14) (rnx q1)).1 = E1 at *
        generalize (ratom ts (rexpr ts 14) (rnx q1)).2 = qa at *
        have HA1 := Lib.hid xA
        clear xA
        cases h2 : rIs ts m_ex qa
        · have xB := fun W h => HOV.out m_ex qa W h
          rw [HRV.out, h2] at xB
          simp only [h2, Bool.false_eq_true, if_false] at xB HQ3 HI3 HT1 HT3 HOC2 HTT
          have HA2 := Lib.hid xB
          clear xB
          cases h3 : rIs ts m_gt qa
          · have xG := fun W h => HOC2.out W h
            rw [HRV.out, h3] at xG
            simp only [Bool.false_eq_true, if_false] at xG
            have HTG : Hid (R = _) := (HT1.out h3).symm
            have HOG := Lib.hid xG
            clear xG HT1 HT3 h1 h2 h3 HOC2 HRV HOV HAT
            go_wp2_with (first
              | (refine wpList_store_all rfl 45 (.tmp 4) (.tmp 51) rfl w.heap.size (dlC k_route X (.slice A7 (l.length + 1) c7)) (by rfl) (by rfl) 45 (dcC zDc pl0) (by exact HS14.out.z) hdDc (dlC_one _ _ _) rfl ?_; intro w15 hb15 ho15)
              | (go_at_call 63; (with_reducible refine (HTT.out _ (by exact HS13.out.st)).mono ?_); rintro e w14 ⟨rfl, h14, hW14⟩
                 have HS14 := Lib.hid (HS13.out.call h14 hW14)
                 have hl14 := ldAt_run HS14.out.e 45 0 (dlC k_route X (.slice A7 (l.length + 1) c7)) rfl _ Tryz.underlying45 rfl hdDc
                 clear h14 hW14)
              | (go_at_call 65; (with_reducible refine (HOG.out _ (by exact HP12.out.st)).mono ?_); rintro e w13 ⟨rfl, h13, hW13⟩; have HS13 := Lib.hid (HP12.out.call h13 hW13); clear h13 hW13)
              | (at_builtin; refine wpList_app rfl (.tmp 41) (.tmp 43) 43 rfl (w.heap.size + 1) 80 12 168 Tryz.underlying43 ePl (.slice A1 l.length c1) l.length (zipC plC l sl) (by rfl) (by exact HS11.out.own.alloc _) (some ⟨w8.heap.size, 0, none⟩) 1 1 (plC ⟨N1, E1, zE⟩ (a6, pl0.2)) (by rfl) (by exact RdS.new w8 _ (plC ⟨N1, E1, zE⟩ (a6, pl0.2)) 12 rfl) (plC_one _ _) (by omega) (by omega) (by have := HS11.out.wr.size; simp; omega) ?_
                 intro A7 c7 w12 hown7 hc7 hg7 hat7
                 have hb12 := (HS11.out.e.alloc (.cells (plC ⟨N1, E1, zE⟩ (a6, pl0.2)).toArray 80)).grown (by exact hg7) (fun e => HS11.out.ob _ e.symm rfl)
                 have c12 := hb12.cell 8
                 have f12 := hb12.frozen 8
                 have G12 := hb12.lt
                 have HP12 := Lib.hid (HS11.out.push HY11.out (by exact hg7) hown7 hat7)
                 clear hown7 hc7 hg7 hat7 hb12)
              | (refine wpList_one1 rfl 43 80 (.tmp 42) rfl (plC ⟨N1, E1, zE⟩ (a6, pl0.2)) (by rfl) Tryz.underlying43 (by exact onePl ⟨N1, E1, zE⟩ (a6, pl0.2)) (by rw [plC_len]; omega) (by rw [plC_len]; omega) ?_)
              | (go_at_call 65; (with_reducible refine (HA2.out _ (by exact HP7.out.st)).mono ?_); rintro e w8 ⟨rfl, h8, hW8⟩; have HP8 := Lib.hid (HP7.out.call h8 hW8); have HS11 := Lib.hid (HS.out.call HP8.out.st HP8.out.wr); have HY11 := Lib.hid (RDl.fr HS.out (Nat.le_refl _) HP8.out.all); have hl11 := ldAt_run HP8.out.e 80 0 (plC ⟨N1, E1, zE⟩ (a6, pl0.2)) rfl _ Tryz.underlying80 rfl hdPl; have c11 : w8.cell? ⟨G, 8, none⟩ = some (.slice A1 l.length c1) := HS11.out.e.cell 8; have G11 : G < w8.heap.size := HS11.out.e.lt; clear h8 hW8)
              | (refine wpList_store rfl 39 (.tmp 34) (.tmp 33) rfl w3.heap.size 2 (exC E1 a6) (by rfl) (by rfl) 80 (plC ⟨N1, zE, zE⟩ pl0) (by exact HP6.out.e) hdEx (exC_one E1 a6) (by show 2 + 5 ≤ 12; omega) ?_; intro w7 hb7 ho7; have HP7 : Hid (RPq gp w3.heap.size A n c ts wr ⟨N1, E1, zE⟩ (a6, pl0.2) qa w7) := HP6.out.put ho7 (by exact hb7) ⟨HE6.out, HP6.out.ar.2⟩; clear hb7 ho7)
              | (go_at_call 66; (with_reducible refine (HD1.out _ (by exact HP5.out.st)).mono ?_); rintro e w6 ⟨a6, rfl, ha6, h6, hW6⟩; have HE6 := Lib.hid (RPq.fr HP5.out ha6); have HP6 := Lib.hid (HP5.out.call h6 hW6); clear ha6 h6 hW6)
              | (go_at_call 65; (with_reducible refine (HA1.out _ (by exact HP4.out.st)).mono ?_); rintro e w5 ⟨rfl, h5, hW5⟩; have HP5 := Lib.hid (HP4.out.call h5 hW5); clear h5 hW5)
              | (refine wpList_store_all rfl 80 (.tmp 6) (.tmp 29) rfl w3.heap.size (plC ⟨N1, zE, zE⟩ pl0) (by rfl) (by rfl) 80 (plC zPl pl0) (by exact Blk.new' rfl rfl) hdPl (plC_one _ _) rfl ?_; intro w4 hb4 ho4; have HP4 : Hid (RPq gp w3.heap.size A n c ts wr ⟨N1, zE, zE⟩ pl0 q1 w4) := ⟨(H3.out.1.alloc _).only (HLO.out.mono HS.out.wr.size) H3.out.2.size ho4, Wr.newL (H3.out.2.alloc _) (Wr.onlyg (L := [w3.heap.size]) ho4 (by simp)) (fun g hg => .inr (by simp at hg; have := H3.out.2.size; omega)), hb4, PlIn.zero _ _ _, HLO.out.mono HS.out.wr.size, H3.out.2.size⟩; clear hb4 ho4)
              | refine wpList_build rfl 80 [(0, .tmp 28)] rfl _ (by rfl) _ (bld_Pl N1 _) ?_
              | (go_at_call 62; (with_reducible refine (HNQ.out _ (by exact HS.out.st)).mono ?_); rintro e w3 ⟨rfl, h3, hW3⟩; have H3 := Lib.hid (And.intro h3 hW3); clear h3 hW3))
            have hlen : l.length + 1 = (l ++ [(⟨N1, E1, zE⟩ : Pl)]).length := by simp
            rw [hlen] at HS14 hb15
            obtain ⟨e1, e2, e3⟩ := HS14.out.fin ho15
            refine bodyPost_ret (res_c rfl _ w.heap.size 45 (dcC ⟨k_route, X, zE, l ++ [(⟨N1, E1, zE⟩ : Pl)]⟩ ((none, 0), (A7, c7))) rfl hb15 _ Tryz.underlying45 rfl hdDc) rfl ?_
            rw [HTG.out]
            exact ⟨((none, 0), (A7, c7)), rfl, e1, e2, e3⟩
          · have xG := fun W h => HOC2.out W h
            rw [HRV.out, h3] at xG
            simp only [if_true] at xG
            have HTG := Lib.hid (HT3.out h3)
            have hlt3 := rIs_lt HCX.out h3
            have HOG := Lib.hid xG
            clear xG HT1 HT3 h1 h2 h3 HOC2 HRV HOV HAT
            go_wp2_with (first
              | (go_at_call 65; (with_reducible refine (HOG.out _ (by exact HP12.out.st)).mono ?_); rintro e w13 ⟨rfl, h13, hW13⟩; have HS13 := Lib.hid (HP12.out.call h13 hW13); clear h13 hW13)
              | (at_builtin; refine wpList_app rfl (.tmp 41) (.tmp 43) 43 rfl (w.heap.size + 1) 80 12 168 Tryz.underlying43 ePl (.slice A1 l.length c1) l.length (zipC plC l sl) (by rfl) (by exact HS11.out.own.alloc _) (some ⟨w8.heap.size, 0, none⟩) 1 1 (plC ⟨N1, E1, zE⟩ (a6, pl0.2)) (by rfl) (by exact RdS.new w8 _ (plC ⟨N1, E1, zE⟩ (a6, pl0.2)) 12 rfl) (plC_one _ _) (by omega) (by omega) (by have := HS11.out.wr.size; simp; omega) ?_
                 intro A7 c7 w12 hown7 hc7 hg7 hat7
                 have hb12 := (HS11.out.e.alloc (.cells (plC ⟨N1, E1, zE⟩ (a6, pl0.2)).toArray 80)).grown (by exact hg7) (fun e => HS11.out.ob _ e.symm rfl)
                 have c12 := hb12.cell 8
                 have f12 := hb12.frozen 8
                 have G12 := hb12.lt
                 have HP12 := Lib.hid (HS11.out.push HY11.out (by exact hg7) hown7 hat7)
                 clear hown7 hc7 hg7 hat7 hb12)
              | (refine wpList_one1 rfl 43 80 (.tmp 42) rfl (plC ⟨N1, E1, zE⟩ (a6, pl0.2)) (by rfl) Tryz.underlying43 (by exact onePl ⟨N1, E1, zE⟩ (a6, pl0.2)) (by rw [plC_len]; omega) (by rw [plC_len]; omega) ?_)
              | (go_at_call 65; (with_reducible refine (HA2.out _ (by exact HP7.out.st)).mono ?_); rintro e w8 ⟨rfl, h8, hW8⟩; have HP8 := Lib.hid (HP7.out.call h8 hW8); have HS11 := Lib.hid (HS.out.call HP8.out.st HP8.out.wr); have HY11 := Lib.hid (RDl.fr HS.out (Nat.le_refl _) HP8.out.all); have hl11 := ldAt_run HP8.out.e 80 0 (plC ⟨N1, E1, zE⟩ (a6, pl0.2)) rfl _ Tryz.underlying80 rfl hdPl; have c11 : w8.cell? ⟨G, 8, none⟩ = some (.slice A1 l.length c1) := HS11.out.e.cell 8; have G11 : G < w8.heap.size := HS11.out.e.lt; clear h8 hW8)
              | (refine wpList_store rfl 39 (.tmp 34) (.tmp 33) rfl w3.heap.size 2 (exC E1 a6) (by rfl) (by rfl) 80 (plC ⟨N1, zE, zE⟩ pl0) (by exact HP6.out.e) hdEx (exC_one E1 a6) (by show 2 + 5 ≤ 12; omega) ?_; intro w7 hb7 ho7; have HP7 : Hid (RPq gp w3.heap.size A n c ts wr ⟨N1, E1, zE⟩ (a6, pl0.2) qa w7) := HP6.out.put ho7 (by exact hb7) ⟨HE6.out, HP6.out.ar.2⟩; clear hb7 ho7)
              | (go_at_call 66; (with_reducible refine (HD1.out _ (by exact HP5.out.st)).mono ?_); rintro e w6 ⟨a6, rfl, ha6, h6, hW6⟩; have HE6 := Lib.hid (RPq.fr HP5.out ha6); have HP6 := Lib.hid (HP5.out.call h6 hW6); clear ha6 h6 hW6)
              | (go_at_call 65; (with_reducible refine (HA1.out _ (by exact HP4.out.st)).mono ?_); rintro e w5 ⟨rfl, h5, hW5⟩; have HP5 := Lib.hid (HP4.out.call h5 hW5); clear h5 hW5)
              | (refine wpList_store_all rfl 80 (.tmp 6) (.tmp 29) rfl w3.heap.size (plC ⟨N1, zE, zE⟩ pl0) (by rfl) (by rfl) 80 (plC zPl pl0) (by exact Blk.new' rfl rfl) hdPl (plC_one _ _) rfl ?_; intro w4 hb4 ho4; have HP4 : Hid (RPq gp w3.heap.size A n c ts wr ⟨N1, zE, zE⟩ pl0 q1 w4) := ⟨(H3.out.1.alloc _).only (HLO.out.mono HS.out.wr.size) H3.out.2.size ho4, Wr.newL (H3.out.2.alloc _) (Wr.onlyg (L := [w3.heap.size]) ho4 (by simp)) (fun g hg => .inr (by simp at hg; have := H3.out.2.size; omega)), hb4, PlIn.zero _ _ _, HLO.out.mono HS.out.wr.size, H3.out.2.size⟩; clear hb4 ho4)
              | refine wpList_build rfl 80 [(0, .tmp 28)] rfl _ (by rfl) _ (bld_Pl N1 _) ?_
              | (go_at_call 62; (with_reducible refine (HNQ.out _ (by exact HS.out.st)).mono ?_); rintro e w3 ⟨rfl, h3, hW3⟩; have H3 := Lib.hid (And.intro h3 hW3); clear h3 hW3))
            have hk5 := HKL.out
            have hi5 := HI3.out
            have hi6 : (rnx qa).i = qa.i + 1 := rfl
            go_roundg (gk - 1)
            case measure => omega
            case rel => exact ⟨l ++ [⟨N1, E1, zE⟩], sl ++ [(a6, pl0.2)], A7, c7, rnx qa, by rw [List.length_append]; exact HS13.out, by omega, by rw [List.length_append, List.length_singleton]; omega, by rw [show gk - 1 + 1 = gk by omega]; exact HTG.out, HQ3.out.rp rnx_p⟩
        · have xB := fun W h => HOV.out m_ex qa W h
          rw [HRV.out, h2] at xB
          simp only [h2, if_true] at xB HQ3 HI3 HT1 HT3 HOC2 HTT
          have HQC : RQ 14 (rnx qa) := HQB.out.rp rnx_p
          have HD2 := Lib.hid (fun W (h : RSt gp A n c ts (rnx qa) W) => HAT.out (rnx qa) W h HQC)
          generalize (ratom ts (rexpr ts 14) (rnx qa)).1 = E2 at *
          generalize (ratom ts (rexpr ts 14) (rnx qa)).2 = qx at *
          have HA2 := Lib.hid xB
          clear xB
          cases h3 : rIs ts m_gt qx
          · have xG := fun W h => HOC2.out W h
            rw [HRV.out, h3] at xG
            simp only [Bool.false_eq_true, if_false] at xG
            have HTG : Hid (R = _) := (HT1.out h3).symm
            have HOG := Lib.hid xG
            clear xG HT1 HT3 h1 h2 h3 HOC2 HRV HOV HAT
            go_wp2_with (first
              | (refine wpList_store_all rfl 45 (.tmp 4) (.tmp 51) rfl w.heap.size (dlC k_route X (.slice A7 (l.length + 1) c7)) (by rfl) (by rfl) 45 (dcC zDc pl0) (by exact HS14.out.z) hdDc (dlC_one _ _ _) rfl ?_; intro w15 hb15 ho15)
              | (go_at_call 63; (with_reducible refine (HTT.out _ (by exact HS13.out.st)).mono ?_); rintro e w14 ⟨rfl, h14, hW14⟩
                 have HS14 := Lib.hid (HS13.out.call h14 hW14)
                 have hl14 := ldAt_run HS14.out.e 45 0 (dlC k_route X (.slice A7 (l.length + 1) c7)) rfl _ Tryz.underlying45 rfl hdDc
                 clear h14 hW14)
              | (go_at_call 65; (with_reducible refine (HOG.out _ (by exact HP12.out.st)).mono ?_); rintro e w13 ⟨rfl, h13, hW13⟩; have HS13 := Lib.hid (HP12.out.call h13 hW13); clear h13 hW13)
              | (at_builtin; refine wpList_app rfl (.tmp 41) (.tmp 43) 43 rfl (w.heap.size + 1) 80 12 168 Tryz.underlying43 ePl (.slice A1 l.length c1) l.length (zipC plC l sl) (by rfl) (by exact HS11.out.own.alloc _) (some ⟨w10.heap.size, 0, none⟩) 1 1 (plC ⟨N1, E1, E2⟩ (a6, a8)) (by rfl) (by exact RdS.new w10 _ (plC ⟨N1, E1, E2⟩ (a6, a8)) 12 rfl) (plC_one _ _) (by omega) (by omega) (by have := HS11.out.wr.size; simp; omega) ?_
                 intro A7 c7 w12 hown7 hc7 hg7 hat7
                 have hb12 := (HS11.out.e.alloc (.cells (plC ⟨N1, E1, E2⟩ (a6, a8)).toArray 80)).grown (by exact hg7) (fun e => HS11.out.ob _ e.symm rfl)
                 have c12 := hb12.cell 8
                 have f12 := hb12.frozen 8
                 have G12 := hb12.lt
                 have HP12 := Lib.hid (HS11.out.push HY11.out (by exact hg7) hown7 hat7)
                 clear hown7 hc7 hg7 hat7 hb12)
              | (refine wpList_one1 rfl 43 80 (.tmp 42) rfl (plC ⟨N1, E1, E2⟩ (a6, a8)) (by rfl) Tryz.underlying43 (by exact onePl ⟨N1, E1, E2⟩ (a6, a8)) (by rw [plC_len]; omega) (by rw [plC_len]; omega) ?_)
              | (refine wpList_store rfl 39 (.tmp 39) (.tmp 38) rfl w3.heap.size 7 (exC E2 a8) (by rfl) (by rfl) 80 (plC ⟨N1, E1, zE⟩ (a6, pl0.2)) (by exact HP9.out.e) hdEx (exC_one E2 a8) (by show 7 + 5 ≤ 12; omega) ?_; intro w10 hb10 ho10; have HP10 : Hid (RPq gp w3.heap.size A n c ts wr ⟨N1, E1, E2⟩ (a6, a8) qx w10) := HP9.out.put ho10 (by exact hb10) ⟨HP9.out.ar.1, HE9.out⟩; have HS11 := Lib.hid (HS.out.call HP10.out.st HP10.out.wr); have HY11 := Lib.hid (RDl.fr HS.out (Nat.le_refl _) HP10.out.all); have hl11 := ldAt_run HP10.out.e 80 0 (plC ⟨N1, E1, E2⟩ (a6, a8)) rfl _ Tryz.underlying80 rfl hdPl; have c11 : w10.cell? ⟨G, 8, none⟩ = some (.slice A1 l.length c1) := HS11.out.e.cell 8; have G11 : G < w10.heap.size := HS11.out.e.lt; clear hb10 ho10)
              | (go_at_call 66; (with_reducible refine (HD2.out _ (by exact HP8.out.st)).mono ?_); rintro e w9 ⟨a8, rfl, ha9, h9, hW9⟩; have HE9 := Lib.hid (RPq.fr HP8.out ha9); have HP9 := Lib.hid (HP8.out.call h9 hW9); clear ha9 h9 hW9)
              | (go_at_call 65; (with_reducible refine (HA2.out _ (by exact HP7.out.st)).mono ?_); rintro e w8 ⟨rfl, h8, hW8⟩; have HP8 := Lib.hid (HP7.out.call h8 hW8); clear h8 hW8)
              | (refine wpList_store rfl 39 (.tmp 34) (.tmp 33) rfl w3.heap.size 2 (exC E1 a6) (by rfl) (by rfl) 80 (plC ⟨N1, zE, zE⟩ pl0) (by exact HP6.out.e) hdEx (exC_one E1 a6) (by show 2 + 5 ≤ 12; omega) ?_; intro w7 hb7 ho7; have HP7 : Hid (RPq gp w3.heap.size A n c ts wr ⟨N1, E1, zE⟩ (a6, pl0.2) qa w7) := HP6.out.put ho7 (by exact hb7) ⟨HE6.out, HP6.out.ar.2⟩; clear hb7 ho7)
              | (go_at_call 66; (with_reducible refine (HD1.out _ (by exact HP5.out.st)).mono ?_); rintro e w6 ⟨a6, rfl, ha6, h6, hW6⟩; have HE6 := Lib.hid (RPq.fr HP5.out ha6); have HP6 := Lib.hid (HP5.out.call h6 hW6); clear ha6 h6 hW6)
              | (go_at_call 65; (with_reducible refine (HA1.out _ (by exact HP4.out.st)).mono ?_); rintro e w5 ⟨rfl, h5, hW5⟩; have HP5 := Lib.hid (HP4.out.call h5 hW5); clear h5 hW5)
              | (refine wpList_store_all rfl 80 (.tmp 6) (.tmp 29) rfl w3.heap.size (plC ⟨N1, zE, zE⟩ pl0) (by rfl) (by rfl) 80 (plC zPl pl0) (by exact Blk.new' rfl rfl) hdPl (plC_one _ _) rfl ?_; intro w4 hb4 ho4; have HP4 : Hid (RPq gp w3.heap.size A n c ts wr ⟨N1, zE, zE⟩ pl0 q1 w4) := ⟨(H3.out.1.alloc _).only (HLO.out.mono HS.out.wr.size) H3.out.2.size ho4, Wr.newL (H3.out.2.alloc _) (Wr.onlyg (L := [w3.heap.size]) ho4 (by simp)) (fun g hg => .inr (by simp at hg; have := H3.out.2.size; omega)), hb4, PlIn.zero _ _ _, HLO.out.mono HS.out.wr.size, H3.out.2.size⟩; clear hb4 ho4)
              | refine wpList_build rfl 80 [(0, .tmp 28)] rfl _ (by rfl) _ (bld_Pl N1 _) ?_
              | (go_at_call 62; (with_reducible refine (HNQ.out _ (by exact HS.out.st)).mono ?_); rintro e w3 ⟨rfl, h3, hW3⟩; have H3 := Lib.hid (And.intro h3 hW3); clear h3 hW3))
            have hlen : l.length + 1 = (l ++ [(⟨N1, E1, E2⟩ : Pl)]).length := by simp
            rw [hlen] at HS14 hb15
            obtain ⟨e1, e2, e3⟩ := HS14.out.fin ho15
            refine bodyPost_ret (res_c rfl _ w.heap.size 45 (dcC ⟨k_route, X, zE, l ++ [(⟨N1, E1, E2⟩ : Pl)]⟩ ((none, 0), (A7, c7))) rfl hb15 _ Tryz.underlying45 rfl hdDc) rfl ?_
            rw [HTG.out]
            exact ⟨((none, 0), (A7, c7)), rfl, e1, e2, e3⟩
          · have xG := fun W h => HOC2.out W h
            rw [HRV.out, h3] at xG
            simp only [if_true] at xG
            have HTG := Lib.hid (HT3.out h3)
            have hlt3 := rIs_lt HCX.out h3
            have HOG := Lib.hid xG
            clear xG HT1 HT3 h1 h2 h3 HOC2 HRV HOV HAT
            go_wp2_with (first
              | (go_at_call 65; (with_reducible refine (HOG.out _ (by exact HP12.out.st)).mono ?_); rintro e w13 ⟨rfl, h13, hW13⟩; have HS13 := Lib.hid (HP12.out.call h13 hW13); clear h13 hW13)
              | (at_builtin; refine wpList_app rfl (.tmp 41) (.tmp 43) 43 rfl (w.heap.size + 1) 80 12 168 Tryz.underlying43 ePl (.slice A1 l.length c1) l.length (zipC plC l sl) (by rfl) (by exact HS11.out.own.alloc _) (some ⟨w10.heap.size, 0, none⟩) 1 1 (plC ⟨N1, E1, E2⟩ (a6, a8)) (by rfl) (by exact RdS.new w10 _ (plC ⟨N1, E1, E2⟩ (a6, a8)) 12 rfl) (plC_one _ _) (by omega) (by omega) (by have := HS11.out.wr.size; simp; omega) ?_
                 intro A7 c7 w12 hown7 hc7 hg7 hat7
                 have hb12 := (HS11.out.e.alloc (.cells (plC ⟨N1, E1, E2⟩ (a6, a8)).toArray 80)).grown (by exact hg7) (fun e => HS11.out.ob _ e.symm rfl)
                 have c12 := hb12.cell 8
                 have f12 := hb12.frozen 8
                 have G12 := hb12.lt
                 have HP12 := Lib.hid (HS11.out.push HY11.out (by exact hg7) hown7 hat7)
                 clear hown7 hc7 hg7 hat7 hb12)
              | (refine wpList_one1 rfl 43 80 (.tmp 42) rfl (plC ⟨N1, E1, E2⟩ (a6, a8)) (by rfl) Tryz.underlying43 (by exact onePl ⟨N1, E1, E2⟩ (a6, a8)) (by rw [plC_len]; omega) (by rw [plC_len]; omega) ?_)
              | (refine wpList_store rfl 39 (.tmp 39) (.tmp 38) rfl w3.heap.size 7 (exC E2 a8) (by rfl) (by rfl) 80 (plC ⟨N1, E1, zE⟩ (a6, pl0.2)) (by exact HP9.out.e) hdEx (exC_one E2 a8) (by show 7 + 5 ≤ 12; omega) ?_; intro w10 hb10 ho10; have HP10 : Hid (RPq gp w3.heap.size A n c ts wr ⟨N1, E1, E2⟩ (a6, a8) qx w10) := HP9.out.put ho10 (by exact hb10) ⟨HP9.out.ar.1, HE9.out⟩; have HS11 := Lib.hid (HS.out.call HP10.out.st HP10.out.wr); have HY11 := Lib.hid (RDl.fr HS.out (Nat.le_refl _) HP10.out.all); have hl11 := ldAt_run HP10.out.e 80 0 (plC ⟨N1, E1, E2⟩ (a6, a8)) rfl _ Tryz.underlying80 rfl hdPl; have c11 : w10.cell? ⟨G, 8, none⟩ = some (.slice A1 l.length c1) := HS11.out.e.cell 8; have G11 : G < w10.heap.size := HS11.out.e.lt; clear hb10 ho10)
              | (go_at_call 66; (with_reducible refine (HD2.out _ (by exact HP8.out.st)).mono ?_); rintro e w9 ⟨a8, rfl, ha9, h9, hW9⟩; have HE9 := Lib.hid (RPq.fr HP8.out ha9); have HP9 := Lib.hid (HP8.out.call h9 hW9); clear ha9 h9 hW9)
              | (go_at_call 65; (with_reducible refine (HA2.out _ (by exact HP7.out.st)).mono ?_); rintro e w8 ⟨rfl, h8, hW8⟩; have HP8 := Lib.hid (HP7.out.call h8 hW8); clear h8 hW8)
              | (refine wpList_store rfl 39 (.tmp 34) (.tmp 33) rfl w3.heap.size 2 (exC E1 a6) (by rfl) (by rfl) 80 (plC ⟨N1, zE, zE⟩ pl0) (by exact HP6.out.e) hdEx (exC_one E1 a6) (by show 2 + 5 ≤ 12; omega) ?_; intro w7 hb7 ho7; have HP7 : Hid (RPq gp w3.heap.size A n c ts wr ⟨N1, E1, zE⟩ (a6, pl0.2) qa w7) := HP6.out.put ho7 (by exact hb7) ⟨HE6.out, HP6.out.ar.2⟩; clear hb7 ho7)
              | (go_at_call 66; (with_reducible refine (HD1.out _ (by exact HP5.out.st)).mono ?_); rintro e w6 ⟨a6, rfl, ha6, h6, hW6⟩; have HE6 := Lib.hid (RPq.fr HP5.out ha6); have HP6 := Lib.hid (HP5.out.call h6 hW6); clear ha6 h6 hW6)
              | (go_at_call 65; (with_reducible refine (HA1.out _ (by exact HP4.out.st)).mono ?_); rintro e w5 ⟨rfl, h5, hW5⟩; have HP5 := Lib.hid (HP4.out.call h5 hW5); clear h5 hW5)
              | (refine wpList_store_all rfl 80 (.tmp 6) (.tmp 29) rfl w3.heap.size (plC ⟨N1, zE, zE⟩ pl0) (by rfl) (by rfl) 80 (plC zPl pl0) (by exact Blk.new' rfl rfl) hdPl (plC_one _ _) rfl ?_; intro w4 hb4 ho4; have HP4 : Hid (RPq gp w3.heap.size A n c ts wr ⟨N1, zE, zE⟩ pl0 q1 w4) := ⟨(H3.out.1.alloc _).only (HLO.out.mono HS.out.wr.size) H3.out.2.size ho4, Wr.newL (H3.out.2.alloc _) (Wr.onlyg (L := [w3.heap.size]) ho4 (by simp)) (fun g hg => .inr (by simp at hg; have := H3.out.2.size; omega)), hb4, PlIn.zero _ _ _, HLO.out.mono HS.out.wr.size, H3.out.2.size⟩; clear hb4 ho4)
              | refine wpList_build rfl 80 [(0, .tmp 28)] rfl _ (by rfl) _ (bld_Pl N1 _) ?_
              | (go_at_call 62; (with_reducible refine (HNQ.out _ (by exact HS.out.st)).mono ?_); rintro e w3 ⟨rfl, h3, hW3⟩; have H3 := Lib.hid (And.intro h3 hW3); clear h3 hW3))
            have hk5 := HKL.out
            have hi5 := HI3.out
            have hi6 : (rnx qx).i = qx.i + 1 := rfl
            go_roundg (gk - 1)
            case measure => omega
            case rel => exact ⟨l ++ [⟨N1, E1, E2⟩], sl ++ [(a6, a8)], A7, c7, rnx qx, by rw [List.length_append]; exact HS13.out, by omega, by rw [List.length_append, List.length_singleton]; omega, by rw [show gk - 1 + 1 = gk by omega]; exact HTG.out, HQ3.out.rp rnx_p⟩
    · have HS := Lib.hid hS
      rw [hs] at g4
      have HRE : Hid (R = (l, q)) := hT.symm.trans ((HTL.out gk l q).1 hs)
      have HTT := Lib.hid (fun W (h : RSt gp A n c ts q W) => HT2.out q W h)
      clear hS hk hll hT hQ hs HTL HT2 HNM0 HAT HOV HRV
      go_wp2_with (first
        | (go_at_call 63; (with_reducible refine (HTT.out _ (by exact HS.out.st)).mono ?_); rintro e w14 ⟨rfl, h14, hW14⟩
           have HS14 := Lib.hid (HS.out.call h14 hW14)
           have hl14 := ldAt_run HS14.out.e 45 0 (dlC k_route X (.slice A1 l.length c1)) rfl _ Tryz.underlying45 rfl hdDc
           clear h14 hW14)
        | (refine wpList_store_all rfl 45 (.tmp 4) (.tmp 51) rfl w.heap.size (dlC k_route X (.slice A1 l.length c1)) (by rfl) (by rfl) 45 (dcC zDc pl0) (by exact HS14.out.z) hdDc (dlC_one _ _ _) rfl ?_; intro w15 hb15 ho15))
      obtain ⟨e1, e2, e3⟩ := HS14.out.fin ho15
      refine bodyPost_ret (res_c rfl _ w.heap.size 45 (dcC ⟨k_route, X, zE, l⟩ ((none, 0), (A1, c1))) rfl hb15 _ Tryz.underlying45 rfl hdDc) rfl ?_
      rw [HRE.out]
      exact ⟨((none, 0), (A1, c1)), rfl, e1, e2, e3⟩
end
end Go.Proofs.YtafjkbbiaopemaaGreatDoor.Tr
namespace Go.Proofs.YtafjkbbiaopemaaGreatDoor.Tr
open Go.RowKit
def RPaK (s : ByteArray) (R : Sr × (Int × Int)) (w : World) : Prop :=
  Calls Tryz.prog 10 #[.string s] w fun e w' => ∃ B d A c, e = .returned (.tuple #[.agg #[.slice B R.1.decls.length d, .slice A R.1.body.length c], .agg #[.int .i64 R.2.1, .int .i64 R.2.2]]) ∧ DcsIn (Fr w.heap.size) w' B R.1.decls ∧ BodyIn (Fr w.heap.size) w' A R.1.body ∧ Below w.heap.size w w'
def rpaS (ts : List Lx.Tok) (q : RS) : RS := if (rk ts q).kind ≠ 6 then rstop ts 9 q else q
def rpaR (ts : List Lx.Tok) (l : List Dc) (B : List St × RS) : Sr × (Int × Int) := if (rpaS ts B.2).bad then (⟨[], []⟩, ((rpaS ts B.2).fe, (rpaS ts B.2).fa)) else (⟨l, B.1⟩, (0, 0))
theorem rpa_eq (ts : List Lx.Tok) : rparseT ts = rpaR ts (rdeclLoop ts (ts.length + 1) [] r0).1 (rstmts ts (rstmt ts 14) (rdeclLoop ts (ts.length + 1) [] r0).2) := rfl
theorem RQ0 : RQ 14 r0 := ⟨by decide, by decide, by decide, fun _ => ⟨by decide, by decide⟩⟩
theorem RQS0 : RQS 14 r0 := ⟨RQ0, by decide, by decide, by decide, fun _ => ⟨by decide, by decide⟩⟩
theorem rdecl_c {gp : Nat} {A : Option Addr} {n c : Nat} {ts : List Lx.Tok} {s : RS} {w : World} (cx : RCx gp A n ts) (h : RSt gp A n c ts s w) (hq : RQ 14 s) (K : ByteArray) (hK : K = k_let ∨ K = k_route) : RDeK gp A n c ts K s w := by
  rcases hK with hK | hK
  · exact rdecl_let cx h hq K hK
  · exact rdecl_route cx h hq K hK
theorem rIs_text {ts : List Lx.Tok} {T : ByteArray} {s : RS} (h : rIs ts T s = true) : bytesOf (rk ts s).text = T := by
  unfold rIs isOf at h
  simp only [Bool.and_eq_true] at h
  have := bmem_iff.1 h.2.2
  simpa using this
set_option maxRecDepth 100000 in
set_option maxHeartbeats 2000000 in
theorem rparse_no (s : ByteArray) {p q : Nat} {ts : List Lx.Tok} (hsc : Lx.scan s.data.toList = ((p, q), ts)) (hp : p ≠ 0) (w : World) : RPaK s (⟨[], []⟩, ((p : Int), (q : Int))) w := by
  unfold RPaK
  have HNS := Lib.hid (fun W => rscan_is s W hsc (n := ts.length) rfl)
  have hpn : ((p : Int) != 0) = true := by rw [bne_iff_ne]; omega
  have HZ0 : Hid (∀ W, Below (w.heap.size + 2) ((w.alloc (.cells #[.slice none 0 0, .slice none 0 0] 26)).alloc (.cells #[.int .i64 0, .int .i64 0] 29)) W → Blk W w.heap.size 26 [.slice none 0 0, .slice none 0 0] ∧ Blk W (w.heap.size + 1) 29 [.int .i64 0, .int .i64 0] ∧ Below w.heap.size w W ∧ w.heap.size + 2 ≤ W.heap.size) := fun W hW =>
    ⟨((Blk.new w _ _).alloc _).below hW (by omega), (Blk.new' (by simp) rfl).below hW (by omega), (((Below.refl w.heap.size w).alloc (Nat.le_refl _) _).alloc (by simp) _).trans (hW.mono (by omega)), by have := hW.size; simp at this; omega⟩
  clear hsc hp
  generalize (p : Int) = P at *
  generalize (q : Int) = Q at *
  go_enter Tryz.func10, Tryz.ntmps10
  go_upto_region 3 with (go_at_call 25; (refine (HNS.out _).mono ?_); rintro e w2 ⟨A2, c2, rfl, _, _, hB2⟩; have HB2 := Lib.hid (HZ0.out w2 (by simpa using hB2)); clear hB2)
  have HB3 : Hid (Blk (w2.alloc (.cells #[.int .i64 P, .int .i64 Q] 29)) w.heap.size 26 [.slice none 0 0, .slice none 0 0] ∧ Blk (w2.alloc (.cells #[.int .i64 P, .int .i64 Q] 29)) (w.heap.size + 1) 29 [.int .i64 0, .int .i64 0] ∧ Below w.heap.size w (w2.alloc (.cells #[.int .i64 P, .int .i64 Q] 29)) ∧ Blk (w2.alloc (.cells #[.int .i64 P, .int .i64 Q] 29)) w2.heap.size 29 [.int .i64 P, .int .i64 Q] ∧ w.heap.size + 2 ≤ w2.heap.size) :=
    ⟨HB2.out.1.alloc _, HB2.out.2.1.alloc _, HB2.out.2.2.1.alloc HB2.out.2.2.1.size _, Blk.new _ _ _, HB2.out.2.2.2⟩
  generalize w2.alloc (.cells #[.int .i64 P, .int .i64 Q] 29) = w3 at *
  generalize w2.heap.size = G at *
  clear HB2 HNS HZ0
  obtain ⟨n0, n1, f0, f1⟩ := Blk.two HB3.out.2.2.2.1
  obtain ⟨x0, x1, k0, k1⟩ := Blk.two HB3.out.1
  obtain ⟨y0, y1, m0, m1⟩ := Blk.two HB3.out.2.1
  have hne1 : ¬ G = w.heap.size := by have := HB3.out.2.2.2.2; omega
  have hne2 : ¬ G = w.heap.size + 1 := by have := HB3.out.2.2.2.2; omega
  go_region
  go_wp2
  have HZ := HB3.out
  refine bodyPost_ret (res_cc rfl _ w.heap.size (w.heap.size + 1) 26 29 [.slice none 0 0, .slice none 0 0] [.int .i64 P, .int .i64 Q] rfl rfl (by exact ((((HZ.1.set_ 0 _).set_ 1 _).far (by simp) _).far (by simp) _).drew) (by exact ((((HZ.2.1.far (by simp) _).far (by simp) _).set_ 0 _).set_ 1 _).drew) _ _ Tryz.underlying26 rfl hdSr Tryz.underlying29 rfl hd48) rfl ?_
  exact ⟨none, 0, none, 0, rfl, DcsIn.nil _ _ _, BodyIn.nil _ _ _, ((((HZ.2.2.1.setCell (by simp) _).setCell (by simp) _).setCell (by simp) _).setCell (by simp) _).drew⟩
set_option maxRecDepth 100000 in
set_option maxHeartbeats 8000000 in
theorem rparse_yes (s : ByteArray) (ts : List Lx.Tok) (hsc : Lx.scan s.data.toList = ((0, 0), ts)) (w : World) : RPaK s (rparseT ts) w := by
  obtain ⟨hen, h0, hn81, _, _⟩ := scan_ok hsc
  have hn8 : ts.length ≤ 100000 := by omega
  unfold RPaK
  have HNS := Lib.hid (fun W => rscan_is s W hsc (n := ts.length) rfl)
  have HDL := Lib.hid (fun (kk : Nat) (l : List Dc) (q : RS) => (⟨fun h h2 => (by rw [rdeclLoop, if_neg (by rw [h, h2]; simp)]), fun h => (by rw [rdeclLoop, if_pos h])⟩ : (rIs ts k_let q = false → rIs ts k_route q = false → rdeclLoop ts (kk + 1) l q = (l, q)) ∧ ((rIs ts k_let q || rIs ts k_route q) = true → rdeclLoop ts (kk + 1) l q = rdeclLoop ts kk (l ++ [(rdecl ts (bytesOf (rk ts q).text) (rnx q)).1]) (rdecl ts (bytesOf (rk ts q).text) (rnx q)).2)))
  have HGN := Lib.hid hen
  rw [rpa_eq]
  generalize hR1 : rdeclLoop ts (ts.length + 1) [] r0 = R1 at *
  have HR1 := Lib.hid hR1
  clear hsc hen hR1 hn81
  have HZ0 : Hid (∀ W, Below (w.heap.size + 2) ((w.alloc (.cells #[.slice none 0 0, .slice none 0 0] 26)).alloc (.cells #[.int .i64 0, .int .i64 0] 29)) W → Blk W w.heap.size 26 [.slice none 0 0, .slice none 0 0] ∧ Blk W (w.heap.size + 1) 29 [.int .i64 0, .int .i64 0] ∧ Below w.heap.size w W ∧ w.heap.size + 2 ≤ W.heap.size) := fun W hW =>
    ⟨((Blk.new w _ _).alloc _).below hW (by omega), (Blk.new' (by simp) rfl).below hW (by omega), (((Below.refl w.heap.size w).alloc (Nat.le_refl _) _).alloc (by simp) _).trans (hW.mono (by omega)), by have := hW.size; simp at this; omega⟩
  go_enter Tryz.func10, Tryz.ntmps10
  go_wp2_with (go_at_call 25; (refine (HNS.out _).mono ?_); rintro e w2 ⟨A2, c2, rfl, _, hst2, hB2⟩; have HST2 := Lib.hid (RdS.ofOwn3 hst2); have HB2 := Lib.hid (HZ0.out w2 (by simpa using hB2)); clear hst2 hB2)
  obtain ⟨gp, hgp⟩ : ∃ gp, gp = w2.heap.size + 1 := ⟨_, rfl⟩
  obtain ⟨G, hG⟩ : ∃ G, G = gp + 1 := ⟨_, rfl⟩
  obtain ⟨W3, hW3⟩ : ∃ W3, W3 = (((w2.alloc (.cells #[.int .i64 0, .int .i64 0] 29)).alloc (.cells #[.slice A2 ts.length c2, .int .i64 0, .int .i64 0, .int .i64 0, .bool false, .int .i64 0, .int .i64 0] 70)).alloc (.cells #[.slice none 0 0, .slice none 0 0] 26)) := ⟨_, rfl⟩
  rw [← hW3]
  rw [← hgp, ← hG]
  have HAL : ∀ ad : Addr, A2 = some ad → ad.block < w2.heap.size := fun ad e => by
    obtain ⟨b, off, e2, hb, _⟩ := HST2.out.2 h0
    rw [e] at e2
    injection e2 with e2
    subst e2
    exact hb
  have HCX : Hid (RCx gp A2 ts.length ts) := ⟨fun ad e => by have := HAL ad e; omega, rfl, hn8, HGN.out⟩
  have HT3 : Hid (RDp gp G A2 ts.length c2 ts W3 [] [] (.slice none 0 0) r0 W3) := by
    subst hW3 hgp hG
    exact ⟨⟨(Blk.new' (by simp) rfl).alloc _, HST2.out.below (((( Below.refl w2.heap.size w2).alloc (Nat.le_refl _) _).alloc (by simp) _).alloc (by simp; omega) _), h0⟩, Wr.refl _ _, Blk.new' (by simp) rfl, World.ownsRow_nil _ _ _ _, rfl, fun i s p h => by simp at h, ⟨by omega, fun ad e => by have := HAL ad e; omega⟩, by simp⟩
  have HB3 : Hid (Below w.heap.size w W3 ∧ w.heap.size + 2 ≤ gp ∧ Blk W3 w.heap.size 26 [.slice none 0 0, .slice none 0 0] ∧ Blk W3 (w.heap.size + 1) 29 [.int .i64 0, .int .i64 0]) := by
    obtain ⟨h1, h2, h3, h4⟩ := HB2.out
    have h5 := h3.size
    subst hW3
    exact ⟨(((h3.alloc h5 _).alloc (by simp; omega) _).alloc (by simp; omega) _), by omega, ((h1.alloc _).alloc _).alloc _, ((h2.alloc _).alloc _).alloc _⟩
  clear HAL hgp HNS HZ0 HST2 HB2 HGN hW3 hG
  have HIS := Lib.hid (fun T q W (h : RSt gp A2 ts.length c2 ts q W) => is_c T HCX.out h)
  have HNW := Lib.hid (fun q W (h : RSt gp A2 ts.length c2 ts q W) => now_c HCX.out h)
  go_loopg [8] ts.length (fun kk v8 wr => ∃ (l : List Dc) (sl : List plA) (A1 : Option Addr) (c1 : Nat) (q : RS), Hid (RDp gp G A2 ts.length c2 ts W3 l sl (.slice A1 l.length c1) q wr) ∧ Hid (ts.length ≤ kk + q.i ∧ l.length ≤ q.i ∧ rdeclLoop ts (kk + 1) l q = R1 ∧ RP r0 q))
  case atStart => exact ⟨[], [], none, 0, r0, HT3, ⟨by omega, by simp, HR1.out, RP.refl _⟩⟩
  case round =>
    clear HT3 HR1
    obtain ⟨l, sl, A1, c1, q, HS, HL⟩ := hrel
    cases hs : rIs ts k_let q
    · cases hs2 : rIs ts k_route q
      · have h1 := fun W h => HIS.out k_let q W h
        have h2 := fun W h => HIS.out k_route q W h
        rw [hs] at h1
        rw [hs2] at h2
        have HI1 := Lib.hid h1
        have HI2 := Lib.hid h2
        have e1 : R1 = (l, q) := HL.out.2.2.1.symm.trans ((HDL.out gk l q).1 hs hs2)
        have HST := Lib.hid (fun W (h : RSt gp A2 ts.length c2 ts q W) => stmts_c HCX.out (rstmt ts 14) 14 (rstmt_all HCX.out 14) (rstmt_p 14) (fun s _ _ => rstmt_adv 13 s) q W h (fun _ => RQS0.rp HL.out.2.2.2))
        clear hs hs2 HDL HL h1 h2
        subst e1
        rcases hBB : rstmts ts (rstmt ts 14) q with ⟨L2, q2⟩
        rw [hBB] at HST
        have HBB := Lib.hid hBB
        clear hBB
        go_upto_region 10 with (first
          | (go_at_call 26; (with_reducible refine (HI2.out _ (by exact HS4.out.st)).mono ?_); rintro e w5 ⟨rfl, hB5⟩; have HS5 := Lib.hid (HS4.out.call (HS4.out.st.below hB5) (Wr.of_below hB5)); clear hB5)
          | (go_at_call 26; (with_reducible refine (HI1.out _ (by exact HS.out.st)).mono ?_); rintro e w4 ⟨rfl, hB4⟩; have HS4 := Lib.hid (HS.out.call (HS.out.st.below hB4) (Wr.of_below hB4)); clear hB4))
        go_upto_region 11 with (go_at_call 29; (refine (HST.out _ (by exact HS5.out.st)).mono ?_); rintro e w6 ⟨A3, c3, rfl, hr6, h6, hW6⟩
                                have HS6 := Lib.hid (HS5.out.call h6 hW6)
                                have HR6 := Lib.hid (hr6.keep (keep_low HS5.out.wr.size))
                                have n1 : w6.cell? ⟨G, 1, none⟩ = some (.slice none 0 0) := HS6.out.e.cell 1
                                have f1 := HS6.out.e.frozen 1
                                have g1 := HS6.out.e.lt
                                clear hr6 h6 hW6)
        have HJ : Hid (RSt gp A2 ts.length c2 ts q2 (w6.setCell ⟨G, 1, none⟩ (.slice A3 L2.length c3)) ∧ Blk (w6.setCell ⟨G, 1, none⟩ (.slice A3 L2.length c3)) G 26 [.slice A1 l.length c1, .slice A3 L2.length c3] ∧ DcsIn (Fr W3.heap.size) (w6.setCell ⟨G, 1, none⟩ (.slice A3 L2.length c3)) A1 l ∧ BodyIn (Fr W3.heap.size) (w6.setCell ⟨G, 1, none⟩ (.slice A3 L2.length c3)) A3 L2 ∧ Wr [gp, G] W3 (w6.setCell ⟨G, 1, none⟩ (.slice A3 L2.length c3)) ∧ gp < G ∧ G < W3.heap.size) := by
          obtain ⟨A9, c9, e9, h9⟩ := HS6.out.fin
          injection e9 with e9 _ e10
          subst e9 e10
          have hGl := HS6.out.lt
          exact ⟨HS6.out.st.setNew HS6.out.lo (p := ⟨G, 1, none⟩) (Nat.le_refl _) _, HS6.out.e.set_ 1 _, h9.keep (keep_set hGl _), HR6.out.keep (keep_set hGl _), HS6.out.wr.setCell (by simp) _, HS6.out.lo.1, hGl⟩
        clear HS HS4 HS5 HS6 HR6 HST n1 f1 g1
        generalize w6.setCell ⟨G, 1, none⟩ (.slice A3 L2.length c3) = w7 at *
        have HNQ := Lib.hid (fun W h => HNW.out q2 W h)
        have HBL : Hid (∀ W, Wr [gp, G] W3 W → Blk W w.heap.size 26 [.slice none 0 0, .slice none 0 0] ∧ Blk W (w.heap.size + 1) 29 [.int .i64 0, .int .i64 0] ∧ Below w.heap.size w W) := fun W hw => by
          obtain ⟨b1, b3, b4, b5⟩ := HB3.out
          have h1 := HJ.out.2.2.2.2.2.1
          exact ⟨(hw.block _ b4.lt (fun hm => by simp only [List.mem_cons, List.not_mem_nil, or_false] at hm; omega)).trans b4, (hw.block _ b5.lt (fun hm => by simp only [List.mem_cons, List.not_mem_nil, or_false] at hm; omega)).trans b5, hw.below b1 (fun g hg => by simp only [List.mem_cons, List.not_mem_nil, or_false] at hg; omega) b1.size⟩
        by_cases hk6 : (rk ts q2).kind = 6
        · have hpa : rpaS ts q2 = q2 := by unfold rpaS; rw [if_neg (by rw [hk6]; simp)]
          have hki : ((rk ts q2).kind : Int) = 6 := by omega
          cases hb : q2.bad
          · have HRE : Hid (rpaR ts (l, q).1 (rstmts ts (rstmt ts 14) (l, q).2) = (⟨l, L2⟩, (0, 0))) := (by show rpaR ts l (rstmts ts (rstmt ts 14) q) = _; rw [HBB.out]; unfold rpaR; dsimp only; rw [hpa, if_neg (by rw [hb]; simp)])
            have hbw : ∀ W, RSt gp A2 ts.length c2 ts q2 W → W.cell? ⟨gp, 4, none⟩ = some (.bool false) := fun W h => by rw [← hb]; exact h.b.cell 4
            have HBW := Lib.hid hbw
            unfold tokCells at HNQ
            rw [hki] at HNQ
            clear hbw hpa hk6 hki hb HNW HIS
            generalize rk ts q2 = t at *
            have hf := fld0 (.int .i64 6) (.string (bytesOf t.text)) (.int .i64 t.num) (.int .i64 t.at_)
            go_wp2_with (go_at_call 27; (refine (HNQ.out _ (by exact HJ.out.1)).mono ?_); rintro e w8 ⟨rfl, hB8⟩
                         have HJ8 : Hid (RSt gp A2 ts.length c2 ts q2 w8 ∧ Blk w8 G 26 [.slice A1 l.length c1, .slice A3 L2.length c3] ∧ DcsIn (Fr W3.heap.size) w8 A1 l ∧ BodyIn (Fr W3.heap.size) w8 A3 L2 ∧ Wr [gp, G] W3 w8) :=
                           ⟨HJ.out.1.below hB8, HJ.out.2.1.below hB8 HJ.out.2.1.lt, HJ.out.2.2.1.keep ⟨hB8.size, fun k _ hk => hB8.block k hk, fun _ h _ => h⟩, HJ.out.2.2.2.1.keep ⟨hB8.size, fun k _ hk => hB8.block k hk, fun _ h _ => h⟩, HJ.out.2.2.2.2.1.trans (Wr.of_below hB8)⟩
                         have HX8 := Lib.hid (HBL.out w8 HJ8.out.2.2.2.2)
                         have g4 := HBW.out w8 HJ8.out.1
                         have gl := HJ8.out.1.b.lt
                         obtain ⟨n0, n1, f0, f1⟩ := Blk.two HJ8.out.2.1
                         have hGl := HJ8.out.2.1.lt
                         obtain ⟨x0, x1, k0, k1⟩ := Blk.two HX8.out.1
                         obtain ⟨y0, y1, m0, m1⟩ := Blk.two HX8.out.2.1
                         have hne1 : ¬ G = w.heap.size := by have := HJ.out.2.2.2.2.2.1; have := HB3.out.2.1; omega
                         have hne2 : ¬ G = w.heap.size + 1 := by have := HJ.out.2.2.2.2.2.1; have := HB3.out.2.1; omega
                         clear hB8)
            have hl3 : w.heap.size + 2 < W3.heap.size := by have := HJ.out.2.2.2.2.2; have := HB3.out.2.1; omega
            refine bodyPost_ret (res_cc rfl _ w.heap.size (w.heap.size + 1) 26 29 [.slice A1 l.length c1, .slice A3 L2.length c3] [.int .i64 0, .int .i64 0] rfl rfl (by exact (((HX8.out.1.set_ 0 _).set_ 1 _).far (by simp) _).far (by simp) _) (by exact (((HX8.out.2.1.far (by simp) _).far (by simp) _).set_ 0 _).set_ 1 _) _ _ Tryz.underlying26 rfl hdSr Tryz.underlying29 rfl hd48) rfl ?_
            rw [HRE.out]
            refine ⟨A1, c1, A3, ⟨c3, rfl⟩, ?_, ?_, (((HX8.out.2.2.setCell (by simp) _).setCell (by simp) _).setCell (by simp) _).setCell (by simp) _⟩
            · exact ((((HJ8.out.2.2.1.keep (keep_set (by show w.heap.size < _; omega) _)).keep (keep_set (by show w.heap.size < _; omega) _)).keep (keep_set (by show w.heap.size + 1 < _; omega) _)).keep (keep_set (by show w.heap.size + 1 < _; omega) _)).keep (keep_low (by omega))
            · exact ((((HJ8.out.2.2.2.1.keep (keep_set (by show w.heap.size < _; omega) _)).keep (keep_set (by show w.heap.size < _; omega) _)).keep (keep_set (by show w.heap.size + 1 < _; omega) _)).keep (keep_set (by show w.heap.size + 1 < _; omega) _)).keep (keep_low (by omega))
          · have HRE : Hid (rpaR ts (l, q).1 (rstmts ts (rstmt ts 14) (l, q).2) = (⟨[], []⟩, (q2.fe, q2.fa))) := (by show rpaR ts l (rstmts ts (rstmt ts 14) q) = _; rw [HBB.out]; unfold rpaR; dsimp only; rw [hpa, if_pos hb])
            have hbw : ∀ W, RSt gp A2 ts.length c2 ts q2 W → W.cell? ⟨gp, 4, none⟩ = some (.bool true) := fun W h => by rw [← hb]; exact h.b.cell 4
            have HBW := Lib.hid hbw
            unfold tokCells at HNQ
            rw [hki] at HNQ
            clear hbw hpa hk6 hki hb HNW HIS
            generalize rk ts q2 = t at *
            have hf := fld0 (.int .i64 6) (.string (bytesOf t.text)) (.int .i64 t.num) (.int .i64 t.at_)
            go_upto_region 14 with (first
                       | (go_at_call 27; (refine (HNQ.out _ (by exact HJ.out.1)).mono ?_); rintro e w8 ⟨rfl, hB8⟩
                          have HJ8 : Hid (RSt gp A2 ts.length c2 ts q2 w8 ∧ Blk w8 w.heap.size 26 [.slice none 0 0, .slice none 0 0] ∧ Blk w8 (w.heap.size + 1) 29 [.int .i64 0, .int .i64 0] ∧ Below w.heap.size w w8) := ⟨HJ.out.1.below hB8, HBL.out w8 (HJ.out.2.2.2.2.1.trans (Wr.of_below hB8))⟩
                          have g4 := HBW.out w8 HJ8.out.1
                          have gl := HJ8.out.1.b.lt
                          clear hB8))
            have hne1 : gp ≠ w.heap.size := by have := HB3.out.2.1; omega
            have hne2 : gp ≠ w.heap.size + 1 := by have := HB3.out.2.1; omega
            have HK : Hid (Blk w8.drew gp 70 (rdC A2 ts.length c2 q2) ∧ Blk w8.drew w.heap.size 26 [.slice none 0 0, .slice none 0 0] ∧ Blk w8.drew (w.heap.size + 1) 29 [.int .i64 0, .int .i64 0] ∧ Below w.heap.size w w8.drew) := ⟨HJ8.out.1.b.drew, HJ8.out.2.1.drew, HJ8.out.2.2.1.drew, HJ8.out.2.2.2.drew⟩
            refine region_K (by kernel_rfl) 6 (fun W' => Blk W' gp 70 (rdC A2 ts.length c2 q2)) ?_
            refine AnyK.pure 0 (v := .agg #[.slice none 0 0, .slice none 0 0]) rfl (by kernel_rfl) (fun _ _ _ h => h) rfl (fun _ => by kernel_rfl) (fun _ => HK.out.1) ?_
            refine AnyK.pure 1 (v := .pointer (some ⟨gp, 0, none⟩)) rfl (by kernel_rfl) (fun _ _ _ h => h) rfl (fun _ => by kernel_rfl) (fun _ => HK.out.1) ?_
            refine AnyK.pure 2 (v := .pointer (some ⟨gp, 0, none⟩)) rfl (by kernel_rfl) (fun _ _ _ h => h) rfl (fun _ => by kernel_rfl) (fun _ => HK.out.1) ?_
            refine AnyK.pure 3 (v := .pointer (some ⟨gp, 5, none⟩)) rfl (by kernel_rfl) (fun _ _ _ h => h) rfl (fun _ => by kernel_rfl) (fun _ => HK.out.1) ?_
            refine AnyK.load 4 (v := .agg #[.int .i64 (q2).fe, .int .i64 (q2).fa]) rfl (by kernel_rfl) (by kernel_rfl) (by kernel_rfl) (fun _ _ _ h => h) rfl (fun w' hw' => ey_loadR (x := .tmp 62) (by rfl) (by kernel_rfl) (ldAt_run hw' 29 5 [.int .i64 (q2).fe, .int .i64 (q2).fa] rfl _ Tryz.underlying29 rfl hd48)) HK.out.1 ?_
            refine AnyK.storeAll 5 w.heap.size [.slice none 0 0, .slice none 0 0] 26 [.slice none 0 0, .slice none 0 0] (by rfl) rfl rfl (by rfl) (by kernel_rfl) (by kernel_rfl) (by kernel_rfl) HK.out.2.1 hdSr (by simp [Value.oneCell']) rfl (fun _ _ ho _ => ho.blk HK.out.1 hne1) ?_
            intro wa hba hoa
            have HL5 : Hid (Blk wa (w.heap.size + 1) 29 [.int .i64 0, .int .i64 0] ∧ Below w.heap.size w wa) := ⟨hoa.blk HK.out.2.2.1 (by omega), hoa.below HK.out.2.2.2 (Nat.le_refl _) HK.out.2.2.2.size⟩
            refine AnyK.storeAll 6 (w.heap.size + 1) [.int .i64 (q2).fe, .int .i64 (q2).fa] 29 [.int .i64 0, .int .i64 0] (by rfl) rfl rfl (by rfl) (by kernel_rfl) (by kernel_rfl) (by kernel_rfl) HL5.out.1 hd48 (by simp [Value.oneCell']) rfl (fun _ _ _ h => (by cases h)) ?_
            intro wb hbb hob
            have HM5 : Hid (Blk wb w.heap.size 26 [.slice none 0 0, .slice none 0 0] ∧ Blk wb (w.heap.size + 1) 29 [.int .i64 (q2).fe, .int .i64 (q2).fa] ∧ Below w.heap.size w wb) := ⟨hob.blk hba (by omega), hbb, hob.below HL5.out.2 (by omega) HL5.out.2.size⟩
            refine AnyK.done (by kernel_rfl) ?_
            clear hba hoa hbb hob
            go_wp2
            refine bodyPost_ret (res_cc rfl _ w.heap.size (w.heap.size + 1) 26 29 [.slice none 0 0, .slice none 0 0] [.int .i64 (q2).fe, .int .i64 (q2).fa] rfl rfl HM5.out.1 HM5.out.2.1 _ _ Tryz.underlying26 rfl hdSr Tryz.underlying29 rfl hd48) rfl ?_
            rw [HRE.out]
            exact ⟨none, 0, none, ⟨0, rfl⟩, DcsIn.nil _ _ _, BodyIn.nil _ _ _, HM5.out.2.2⟩
        · have hpa : rpaS ts q2 = rstop ts 9 q2 := by unfold rpaS; rw [if_pos hk6]
          have hki : ((rk ts q2).kind : Int) ≠ 6 := by omega
          have hb := rstop_b (ts := ts) 9 q2
          have HRE : Hid (rpaR ts (l, q).1 (rstmts ts (rstmt ts 14) (l, q).2) = (⟨[], []⟩, ((rstop ts 9 q2).fe, (rstop ts 9 q2).fa))) := (by show rpaR ts l (rstmts ts (rstmt ts 14) q) = _; rw [HBB.out]; unfold rpaR; dsimp only; rw [hpa, if_pos hb])
          have HSP := Lib.hid (fun W (h : RSt gp A2 ts.length c2 ts q2 W) => stop_c 9 HCX.out h)
          have hbw : ∀ W, RSt gp A2 ts.length c2 ts (rstop ts 9 q2) W → W.cell? ⟨gp, 4, none⟩ = some (.bool true) := fun W h => by rw [← hb]; exact h.b.cell 4
          have HBW := Lib.hid hbw
          unfold tokCells at HNQ
          clear hbw hpa hk6 hb HNW HIS
          generalize rk ts q2 = t at *
          have hf := fld0 (.int .i64 t.kind) (.string (bytesOf t.text)) (.int .i64 t.num) (.int .i64 t.at_)
          generalize rstop ts 9 q2 = q3 at *
          go_upto_region 14 with (first
            | (go_at_call 30; (refine (HSP.out _ (by exact HJ7.out.1)).mono ?_); rintro e w8 ⟨rfl, h8, hW8⟩
               have HJ8 : Hid (RSt gp A2 ts.length c2 ts q3 w8 ∧ Blk w8 w.heap.size 26 [.slice none 0 0, .slice none 0 0] ∧ Blk w8 (w.heap.size + 1) 29 [.int .i64 0, .int .i64 0] ∧ Below w.heap.size w w8) := ⟨h8, HBL.out w8 (HJ7.out.2.trans (hW8.mono (by simp)))⟩
               have g4 := HBW.out w8 HJ8.out.1
               have gl := HJ8.out.1.b.lt
               clear h8 hW8)
            | (go_at_call 27; (refine (HNQ.out _ (by exact HJ.out.1)).mono ?_); rintro e wn ⟨rfl, hB8⟩
               have HJ7 : Hid (RSt gp A2 ts.length c2 ts q2 wn ∧ Wr [gp, G] W3 wn) := ⟨HJ.out.1.below hB8, HJ.out.2.2.2.2.1.trans (Wr.of_below hB8)⟩
               clear hB8))
          have hne1 : gp ≠ w.heap.size := by have := HB3.out.2.1; omega
          have hne2 : gp ≠ w.heap.size + 1 := by have := HB3.out.2.1; omega
          have HK : Hid (Blk w8.drew gp 70 (rdC A2 ts.length c2 q3) ∧ Blk w8.drew w.heap.size 26 [.slice none 0 0, .slice none 0 0] ∧ Blk w8.drew (w.heap.size + 1) 29 [.int .i64 0, .int .i64 0] ∧ Below w.heap.size w w8.drew) := ⟨HJ8.out.1.b.drew, HJ8.out.2.1.drew, HJ8.out.2.2.1.drew, HJ8.out.2.2.2.drew⟩
          refine region_K (by kernel_rfl) 6 (fun W' => Blk W' gp 70 (rdC A2 ts.length c2 q3)) ?_
          refine AnyK.pure 0 (v := .agg #[.slice none 0 0, .slice none 0 0]) rfl (by kernel_rfl) (fun _ _ _ h => h) rfl (fun _ => by kernel_rfl) (fun _ => HK.out.1) ?_
          refine AnyK.pure 1 (v := .pointer (some ⟨gp, 0, none⟩)) rfl (by kernel_rfl) (fun _ _ _ h => h) rfl (fun _ => by kernel_rfl) (fun _ => HK.out.1) ?_
          refine AnyK.pure 2 (v := .pointer (some ⟨gp, 0, none⟩)) rfl (by kernel_rfl) (fun _ _ _ h => h) rfl (fun _ => by kernel_rfl) (fun _ => HK.out.1) ?_
          refine AnyK.pure 3 (v := .pointer (some ⟨gp, 5, none⟩)) rfl (by kernel_rfl) (fun _ _ _ h => h) rfl (fun _ => by kernel_rfl) (fun _ => HK.out.1) ?_
          refine AnyK.load 4 (v := .agg #[.int .i64 (q3).fe, .int .i64 (q3).fa]) rfl (by kernel_rfl) (by kernel_rfl) (by kernel_rfl) (fun _ _ _ h => h) rfl (fun w' hw' => ey_loadR (x := .tmp 62) (by rfl) (by kernel_rfl) (ldAt_run hw' 29 5 [.int .i64 (q3).fe, .int .i64 (q3).fa] rfl _ Tryz.underlying29 rfl hd48)) HK.out.1 ?_
          refine AnyK.storeAll 5 w.heap.size [.slice none 0 0, .slice none 0 0] 26 [.slice none 0 0, .slice none 0 0] (by rfl) rfl rfl (by rfl) (by kernel_rfl) (by kernel_rfl) (by kernel_rfl) HK.out.2.1 hdSr (by simp [Value.oneCell']) rfl (fun _ _ ho _ => ho.blk HK.out.1 hne1) ?_
          intro wa hba hoa
          have HL5 : Hid (Blk wa (w.heap.size + 1) 29 [.int .i64 0, .int .i64 0] ∧ Below w.heap.size w wa) := ⟨hoa.blk HK.out.2.2.1 (by omega), hoa.below HK.out.2.2.2 (Nat.le_refl _) HK.out.2.2.2.size⟩
          refine AnyK.storeAll 6 (w.heap.size + 1) [.int .i64 (q3).fe, .int .i64 (q3).fa] 29 [.int .i64 0, .int .i64 0] (by rfl) rfl rfl (by rfl) (by kernel_rfl) (by kernel_rfl) (by kernel_rfl) HL5.out.1 hd48 (by simp [Value.oneCell']) rfl (fun _ _ _ h => (by cases h)) ?_
          intro wb hbb hob
          have HM5 : Hid (Blk wb w.heap.size 26 [.slice none 0 0, .slice none 0 0] ∧ Blk wb (w.heap.size + 1) 29 [.int .i64 (q3).fe, .int .i64 (q3).fa] ∧ Below w.heap.size w wb) := ⟨hob.blk hba (by omega), hbb, hob.below HL5.out.2 (by omega) HL5.out.2.size⟩
          refine AnyK.done (by kernel_rfl) ?_
          clear hba hoa hbb hob
          go_wp2
          refine bodyPost_ret (res_cc rfl _ w.heap.size (w.heap.size + 1) 26 29 [.slice none 0 0, .slice none 0 0] [.int .i64 (q3).fe, .int .i64 (q3).fa] rfl rfl HM5.out.1 HM5.out.2.1 _ _ Tryz.underlying26 rfl hdSr Tryz.underlying29 rfl hd48) rfl ?_
          rw [HRE.out]
          exact ⟨none, 0, none, ⟨0, rfl⟩, DcsIn.nil _ _ _, BodyIn.nil _ _ _, HM5.out.2.2⟩
      · have hor : (rIs ts k_let q || rIs ts k_route q) = true := (by rw [hs, hs2]; rfl)
        have h1 := fun W h => HIS.out k_let q W h
        rw [hs] at h1
        have HI1 := Lib.hid h1
        have h2 := fun W h => HIS.out k_route q W h
        rw [hs2] at h2
        have HI2 := Lib.hid h2
        have hlt := rIs_lt HCX.out hs2
        have htx := rIs_text hs2
        have hQ1 : RQ 14 (rnx q) := RQ0.rp (HL.out.2.2.2.trans rnx_p)
        have hT3 := ((HDL.out gk l q).2 hor).symm.trans HL.out.2.2.1
        rw [htx] at hT3
        have HT3 := Lib.hid hT3
        have HDC := Lib.hid (fun W (h : RSt gp A2 ts.length c2 ts (rnx q) W) => rdecl_c HCX.out h hQ1 k_route (.inr rfl))
        have hpg := rdecl_p (ts := ts) k_route (rnx q)
        have HI3 : Hid (ts.length ≤ gk + q.i ∧ l.length ≤ q.i ∧ q.i + 1 < ts.length ∧ q.i + 1 ≤ (rdecl ts k_route (rnx q)).2.i ∧ RP r0 (rdecl ts k_route (rnx q)).2) := ⟨HL.out.1, HL.out.2.1, hlt, hpg.le, HL.out.2.2.2.trans (rnx_p.trans hpg)⟩
        have hl8 : l.length ≤ 100000 := by have := HL.out.2.1; omega
        have hi8 : q.i < 100000 := by omega
        have HNQ := Lib.hid (fun W h => HNW.out q W h)
        have HX : Hid (∀ W, RSt gp A2 ts.length c2 ts q W → W.cell? ⟨gp, 1, none⟩ = some (.int .i64 q.i) ∧ W.frozen? ⟨gp, 1, none⟩ = false ∧ gp < W.heap.size) := fun W h => ⟨h.b.cell 1, h.b.frozen 1, h.b.lt⟩
        have HNX := Lib.hid (fun W (h : RSt gp A2 ts.length c2 ts q W) => RSt.next HCX.out h hlt)
        unfold tokCells at HNQ
        rw [htx] at HNQ
        clear hs hs2 HL HDL hQ1 hpg hlt htx hT3 hor h1 h2 HNW HIS
        unfold RDeK at HDC
        generalize (rdecl ts k_route (rnx q)).1 = X at *
        generalize (rdecl ts k_route (rnx q)).2 = q3 at *
        generalize rk ts q = t at *
        have hf := fld1 (.int .i64 t.kind) (.string k_route) (.int .i64 t.num) (.int .i64 t.at_)
        go_upto_region 9 with (first
          | (go_at_call 27; (refine (HNQ.out _ (by exact HS5.out.st)).mono ?_); rintro e w6 ⟨rfl, hB6⟩
             have HS6 := Lib.hid (HS5.out.call (HS5.out.st.below hB6) (Wr.of_below hB6))
             obtain ⟨k1, j1, l1⟩ := HX.out w6 HS6.out.st
             clear hB6)
          | (go_at_call 26; (with_reducible refine (HI2.out _ (by exact HS4.out.st)).mono ?_); rintro e w5 ⟨rfl, hB5⟩; have HS5 := Lib.hid (HS4.out.call (HS4.out.st.below hB5) (Wr.of_below hB5)); clear hB5)
          | (go_at_call 26; (with_reducible refine (HI1.out _ (by exact HS.out.st)).mono ?_); rintro e w4 ⟨rfl, hB4⟩; have HS4 := Lib.hid (HS.out.call (HS.out.st.below hB4) (Wr.of_below hB4)); clear hB4))
        have HS7 := Lib.hid (HS6.out.call (HNX.out w6 HS6.out.st).1 (HNX.out w6 HS6.out.st).2)
        clear HX HNX k1 j1 l1 HS6 HS5 HS HS4 HNQ hf
        generalize w6.setCell ⟨gp, 1, none⟩ (.int .i64 ((q.i : Int) + 1)) = w7 at *
        have HD9 : Hid (RDp gp G A2 ts.length c2 ts W3 l sl (.slice A1 l.length c1) (rnx q) w7.drew) := HS7.out.call (HS7.out.st.below ((Below.refl _ _).drew)) (Wr.of_below ((Below.refl _ _).drew))
        refine region_K (by kernel_rfl) 8 (fun W' => Blk W' G 26 [.slice A1 l.length c1, .slice none 0 0]) ?_
        refine AnyK.pure 0 (v := .pointer (some ⟨G, 0, none⟩)) rfl (by kernel_rfl) (fun _ _ _ h => h) rfl (fun _ => by kernel_rfl) (fun _ => HD9.out.e) ?_
        refine AnyK.load 1 (v := .slice A1 l.length c1) rfl (by kernel_rfl) (by kernel_rfl) (by kernel_rfl) (fun _ _ _ h => h) rfl (fun w' hw' => ex_load (t := 23) (x := .tmp 38) (by rfl) (by kernel_rfl) agSdc (hw'.cell 0)) HD9.out.e ?_
        refine AnyK.pure 2 (v := .pointer (some ⟨gp, 0, none⟩)) rfl (by kernel_rfl) (fun _ _ _ h => h) rfl (fun _ => by kernel_rfl) (fun _ => HD9.out.e) ?_
        refine AnyK.pure 3 (v := .string k_route) rfl (by kernel_rfl) (fun _ _ _ h => h) rfl (fun _ => by kernel_rfl) (fun _ => HD9.out.e) ?_
        refine AnyK.enter 4 (d := some 42) (f := 28) (args := #[.pointer (some ⟨gp, 0, none⟩), .string k_route]) (by rfl) (by kernel_rfl) (by kernel_rfl) ?_
        refine (HDC.out _ HD9.out.st).mono ?_
        rintro e wx ⟨y, rfl, hy, hx, hWx⟩
        have HX9 := Lib.hid (HD9.out.call hx hWx)
        have HY9 : Hid (DcIn (Fv W3.heap.size (.slice A1 l.length c1)) wx X y) := HD9.out.fr (Nat.le_refl _) hy
        have hl9 := HX9.out.lt
        have hm9 := HX9.out.e.lt
        have ho9 := HX9.out.wr.size
        have hown9 : ∀ k, (Value.slice A1 l.length c1).ownBlock = some k → G ≠ k := fun k e => by have := (HX9.out.own.lt k e).1; omega
        clear hy hx hWx
        refine ⟨_, rfl, fun _ => HX9.out.e, ?_⟩
        refine AnyK.main 5 (by rfl) (by kernel_rfl) rfl (fun K hK => wp_val (ex_one1 23 45 (.tmp 42) (by rfl) (dcC X y) (by kernel_rfl) Tryz.underlying23 (by exact oneDc X y) (by rw [dcC_len]; omega) (by rw [dcC_len]; omega)) (hK _ _ ⟨fun _ => HX9.out.e.alloc _, ?_⟩))
        refine AnyK.main 6 (by rfl) (by kernel_rfl) rfl (fun K hK => wp_app (.tmp 39) (.tmp 43) 23 (by rfl) W3.heap.size 45 9 136 Tryz.underlying23 eDc (.slice A1 l.length c1) l.length (zipC dcC l sl) (by kernel_rfl) (HX9.out.own.alloc _) (some ⟨wx.heap.size, 0, none⟩) 1 1 (dcC X y) (by kernel_rfl) (RdS.new wx _ (dcC X y) 9 rfl) (dcC_one _ _) (by omega) (by omega) (by simp; omega) (fun A7 c7 w7 hown7 hc7 hg7 hat7 => hK _ _ ⟨fun _ => (HX9.out.e.alloc _).grown hg7 (fun e => hown9 _ e.symm rfl), ?_⟩))
        have hb7 := (HX9.out.e.alloc (.cells (dcC X y).toArray 45)).grown hg7 (fun e => hown9 _ e.symm rfl)
        refine AnyK.val 7 (v := .pointer (some ⟨G, 0, none⟩)) (by rfl) (by kernel_rfl) rfl (by kernel_rfl) (fun _ => hb7) ?_
        have HP9 := Lib.hid (HX9.out.push HY9.out hg7 hown7 hat7)
        refine AnyK.store 8 (d := none) (w' := w7.setCell ⟨G, 0, none⟩ (.slice A7 (l.length + 1) c7)) (by rfl) (fun o ho => ey_storeS ho (by kernel_rfl) (by kernel_rfl) szSdc (hb7.cell 0) (hb7.frozen 0)) (by kernel_rfl) (fun h => (by cases h)) ?_
        refine AnyK.done ?_ ?_
        · kernel_rfl
        clear hb7 hown7 hg7 hat7 hown9
        have e5 : (l ++ [X]).length = l.length + 1 := by simp
        go_wp2
        simp only [List.getElem_toArray, List.getElem_cons_zero, List.getElem_cons_succ, Act.put, List.setIfInBounds_toArray, List.set_cons_succ, List.set_cons_zero]
        have hi5 := HI3.out
        go_roundg (gk - 1)
        case measure => omega
        case rel => exact ⟨l ++ [X], sl ++ [y], A7, c7, q3, by rw [e5]; exact HP9.out, ⟨by omega, by rw [e5]; omega, by rw [show gk - 1 + 1 = gk by omega]; exact HT3.out, hi5.2.2.2.2⟩⟩
    · have hor : (rIs ts k_let q || rIs ts k_route q) = true := (by rw [hs]; rfl)
      have h1 := fun W h => HIS.out k_let q W h
      rw [hs] at h1
      have HI1 := Lib.hid h1
      have hlt := rIs_lt HCX.out hs
      have htx := rIs_text hs
      have hQ1 : RQ 14 (rnx q) := RQ0.rp (HL.out.2.2.2.trans rnx_p)
      have hT3 := ((HDL.out gk l q).2 hor).symm.trans HL.out.2.2.1
      rw [htx] at hT3
      have HT3 := Lib.hid hT3
      have HDC := Lib.hid (fun W (h : RSt gp A2 ts.length c2 ts (rnx q) W) => rdecl_c HCX.out h hQ1 k_let (.inl rfl))
      have hpg := rdecl_p (ts := ts) k_let (rnx q)
      have HI3 : Hid (ts.length ≤ gk + q.i ∧ l.length ≤ q.i ∧ q.i + 1 < ts.length ∧ q.i + 1 ≤ (rdecl ts k_let (rnx q)).2.i ∧ RP r0 (rdecl ts k_let (rnx q)).2) := ⟨HL.out.1, HL.out.2.1, hlt, hpg.le, HL.out.2.2.2.trans (rnx_p.trans hpg)⟩
      have hl8 : l.length ≤ 100000 := by have := HL.out.2.1; omega
      have hi8 : q.i < 100000 := by omega
      have HNQ := Lib.hid (fun W h => HNW.out q W h)
      have HX : Hid (∀ W, RSt gp A2 ts.length c2 ts q W → W.cell? ⟨gp, 1, none⟩ = some (.int .i64 q.i) ∧ W.frozen? ⟨gp, 1, none⟩ = false ∧ gp < W.heap.size) := fun W h => ⟨h.b.cell 1, h.b.frozen 1, h.b.lt⟩
      have HNX := Lib.hid (fun W (h : RSt gp A2 ts.length c2 ts q W) => RSt.next HCX.out h hlt)
      unfold tokCells at HNQ
      rw [htx] at HNQ
      clear hs HL HDL hQ1 hpg hlt htx hT3 hor h1 HNW HIS
      unfold RDeK at HDC
      generalize (rdecl ts k_let (rnx q)).1 = X at *
      generalize (rdecl ts k_let (rnx q)).2 = q3 at *
      generalize rk ts q = t at *
      have hf := fld1 (.int .i64 t.kind) (.string k_let) (.int .i64 t.num) (.int .i64 t.at_)
      go_upto_region 9 with (first
        | (go_at_call 27; (refine (HNQ.out _ (by exact HS5.out.st)).mono ?_); rintro e w6 ⟨rfl, hB6⟩
           have HS6 := Lib.hid (HS5.out.call (HS5.out.st.below hB6) (Wr.of_below hB6))
           obtain ⟨k1, j1, l1⟩ := HX.out w6 HS6.out.st
           clear hB6)
        | (go_at_call 26; (with_reducible refine (HI1.out _ (by exact HS.out.st)).mono ?_); rintro e w4 ⟨rfl, hB4⟩; have HS5 := Lib.hid (HS.out.call (HS.out.st.below hB4) (Wr.of_below hB4)); clear hB4))
      have HS7 := Lib.hid (HS6.out.call (HNX.out w6 HS6.out.st).1 (HNX.out w6 HS6.out.st).2)
      clear HX HNX k1 j1 l1 HS6 HS5 HS HNQ hf
      generalize w6.setCell ⟨gp, 1, none⟩ (.int .i64 ((q.i : Int) + 1)) = w7 at *
      have HD9 : Hid (RDp gp G A2 ts.length c2 ts W3 l sl (.slice A1 l.length c1) (rnx q) w7.drew) := HS7.out.call (HS7.out.st.below ((Below.refl _ _).drew)) (Wr.of_below ((Below.refl _ _).drew))
      refine region_K (by kernel_rfl) 8 (fun W' => Blk W' G 26 [.slice A1 l.length c1, .slice none 0 0]) ?_
      refine AnyK.pure 0 (v := .pointer (some ⟨G, 0, none⟩)) rfl (by kernel_rfl) (fun _ _ _ h => h) rfl (fun _ => by kernel_rfl) (fun _ => HD9.out.e) ?_
      refine AnyK.load 1 (v := .slice A1 l.length c1) rfl (by kernel_rfl) (by kernel_rfl) (by kernel_rfl) (fun _ _ _ h => h) rfl (fun w' hw' => ex_load (t := 23) (x := .tmp 38) (by rfl) (by kernel_rfl) agSdc (hw'.cell 0)) HD9.out.e ?_
      refine AnyK.pure 2 (v := .pointer (some ⟨gp, 0, none⟩)) rfl (by kernel_rfl) (fun _ _ _ h => h) rfl (fun _ => by kernel_rfl) (fun _ => HD9.out.e) ?_
      refine AnyK.pure 3 (v := .string k_let) rfl (by kernel_rfl) (fun _ _ _ h => h) rfl (fun _ => by kernel_rfl) (fun _ => HD9.out.e) ?_
      refine AnyK.enter 4 (d := some 42) (f := 28) (args := #[.pointer (some ⟨gp, 0, none⟩), .string k_let]) (by rfl) (by kernel_rfl) (by kernel_rfl) ?_
      refine (HDC.out _ HD9.out.st).mono ?_
      rintro e wx ⟨y, rfl, hy, hx, hWx⟩
      have HX9 := Lib.hid (HD9.out.call hx hWx)
      have HY9 : Hid (DcIn (Fv W3.heap.size (.slice A1 l.length c1)) wx X y) := HD9.out.fr (Nat.le_refl _) hy
      have hl9 := HX9.out.lt
      have hm9 := HX9.out.e.lt
      have ho9 := HX9.out.wr.size
      have hown9 : ∀ k, (Value.slice A1 l.length c1).ownBlock = some k → G ≠ k := fun k e => by have := (HX9.out.own.lt k e).1; omega
      clear hy hx hWx
      refine ⟨_, rfl, fun _ => HX9.out.e, ?_⟩
      refine AnyK.main 5 (by rfl) (by kernel_rfl) rfl (fun K hK => wp_val (ex_one1 23 45 (.tmp 42) (by rfl) (dcC X y) (by kernel_rfl) Tryz.underlying23 (by exact oneDc X y) (by rw [dcC_len]; omega) (by rw [dcC_len]; omega)) (hK _ _ ⟨fun _ => HX9.out.e.alloc _, ?_⟩))
      refine AnyK.main 6 (by rfl) (by kernel_rfl) rfl (fun K hK => wp_app (.tmp 39) (.tmp 43) 23 (by rfl) W3.heap.size 45 9 136 Tryz.underlying23 eDc (.slice A1 l.length c1) l.length (zipC dcC l sl) (by kernel_rfl) (HX9.out.own.alloc _) (some ⟨wx.heap.size, 0, none⟩) 1 1 (dcC X y) (by kernel_rfl) (RdS.new wx _ (dcC X y) 9 rfl) (dcC_one _ _) (by omega) (by omega) (by simp; omega) (fun A7 c7 w7 hown7 hc7 hg7 hat7 => hK _ _ ⟨fun _ => (HX9.out.e.alloc _).grown hg7 (fun e => hown9 _ e.symm rfl), ?_⟩))
      have hb7 := (HX9.out.e.alloc (.cells (dcC X y).toArray 45)).grown hg7 (fun e => hown9 _ e.symm rfl)
      refine AnyK.val 7 (v := .pointer (some ⟨G, 0, none⟩)) (by rfl) (by kernel_rfl) rfl (by kernel_rfl) (fun _ => hb7) ?_
      have HP9 := Lib.hid (HX9.out.push HY9.out hg7 hown7 hat7)
      refine AnyK.store 8 (d := none) (w' := w7.setCell ⟨G, 0, none⟩ (.slice A7 (l.length + 1) c7)) (by rfl) (fun o ho => ey_storeS ho (by kernel_rfl) (by kernel_rfl) szSdc (hb7.cell 0) (hb7.frozen 0)) (by kernel_rfl) (fun h => (by cases h)) ?_
      refine AnyK.done ?_ ?_
      · kernel_rfl
      clear hb7 hown7 hg7 hat7 hown9
      have e5 : (l ++ [X]).length = l.length + 1 := by simp
      go_wp2
      simp only [List.getElem_toArray, List.getElem_cons_zero, List.getElem_cons_succ, Act.put, List.setIfInBounds_toArray, List.set_cons_succ, List.set_cons_zero]
      have hi5 := HI3.out
      go_roundg (gk - 1)
      case measure => omega
      case rel => exact ⟨l ++ [X], sl ++ [y], A7, c7, q3, by rw [e5]; exact HP9.out, ⟨by omega, by rw [e5]; omega, by rw [show gk - 1 + 1 = gk by omega]; exact HT3.out, hi5.2.2.2.2⟩⟩
theorem rparse_any (s : ByteArray) (w : World) : RPaK s (parse s.data.toList) w := by
  rcases hR : Lx.scan s.data.toList with ⟨⟨p, q⟩, ts⟩
  unfold parse
  rw [hR]
  by_cases hp : p = 0
  · subst hp
    have hq : q = 0 := by
      rcases Lx.scan_cases s.data.toList with ⟨p', q', h1, h2⟩ | ⟨us, h1, _⟩
      · rw [hR] at h1
        injection h1 with h3
        injection h3 with h3 h4
        omega
      · rw [hR] at h1
        injection h1 with h3
        injection h3
    subst hq
    have h5 := rparse_yes s ts hR w
    rw [← parse_same (scan_ok hR).1] at h5
    exact h5
  · dsimp only
    rw [if_neg hp]
    exact rparse_no s hR hp w
end Go.Proofs.YtafjkbbiaopemaaGreatDoor.Tr
