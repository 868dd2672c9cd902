/- Part of the proof: Tu. -/
import Derived.Test.YtafjkbbiaopemaaGreatDoorTox18
set_option linter.unusedVariables false
namespace Go.Proofs.YtafjkbbiaopemaaGreatDoor.Tr
open Go.RowKit
theorem Rd.two' {w : World} {t : TypeId} {T U : ByteArray} {g : Nat} (hg : g = w.heap.size) : Rd (w.alloc (.cells #[.string T, .string U] t)) (some ⟨g, 0, none⟩) 2 (strs [T, U]) := by
  subst hg
  have hb : Blk (w.alloc (.cells #[.string T, .string U] t)) w.heap.size t [.string T, .string U] := Blk.new' rfl rfl
  exact ⟨rfl, fun _ => ⟨w.heap.size, 0, rfl, hb.lt, fun j u hu => by rw [Nat.zero_add, hb.cell]; exact hu⟩⟩
section
variable {gp gs : Nat} {A : Option Addr} {n c : Nat} {ts : List Lx.Tok} {s q q' : PS} {w w' w0 : World} {g : Nat} {E : Ex} {a : Option Addr × Nat}
set_option maxRecDepth 100000 in
set_option maxHeartbeats 4000000 in
theorem expr_c (cx : Cx gp gs A n ts) (ex : PS → Ex × PS) (d : Nat) (hf : ExK gp gs A n c ts 83 (termP ts ex) (Q d)) (hg : ∀ s, Pg ts s (termP ts ex s).2) : ExK gp gs A n c ts 50 (exprG ts ex) (Q d) := by
  intro s w h hq
  have HF := Lib.hid (fun s W (h : PSt gp gs A n c ts s W) hq => hf s W h hq)
  have HA := Lib.hid (fun q W A1 (h : PSt gp gs A n c ts q W) (hl : Rd W A1 2 (strs [m_plus, m_minus])) => sees_c cx h [m_plus, m_minus] A1 2 2 hl (by omega))
  have c0 : ∀ W q, PSt gp gs A n c ts q W → W.cell? ⟨gp, 0, none⟩ = some (.pointer (some ⟨gs, 0, none⟩)) := fun W q h => h.par.cell 0
  have HC0 := Lib.hid c0
  clear c0
  have HH := Lib.hid (h.alloc (.cells #[.string { data := #[] }, .int .i64 0, .string { data := #[] }, .int .i64 0, .slice none 0 0] 39))
  have HE : Hid (Wr [gp, gs] w (w.alloc (.cells #[.string { data := #[] }, .int .i64 0, .string { data := #[] }, .int .i64 0, .slice none 0 0] 39))) := (Wr.refl _ _).alloc _
  have HB : Hid (Blk (w.alloc (.cells #[.string { data := #[] }, .int .i64 0, .string { data := #[] }, .int .i64 0, .slice none 0 0] 39)) w.heap.size 39 zEc) := Blk.new' rfl rfl
  have HLO := Lib.hid (h.lo cx)
  have HQ := Lib.hid hq
  have HQ1 := Lib.hid (hq.pg (hg s))
  have HT : Hid (exprG ts ex s = exprLoop ts ex (ts.length + 1) (termP ts ex s).1 (termP ts ex s).2) := rfl
  rw [HT.out]
  have HF1 := Lib.hid (HF.out s _ HH.out hq)
  clear h hq HT
  generalize (termP ts ex s).1 = E1 at *
  generalize (termP ts ex s).2 = q1 at *
  generalize hR : exprLoop ts ex (ts.length + 1) E1 q1 = R at *
  have HR := Lib.hid hR
  clear hR
  unfold exC at HF1
  go_enter Tryz.func50, Tryz.ntmps50
  go_wp2_with (go_at_call 83; (refine (HF1.out).mono ?_); rintro e w1 ⟨a1, rfl, ha1, h1, hW1⟩
               have HS1 : Hid (TmS gp gs A n c ts w w1.heap.size E1 q1 a1 (w1.alloc (.cells (exC E1 a1).toArray 39))) := ⟨h1.alloc _, (HE.out.trans hW1).alloc _, (Blk.wr HB.out hW1 HLO.out (Nat.le_refl _)).alloc _, Blk.new' rfl rfl, (ha1.keep (keep_fx0 HB.out.lt rfl)).keep (keep_fxal _), (Blk.wr HB.out hW1 HLO.out (Nat.le_refl _)).lt, HLO.out⟩
               clear ha1 h1 hW1)
  have hzl : w.heap.size < w1.heap.size := HS1.out.lt
  have HTL := Lib.hid (fun (kk : Nat) (E : Ex) (q : PS) => (⟨fun h => (by rw [exprLoop, if_neg (by rw [h]; simp)]), fun h => (by rw [exprLoop, if_pos h])⟩ : (sees ts [m_plus, m_minus] q = false → exprLoop ts ex (kk + 1) E q = (E, q)) ∧ (sees ts [m_plus, m_minus] q = true → exprLoop ts ex (kk + 1) E q = exprLoop ts ex kk (.mk (bytesOf (pk ts q).text) 0 zs E.at_ [E, (termP ts ex (nxt q)).1]) (termP ts ex (nxt q)).2)))
  clear HH HE HB HF1
  go_loopg [4] ts.length (fun kk q4 wr => ∃ (E : Ex) (q : PS) (a : Option Addr × Nat), TmS gp gs A n c ts w w1.heap.size E q a wr ∧ ts.length ≤ kk + q.i ∧ exprLoop ts ex (kk + 1) E q = R ∧ Q d q)
  case atStart => exact ⟨E1, q1, a1, HS1.out, by omega, HR.out, HQ1.out⟩
  case round =>
    clear HS1 HR HQ1 HQ
    obtain ⟨E, q, a, hS, hk, hT, hQ⟩ := hrel
    cases hs : sees ts [m_plus, m_minus] q
    · have HS := Lib.hid hS
      have HRR : Hid (R = (E, q)) := hT.symm.trans ((HTL.out gk E q).1 hs)
      have HALL := Lib.hid (fun W A1 h1 h2 => hs ▸ HA.out q W A1 h1 h2)
      clear hS hk hT hQ hs HTL HA
      go_wp2_with (go_at_call 20; (refine (HALL.out _ _ (by exact HS.out.st.alloc _) (by exact Rd.two' rfl)).mono ?_); rintro e w2 ⟨rfl, hB2⟩
                   have HS2 := Lib.hid (HS.out.call ((HS.out.st.alloc _).below hB2) (((Wr.refl _ _).alloc _).trans (Wr.of_below hB2)))
                   have he2 := HS2.out.e
                   obtain ⟨n0, n1, n2, n3, n4⟩ := Blk.five he2
                   obtain ⟨z0, z1, z2, z3, z4⟩ := Blk.five HS2.out.z
                   obtain ⟨f0, f1, f2, f3, f4⟩ := Blk.fro5 HS2.out.z
                   clear hB2 he2)
      refine bodyPost_ret (res_c rfl _ w.heap.size 39 (exC E a) rfl (by exact ((((HS2.out.z.set_ 0 _).set_ 1 _).set_ 2 _).set_ 3 _).set_ 4 _) _ Tryz.underlying39 rfl hdEx) rfl ?_
      rw [HRR.out]
      refine ⟨a, rfl, ?_, ?_, ?_⟩
      · exact (((((HS2.out.ar.keep (keep_fxset _)).keep (keep_fxset _)).keep (keep_fxset _)).keep (keep_fxset _)).keep (keep_fxset _)).keep keep_fxfr
      · exact ((((HS2.out.st.setNew HLO.out (Nat.le_refl _) _).setNew HLO.out (Nat.le_refl _) _).setNew HLO.out (Nat.le_refl _) _).setNew HLO.out (Nat.le_refl _) _).setNew HLO.out (Nat.le_refl _) _
      · exact ((((HS2.out.wr.setNew (Nat.le_refl _) _).setNew (Nat.le_refl _) _).setNew (Nat.le_refl _) _).setNew (Nat.le_refl _) _).setNew (Nat.le_refl _) _
    · have HS := Lib.hid hS
      have hk6 : (tokAt ts q.i).kind ≠ 6 := fun e => by have h2 := hs; unfold sees isOf pk at h2; rw [e] at h2; simp at h2
      have HNX := Lib.hid (fun W (h : PSt gp gs A n c ts q W) => next_c cx h hk6)
      have HALL := Lib.hid (fun W A1 h1 h2 => hs ▸ HA.out q W A1 h1 h2)
      have hlt := sees_lt cx.ends hs
      have hQ2 : Q d (nxt q) := hQ.pg (nxt_g hlt (sees_ok hs))
      have HFX := Lib.hid (fun W (h : PSt gp gs A n c ts (nxt q) W) => HF.out (nxt q) W h hQ2)
      have HQ3 := Lib.hid (hQ2.pg (hg (nxt q)))
      have HI3 : Hid (q.i + 1 ≤ (termP ts ex (nxt q)).2.i) := (hg (nxt q)).le
      have HT2 := Lib.hid (((HTL.out gk E q).2 hs).symm.trans hT)
      have HKL := Lib.hid (And.intro hk hlt)
      clear hS hk hT hQ hs HTL hlt hQ2 hk6 HA
      generalize (termP ts ex (nxt q)).1 = X at *
      generalize (termP ts ex (nxt q)).2 = q3 at *
      unfold pk at *
      generalize tokAt ts q.i = t at *
      unfold tokCells at HNX
      have hf := fld1 (.int .i64 t.kind) (.string (bytesOf t.text)) (.int .i64 t.num) (.int .i64 t.at_)
      go_wp2_with (first
        | (go_at_call 20; (refine (HALL.out _ _ (by exact HS.out.st.alloc _) (by exact Rd.two' rfl)).mono ?_); rintro e w4 ⟨rfl, hB4⟩
           have HS4 := Lib.hid (HS.out.call ((HS.out.st.alloc _).below hB4) (((Wr.refl _ _).alloc _).trans (Wr.of_below hB4)))
           have c4 := HC0.out _ _ HS4.out.st
           clear hB4)
        | (go_at_call 47; (refine (HNX.out _ (by exact HS4.out.st)).mono ?_); rintro e w2 ⟨rfl, h2, hW2⟩
           have HS2 := Lib.hid (HS4.out.call h2 hW2)
           clear h2 hW2))
      have HB0 : Hid (Blk w2.drew w1.heap.size 39 (exC E a)) := HS2.out.e.drew
      refine region_K (by kernel_rfl) 8 (fun W' => Blk W' w1.heap.size 39 (exC E a)) ?_
      refine AnyK.pure 0 (v := .string (bytesOf t.text)) rfl (by kernel_rfl) (fun _ _ _ h => h) rfl (fun _ => by kernel_rfl) (fun _ => HB0.out) ?_
      refine AnyK.pure 1 (v := .pointer (some ⟨w1.heap.size, 3, none⟩)) rfl (by kernel_rfl) (fun _ _ _ h => h) rfl (fun _ => by kernel_rfl) (fun _ => HB0.out) ?_
      refine AnyK.load 2 (v := .int .i64 E.at_) rfl (by kernel_rfl) (by kernel_rfl) (by kernel_rfl) (fun _ _ _ h => h) rfl (fun w' hw' => ex_load (t := 3) (x := .tmp 17) (by rfl) (by kernel_rfl) agIn (hw'.cell 3)) HB0.out ?_
      refine AnyK.load 3 (v := .agg (exC E a).toArray) rfl (by kernel_rfl) (by kernel_rfl) (by kernel_rfl) (fun _ _ _ h => h) rfl (fun w' hw' => ey_loadR (x := .tmp 3) (by rfl) (by kernel_rfl) (HS2.out.ld hw')) HB0.out ?_
      refine AnyK.pure 4 (v := .pointer (some ⟨gp, 0, none⟩)) rfl (by kernel_rfl) (fun _ _ _ h => h) rfl (fun _ => by kernel_rfl) (fun _ => HB0.out) ?_
      have HD2 : Hid (TmS gp gs A n c ts w w1.heap.size E (nxt q) a w2.drew) := HS2.out.call (HS2.out.st.below ((Below.refl _ _).drew)) (Wr.of_below ((Below.refl _ _).drew))
      refine AnyK.enter 5 (d := some 21) (f := 83) (args := #[.pointer (some ⟨gp, 0, none⟩)]) (by rfl) (by kernel_rfl) (by kernel_rfl) ?_
      refine (HFX.out _ HD2.out.st).mono ?_
      rintro e w3 ⟨y, rfl, hy3, h3, hW3⟩
      have hl2 := HD2.out.e.lt
      have HS3 := Lib.hid (HD2.out.call h3 hW3)
      have HY3 := Lib.hid (hy3.keep (keep_fx (g := w1.heap.size) (Nat.lt_trans hzl hl2) hl2))
      clear hy3 h3 hW3
      refine ⟨_, rfl, fun _ => HS3.out.e, ?_⟩
      refine AnyK.main 6 (by rfl) (by kernel_rfl) rfl (fun K hK => wp_val (ex_two 37 39 (.tmp 19) (.tmp 21) (by rfl) (exC E a) (exC X y) (by kernel_rfl) (by kernel_rfl) Tryz.underlying37 (by kernel_rfl) rfl (by rw [exC_len]; omega) (by rw [exC_len]; omega)) (hK _ _ ⟨fun _ => HS3.out.e.alloc _, ?_⟩))
      refine AnyK.val 7 (v := .agg (exC (.mk (bytesOf t.text) 0 zs E.at_ [E, X]) (some ⟨w3.heap.size, 0, none⟩, 2)).toArray) (by rfl) (by kernel_rfl) rfl (ex_bld 39 [(0, .tmp 16), (3, .tmp 18), (4, .tmp 22)] (by rfl) [(0, .string (bytesOf t.text)), (3, .int .i64 E.at_), (4, .slice (some ⟨w3.heap.size, 0, none⟩) 2 2)] (by kernel_rfl) (by kernel_rfl)) (fun _ => HS3.out.e.alloc _) ?_
      refine AnyK.storeAll 8 w1.heap.size (exC (.mk (bytesOf t.text) 0 zs E.at_ [E, X]) (some ⟨w3.heap.size, 0, none⟩, 2)) 39 (exC E a) (by rfl) rfl rfl (by rfl) (by kernel_rfl) (by kernel_rfl) (by kernel_rfl) (HS3.out.e.alloc _) hdEx (exC_one _ _) rfl (fun _ _ _ h => (by cases h)) ?_
      intro w5 hb5 ho5
      have HS5 := Lib.hid (HS3.out.grow HY3.out hb5 ho5)
      refine AnyK.done (by kernel_rfl) ?_
      clear hb5 ho5
      go_wp2
      have hk5 := HKL.out
      have hi5 := HI3.out
      go_roundg (gk - 1)
      case measure => omega
      case rel => exact ⟨_, q3, _, HS5.out, by omega, by rw [show gk - 1 + 1 = gk by omega]; exact HT2.out, HQ3.out⟩
end
end Go.Proofs.YtafjkbbiaopemaaGreatDoor.Tr
