/- Part of the proof: Tak, Tam. -/
import Derived.Test.YtafjkbbiaopemaaGreatDoorTox43
set_option linter.unusedVariables false
namespace Go.Proofs.YtafjkbbiaopemaaGreatDoor.Tr
open Go.RowKit
section
variable {gp : Nat} {A : Option Addr} {n c : Nat} {ts : List Lx.Tok} {s q q' : RS} {w w' w0 : World}
set_option maxRecDepth 100000 in
set_option maxHeartbeats 4000000 in
theorem rfactor_tx (cx : RCx gp A n ts) (ex : RS → Ex × RS) (h : RSt gp A n c ts s w) (hk4 : rKind ts 4 s = true) : Calls Tryz.prog 114 #[.pointer (some ⟨gp, 0, none⟩)] w fun e w' => ∃ a : Option Addr × Nat, e = .returned (.agg (exC (rfactor ts ex s).1 a).toArray) ∧ ArgsIn (Fr w.heap.size) w' a.1 (rfactor ts ex s).1.args ∧ RSt gp A n c ts (rfactor ts ex s).2 w' ∧ Wr [gp] w w' := by
  have HR : Hid (rfactor ts ex s = (.mk k_text 0 (bytesOf (rk ts s).text) ((rk ts s).at_ : Int) [], rnx s)) := (by show _ = _; unfold rfactor; rw [if_pos hk4])
  rw [HR.out]
  have hkk : s.bad = false ∧ (rk ts s).kind = 4 := by unfold rKind at hk4; simpa using hk4
  have HLT := Lib.hid (cx.ends s.i (fun e => by have := hkk.2; unfold rk at this; omega))
  have H0 := Lib.hid h
  have HCX := Lib.hid cx
  have HN := Lib.hid (now_c cx (h.alloc (.cells zEc.toArray 39)))
  have HZ : Hid (∀ W, Below (w.alloc (.cells zEc.toArray 39)).heap.size (w.alloc (.cells zEc.toArray 39)) W → Blk W w.heap.size 39 zEc ∧ RSt gp A n c ts s W ∧ Wr [gp] w W) := fun W hW => ⟨(Blk.new w _ _).below hW (by simp), (h.alloc _).below hW, ((Wr.refl [gp] w).alloc _).trans (Wr.of_below hW)⟩
  have hgl := h.b.lt
  have hi8 : s.i < 100000 := by have := h.lt; have := cx.hn; have := cx.hn8; omega
  have HOA : Hid (∀ ad : Addr, A = some ad → ad.block ≠ w.heap.size) := fun ad e => by have := h.old cx ad e; omega
  have HB : Hid (∀ W, RSt gp A n c ts s W → W.cell? ⟨gp, 4, none⟩ = some (.bool s.bad) ∧ gp < W.heap.size ∧ W.cell? ⟨gp, 1, none⟩ = some (.int .i64 s.i) ∧ W.frozen? ⟨gp, 1, none⟩ = false) := fun W hW => ⟨hW.b.cell 4, hW.b.lt, hW.b.cell 1, hW.b.frozen 1⟩
  unfold tokCells at HN
  obtain ⟨hb, hk⟩ := hkk
  rw [hb] at HB
  have hk' : ((rk ts s).kind : Int) = 4 := by omega
  rw [hk'] at HN
  clear h cx hb HR hk hk' hk4
  generalize rk ts s = t at *
  go_enter Tryz.func114, Tryz.ntmps114
  go_wp2_with (first
    | (go_at_call 27; (refine HN.out.mono ?_); rintro e1 w2 ⟨rfl, hB2⟩
       have H2 := Lib.hid (HZ.out w2 hB2)
       obtain ⟨k4, l4, k1, j1⟩ := HB.out w2 H2.out.2.1
       have hgg : w.heap.size < w2.heap.size := H2.out.1.lt
       have hgt : gp < w2.heap.size := l4
       obtain ⟨z0, z1, z2, z3, z4⟩ := Blk.five H2.out.1
       obtain ⟨f0, f1, f2, f3, f4⟩ := Blk.fro5 H2.out.1
       clear hB2))
  have hne : gp ≠ w.heap.size := by omega
  have H3 := H2.out.2.1.next HCX.out HLT.out
  have H4 := H2.out.1.far (p := ⟨gp, 1, none⟩) (Ne.symm hne) (.int .i64 ((s.i : Int) + 1))
  refine bodyPost_ret (res_c rfl _ w.heap.size 39 [.string k_text, .int .i64 0, .string (bytesOf t.text), .int .i64 t.at_, .slice none 0 0] rfl (by exact (five_set H4).1.alloc _) _ Tryz.underlying39 rfl hdEx) rfl ⟨(none, 0), rfl, ArgsIn.nil _ _ _, (H3.1.far' (five_set H4).2 hne HOA.out).alloc _, ((((((H2.out.2.2.trans H3.2).setNew (Nat.le_refl _) _).setNew (Nat.le_refl _) _).setNew (Nat.le_refl _) _).setNew (Nat.le_refl _) _).setNew (Nat.le_refl _) _).alloc _⟩
theorem not4 (hk4 : rKind ts 4 s = false) : s.bad = true ∨ (s.bad = false ∧ ((rk ts s).kind : Int) ≠ 4) := by
  cases hb : s.bad
  · right
    unfold rKind at hk4
    rw [hb] at hk4
    simp at hk4
    exact ⟨rfl, by omega⟩
  · exact .inl rfl
set_option maxRecDepth 100000 in
set_option maxHeartbeats 4000000 in
theorem rfactor_at (cx : RCx gp A n ts) (ex : RS → Ex × RS) (d : Nat) (hat : RExK gp A n c ts 66 (ratom ts ex) (RQ d)) (h : RSt gp A n c ts s w) (hq : RQ d s) (hk4 : rKind ts 4 s = false) (hkj : rIs ts k_join s = false) : Calls Tryz.prog 114 #[.pointer (some ⟨gp, 0, none⟩)] w fun e w' => ∃ a : Option Addr × Nat, e = .returned (.agg (exC (rfactor ts ex s).1 a).toArray) ∧ ArgsIn (Fr w.heap.size) w' a.1 (rfactor ts ex s).1.args ∧ RSt gp A n c ts (rfactor ts ex s).2 w' ∧ Wr [gp] w w' := by
  have HR : Hid (rfactor ts ex s = ratom ts ex s) := (by show _ = _; unfold rfactor; rw [if_neg (by rw [hk4]; simp), if_neg (by rw [hkj]; simp)])
  rw [HR.out]
  have hor := not4 hk4
  have HAT := Lib.hid (fun W (h : RSt gp A n c ts s W) => hat s W h hq)
  have HOV := Lib.hid (fun W (h : RSt gp A n c ts s W) => over_c k_join cx h)
  have HAP : rover ts k_join s = s := by unfold rover; rw [hkj]; rfl
  rw [hkj, HAP] at HOV
  have H0 := Lib.hid h
  have HCX := Lib.hid cx
  have HN := Lib.hid (now_c cx (h.alloc (.cells zEc.toArray 39)))
  have HZ : Hid (∀ W, Below (w.alloc (.cells zEc.toArray 39)).heap.size (w.alloc (.cells zEc.toArray 39)) W → Blk W w.heap.size 39 zEc ∧ RSt gp A n c ts s W ∧ Wr [gp] w W) := fun W hW => ⟨(Blk.new w _ _).below hW (by simp), (h.alloc _).below hW, ((Wr.refl [gp] w).alloc _).trans (Wr.of_below hW)⟩
  have hgl := h.b.lt
  have hi8 : s.i < 100000 := by have := h.lt; have := cx.hn; have := cx.hn8; omega
  have HOA : Hid (∀ ad : Addr, A = some ad → ad.block ≠ w.heap.size) := fun ad e => by have := h.old cx ad e; omega
  have HB : Hid (∀ W, RSt gp A n c ts s W → W.cell? ⟨gp, 4, none⟩ = some (.bool s.bad) ∧ gp < W.heap.size ∧ W.cell? ⟨gp, 1, none⟩ = some (.int .i64 s.i) ∧ W.frozen? ⟨gp, 1, none⟩ = false) := fun W hW => ⟨hW.b.cell 4, hW.b.lt, hW.b.cell 1, hW.b.frozen 1⟩
  unfold tokCells at HN
  clear h cx HR hk4 hkj hat hq HAP
  generalize rk ts s = t at *
  generalize s.bad = bd at *
  generalize (ratom ts ex s).1 = E at *
  generalize (ratom ts ex s).2 = q at *
  unfold exC at HAT
  rcases hor with rfl | ⟨rfl, hk⟩
  all_goals
   go_enter Tryz.func114, Tryz.ntmps114
   go_wp2_with (first
    | (go_at_call 66; (refine (HAT.out _ (by exact H3.out.2.1)).mono ?_); rintro e w5 ⟨⟨a1, a2⟩, rfl, ha5, h5, hW5⟩
       have hlt4 : w.heap.size < w3.heap.size := H3.out.1.lt
       have HA5 := Lib.hid ha5
       have H5 : Hid (Blk w5 w.heap.size 39 zEc ∧ RSt gp A n c ts q w5 ∧ Wr [gp] w w5) := ⟨(hW5.block _ H3.out.1.lt (by simp; omega)).trans H3.out.1, h5, H3.out.2.2.trans hW5⟩
       have h55 := h5.b.lt
       obtain ⟨z0, z1, z2, z3, z4⟩ := Blk.five H5.out.1
       obtain ⟨f0, f1, f2, f3, f4⟩ := Blk.fro5 H5.out.1
       clear h5 ha5 hW5)
    | (go_at_call 65; (refine (HOV.out _ (by exact H2.out.2.1.alloc _)).mono ?_); rintro e2 w3 ⟨rfl, h3, hW3⟩
       have H3 : Hid (Blk w3 w.heap.size 39 zEc ∧ RSt gp A n c ts s w3 ∧ Wr [gp] w w3) := ⟨(hW3.block _ (by have := H2.out.1.lt; simp; omega) (by simp; omega)).trans (H2.out.1.alloc _), h3, (H2.out.2.2.alloc _).trans hW3⟩
       have h33 := h3.b.lt
       clear h3 hW3)
    | (go_at_call 27; (refine HN.out.mono ?_); rintro e1 w2 ⟨rfl, hB2⟩
       have H2 := Lib.hid (HZ.out w2 hB2)
       obtain ⟨k4, l4, k1, j1⟩ := HB.out w2 H2.out.2.1
       have hgg : w.heap.size < w2.heap.size := H2.out.1.lt
       have hgt : gp < w2.heap.size := l4
       clear hB2))
   have hne : gp ≠ w.heap.size := by omega
   refine bodyPost_ret (res_c rfl _ w.heap.size 39 (exC E (a1, a2)) rfl (by exact (five_set H5.out.1).1) _ Tryz.underlying39 rfl hdEx) rfl ⟨(a1, a2), rfl, ?_, H5.out.2.1.far' (five_set H5.out.1).2 hne HOA.out, ((((H5.out.2.2.setNew (Nat.le_refl _) _).setNew (Nat.le_refl _) _).setNew (Nat.le_refl _) _).setNew (Nat.le_refl _) _).setNew (Nat.le_refl _) _⟩
   exact (((((HA5.out.keep (keep_set hlt4 _)).keep (keep_set hlt4 _)).keep (keep_set hlt4 _)).keep (keep_set hlt4 _)).keep (keep_set hlt4 _)).keep (keep_low (Nat.le_of_lt hlt4))
set_option maxRecDepth 100000 in
set_option maxHeartbeats 4000000 in
theorem rfactor_jn (cx : RCx gp A n ts) (ex : RS → Ex × RS) (d : Nat) (hex : RExK gp A n c ts 64 ex (RQ d)) (hg : ∀ s, RP s (ex s).2) (h : RSt gp A n c ts s w) (hq : RQ (d + 1) s) (hk4 : rKind ts 4 s = false) (hkj : rIs ts k_join s = true) : Calls Tryz.prog 114 #[.pointer (some ⟨gp, 0, none⟩)] w fun e w' => ∃ a : Option Addr × Nat, e = .returned (.agg (exC (rfactor ts ex s).1 a).toArray) ∧ ArgsIn (Fr w.heap.size) w' a.1 (rfactor ts ex s).1.args ∧ RSt gp A n c ts (rfactor ts ex s).2 w' ∧ Wr [gp] w w' := by
  have hbb : s.bad = false := by unfold rIs at hkj; simp at hkj; exact hkj.1
  have hk : ((rk ts s).kind : Int) ≠ 4 := by rcases not4 hk4 with h1 | ⟨_, h1⟩; rw [hbb] at h1; cases h1; exact h1
  have HR : Hid (rfactor ts ex s = (.mk k_join 0 zs ((rk ts s).at_ : Int) (rjoinLoop ts ex (ts.length + 2) [] (rparen ts (rnx s))).1, rshut ts (rjoinLoop ts ex (ts.length + 2) [] (rparen ts (rnx s))).2)) := (by show _ = _; unfold rfactor; rw [if_neg (by rw [hk4]; simp), if_pos hkj])
  rw [HR.out]
  have HOV := Lib.hid (fun W (h : RSt gp A n c ts s W) => over_c k_join cx h)
  have HAP : rover ts k_join s = rnx s := by unfold rover; rw [hkj]; rfl
  rw [hkj, HAP] at HOV
  have hq1 : RQ (d + 1) (rnx s) := hq.rp rnx_p
  have HPN := Lib.hid (fun W (h : RSt gp A n c ts (rnx s) W) => paren_c cx h ⟨hq1.p0, by have := hq1.p1; omega⟩)
  have HPA : Hid (0 ≤ s.pa ∧ s.pa ≤ 14 ∧ (rparen ts (rnx s)).pa = s.pa + 1) := ⟨hq.p0, hq.p1, (rparen_pa (ts := ts) (rnx s)).1⟩
  have HQQ : Hid (∀ q, RP (rparen ts (rnx s)) q → q.bad = false → RQ d q) := fun q k hb => by
    have hb0 : (rparen ts (rnx s)).bad = false := by
      cases h5 : (rparen ts (rnx s)).bad
      · rfl
      · rw [(k.st h5).1] at hb; cases hb
    exact (hq1.down hb0).rp k
  have HEX := Lib.hid (fun q W (h : RSt gp A n c ts q W) (hq : RQ d q) => hex q W h hq)
  have HOC := Lib.hid (fun q W (h : RSt gp A n c ts q W) => over_c m_comma cx h)
  have HND0 := Lib.hid (fun q W (h : RSt gp A n c ts q W) => need_c m_rpar cx h)
  have HLO := Lib.hid (h.lo cx)
  have H0 := Lib.hid h
  have HCX := Lib.hid cx
  have HN := Lib.hid (now_c cx (h.alloc (.cells zEc.toArray 39)))
  have HZ : Hid (∀ W, Below (w.alloc (.cells zEc.toArray 39)).heap.size (w.alloc (.cells zEc.toArray 39)) W → Blk W w.heap.size 39 zEc ∧ RSt gp A n c ts s W ∧ Wr [gp] w W) := fun W hW => ⟨(Blk.new w _ _).below hW (by simp), (h.alloc _).below hW, ((Wr.refl [gp] w).alloc _).trans (Wr.of_below hW)⟩
  have hgl := h.b.lt
  have hi8 : s.i < 100000 := by have := h.lt; have := cx.hn; have := cx.hn8; omega
  have HOA : Hid (∀ ad : Addr, A = some ad → ad.block ≠ w.heap.size) := fun ad e => by have := h.old cx ad e; omega
  have HB : Hid (∀ W, RSt gp A n c ts s W → W.cell? ⟨gp, 4, none⟩ = some (.bool s.bad) ∧ gp < W.heap.size ∧ W.cell? ⟨gp, 1, none⟩ = some (.int .i64 s.i) ∧ W.frozen? ⟨gp, 1, none⟩ = false) := fun W hW => ⟨hW.b.cell 4, hW.b.lt, hW.b.cell 1, hW.b.frozen 1⟩
  unfold tokCells at HN
  rw [hbb] at HB
  clear h cx HR hk4 hkj hex hq hq1 HAP hbb
  generalize rk ts s = t at *
  generalize rparen ts (rnx s) = q1 at *
  generalize rnx s = q0 at *
  generalize hRR : rjoinLoop ts ex (ts.length + 2) [] q1 = R at *
  have HRR := Lib.hid hRR
  clear hRR
  obtain ⟨p, hp⟩ : ∃ p : Int, p = (t.at_ : Int) := ⟨_, rfl⟩
  rw [← hp]
  rw [← hp] at HN
  clear hp
  have HTL := Lib.hid (fun (kk : Nat) (l : List Ex) (q : RS) => (⟨fun h => (by rw [rjoinLoop, if_pos h]), fun h h2 => (by rw [rjoinLoop, if_neg (by rw [h]; simp), if_neg (by rw [h2]; simp)]), fun h h2 => (by rw [rjoinLoop, if_neg (by rw [h]; simp), if_pos h2])⟩ : (q.bad = true → rjoinLoop ts ex (kk + 1) l q = (l, q)) ∧ (q.bad = false → rIs ts m_comma (ex q).2 = false → rjoinLoop ts ex (kk + 1) l q = (l ++ [(ex q).1], (ex q).2)) ∧ (q.bad = false → rIs ts m_comma (ex q).2 = true → rjoinLoop ts ex (kk + 1) l q = rjoinLoop ts ex kk (l ++ [(ex q).1]) (rnx (ex q).2))))
  have HSH : Hid (∀ q : RS, rshut ts q = { rneed ts m_rpar q with pa := q.pa - 1 } ∧ (rneed ts m_rpar q).pa = q.pa) := fun q => by
    have h5 := (rneed_pa (ts := ts) m_rpar q).1
    exact ⟨by unfold rshut; dsimp only; rw [h5], h5⟩
  go_enter Tryz.func114, Tryz.ntmps114
  go_wp2_with (first
    | (go_at_call 89; (refine (HPN.out _ (by exact HJ3.out.st)).mono ?_); rintro e3 w5 ⟨rfl, h5, hW5⟩
       have J5 := Lib.hid (HJ3.out.call h5 hW5)
       clear h5 hW5)
    | (go_at_call 65; (refine (HOV.out _ (by exact H2.out.2.1.alloc _)).mono ?_); rintro e2 w3 ⟨rfl, h3, hW3⟩
       have H3 : Hid (Blk w3 w.heap.size 39 zEc ∧ RSt gp A n c ts q0 w3 ∧ Wr [gp] w w3) := ⟨(hW3.block _ (by have := H2.out.1.lt; simp; omega) (by simp; omega)).trans (H2.out.1.alloc _), h3, (H2.out.2.2.alloc _).trans hW3⟩
       have HTK : Hid (Blk w3 w2.heap.size 72 [.int .i64 t.kind, .string (bytesOf t.text), .int .i64 t.num, .int .i64 p]) := (hW3.block _ (by simp) (by simp; omega)).trans (Blk.new _ _ _)
       have m3 : w3.cell? ⟨w2.heap.size, 3, none⟩ = some (.int .i64 p) := HTK.out.cell 3
       have HJ3 : Hid (RJn gp A n c ts w w3.heap.size p [] [] (.slice none 0 0) q0 (w3.alloc (.cells #[.string k_join, .int .i64 0, .string zs, .int .i64 p, .slice none 0 0] 39))) := ⟨h3.alloc _, H3.out.2.2.alloc _, H3.out.1.alloc _, Blk.new' rfl rfl, World.ownsRow_nil _ _ _ _, rfl, fun k hk => (by cases hk), fun i e a h1 _ => (by simp at h1), H3.out.1.lt, HLO.out⟩
       have h33 := h3.b.lt
       clear h3 hW3)
    | (go_at_call 27; (refine HN.out.mono ?_); rintro e1 w2 ⟨rfl, hB2⟩
       have H2 := Lib.hid (HZ.out w2 hB2)
       obtain ⟨k4, l4, k1, j1⟩ := HB.out w2 H2.out.2.1
       have hgg : w.heap.size < w2.heap.size := H2.out.1.lt
       have hgt : gp < w2.heap.size := l4
       clear hB2))
  generalize w3.heap.size = G at *
  clear HOV HPN HN HZ HB H2 H3 HTK HJ3 H0 HOA k4 k1 j1 m3
  go_loopg [] (ts.length + 1) (fun kk wr => ∃ (l : List Ex) (sl : List (Option Addr × Nat)) (A1 : Option Addr) (c1 : Nat) (q : RS), RJn gp A n c ts w G p l sl (.slice A1 l.length c1) q wr ∧ ts.length ≤ kk + q.i ∧ l.length ≤ q.i ∧ rjoinLoop ts ex (kk + 1) l q = R ∧ RP q1 q)
  case atStart => exact ⟨[], [], none, 0, q1, J5.out, by omega, by simp, HRR.out, RP.refl _⟩
  case round =>
    clear J5 HRR
    obtain ⟨l, sl, A1, c1, q, hS, hk, hll, hT, hQ⟩ := hrel
    have hpa : 0 ≤ q.pa ∧ q.pa ≤ 100 := by have h5 := HPA.out; rcases hQ.pa with h | ⟨_, h⟩ <;> omega
    have g4 : wr.cell? ⟨gp, 4, none⟩ = some (.bool q.bad) := hS.st.b.cell 4
    have gl4 := hS.st.b.lt
    cases hs : q.bad
    · have HS := Lib.hid hS
      rw [hs] at g4
      have hQ2 : RQ d q := HQQ.out q hQ hs
      have hlt := hS.st.lt
      have hl9 : l.length ≤ 100000 := by have h1 := HCX.out.hn; have h2 := HCX.out.hn8; omega
      have HFX := Lib.hid (fun W (h : RSt gp A n c ts q W) => HEX.out q W h hQ2)
      have HQ3 := Lib.hid (hQ.trans (hg q))
      have HI3 : Hid (q.i ≤ (ex q).2.i) := (hg q).le
      have HOC2 := Lib.hid (fun W (h : RSt gp A n c ts (ex q).2 W) => HOC.out (ex q).2 W h)
      have HT1 := Lib.hid (fun h2 => ((HTL.out gk l q).2.1 hs h2).symm.trans hT)
      have HT2 := Lib.hid (fun h2 => ((HTL.out gk l q).2.2 hs h2).symm.trans hT)
      have HKL := Lib.hid (And.intro hk (And.intro hlt hll))
      clear hS hk hll hT hQ hs HTL HEX HOC HQQ hlt hQ2 hpa
      generalize (ex q).1 = X9 at *
      generalize (ex q).2 = q3 at *
      go_wp2
      have HD9 : Hid (RJn gp A n c ts w G p l sl (.slice A1 l.length c1) q wr.drew) := HS.out.call (HS.out.st.below ((Below.refl _ _).drew)) (Wr.of_below ((Below.refl _ _).drew))
      refine region_K (by kernel_rfl) 7 (fun W' => Blk W' G 39 [.string k_join, .int .i64 0, .string zs, .int .i64 p, .slice A1 l.length c1]) ?_
      refine AnyK.pure 0 (v := .pointer (some ⟨G, 4, none⟩)) rfl (by kernel_rfl) (fun _ _ _ h => h) rfl (fun _ => by kernel_rfl) (fun _ => HD9.out.e) ?_
      refine AnyK.load 1 (v := .slice A1 l.length c1) rfl (by kernel_rfl) (by kernel_rfl) (by kernel_rfl) (fun _ _ _ h => h) rfl (fun w' hw' => ex_load (t := 37) (x := .tmp 44) (by rfl) (by kernel_rfl) agSlx (hw'.cell 4)) HD9.out.e ?_
      refine AnyK.pure 2 (v := .pointer (some ⟨gp, 0, none⟩)) rfl (by kernel_rfl) (fun _ _ _ h => h) rfl (fun _ => by kernel_rfl) (fun _ => HD9.out.e) ?_
      refine AnyK.enter 3 (d := some 47) (f := 64) (args := #[.pointer (some ⟨gp, 0, none⟩)]) (by rfl) (by kernel_rfl) (by kernel_rfl) ?_
      refine (HFX.out _ HD9.out.st).mono ?_
      rintro e wx ⟨y, rfl, hy, hx, hWx⟩
      have HX9 := Lib.hid (HD9.out.call hx hWx)
      have HY9 : Hid (ArgsIn (Fj w.heap.size G (.slice A1 l.length c1)) wx y.1 X9.args) := HD9.out.fr (Nat.le_refl _) hy
      have hl9 := HX9.out.lt
      have hm9 := HX9.out.e.lt
      clear hy hx hWx
      refine ⟨_, rfl, fun _ => HX9.out.e, ?_⟩
      refine AnyK.main 4 (by rfl) (by kernel_rfl) rfl (fun K hK => wp_val (ex_one1 37 39 (.tmp 47) (by rfl) (exC X9 y) (by kernel_rfl) Tryz.underlying37 (by kernel_rfl) (by rw [exC_len]; omega) (by rw [exC_len]; omega)) (hK _ _ ⟨fun _ => HX9.out.e.alloc _, ?_⟩))
      refine AnyK.main 5 (by rfl) (by kernel_rfl) rfl (fun K hK => wp_app (.tmp 45) (.tmp 48) 37 (by rfl) (w.heap.size + 1) 39 5 72 Tryz.underlying37 eEx (.slice A1 l.length c1) l.length (zipC exC l sl) (by kernel_rfl) (HX9.out.own.alloc _) (some ⟨wx.heap.size, 0, none⟩) 1 1 (exC X9 y) (by kernel_rfl) (RdS.new wx _ (exC X9 y) 5 rfl) (exC_one _ _) (by omega) (by omega) (by simp; omega) (fun A7 c7 w7 hown7 hc7 hg7 hat7 => hK _ _ ⟨fun _ => (HX9.out.e.alloc _).grown hg7 (fun e => HX9.out.ob _ e.symm rfl), ?_⟩))
      have hb7 := (HX9.out.e.alloc (.cells (exC X9 y).toArray 39)).grown hg7 (fun e => HX9.out.ob _ e.symm rfl)
      refine AnyK.val 6 (v := .pointer (some ⟨G, 4, none⟩)) (by rfl) (by kernel_rfl) rfl (by kernel_rfl) (fun _ => hb7) ?_
      have HP9 := Lib.hid (HX9.out.push HY9.out hg7 hown7 hat7)
      refine AnyK.store 7 (d := none) (w' := w7.setCell ⟨G, 4, none⟩ (.slice A7 (l.length + 1) c7)) (by rfl) (fun o ho => ey_storeS ho (by kernel_rfl) (by kernel_rfl) szSlx (hb7.cell 4) (hb7.frozen 4)) (by kernel_rfl) (fun h => (by cases h)) ?_
      refine AnyK.done (by kernel_rfl) ?_
      clear hb7 hown7 hg7 hat7
      have hpa : 0 ≤ q3.pa ∧ q3.pa ≤ 100 := by have h5 := HPA.out; rcases HQ3.out.pa with h | ⟨_, h⟩ <;> omega
      cases hs2 : rIs ts m_comma q3
      · have hap : rover ts m_comma q3 = q3 := by unfold rover; rw [hs2]; rfl
        rw [hs2, hap] at HOC2
        have HRE : Hid (R = (l ++ [X9], q3)) := (HT1.out hs2).symm
        obtain ⟨hsh, hp3⟩ := HSH.out q3
        have HND := Lib.hid (fun W (h : RSt gp A n c ts q3 W) => HND0.out q3 W h)
        have HSE : Hid (rshut ts R.2 = { rneed ts m_rpar q3 with pa := q3.pa - 1 }) := (by show _ = _; rw [HRE.out]; exact hsh)
        have HP3 := Lib.hid hp3
        have hlen : (l ++ [X9]).length = l.length + 1 := by simp
        have HP9' : Hid (RJn gp A n c ts w G p (l ++ [X9]) (sl ++ [y]) (.slice A7 (l ++ [X9]).length c7) q3 (w7.setCell ⟨G, 4, none⟩ (.slice A7 (l.length + 1) c7))) := by rw [hlen]; exact HP9.out
        clear hsh hp3 hs2 hap HT1 HT2 HND0 HSH HP9 HX9 HY9 HD9 HS HFX
        generalize hqn : rneed ts m_rpar q3 = qn at *
        clear hqn
        generalize hqe : q3 = qe at *
        clear hqe
        go_wp2_with (first
        | (go_at_call 63; (refine (HND.out _ (by exact HS8.out.st)).mono ?_); rintro e w9 ⟨rfl, h9, hW9⟩
           have HS9 := Lib.hid (HS8.out.call h9 hW9)
           have g3 : w9.cell? ⟨gp, 3, none⟩ = some (.int .i64 qe.pa) := HP3.out ▸ h9.b.cell 3
           have gf := h9.b.frozen 3
           have gl := h9.b.lt
           have hgG : w.heap.size < G := HS9.out.lt
           have hpG : gp < w.heap.size := HLO.out.1
           obtain ⟨n0, n1, n2, n3, n4⟩ := Blk.five HS9.out.e
           obtain ⟨z0, z1, z2, z3, z4⟩ := Blk.five HS9.out.z
           obtain ⟨f0, f1, f2, f3, f4⟩ := Blk.fro5 HS9.out.z
           clear h9 hW9)
        | (go_at_call 65; (refine (HOC2.out _ (by exact HP9'.out.st)).mono ?_); rintro e w8 ⟨rfl, h8, hW8⟩
           have HS8 := Lib.hid (HP9'.out.call h8 hW8)
           clear h8 hW8))
        have H6 := RSt.upd (s' := { qn with pa := qe.pa - 1 }) HCX.out HS9.out.st ((Only.refl w9 gp).setCell 3 _) (HS9.out.st.b.set_ 3 (.int .i64 (qe.pa - 1))) HS9.out.st.lt
        have hng : gp ≠ w.heap.size := by have := HLO.out.1; omega
        have H7 := HS9.out.z.far (p := ⟨gp, 3, none⟩) (Ne.symm hng) (.int .i64 (qe.pa - 1))
        refine bodyPost_ret (res_c rfl _ w.heap.size 39 (exC (.mk k_join 0 zs p (l ++ [X9])) (A7, c7)) rfl ((by rw [show exC (.mk k_join 0 zs p (l ++ [X9])) (A7, c7) = [.string k_join, .int .i64 0, .string zs, .int .i64 p, .slice A7 (l.length + 1) c7] by simp [exC, Ex.op, Ex.num, Ex.text, Ex.at_, Ex.args]]; exact (five_set H7).1)) _ Tryz.underlying39 rfl hdEx) rfl ?_
        rw [HSE.out, HRE.out]
        refine ⟨(A7, c7), rfl, ?_, H6.1.only HLO.out (Nat.le_refl _) (five_set H7).2, ((((((HS9.out.wr.trans H6.2).setNew (Nat.le_refl _) _).setNew (Nat.le_refl _) _).setNew (Nat.le_refl _) _).setNew (Nat.le_refl _) _).setNew (Nat.le_refl _) _)⟩
        exact (((((((ArgsIn.rjn HS9.out).keep (keep_fxwr H6.2 HLO.out.all)).keep (keep_fxset _)).keep (keep_fxset _)).keep (keep_fxset _)).keep (keep_fxset _)).keep (keep_fxset _)).keep keep_fxfr
      · have hap : rover ts m_comma q3 = rnx q3 := by unfold rover; rw [hs2]; rfl
        rw [hs2, hap] at HOC2
        have hlt3 := rIs_lt HCX.out hs2
        have HT3 := Lib.hid (HT2.out hs2)
        have HQ4 : Hid (RP q1 (rnx q3)) := HQ3.out.trans rnx_p
        clear hs2 hap HT1 HT2 HND0 HSH
        go_wp2_with (go_at_call 65; (refine (HOC2.out _ (by exact HP9.out.st)).mono ?_); rintro e w8 ⟨rfl, h8, hW8⟩
                     have HS8 := Lib.hid (HP9.out.call h8 hW8)
                     clear h8 hW8)
        have hk5 := HKL.out
        have hi5 := HI3.out
        have hi6 : (rnx q3).i = q3.i + 1 := rfl
        go_roundg (gk - 1)
        case measure => omega
        case rel => exact ⟨l ++ [X9], sl ++ [y], A7, c7, rnx q3, by rw [List.length_append]; exact HS8.out, by omega, by rw [List.length_append, List.length_singleton]; omega, by rw [show gk - 1 + 1 = gk by omega]; exact HT3.out, HQ4.out⟩
    · have HS := Lib.hid hS
      rw [hs] at g4
      have HRE : Hid (R = (l, q)) := hT.symm.trans ((HTL.out gk l q).1 hs)
      obtain ⟨hsh, hp3⟩ := HSH.out q
      have HND := Lib.hid (fun W (h : RSt gp A n c ts q W) => HND0.out q W h)
      have HSE : Hid (rshut ts R.2 = { rneed ts m_rpar q with pa := q.pa - 1 }) := (by show _ = _; rw [HRE.out]; exact hsh)
      have HP3 := Lib.hid hp3
      clear hsh hp3 hs HND0 HSH HTL HEX HOC HQQ hS hk hll hT hQ
      generalize hqn : rneed ts m_rpar q = qn at *
      clear hqn
      generalize hqe : q = qe at *
      clear hqe
      go_wp2_with (first
        | (go_at_call 63; (refine (HND.out _ (by exact HS.out.st)).mono ?_); rintro e w9 ⟨rfl, h9, hW9⟩
           have HS9 := Lib.hid (HS.out.call h9 hW9)
           have g3 : w9.cell? ⟨gp, 3, none⟩ = some (.int .i64 qe.pa) := HP3.out ▸ h9.b.cell 3
           have gf := h9.b.frozen 3
           have gl := h9.b.lt
           have hgG : w.heap.size < G := HS9.out.lt
           have hpG : gp < w.heap.size := HLO.out.1
           obtain ⟨n0, n1, n2, n3, n4⟩ := Blk.five HS9.out.e
           obtain ⟨z0, z1, z2, z3, z4⟩ := Blk.five HS9.out.z
           obtain ⟨f0, f1, f2, f3, f4⟩ := Blk.fro5 HS9.out.z
           clear h9 hW9))
      have H6 := RSt.upd (s' := { qn with pa := qe.pa - 1 }) HCX.out HS9.out.st ((Only.refl w9 gp).setCell 3 _) (HS9.out.st.b.set_ 3 (.int .i64 (qe.pa - 1))) HS9.out.st.lt
      have hng : gp ≠ w.heap.size := by have := HLO.out.1; omega
      have H7 := HS9.out.z.far (p := ⟨gp, 3, none⟩) (Ne.symm hng) (.int .i64 (qe.pa - 1))
      refine bodyPost_ret (res_c rfl _ w.heap.size 39 (exC (.mk k_join 0 zs p l) (A1, c1)) rfl ((by exact (five_set H7).1)) _ Tryz.underlying39 rfl hdEx) rfl ?_
      rw [HSE.out, HRE.out]
      refine ⟨(A1, c1), rfl, ?_, H6.1.only HLO.out (Nat.le_refl _) (five_set H7).2, ((((((HS9.out.wr.trans H6.2).setNew (Nat.le_refl _) _).setNew (Nat.le_refl _) _).setNew (Nat.le_refl _) _).setNew (Nat.le_refl _) _).setNew (Nat.le_refl _) _)⟩
      exact (((((((ArgsIn.rjn HS9.out).keep (keep_fxwr H6.2 HLO.out.all)).keep (keep_fxset _)).keep (keep_fxset _)).keep (keep_fxset _)).keep (keep_fxset _)).keep (keep_fxset _)).keep keep_fxfr
theorem rfactor_c (cx : RCx gp A n ts) (d : Nat) (hex : RExK gp A n c ts 64 (rexpr ts d) (RQ d)) : RExK gp A n c ts 114 (rfactor ts (rexpr ts d)) (RQ (d + 1)) := by
  intro s w h hq
  cases hk4 : rKind ts 4 s
  · cases hkj : rIs ts k_join s
    · exact rfactor_at cx (rexpr ts d) (d + 1) (ratom_c cx d hex) h hq hk4 hkj
    · exact rfactor_jn cx (rexpr ts d) d hex (fun s => rexpr_p d s) h hq hk4 hkj
  · exact rfactor_tx cx (rexpr ts d) h hk4
theorem rexpr_all (cx : RCx gp A n ts) : ∀ d : Nat, RExK gp A n c ts 64 (rexpr ts d) (RQ d)
  | 0 => fun _ _ _ hq => absurd hq.d1 (by omega)
  | d + 1 => rexpr_c cx (rexpr ts d) (d + 1) (rterm_c cx (rexpr ts d) (d + 1) (rfactor_c cx d (rexpr_all cx d)) (fun s => rfactor_p (fun s => rexpr_p d s) s)) (fun s => rterm_p (fun s => rexpr_p d s) s)
theorem ratom_all (cx : RCx gp A n ts) (d : Nat) : RExK gp A n c ts 66 (ratom ts (rexpr ts d)) (RQ (d + 1)) := ratom_c cx d (rexpr_all cx d)
end
end Go.Proofs.YtafjkbbiaopemaaGreatDoor.Tr
namespace Go.Proofs.YtafjkbbiaopemaaGreatDoor.Tr
open Go.RowKit
attribute [local go_sem ↓] ldq_St
section
variable {gp : Nat} {A : Option Addr} {n c : Nat} {ts : List Lx.Tok}
set_option maxRecDepth 100000 in
set_option maxHeartbeats 4000000 in
theorem rstmt_wait (cx : RCx gp A n ts) (st : RS → St × RS) (d : Nat) (hbo : RBoK gp A n c ts 91 (rbody ts st) (RQS d)) (hg : ∀ s, RP s (st s).2) (s : RS) (w : World) (h : RSt gp A n c ts s w) (hq : RQS d s) (hs : rbegins ts s = true) (hK : bytesOf (rk ts s).text = k_wait) :
    Calls Tryz.prog 68 #[.pointer (some ⟨gp, 0, none⟩)] w fun e w' => ∃ p : StA, e = .returned (.agg (stC (rstmtG ts st s).1 p).toArray) ∧ StIn (Fr w.heap.size) w' (rstmtG ts st s).1 p ∧ RSt gp A n c ts (rstmtG ts st s).2 w' ∧ Wr [gp] w w' := by
  have HT : Hid (rstmtG ts st s = (.mk k_wait ((rk ts s).at_ : Int) zR (REX ts (rnx s)).1 zE zE [] zR zR [] [], (rneed ts m_semi (REX ts (rnx s)).2))) := (by show _ = _; unfold rstmtG; dsimp only; rw [hK]; rw [if_neg (by decide), if_neg (by decide), if_neg (by decide), if_neg (by decide), if_pos rfl])
  rw [HT.out]
  have HNW := Lib.hid (fun W (h : RSt gp A n c ts s W) => now_c cx h)
  have HH := Lib.hid (h.alloc (.cells (stC zT pA0).toArray 42))
  have HE : Hid (Wr [gp] w (w.alloc (.cells (stC zT pA0).toArray 42))) := (Wr.refl _ _).alloc _
  have HB : Hid (Blk (w.alloc (.cells (stC zT pA0).toArray 42)) w.heap.size 42 (stC zT pA0)) := Blk.new _ _ _
  have HLO := Lib.hid (h.lo cx)
  have HX : Hid (∀ W, RSt gp A n c ts s W → W.cell? ⟨gp, 1, none⟩ = some (.int .i64 s.i) ∧ W.frozen? ⟨gp, 1, none⟩ = false ∧ gp < W.heap.size) := fun W h => ⟨h.b.cell 1, h.b.frozen 1, h.b.lt⟩
  have hi8 : s.i < 100000 := by have := h.lt; have := cx.hn; have := cx.hn8; omega
  have hltt := rbegins_lt cx.ends hs
  have HNX := Lib.hid (fun W (h : RSt gp A n c ts s W) => RSt.next cx h hltt)
  unfold tokCells at HNW
  have C1 := Lib.hid (fun W (h : RSt gp A n c ts (rnx s) W) => rexpr_all cx 14 (rnx s) W h (hq.q.rp (rnx_p)))
  have C2 := Lib.hid (fun W (h : RSt gp A n c ts (REX ts (rnx s)).2 W) => need_c m_semi cx h)
  clear h hq hs hltt HT hbo 
  generalize rnx s = q0 at *
  generalize (REX ts q0).1 = X1 at *
  generalize (REX ts q0).2 = q1 at *
  generalize (rneed ts m_semi q1) = q2 at *
  rw [hK] at HNW
  generalize ((rk ts s).at_ : Int) = at_ at *
  generalize ((rk ts s).kind : Int) = tk at *
  generalize (rk ts s).num = tn at *
  clear hK cx hg
  have hf1 := fld1 (.int .i64 tk) (.string k_wait) (.int .i64 tn) (.int .i64 at_)
  have hf3 := fld3 (.int .i64 tk) (.string k_wait) (.int .i64 tn) (.int .i64 at_)
  go_enter Tryz.func68, Tryz.ntmps68
  go_upto_region 2 with (first
    | (go_at_call 27; (refine (HNW.out _ (by exact H2.out)).mono ?_); rintro e w3 ⟨rfl, hB3⟩
       have H3 := Lib.hid (H2.out.below hB3)
       have HE3 := Lib.hid (HE2.out.trans (Wr.of_below hB3))
       have HB3 := qbl HB2 hB3
       clear hB3)
    | (go_at_call 27; (refine (HNW.out _ (by exact HH.out)).mono ?_); rintro e w2 ⟨rfl, hB2⟩
       have H2 := Lib.hid (HH.out.below hB2)
       have HE2 := Lib.hid (HE.out.trans (Wr.of_below hB2))
       have HB2 := qbl HB hB2
       clear hB2)
    | refine wpList_build rfl 42 [(0, .tmp 6), (1, .tmp 9)] rfl _ (by rfl) _ (bld_St _ _ _) ?_
    | (refine wpList_store_all rfl 42 (.tmp 3) (.tmp 10) rfl w3.heap.size (stC (kT k_wait at_) pA0) (by rfl) (by rfl) 42 (stC zT pA0) (by exact Blk.new' (by simp) rfl) hdSt (stC_one _ _) rfl ?_
       intro w6 hb6 ho6
       have hz3 := HB3.out.lt
       have hgt : Hid (w.heap.size < w3.heap.size) := (by show _ < _; omega)
       have HS6 : Hid (RLn gp w3.heap.size A n c ts w6 (kT k_wait at_) pA0 s w6) := ⟨(H3.out.alloc _).only (HLO.out.mono (by omega)) (Nat.le_refl _) ho6, Wr.refl _ _, hb6, StIn.zero _ _ _ _, HLO.out.mono (by omega), hb6.lt⟩
       have HW6 : Hid (Wr [gp] w w6) := (HE3.out.alloc _).thenb (ho6.below (Below.refl _ _) (by omega) (by have := HE3.out.size; simp; omega))
       have HB6 : Hid (Blk w6 w.heap.size 42 (stC zT pA0)) := ho6.blk (HB3.out.alloc _) (by omega)
       obtain ⟨k1, j1, l1⟩ := HX.out w6 HS6.out.st
       clear hb6 ho6 hz3))
  obtain ⟨gt, hgx⟩ : ∃ gt, gt = w3.heap.size := ⟨_, rfl⟩
  rw [← hgx] at hgt HS6
  rw [← hgx]
  clear hgx H2 HE2 HB2 H3 HE3 HB3 HNW HH HE HB
  go_upto_region 3 with fail
  have HS0 : Hid (RLn gp gt A n c ts w6 (kT k_wait at_) pA0 q0 (w6.setCell ⟨gp, 1, none⟩ (.int .i64 ((s.i : Int) + 1)))) := HS6.out.call (HNX.out w6 HS6.out.st).1 (HNX.out w6 HS6.out.st).2
  generalize w6.setCell ⟨gp, 1, none⟩ (.int .i64 ((s.i : Int) + 1)) = w7 at *
  have hc0 : w7.cell? ⟨gt, 0, none⟩ = some (.string k_wait) := HS0.out.e.cell 0
  clear HX HNX k1 j1 l1 HS6
  go_wp2_with (first
    | (refine wpList_store_all rfl 42 (.tmp 2) (.tmp 168) rfl w.heap.size (stC (.mk k_wait at_ zR X1 zE zE [] zR zR [] []) ⟨a1, pA0.b, pA0.c, pA0.r, pA0.y, pA0.z⟩) (by rfl) (by rfl) 42 (stC zT pA0) (by exact HZ8.out) hdSt (stC_one _ _) rfl ?_; intro w9_ hb9 ho9)
    | (go_at_call 63; (with_reducible refine (C2.out _ (by exact HS2.out.st)).mono ?_); rintro e v3 ⟨rfl, h2, hW2⟩; have HS3 := Lib.hid (HS2.out.call h2 hW2); have kk3 : v3.cell? ⟨gt, 0, none⟩ = some (.string k_wait) := HS3.out.e.cell 0; have hl8 := sd_ld HS3.out.e; have HZ8 := Lib.hid (HS3.out.res HB6.out hgt.out HLO.out); clear h2 hW2)
    | (refine wpList_store rfl 39 (.tmp 73) (.tmp 72) rfl gt 4 (exC X1 a1) (by rfl) (by rfl) 42 (stC (.mk k_wait at_ zR zE zE zE [] zR zR [] []) ⟨pA0.a, pA0.b, pA0.c, pA0.r, pA0.y, pA0.z⟩) (by exact HS1.out.e) hdEx (exC_one X1 a1) (by show 4 + 5 ≤ 26; omega) ?_; intro v2 hb3 ho3; have HS2 : Hid (RLn gp gt A n c ts w6 (.mk k_wait at_ zR X1 zE zE [] zR zR [] []) ⟨a1, pA0.b, pA0.c, pA0.r, pA0.y, pA0.z⟩ q1 v2) := HS1.out.put ho3 (by exact hb3) ⟨⟨HA1.out, HS1.out.ar.1.2⟩, HS1.out.ar.2⟩; have kk2 : v2.cell? ⟨gt, 0, none⟩ = some (.string k_wait) := HS2.out.e.cell 0; clear hb3 ho3)
    | (go_at_call 64; (refine (C1.out _ (by exact HS0.out.st)).mono ?_); rintro e v1 ⟨a1, rfl, ha, h2, hW2⟩; have HA1 := Lib.hid (ArgsIn.rup HS0.out ha); have HS1 := Lib.hid (HS0.out.call h2 hW2); clear ha h2 hW2))
  obtain ⟨e1, e2, e3⟩ := RStE HS3.out HW6.out hgt.out HLO.out ho9
  refine bodyPost_ret (res_c rfl _ w.heap.size 42 (stC (.mk k_wait at_ zR X1 zE zE [] zR zR [] []) ⟨a1, pA0.b, pA0.c, pA0.r, pA0.y, pA0.z⟩) rfl hb9 _ Tryz.underlying42 rfl hdSt) rfl ⟨⟨a1, pA0.b, pA0.c, pA0.r, pA0.y, pA0.z⟩, rfl, e1, e2, e3⟩
set_option maxRecDepth 100000 in
set_option maxHeartbeats 4000000 in
theorem rstmt_cover (cx : RCx gp A n ts) (st : RS → St × RS) (d : Nat) (hbo : RBoK gp A n c ts 91 (rbody ts st) (RQS d)) (hg : ∀ s, RP s (st s).2) (s : RS) (w : World) (h : RSt gp A n c ts s w) (hq : RQS d s) (hs : rbegins ts s = true) (hK : bytesOf (rk ts s).text = k_cover) :
    Calls Tryz.prog 68 #[.pointer (some ⟨gp, 0, none⟩)] w fun e w' => ∃ p : StA, e = .returned (.agg (stC (rstmtG ts st s).1 p).toArray) ∧ StIn (Fr w.heap.size) w' (rstmtG ts st s).1 p ∧ RSt gp A n c ts (rstmtG ts st s).2 w' ∧ Wr [gp] w w' := by
  have HT : Hid (rstmtG ts st s = (.mk k_cover ((rk ts s).at_ : Int) zR zE zE zE (rroutes ts false (rnx s)).1 zR zR [] [], (rneed ts m_semi (rroutes ts false (rnx s)).2))) := (by show _ = _; unfold rstmtG; dsimp only; rw [hK]; rw [if_neg (by decide), if_neg (by decide), if_neg (by decide), if_pos rfl])
  rw [HT.out]
  have HNW := Lib.hid (fun W (h : RSt gp A n c ts s W) => now_c cx h)
  have HH := Lib.hid (h.alloc (.cells (stC zT pA0).toArray 42))
  have HE : Hid (Wr [gp] w (w.alloc (.cells (stC zT pA0).toArray 42))) := (Wr.refl _ _).alloc _
  have HB : Hid (Blk (w.alloc (.cells (stC zT pA0).toArray 42)) w.heap.size 42 (stC zT pA0)) := Blk.new _ _ _
  have HLO := Lib.hid (h.lo cx)
  have HX : Hid (∀ W, RSt gp A n c ts s W → W.cell? ⟨gp, 1, none⟩ = some (.int .i64 s.i) ∧ W.frozen? ⟨gp, 1, none⟩ = false ∧ gp < W.heap.size) := fun W h => ⟨h.b.cell 1, h.b.frozen 1, h.b.lt⟩
  have hi8 : s.i < 100000 := by have := h.lt; have := cx.hn; have := cx.hn8; omega
  have hltt := rbegins_lt cx.ends hs
  have HNX := Lib.hid (fun W (h : RSt gp A n c ts s W) => RSt.next cx h hltt)
  unfold tokCells at HNW
  have C1 := Lib.hid (fun W (h : RSt gp A n c ts (rnx s) W) => routes_c cx h false)
  have C2 := Lib.hid (fun W (h : RSt gp A n c ts (rroutes ts false (rnx s)).2 W) => need_c m_semi cx h)
  clear h hq hs hltt HT hbo 
  generalize rnx s = q0 at *
  generalize (rroutes ts false q0).1 = X1 at *
  generalize (rroutes ts false q0).2 = q1 at *
  generalize (rneed ts m_semi q1) = q2 at *
  rw [hK] at HNW
  generalize ((rk ts s).at_ : Int) = at_ at *
  generalize ((rk ts s).kind : Int) = tk at *
  generalize (rk ts s).num = tn at *
  clear hK cx hg
  have hf1 := fld1 (.int .i64 tk) (.string k_cover) (.int .i64 tn) (.int .i64 at_)
  have hf3 := fld3 (.int .i64 tk) (.string k_cover) (.int .i64 tn) (.int .i64 at_)
  go_enter Tryz.func68, Tryz.ntmps68
  go_upto_region 2 with (first
    | (go_at_call 27; (refine (HNW.out _ (by exact H2.out)).mono ?_); rintro e w3 ⟨rfl, hB3⟩
       have H3 := Lib.hid (H2.out.below hB3)
       have HE3 := Lib.hid (HE2.out.trans (Wr.of_below hB3))
       have HB3 := qbl HB2 hB3
       clear hB3)
    | (go_at_call 27; (refine (HNW.out _ (by exact HH.out)).mono ?_); rintro e w2 ⟨rfl, hB2⟩
       have H2 := Lib.hid (HH.out.below hB2)
       have HE2 := Lib.hid (HE.out.trans (Wr.of_below hB2))
       have HB2 := qbl HB hB2
       clear hB2)
    | refine wpList_build rfl 42 [(0, .tmp 6), (1, .tmp 9)] rfl _ (by rfl) _ (bld_St _ _ _) ?_
    | (refine wpList_store_all rfl 42 (.tmp 3) (.tmp 10) rfl w3.heap.size (stC (kT k_cover at_) pA0) (by rfl) (by rfl) 42 (stC zT pA0) (by exact Blk.new' (by simp) rfl) hdSt (stC_one _ _) rfl ?_
       intro w6 hb6 ho6
       have hz3 := HB3.out.lt
       have hgt : Hid (w.heap.size < w3.heap.size) := (by show _ < _; omega)
       have HS6 : Hid (RLn gp w3.heap.size A n c ts w6 (kT k_cover at_) pA0 s w6) := ⟨(H3.out.alloc _).only (HLO.out.mono (by omega)) (Nat.le_refl _) ho6, Wr.refl _ _, hb6, StIn.zero _ _ _ _, HLO.out.mono (by omega), hb6.lt⟩
       have HW6 : Hid (Wr [gp] w w6) := (HE3.out.alloc _).thenb (ho6.below (Below.refl _ _) (by omega) (by have := HE3.out.size; simp; omega))
       have HB6 : Hid (Blk w6 w.heap.size 42 (stC zT pA0)) := ho6.blk (HB3.out.alloc _) (by omega)
       obtain ⟨k1, j1, l1⟩ := HX.out w6 HS6.out.st
       clear hb6 ho6 hz3))
  obtain ⟨gt, hgx⟩ : ∃ gt, gt = w3.heap.size := ⟨_, rfl⟩
  rw [← hgx] at hgt HS6
  rw [← hgx]
  clear hgx H2 HE2 HB2 H3 HE3 HB3 HNW HH HE HB
  go_upto_region 3 with fail
  have HS0 : Hid (RLn gp gt A n c ts w6 (kT k_cover at_) pA0 q0 (w6.setCell ⟨gp, 1, none⟩ (.int .i64 ((s.i : Int) + 1)))) := HS6.out.call (HNX.out w6 HS6.out.st).1 (HNX.out w6 HS6.out.st).2
  generalize w6.setCell ⟨gp, 1, none⟩ (.int .i64 ((s.i : Int) + 1)) = w7 at *
  have hc0 : w7.cell? ⟨gt, 0, none⟩ = some (.string k_cover) := HS0.out.e.cell 0
  clear HX HNX k1 j1 l1 HS6
  go_wp2_with (first
    | (refine wpList_store_all rfl 42 (.tmp 2) (.tmp 168) rfl w.heap.size (stC (.mk k_cover at_ zR zE zE zE X1 zR zR [] []) ⟨pA0.a, pA0.b, pA0.c, (A1, c1), pA0.y, pA0.z⟩) (by rfl) (by rfl) 42 (stC zT pA0) (by exact HZ8.out) hdSt (stC_one _ _) rfl ?_; intro w9_ hb9 ho9)
    | (go_at_call 63; (with_reducible refine (C2.out _ (by exact HS1_.out.st)).mono ?_); rintro e v2 ⟨rfl, h2, hW2⟩; have HS2 := Lib.hid (HS1_.out.call h2 hW2); have kk2 : v2.cell? ⟨gt, 0, none⟩ = some (.string k_cover) := HS2.out.e.cell 0; have hl8 := sd_ld HS2.out.e; have HZ8 := Lib.hid (HS2.out.res HB6.out hgt.out HLO.out); clear h2 hW2)
    | (go_at_call 90; (refine (C1.out _ (by exact HS0.out.st)).mono ?_); rintro e v1 ⟨A1, c1, rfl, hr, h2, hW2⟩; have HR := Lib.hid (RfsIn.rup HS0.out hr); have HS1 := Lib.hid (HS0.out.call h2 hW2); have c19_ : v1.cell? ⟨gt, 19, none⟩ = some (.slice none 0 0) := HS1.out.e.cell 19; have f19_ := HS1.out.e.frozen 19; have lt19 := HS1.out.e.lt; have HS1_ : Hid (RLn gp gt A n c ts w6 (.mk k_cover at_ zR zE zE zE X1 zR zR [] []) ⟨pA0.a, pA0.b, pA0.c, (A1, c1), pA0.y, pA0.z⟩ q1 (v1.setCell ⟨gt, 19, none⟩ (.slice A1 X1.length c1))) := HS1.out.one 19 _ rfl ⟨⟨HS1.out.ar.1.1, HS1.out.ar.1.2.1, HS1.out.ar.1.2.2.1, HR.out⟩, HS1.out.ar.2⟩; have kk1 : v1.cell? ⟨gt, 0, none⟩ = some (.string k_cover) := HS1.out.e.cell 0; clear hr h2 hW2))
  obtain ⟨e1, e2, e3⟩ := RStE HS2.out HW6.out hgt.out HLO.out ho9
  refine bodyPost_ret (res_c rfl _ w.heap.size 42 (stC (.mk k_cover at_ zR zE zE zE X1 zR zR [] []) ⟨pA0.a, pA0.b, pA0.c, (A1, c1), pA0.y, pA0.z⟩) rfl hb9 _ Tryz.underlying42 rfl hdSt) rfl ⟨⟨pA0.a, pA0.b, pA0.c, (A1, c1), pA0.y, pA0.z⟩, rfl, e1, e2, e3⟩
set_option maxRecDepth 100000 in
set_option maxHeartbeats 4000000 in
theorem rstmt_block (cx : RCx gp A n ts) (st : RS → St × RS) (d : Nat) (hbo : RBoK gp A n c ts 91 (rbody ts st) (RQS d)) (hg : ∀ s, RP s (st s).2) (s : RS) (w : World) (h : RSt gp A n c ts s w) (hq : RQS d s) (hs : rbegins ts s = true) (hK : bytesOf (rk ts s).text = k_block) :
    Calls Tryz.prog 68 #[.pointer (some ⟨gp, 0, none⟩)] w fun e w' => ∃ p : StA, e = .returned (.agg (stC (rstmtG ts st s).1 p).toArray) ∧ StIn (Fr w.heap.size) w' (rstmtG ts st s).1 p ∧ RSt gp A n c ts (rstmtG ts st s).2 w' ∧ Wr [gp] w w' := by
  have HT : Hid (rstmtG ts st s = (.mk k_block ((rk ts s).at_ : Int) (rname ts (rnx s)).1 zE zE zE (rroutes ts false (rneed ts k_via (rname ts (rnx s)).2)).1 zR zR [] [], (rneed ts m_semi (rroutes ts false (rneed ts k_via (rname ts (rnx s)).2)).2))) := (by show _ = _; unfold rstmtG; dsimp only; rw [hK]; rw [if_neg (by decide), if_neg (by decide), if_neg (by decide), if_neg (by decide), if_neg (by decide), if_pos rfl])
  rw [HT.out]
  have HNW := Lib.hid (fun W (h : RSt gp A n c ts s W) => now_c cx h)
  have HH := Lib.hid (h.alloc (.cells (stC zT pA0).toArray 42))
  have HE : Hid (Wr [gp] w (w.alloc (.cells (stC zT pA0).toArray 42))) := (Wr.refl _ _).alloc _
  have HB : Hid (Blk (w.alloc (.cells (stC zT pA0).toArray 42)) w.heap.size 42 (stC zT pA0)) := Blk.new _ _ _
  have HLO := Lib.hid (h.lo cx)
  have HX : Hid (∀ W, RSt gp A n c ts s W → W.cell? ⟨gp, 1, none⟩ = some (.int .i64 s.i) ∧ W.frozen? ⟨gp, 1, none⟩ = false ∧ gp < W.heap.size) := fun W h => ⟨h.b.cell 1, h.b.frozen 1, h.b.lt⟩
  have hi8 : s.i < 100000 := by have := h.lt; have := cx.hn; have := cx.hn8; omega
  have hltt := rbegins_lt cx.ends hs
  have HNX := Lib.hid (fun W (h : RSt gp A n c ts s W) => RSt.next cx h hltt)
  unfold tokCells at HNW
  have C1 := Lib.hid (fun W (h : RSt gp A n c ts (rnx s) W) => name_c cx h)
  have C2 := Lib.hid (fun W (h : RSt gp A n c ts (rname ts (rnx s)).2 W) => need_c k_via cx h)
  have C3 := Lib.hid (fun W (h : RSt gp A n c ts (rneed ts k_via (rname ts (rnx s)).2) W) => routes_c cx h false)
  have C4 := Lib.hid (fun W (h : RSt gp A n c ts (rroutes ts false (rneed ts k_via (rname ts (rnx s)).2)).2 W) => need_c m_semi cx h)
  clear h hq hs hltt HT hbo 
  generalize rnx s = q0 at *
  generalize (rname ts q0).1 = X1 at *
  generalize (rname ts q0).2 = q1 at *
  generalize (rneed ts k_via q1) = q2 at *
  generalize (rroutes ts false q2).1 = X3 at *
  generalize (rroutes ts false q2).2 = q3 at *
  generalize (rneed ts m_semi q3) = q4 at *
  rw [hK] at HNW
  generalize ((rk ts s).at_ : Int) = at_ at *
  generalize ((rk ts s).kind : Int) = tk at *
  generalize (rk ts s).num = tn at *
  clear hK cx hg
  have hf1 := fld1 (.int .i64 tk) (.string k_block) (.int .i64 tn) (.int .i64 at_)
  have hf3 := fld3 (.int .i64 tk) (.string k_block) (.int .i64 tn) (.int .i64 at_)
  go_enter Tryz.func68, Tryz.ntmps68
  go_upto_region 2 with (first
    | (go_at_call 27; (refine (HNW.out _ (by exact H2.out)).mono ?_); rintro e w3 ⟨rfl, hB3⟩
       have H3 := Lib.hid (H2.out.below hB3)
       have HE3 := Lib.hid (HE2.out.trans (Wr.of_below hB3))
       have HB3 := qbl HB2 hB3
       clear hB3)
    | (go_at_call 27; (refine (HNW.out _ (by exact HH.out)).mono ?_); rintro e w2 ⟨rfl, hB2⟩
       have H2 := Lib.hid (HH.out.below hB2)
       have HE2 := Lib.hid (HE.out.trans (Wr.of_below hB2))
       have HB2 := qbl HB hB2
       clear hB2)
    | refine wpList_build rfl 42 [(0, .tmp 6), (1, .tmp 9)] rfl _ (by rfl) _ (bld_St _ _ _) ?_
    | (refine wpList_store_all rfl 42 (.tmp 3) (.tmp 10) rfl w3.heap.size (stC (kT k_block at_) pA0) (by rfl) (by rfl) 42 (stC zT pA0) (by exact Blk.new' (by simp) rfl) hdSt (stC_one _ _) rfl ?_
       intro w6 hb6 ho6
       have hz3 := HB3.out.lt
       have hgt : Hid (w.heap.size < w3.heap.size) := (by show _ < _; omega)
       have HS6 : Hid (RLn gp w3.heap.size A n c ts w6 (kT k_block at_) pA0 s w6) := ⟨(H3.out.alloc _).only (HLO.out.mono (by omega)) (Nat.le_refl _) ho6, Wr.refl _ _, hb6, StIn.zero _ _ _ _, HLO.out.mono (by omega), hb6.lt⟩
       have HW6 : Hid (Wr [gp] w w6) := (HE3.out.alloc _).thenb (ho6.below (Below.refl _ _) (by omega) (by have := HE3.out.size; simp; omega))
       have HB6 : Hid (Blk w6 w.heap.size 42 (stC zT pA0)) := ho6.blk (HB3.out.alloc _) (by omega)
       obtain ⟨k1, j1, l1⟩ := HX.out w6 HS6.out.st
       clear hb6 ho6 hz3))
  obtain ⟨gt, hgx⟩ : ∃ gt, gt = w3.heap.size := ⟨_, rfl⟩
  rw [← hgx] at hgt HS6
  rw [← hgx]
  clear hgx H2 HE2 HB2 H3 HE3 HB3 HNW HH HE HB
  go_upto_region 3 with fail
  have HS0 : Hid (RLn gp gt A n c ts w6 (kT k_block at_) pA0 q0 (w6.setCell ⟨gp, 1, none⟩ (.int .i64 ((s.i : Int) + 1)))) := HS6.out.call (HNX.out w6 HS6.out.st).1 (HNX.out w6 HS6.out.st).2
  generalize w6.setCell ⟨gp, 1, none⟩ (.int .i64 ((s.i : Int) + 1)) = w7 at *
  have hc0 : w7.cell? ⟨gt, 0, none⟩ = some (.string k_block) := HS0.out.e.cell 0
  clear HX HNX k1 j1 l1 HS6
  go_wp2_with (first
    | (refine wpList_store_all rfl 42 (.tmp 2) (.tmp 168) rfl w.heap.size (stC (.mk k_block at_ X1 zE zE zE X3 zR zR [] []) ⟨pA0.a, pA0.b, pA0.c, (A3, c3), pA0.y, pA0.z⟩) (by rfl) (by rfl) 42 (stC zT pA0) (by exact HZ8.out) hdSt (stC_one _ _) rfl ?_; intro w9_ hb9 ho9)
    | (go_at_call 63; (with_reducible refine (C4.out _ (by exact HS4_.out.st)).mono ?_); rintro e v5 ⟨rfl, h2, hW2⟩; have HS5 := Lib.hid (HS4_.out.call h2 hW2); have kk5 : v5.cell? ⟨gt, 0, none⟩ = some (.string k_block) := HS5.out.e.cell 0; have hl8 := sd_ld HS5.out.e; have HZ8 := Lib.hid (HS5.out.res HB6.out hgt.out HLO.out); clear h2 hW2)
    | (go_at_call 90; (refine (C3.out _ (by exact HS3.out.st)).mono ?_); rintro e v4 ⟨A3, c3, rfl, hr, h2, hW2⟩; have HR := Lib.hid (RfsIn.rup HS3.out hr); have HS4 := Lib.hid (HS3.out.call h2 hW2); have c19_ : v4.cell? ⟨gt, 19, none⟩ = some (.slice none 0 0) := HS4.out.e.cell 19; have f19_ := HS4.out.e.frozen 19; have lt19 := HS4.out.e.lt; have HS4_ : Hid (RLn gp gt A n c ts w6 (.mk k_block at_ X1 zE zE zE X3 zR zR [] []) ⟨pA0.a, pA0.b, pA0.c, (A3, c3), pA0.y, pA0.z⟩ q3 (v4.setCell ⟨gt, 19, none⟩ (.slice A3 X3.length c3))) := HS4.out.one 19 _ rfl ⟨⟨HS4.out.ar.1.1, HS4.out.ar.1.2.1, HS4.out.ar.1.2.2.1, HR.out⟩, HS4.out.ar.2⟩; have kk4 : v4.cell? ⟨gt, 0, none⟩ = some (.string k_block) := HS4.out.e.cell 0; clear hr h2 hW2)
    | (go_at_call 63; (with_reducible refine (C2.out _ (by exact HS2.out.st)).mono ?_); rintro e v3 ⟨rfl, h2, hW2⟩; have HS3 := Lib.hid (HS2.out.call h2 hW2); have kk3 : v3.cell? ⟨gt, 0, none⟩ = some (.string k_block) := HS3.out.e.cell 0; clear h2 hW2)
    | (refine wpList_store rfl 36 (.tmp 78) (.tmp 77) rfl gt 2 (rfC X1) (by rfl) (by rfl) 42 (stC (.mk k_block at_ zR zE zE zE [] zR zR [] []) ⟨pA0.a, pA0.b, pA0.c, pA0.r, pA0.y, pA0.z⟩) (by exact HS1.out.e) hdRf (rfC_one X1) (by show 2 + 2 ≤ 26; omega) ?_; intro v2 hb3 ho3; have HS2 : Hid (RLn gp gt A n c ts w6 (.mk k_block at_ X1 zE zE zE [] zR zR [] []) ⟨pA0.a, pA0.b, pA0.c, pA0.r, pA0.y, pA0.z⟩ q1 v2) := HS1.out.put ho3 (by exact hb3) HS1.out.ar; have kk2 : v2.cell? ⟨gt, 0, none⟩ = some (.string k_block) := HS2.out.e.cell 0; clear hb3 ho3)
    | (go_at_call 62; (with_reducible refine (C1.out _ (by exact HS0.out.st)).mono ?_); rintro e v1 ⟨rfl, h2, hW2⟩; have HS1 := Lib.hid (HS0.out.call h2 hW2); clear h2 hW2))
  obtain ⟨e1, e2, e3⟩ := RStE HS5.out HW6.out hgt.out HLO.out ho9
  refine bodyPost_ret (res_c rfl _ w.heap.size 42 (stC (.mk k_block at_ X1 zE zE zE X3 zR zR [] []) ⟨pA0.a, pA0.b, pA0.c, (A3, c3), pA0.y, pA0.z⟩) rfl hb9 _ Tryz.underlying42 rfl hdSt) rfl ⟨⟨pA0.a, pA0.b, pA0.c, (A3, c3), pA0.y, pA0.z⟩, rfl, e1, e2, e3⟩
set_option maxRecDepth 100000 in
set_option maxHeartbeats 4000000 in
theorem rstmt_after (cx : RCx gp A n ts) (st : RS → St × RS) (d : Nat) (hbo : RBoK gp A n c ts 91 (rbody ts st) (RQS d)) (hg : ∀ s, RP s (st s).2) (s : RS) (w : World) (h : RSt gp A n c ts s w) (hq : RQS d s) (hs : rbegins ts s = true) (hK : bytesOf (rk ts s).text = k_after) :
    Calls Tryz.prog 68 #[.pointer (some ⟨gp, 0, none⟩)] w fun e w' => ∃ p : StA, e = .returned (.agg (stC (rstmtG ts st s).1 p).toArray) ∧ StIn (Fr w.heap.size) w' (rstmtG ts st s).1 p ∧ RSt gp A n c ts (rstmtG ts st s).2 w' ∧ Wr [gp] w w' := by
  have HT : Hid (rstmtG ts st s = (.mk k_after ((rk ts s).at_ : Int) zR (REX ts (rnx s)).1 zE zE [] zR zR (rbody ts st (REX ts (rnx s)).2).1 [], (rbody ts st (REX ts (rnx s)).2).2)) := (by show _ = _; unfold rstmtG; dsimp only; rw [hK]; rw [if_neg (by decide), if_neg (by decide), if_neg (by decide), if_neg (by decide), if_neg (by decide), if_neg (by decide), if_neg (by decide), if_pos rfl])
  rw [HT.out]
  have HNW := Lib.hid (fun W (h : RSt gp A n c ts s W) => now_c cx h)
  have HH := Lib.hid (h.alloc (.cells (stC zT pA0).toArray 42))
  have HE : Hid (Wr [gp] w (w.alloc (.cells (stC zT pA0).toArray 42))) := (Wr.refl _ _).alloc _
  have HB : Hid (Blk (w.alloc (.cells (stC zT pA0).toArray 42)) w.heap.size 42 (stC zT pA0)) := Blk.new _ _ _
  have HLO := Lib.hid (h.lo cx)
  have HX : Hid (∀ W, RSt gp A n c ts s W → W.cell? ⟨gp, 1, none⟩ = some (.int .i64 s.i) ∧ W.frozen? ⟨gp, 1, none⟩ = false ∧ gp < W.heap.size) := fun W h => ⟨h.b.cell 1, h.b.frozen 1, h.b.lt⟩
  have hi8 : s.i < 100000 := by have := h.lt; have := cx.hn; have := cx.hn8; omega
  have hltt := rbegins_lt cx.ends hs
  have HNX := Lib.hid (fun W (h : RSt gp A n c ts s W) => RSt.next cx h hltt)
  unfold tokCells at HNW
  have C1 := Lib.hid (fun W (h : RSt gp A n c ts (rnx s) W) => rexpr_all cx 14 (rnx s) W h (hq.q.rp (rnx_p)))
  have C2 := Lib.hid (fun W (h : RSt gp A n c ts (REX ts (rnx s)).2 W) => hbo (REX ts (rnx s)).2 W h (hq.rp ((rnx_p).trans (REX_p (rnx s)))))
  clear h hq hs hltt HT hbo 
  generalize rnx s = q0 at *
  generalize (REX ts q0).1 = X1 at *
  generalize (REX ts q0).2 = q1 at *
  generalize (rbody ts st q1).1 = X2 at *
  generalize (rbody ts st q1).2 = q2 at *
  rw [hK] at HNW
  generalize ((rk ts s).at_ : Int) = at_ at *
  generalize ((rk ts s).kind : Int) = tk at *
  generalize (rk ts s).num = tn at *
  clear hK cx hg
  have hf1 := fld1 (.int .i64 tk) (.string k_after) (.int .i64 tn) (.int .i64 at_)
  have hf3 := fld3 (.int .i64 tk) (.string k_after) (.int .i64 tn) (.int .i64 at_)
  go_enter Tryz.func68, Tryz.ntmps68
  go_upto_region 2 with (first
    | (go_at_call 27; (refine (HNW.out _ (by exact H2.out)).mono ?_); rintro e w3 ⟨rfl, hB3⟩
       have H3 := Lib.hid (H2.out.below hB3)
       have HE3 := Lib.hid (HE2.out.trans (Wr.of_below hB3))
       have HB3 := qbl HB2 hB3
       clear hB3)
    | (go_at_call 27; (refine (HNW.out _ (by exact HH.out)).mono ?_); rintro e w2 ⟨rfl, hB2⟩
       have H2 := Lib.hid (HH.out.below hB2)
       have HE2 := Lib.hid (HE.out.trans (Wr.of_below hB2))
       have HB2 := qbl HB hB2
       clear hB2)
    | refine wpList_build rfl 42 [(0, .tmp 6), (1, .tmp 9)] rfl _ (by rfl) _ (bld_St _ _ _) ?_
    | (refine wpList_store_all rfl 42 (.tmp 3) (.tmp 10) rfl w3.heap.size (stC (kT k_after at_) pA0) (by rfl) (by rfl) 42 (stC zT pA0) (by exact Blk.new' (by simp) rfl) hdSt (stC_one _ _) rfl ?_
       intro w6 hb6 ho6
       have hz3 := HB3.out.lt
       have hgt : Hid (w.heap.size < w3.heap.size) := (by show _ < _; omega)
       have HS6 : Hid (RLn gp w3.heap.size A n c ts w6 (kT k_after at_) pA0 s w6) := ⟨(H3.out.alloc _).only (HLO.out.mono (by omega)) (Nat.le_refl _) ho6, Wr.refl _ _, hb6, StIn.zero _ _ _ _, HLO.out.mono (by omega), hb6.lt⟩
       have HW6 : Hid (Wr [gp] w w6) := (HE3.out.alloc _).thenb (ho6.below (Below.refl _ _) (by omega) (by have := HE3.out.size; simp; omega))
       have HB6 : Hid (Blk w6 w.heap.size 42 (stC zT pA0)) := ho6.blk (HB3.out.alloc _) (by omega)
       obtain ⟨k1, j1, l1⟩ := HX.out w6 HS6.out.st
       clear hb6 ho6 hz3))
  obtain ⟨gt, hgx⟩ : ∃ gt, gt = w3.heap.size := ⟨_, rfl⟩
  rw [← hgx] at hgt HS6
  rw [← hgx]
  clear hgx H2 HE2 HB2 H3 HE3 HB3 HNW HH HE HB
  go_upto_region 3 with fail
  have HS0 : Hid (RLn gp gt A n c ts w6 (kT k_after at_) pA0 q0 (w6.setCell ⟨gp, 1, none⟩ (.int .i64 ((s.i : Int) + 1)))) := HS6.out.call (HNX.out w6 HS6.out.st).1 (HNX.out w6 HS6.out.st).2
  generalize w6.setCell ⟨gp, 1, none⟩ (.int .i64 ((s.i : Int) + 1)) = w7 at *
  have hc0 : w7.cell? ⟨gt, 0, none⟩ = some (.string k_after) := HS0.out.e.cell 0
  clear HX HNX k1 j1 l1 HS6
  go_wp2_with (first
    | (refine wpList_store_all rfl 42 (.tmp 2) (.tmp 168) rfl w.heap.size (stC (.mk k_after at_ zR X1 zE zE [] zR zR X2 []) ⟨a1, pA0.b, pA0.c, pA0.r, (A2, c2), pA0.z⟩) (by rfl) (by rfl) 42 (stC zT pA0) (by exact HZ8.out) hdSt (stC_one _ _) rfl ?_; intro w9_ hb9 ho9)
    | (go_at_call 91; (with_reducible refine (C2.out _ (by exact HS2.out.st)).mono ?_); rintro e v3 ⟨A2, c2, rfl, hr, h2, hW2⟩; have HR := hr.keep (keep_low HS2.out.wr.size); have HS3 := Lib.hid (HS2.out.call h2 hW2); have c24_ : v3.cell? ⟨gt, 24, none⟩ = some (.slice none 0 0) := HS3.out.e.cell 24; have f24_ := HS3.out.e.frozen 24; have lt24 := HS3.out.e.lt; have HS3_ : Hid (RLn gp gt A n c ts w6 (.mk k_after at_ zR X1 zE zE [] zR zR X2 []) ⟨a1, pA0.b, pA0.c, pA0.r, (A2, c2), pA0.z⟩ q2 (v3.setCell ⟨gt, 24, none⟩ (.slice A2 X2.length c2))) := HS3.out.one 24 _ rfl ⟨HS3.out.ar.1, HR, HS3.out.ar.2.2⟩; have kk3 : v3.cell? ⟨gt, 0, none⟩ = some (.string k_after) := HS3.out.e.cell 0; have hl8 := sd_ld HS3_.out.e; have HZ8 := Lib.hid (HS3_.out.res HB6.out hgt.out HLO.out); clear hr h2 hW2 HR)
    | (refine wpList_store rfl 39 (.tmp 103) (.tmp 102) rfl gt 4 (exC X1 a1) (by rfl) (by rfl) 42 (stC (.mk k_after at_ zR zE zE zE [] zR zR [] []) ⟨pA0.a, pA0.b, pA0.c, pA0.r, pA0.y, pA0.z⟩) (by exact HS1.out.e) hdEx (exC_one X1 a1) (by show 4 + 5 ≤ 26; omega) ?_; intro v2 hb3 ho3; have HS2 : Hid (RLn gp gt A n c ts w6 (.mk k_after at_ zR X1 zE zE [] zR zR [] []) ⟨a1, pA0.b, pA0.c, pA0.r, pA0.y, pA0.z⟩ q1 v2) := HS1.out.put ho3 (by exact hb3) ⟨⟨HA1.out, HS1.out.ar.1.2⟩, HS1.out.ar.2⟩; have kk2 : v2.cell? ⟨gt, 0, none⟩ = some (.string k_after) := HS2.out.e.cell 0; clear hb3 ho3)
    | (go_at_call 64; (refine (C1.out _ (by exact HS0.out.st)).mono ?_); rintro e v1 ⟨a1, rfl, ha, h2, hW2⟩; have HA1 := Lib.hid (ArgsIn.rup HS0.out ha); have HS1 := Lib.hid (HS0.out.call h2 hW2); clear ha h2 hW2))
  obtain ⟨e1, e2, e3⟩ := RStE HS3_.out HW6.out hgt.out HLO.out ho9
  refine bodyPost_ret (res_c rfl _ w.heap.size 42 (stC (.mk k_after at_ zR X1 zE zE [] zR zR X2 []) ⟨a1, pA0.b, pA0.c, pA0.r, (A2, c2), pA0.z⟩) rfl hb9 _ Tryz.underlying42 rfl hdSt) rfl ⟨⟨a1, pA0.b, pA0.c, pA0.r, (A2, c2), pA0.z⟩, rfl, e1, e2, e3⟩
end
end Go.Proofs.YtafjkbbiaopemaaGreatDoor.Tr
