/- Part of the proof: Um. -/
import Derived.Test.YtloakenighnfgaaCvx30
set_option linter.unusedVariables false
namespace Go.Proofs.Ytloakenighnfgaa.Tr
open Go.RowKit
theorem hdSr : (Try.prog.info? 59).map (·.size) = some 2 := by kernel_rfl
theorem agSlt (w : World) : (isAgg 57).run Try.prog w = .ok false w := by kernel_rfl
theorem szSlt (w : World) : (sizeOf 57).run Try.prog w = .ok 1 w := by kernel_rfl
theorem kind6_c {gp gs : Nat} {A : Option Addr} {n c : Nat} {ts : List Lx.Tok} {s : PS} {w : World} (cx : Cx gp gs A n ts) (h : PSt gp gs A n c ts s w) : Calls Try.prog 31 #[.pointer (some ⟨gp, 0, none⟩), .int .i64 6] w fun e w' => e = .returned (.bool (kindIs ts 6 s)) ∧ Below w.heap.size w w' := kind_c cx h 6
set_option maxRecDepth 100000 in
set_option maxHeartbeats 4000000 in
theorem parse_body (s : ByteArray) (ts : List Lx.Tok) (hsc : Lx.scan s.data.toList = ((0, 0), ts)) (hn8 : ts.length ≤ 100000) (hen : Ends ts) (h0 : 0 < ts.length) (hd : sees ts [k_let, k_route] s0 = false) (hok : (topLoop ts (ts.length + 2) [] s0).2.ok = true) (w : World) :
    Calls Try.prog 17 #[.string s] w fun e w' => ∃ A c, e = .returned (.tuple #[.agg #[.slice none 0 0, .slice A (topLoop ts (ts.length + 2) [] s0).1.length c], .agg #[.int .i64 0, .int .i64 0]]) ∧ BodyIn (Fr w.heap.size) w' A (topLoop ts (ts.length + 2) [] s0).1 ∧ Below w.heap.size w w' := by
  have HNS := Lib.hid (fun W => new_yes s W hsc (n := ts.length) rfl)
  have HTL := Lib.hid (fun (kk : Nat) (l : List St) (q : PS) => (⟨fun h => (by rw [topLoop, if_neg (by rw [h]; simp)]), fun h => (by rw [topLoop, if_pos h])⟩ : ((q.ok && !kindIs ts 6 q) = false → topLoop ts (kk + 1) l q = (l, q)) ∧ ((q.ok && !kindIs ts 6 q) = true → topLoop ts (kk + 1) l q = topLoop ts kk (l ++ [(stmtP ts 14 q).1]) (stmtP ts 14 q).2)))
  have HGN := Lib.hid hen
  have HD := Lib.hid hd
  have HOK := Lib.hid hok
  generalize hR : topLoop ts (ts.length + 2) [] s0 = R at *
  have HR := Lib.hid hR
  clear hsc hen hd hok hR
  have HZ0 : Hid (∀ W, Below (w.heap.size + 2) ((w.alloc (.cells #[.slice none 0 0, .slice none 0 0] 59)).alloc (.cells #[.int .i64 0, .int .i64 0] 42)) W → Blk W w.heap.size 59 [.slice none 0 0, .slice none 0 0] ∧ Blk W (w.heap.size + 1) 42 [.int .i64 0, .int .i64 0] ∧ Below w.heap.size w W) := fun W hW =>
    ⟨((Blk.new w _ _).alloc _).below hW (by omega), (Blk.new' (by simp) rfl).below hW (by omega), (((Below.refl w.heap.size w).alloc (Nat.le_refl _) _).alloc (by simp) _).trans (hW.mono (by omega))⟩
  go_enter Try.func17, Try.ntmps17
  go_wp2_with (go_at_call 27; (refine (HNS.out _).mono ?_); rintro e w2 ⟨A2, c2, gs, rfl, hg2, hst2, hB2⟩; have hgs : Hid (w.heap.size + 2 ≤ gs) := (by simp at hg2; exact hg2); have HST2 := Lib.hid hst2; have HB2 := Lib.hid (HZ0.out w2 (by simpa using hB2)); clear hg2 hst2 hB2)
  obtain ⟨gp, hgp⟩ : ∃ gp, gp = w2.heap.size + 1 := ⟨_, rfl⟩
  obtain ⟨G, hG⟩ : ∃ G, G = gp + 1 := ⟨_, rfl⟩
  obtain ⟨W3, hW3⟩ : ∃ W3, W3 = (((w2.alloc (.cells #[.int .i64 0, .int .i64 0] 42)).alloc (.cells #[.pointer (some ⟨gs, 0, none⟩), .int .i64 0, .int .i64 0, .int .i64 0, .int .i64 0] 99)).alloc (.cells #[.slice none 0 0, .slice none 0 0] 59)) := ⟨_, rfl⟩
  rw [← hW3]
  rw [← hgp, ← hG]
  have hgl := HST2.out.1.lt
  have HTK := Stm.tok HST2.out rfl h0
  have HAL : ∀ ad : Addr, A2 = some ad → ad.block < w2.heap.size := fun ad e => by
    obtain ⟨b, off, e2, hb, _⟩ := HST2.out.2.2 h0
    rw [e] at e2
    injection e2 with e2
    subst e2
    exact hb
  have HCX : Hid (Cx gp gs A2 ts.length ts) := ⟨by omega, fun ad e => ⟨by have := HAL ad e; omega, HTK ad e⟩, rfl, hn8, HGN.out⟩
  have HT3 : Hid (TpS gp gs G A2 ts.length c2 ts W3 (.slice none 0 0) [] [] (.slice none 0 0) s0 W3) := by
    subst hW3 hgp hG
    exact ⟨⟨(Blk.new' (by simp) rfl).alloc _, ((HST2.out.alloc _).alloc _).alloc _, fun _ => ⟨rfl, rfl⟩, h0⟩, Wr.refl _ _, Blk.new' (by simp) rfl, World.ownsRow_nil _ _ _ _, rfl, fun i s p h => by simp at h, ⟨by omega, by omega, fun ad e => by have := HAL ad e; omega⟩, by simp⟩
  have HB3 : Hid (Below w.heap.size w W3 ∧ w.heap.size + 2 ≤ gs ∧ w.heap.size + 2 ≤ gp ∧ Blk W3 w.heap.size 59 [.slice none 0 0, .slice none 0 0] ∧ Blk W3 (w.heap.size + 1) 42 [.int .i64 0, .int .i64 0]) := by
    have h1 := HB2.out
    have h2 := hgs.out
    have h3 := h1.2.2.size
    subst hW3
    exact ⟨(((h1.2.2.alloc h3 _).alloc (by simp; omega) _).alloc (by simp; omega) _), h2, by omega, ((h1.1.alloc _).alloc _).alloc _, ((h1.2.1.alloc _).alloc _).alloc _⟩
  have HSN := Lib.hid (fun W A1 (h : PSt gp gs A2 ts.length c2 ts s0 W) (hl : Rd W A1 2 (strs [k_let, k_route])) => sees_c HCX.out h [k_let, k_route] A1 2 2 hl (by omega))
  rw [HD.out] at HSN
  clear HTK HAL hgl hgp HNS HZ0 HST2 HB2 hgs HD HGN hW3 hG
  go_loopg [] 0 (fun _ wr => Hid (TpS gp gs G A2 ts.length c2 ts W3 (.slice none 0 0) [] [] (.slice none 0 0) s0 wr))
  case atStart => exact HT3
  case round =>
    clear HT3
    have HL1 := hrel
    clear hrel
    go_wp2_with (go_at_call 28; (refine (HSN.out _ _ (by exact HL1.out.st.alloc _) (by exact rd_strs (L := [k_let, k_route]) (by simp) rfl)).mono ?_); rintro e w4 ⟨rfl, hB4⟩; have HT4 := Lib.hid (HL1.out.call ((HL1.out.st.alloc _).below hB4) (((Wr.refl _ _).alloc _).trans (Wr.of_below hB4))); clear hB4)
    clear HSN HL1
    go_loopg [] (ts.length + 1) (fun kk wr => ∃ (l : List St) (sl : List StA) (A1 : Option Addr) (c1 : Nat) (q : PS), Hid (TpS gp gs G A2 ts.length c2 ts W3 (.slice none 0 0) l sl (.slice A1 l.length c1) q wr) ∧ Hid ((q.ok = true → ts.length ≤ kk + q.i ∧ l.length ≤ q.i) ∧ topLoop ts (kk + 1) l q = R ∧ QS 14 q))
    case atStart => exact ⟨[], [], none, 0, s0, HT4, ⟨fun _ => ⟨by omega, by simp⟩, HR.out, QS0⟩⟩
    case round =>
      clear HT4 HR
      obtain ⟨l, sl, A1, c1, q, HS, HL⟩ := hrel
      have HOC := Lib.hid (fun W (h : PSt gp gs A2 ts.length c2 ts q W) => ok_c h.par)
      have HKC := Lib.hid (fun W (h : PSt gp gs A2 ts.length c2 ts q W) => kind6_c HCX.out h)
      cases ho : q.ok
      · have h1 := (HTL.out gk l q).1 (by rw [ho]; rfl)
        rw [HL.out.2.1] at h1
        have h2 := HOK.out
        rw [h1, ho] at h2
        cases h2
      rw [ho] at HOC
      cases hk : kindIs ts 6 q
      · rw [hk] at HKC
        have hlt : q.i < ts.length := HS.out.st.lt
        have HST := Lib.hid (fun W (h : PSt gp gs A2 ts.length c2 ts q W) => stmt_all HCX.out 14 q W h HL.out.2.2)
        have HT3 := Lib.hid (((HTL.out gk l q).2 (by rw [hk, ho]; rfl)).symm.trans HL.out.2.1)
        have HI3 : Hid (gk + q.i ≥ ts.length ∧ l.length ≤ q.i ∧ q.i < ts.length ∧ ((stmtP ts 14 q).2.ok = true → q.i + 1 ≤ (stmtP ts 14 q).2.i)) := ⟨(HL.out.1 ho).1, (HL.out.1 ho).2, hlt, stmt_adv HCX.out.ends 14 q⟩
        have HQ3 : Hid (QS 14 (stmtP ts 14 q).2) := HL.out.2.2.pg (stmt_g HCX.out.ends 14 q)
        have hl8 : l.length ≤ 100000 := by have := HI3.out; omega
        generalize (stmtP ts 14 q).1 = X at *
        generalize (stmtP ts 14 q).2 = q3 at *
        clear hk ho HL HTL HOK hlt
        go_wp2_with (first
          | (go_at_call 31; (with_reducible refine (HKC.out _ (by exact HS.out.st)).mono ?_); rintro e w5 ⟨rfl, hB5⟩; have HS5 := Lib.hid (HS.out.call (HS.out.st.below hB5) (Wr.of_below hB5)); clear hB5)
          | (go_at_call 30; (with_reducible refine (HOC.out _ (by exact HS.out.st)).mono ?_); rintro e w6 ⟨rfl, rfl⟩))
        have HD9 : Hid (TpS gp gs G A2 ts.length c2 ts W3 (.slice none 0 0) l sl (.slice A1 l.length c1) q w5.drew) := HS5.out.call (HS5.out.st.below ((Below.refl _ _).drew)) (Wr.of_below ((Below.refl _ _).drew))
        refine region_K (by kernel_rfl) 7 (fun W' => Blk W' G 59 [.slice none 0 0, .slice A1 l.length c1]) ?_
        refine AnyK.pure 0 (v := .pointer (some ⟨G, 1, none⟩)) rfl (by kernel_rfl) (fun _ _ _ h => h) rfl (fun _ => by kernel_rfl) (fun _ => HD9.out.e) ?_
        refine AnyK.load 1 (v := .slice A1 l.length c1) rfl (by kernel_rfl) (by kernel_rfl) (by kernel_rfl) (fun _ _ _ h => h) rfl (fun w' hw' => ex_load (t := 57) (x := .tmp 38) (by rfl) (by kernel_rfl) agSlt (hw'.cell 1)) HD9.out.e ?_
        refine AnyK.pure 2 (v := .pointer (some ⟨gp, 0, none⟩)) rfl (by kernel_rfl) (fun _ _ _ h => h) rfl (fun _ => by kernel_rfl) (fun _ => HD9.out.e) ?_
        refine AnyK.enter 3 (d := some 41) (f := 32) (args := #[.pointer (some ⟨gp, 0, none⟩)]) (by rfl) (by kernel_rfl) (by kernel_rfl) ?_
        refine (HST.out _ HD9.out.st).mono ?_
        rintro e wx ⟨y, rfl, hy, hx, hWx⟩
        have HX9 := Lib.hid (HD9.out.call hx hWx)
        have HY9 : Hid (StIn (Fv W3.heap.size (.slice A1 l.length c1)) wx X y) := HD9.out.fr (Nat.le_refl _) hy
        have hl9 := HX9.out.lt
        have hm9 := HX9.out.e.lt
        have ho9 := HX9.out.wr.size
        have hown9 : ∀ k, (Value.slice A1 l.length c1).ownBlock = some k → G ≠ k := fun k e => by have := (HX9.out.own.lt k e).1; omega
        clear hy hx hWx
        refine ⟨_, rfl, fun _ => HX9.out.e, ?_⟩
        refine AnyK.main 4 (by rfl) (by kernel_rfl) rfl (fun K hK => wp_val (ex_one1 57 105 (.tmp 41) (by rfl) (stC X y) (by kernel_rfl) Try.underlying57 (by exact oneSt X y) (by rw [stC_len]; omega) (by rw [stC_len]; omega)) (hK _ _ ⟨fun _ => HX9.out.e.alloc _, ?_⟩))
        refine AnyK.main 5 (by rfl) (by kernel_rfl) rfl (fun K hK => wp_app (.tmp 39) (.tmp 42) 57 (by rfl) W3.heap.size 105 26 384 Try.underlying57 eSt (.slice A1 l.length c1) l.length (zipC stC l sl) (by kernel_rfl) (HX9.out.own.alloc _) (some ⟨wx.heap.size, 0, none⟩) 1 1 (stC X y) (by kernel_rfl) (RdS.new wx _ (stC X y) 26 rfl) (stC_one _ _) (by omega) (by omega) (by simp; omega) (fun A7 c7 w7 hown7 hc7 hg7 hat7 => hK _ _ ⟨fun _ => (HX9.out.e.alloc _).grown hg7 (fun e => hown9 _ e.symm rfl), ?_⟩))
        have hb7 := (HX9.out.e.alloc (.cells (stC X y).toArray 105)).grown hg7 (fun e => hown9 _ e.symm rfl)
        refine AnyK.val 6 (v := .pointer (some ⟨G, 1, none⟩)) (by rfl) (by kernel_rfl) rfl (by kernel_rfl) (fun _ => hb7) ?_
        have HP9 := Lib.hid (HX9.out.push HY9.out hg7 hown7 hat7)
        refine AnyK.store 7 (d := none) (w' := w7.setCell ⟨G, 1, none⟩ (.slice A7 (l.length + 1) c7)) (by rfl) (fun o ho => ey_storeS ho (by kernel_rfl) (by kernel_rfl) szSlt (hb7.cell 1) (hb7.frozen 1)) (by kernel_rfl) (fun h => (by cases h)) ?_
        refine AnyK.done (by kernel_rfl) ?_
        clear hb7 hown7 hg7 hat7 hown9
        have e5 : (l ++ [X]).length = l.length + 1 := by simp
        go_wp2
        have hi5 := HI3.out
        go_roundg (gk - 1)
        case measure => omega
        case rel => exact ⟨l ++ [X], sl ++ [y], A7, c7, q3, by rw [e5]; exact HP9.out, ⟨fun h => by have := hi5.2.2.2 h; rw [e5]; omega, by rw [show gk - 1 + 1 = gk by omega]; exact HT3.out, HQ3.out⟩⟩
      · rw [hk] at HKC
        have HRE : Hid (R = (l, q)) := HL.out.2.1.symm.trans ((HTL.out gk l q).1 (by rw [hk, ho]; rfl))
        clear hk ho HL HTL HOK
        go_wp2_with (first
          | (go_at_call 31; (with_reducible refine (HKC.out _ (by exact HS.out.st)).mono ?_); rintro e w5 ⟨rfl, hB5⟩
             have HS5 := Lib.hid (HS.out.call (HS.out.st.below hB5) (Wr.of_below hB5))
             have HR5 : Hid (Blk w5 w.heap.size 59 [.slice none 0 0, .slice none 0 0] ∧ Blk w5 (w.heap.size + 1) 42 [.int .i64 0, .int .i64 0]) := by
               obtain ⟨b1, b2, b3, b4, b5⟩ := HB3.out
               have h1 := HS5.out.lo.1
               exact ⟨(HS5.out.wr.block _ b4.lt (fun hm => by simp only [List.mem_cons, List.not_mem_nil, or_false] at hm; omega)).trans b4, (HS5.out.wr.block _ b5.lt (fun hm => by simp only [List.mem_cons, List.not_mem_nil, or_false] at hm; omega)).trans b5⟩
             have hne1 : ¬ G = w.heap.size := by have := HS5.out.lo.1; have := HB3.out.2.2.1; omega
             have hne2 : ¬ G = w.heap.size + 1 := by have := HS5.out.lo.1; have := HB3.out.2.2.1; omega
             obtain ⟨n0, n1, f0, f1⟩ := Blk.two HS5.out.e
             obtain ⟨x0, x1, k0, k1⟩ := Blk.two HR5.out.1
             obtain ⟨y0, y1, m0, m1⟩ := Blk.two HR5.out.2
             clear hB5)
          | (go_at_call 30; (with_reducible refine (HOC.out _ (by exact HS.out.st)).mono ?_); rintro e w6 ⟨rfl, rfl⟩)
          | (go_at_call 30; (with_reducible refine (HOC.out _ (by exact HS5.out.st)).mono ?_); rintro e w7 ⟨rfl, rfl⟩))
        obtain ⟨A9, c9, e9, hb9⟩ := HS5.out.fin
        injection e9 with e9 _ e10
        subst e9 e10
        have hz := HB3.out
        have hl3 : w.heap.size + 2 < W3.heap.size := by have := HS5.out.lo.1; have := HS5.out.lt; omega
        have hB9 : Below w.heap.size w w5 := HS5.out.wr.below hz.1 (fun g hg => by have := HS5.out.lo.1; simp only [List.mem_cons, List.not_mem_nil, or_false] at hg; omega) hz.1.size
        refine bodyPost_ret (res_cc rfl _ w.heap.size (w.heap.size + 1) 59 42 [.slice none 0 0, .slice A1 l.length c1] [.int .i64 0, .int .i64 0] rfl rfl (by exact (((HR5.out.1.set_ 0 _).set_ 1 _).far (by simp) _).far (by simp) _) (by exact (((HR5.out.2.far (by simp) _).far (by simp) _).set_ 0 _).set_ 1 _) _ _ Try.underlying59 rfl hdSr Try.underlying42 rfl hd48) rfl ?_
        refine ⟨A1, c1, by rw [HRE.out], ?_, (((hB9.setCell (by simp) _).setCell (by simp) _).setCell (by simp) _).setCell (by simp) _⟩
        rw [HRE.out]
        exact ((((hb9.keep (keep_set (by show w.heap.size < _; omega) _)).keep (keep_set (by show w.heap.size < _; omega) _)).keep (keep_set (by show w.heap.size + 1 < _; omega) _)).keep (keep_set (by show w.heap.size + 1 < _; omega) _)).keep (keep_low (by omega))
end Go.Proofs.Ytloakenighnfgaa.Tr
