/- Part of the proof: Taf, Tag. -/
import Derived.Test.YtafjkbbiaopemaaGreatDoorTox37
set_option linter.unusedVariables false
namespace Go.Proofs.YtafjkbbiaopemaaGreatDoor.Tr
open Go.RowKit
def RLo (gp : Nat) (A : Option Addr) (B : Nat) : Prop := gp < B ∧ ∀ ad : Addr, A = some ad → ad.block < B
structure RTm (gp : Nat) (A : Option Addr) (n c : Nat) (ts : List Lx.Tok) (w0 : World) (g : Nat) (E : Ex) (q : RS) (a : Option Addr × Nat) (w : World) : Prop where
  st : RSt gp A n c ts q w
  wr : Wr [gp] w0 w
  z : Blk w w0.heap.size 39 zEc
  e : Blk w g 39 (exC E a)
  ar : ArgsIn (Fx w0.heap.size g) w a.1 E.args
  lt : w0.heap.size < g
  lo : RLo gp A w0.heap.size
section
variable {gp : Nat} {A : Option Addr} {n c : Nat} {ts : List Lx.Tok} {s q q' : RS} {w w' w0 : World} {g : Nat} {E : Ex} {a : Option Addr × Nat}
theorem RSt.lo (cx : RCx gp A n ts) (h : RSt gp A n c ts s w) : RLo gp A w.heap.size := ⟨h.b.lt, h.old cx⟩
theorem RSt.only {B : Nat} (h : RSt gp A n c ts s w) (hl : RLo gp A B) (hg : B ≤ g) (ho : Only w w' g) : RSt gp A n c ts s w' := h.far' ho (by have := hl.1; omega) (fun ad e => by have := hl.2 ad e; omega)
theorem RTm.call (h : RTm gp A n c ts w0 g E q a w) (hs : RSt gp A n c ts q' w') (hW : Wr [gp] w w') : RTm gp A n c ts w0 g E q' a w' := by
  have h1 := h.lo.1
  have h2 := h.lt
  exact ⟨hs, h.wr.trans hW, (hW.block _ h.z.lt (by simp; omega)).trans h.z, (hW.block _ h.e.lt (by simp; omega)).trans h.e, h.ar.keep (keep_fxwr hW (fun x hx => by rw [List.mem_singleton.1 hx]; omega)), h.lt, h.lo⟩
theorem RTm.grow {X : Ex} {y : Option Addr × Nat} {op : ByteArray} {at_ : Int} (h : RTm gp A n c ts w0 g E q a w) (hy : ArgsIn (Fx w0.heap.size g) w y.1 X.args)
    (hb : Blk w' g 39 (exC (.mk op 0 zs at_ [E, X]) (some ⟨w.heap.size, 0, none⟩, 2))) (ho : Only (w.alloc (.cells (exC E a ++ exC X y).toArray 39)) w' g) :
    RTm gp A n c ts w0 g (.mk op 0 zs at_ [E, X]) q (some ⟨w.heap.size, 0, none⟩, 2) w' := by
  have hlt := h.e.lt
  have hlt2 := h.lt
  refine ⟨(h.st.alloc _).only h.lo (Nat.le_of_lt h.lt) ho, (h.wr.alloc _).thenb (ho.below (Below.refl _ _) (Nat.le_of_lt h.lt) (h.wr.alloc _).size), ho.blk (h.z.alloc _) (by omega), hb, ?_, h.lt, h.lo⟩
  have hn : Blk w' w.heap.size 39 (exC E a ++ exC X y) := ho.blk (Blk.new w _ _) (by omega)
  exact ArgsIn.two hn ⟨by omega, by omega⟩ ((h.ar.keep (keep_fxal _)).keep (keep_only ho)) ((hy.keep (keep_fxal _)).keep (keep_only ho))
end
end Go.Proofs.YtafjkbbiaopemaaGreatDoor.Tr
namespace Go.Proofs.YtafjkbbiaopemaaGreatDoor.Tr
open Go.RowKit
section
variable {P : Program} {w : World} {ops : Array Oper} {rest : List Oper} {o : Oper} {a : Act} {Q : Exit → Act → World → Prop}
theorem wpList_two (hgd : o.guard = none) (t e : TypeId) (x y : Operand) (ho : o.op = .buildSlice t 2 #[(0, x), (1, y)]) (cs ds : List Value) (hx : a.eval x = .agg cs.toArray) (hy : a.eval y = .agg ds.toArray) (hu : P.underlying t = some (.slice e)) (hi : (P.info? e).map (fun i => ((i.zero.map (fun z => z.cells.size)), i.size)) = some (some cs.length, cs.length)) (hl : ds.length = cs.length) (hpos : 0 < cs.length) (hsm : cs.length ≤ 1000000)
    (h : wpList P ops Q rest (a.put o.dst (.slice (some ⟨w.heap.size, 0, none⟩) 2 2)) (w.alloc (.cells (cs ++ ds).toArray e))) : wpList P ops Q (o :: rest) a w :=
  wpList_of hgd fun _ hK => wp_val (ex_two t e x y ho cs ds hx hy hu hi hl hpos hsm) (hK _ _ h)
end
theorem agS {op : ByteArray} {x : Int} {g g' : Nat} (h : g = g') : (Value.agg #[.string op, .int .i64 0, .string zs, .int .i64 x, .slice (some ⟨g, 0, none⟩) 2 2]) = .agg #[.string op, .int .i64 0, .string zs, .int .i64 x, .slice (some ⟨g', 0, none⟩) 2 2] := by rw [h]
section
variable {gp : Nat} {A : Option Addr} {n c : Nat} {ts : List Lx.Tok} {s q q' : RS} {w w' w0 : World} {g : Nat} {E : Ex} {a : Option Addr × Nat}
theorem RQ.rp {d : Nat} (h : RQ d s) (k : RP s q) : RQ d q := by
  have h0 := h.p0
  have h1 := h.p1
  cases hs : s.bad
  · obtain ⟨h2, h3⟩ := h.ok hs
    rcases k.pa with h4 | ⟨h4, h5⟩
    · exact ⟨by omega, by omega, h.d1, fun _ => by omega⟩
    · exact ⟨by omega, by omega, h.d1, fun hb => by rw [h4] at hb; cases hb⟩
  · obtain ⟨h4, h5⟩ := k.st hs
    exact ⟨by omega, by omega, h.d1, fun hb => by rw [h4] at hb; cases hb⟩
set_option maxRecDepth 100000 in
set_option maxHeartbeats 4000000 in
theorem rterm_c (cx : RCx gp A n ts) (ex : RS → Ex × RS) (d : Nat) (hf : RExK gp A n c ts 114 (rfactor ts ex) (RQ d)) (hg : ∀ s, RP s (rfactor ts ex s).2) : RExK gp A n c ts 88 (rterm ts ex) (RQ d) := by
  intro s w h hq
  have HF := Lib.hid (fun s W (h : RSt gp A n c ts s W) hq => hf s W h hq)
  have HA := Lib.hid (fun q W (h : RSt gp A n c ts q W) => over_c m_star cx h)
  have HH := Lib.hid (h.alloc (.cells #[.string { data := #[] }, .int .i64 0, .string { data := #[] }, .int .i64 0, .slice none 0 0] 39))
  have HE : Hid (Wr [gp] w (w.alloc (.cells #[.string { data := #[] }, .int .i64 0, .string { data := #[] }, .int .i64 0, .slice none 0 0] 39))) := (Wr.refl _ _).alloc _
  have HB : Hid (Blk (w.alloc (.cells #[.string { data := #[] }, .int .i64 0, .string { data := #[] }, .int .i64 0, .slice none 0 0] 39)) w.heap.size 39 zEc) := Blk.new' rfl rfl
  have HLO := Lib.hid (h.lo cx)
  have HNG : Hid (w.heap.size ∉ [gp]) := by show _ ∉ _; have := h.b.lt; simp; omega
  have HQ1 := Lib.hid (hq.rp (hg s))
  have HT : Hid (rterm ts ex s = rtermLoop ts ex (ts.length + 1) (rfactor ts ex s).1 (rfactor ts ex s).2) := rfl
  rw [HT.out]
  have HF1 := Lib.hid (HF.out s _ HH.out hq)
  have HCX := Lib.hid cx
  clear h hq HT
  generalize (rfactor ts ex s).1 = E1 at *
  generalize (rfactor ts ex s).2 = q1 at *
  generalize hR : rtermLoop ts ex (ts.length + 1) E1 q1 = R at *
  have HR := Lib.hid hR
  clear hR cx
  unfold exC at HF1
  go_enter Tryz.func88, Tryz.ntmps88
  go_wp2_with (go_at_call 114; (refine (HF1.out).mono ?_); rintro e w1 ⟨a1, rfl, ha1, h1, hW1⟩
               have HS1 : Hid (RTm gp A n c ts w w1.heap.size E1 q1 a1 (w1.alloc (.cells (exC E1 a1).toArray 39))) := ⟨h1.alloc _, (HE.out.trans hW1).alloc _, Blk.alloc ((hW1.block _ HB.out.lt HNG.out).trans HB.out) _, Blk.new' rfl rfl, (ha1.keep (keep_fx0 HB.out.lt rfl)).keep (keep_fxal _), Nat.lt_of_lt_of_le HB.out.lt hW1.size, HLO.out⟩
               clear ha1 h1 hW1)
  have hzl : w.heap.size < w1.heap.size := HS1.out.lt
  have HTL := Lib.hid (fun (kk : Nat) (E : Ex) (q : RS) => (⟨fun h => (by rw [rtermLoop, if_neg (by rw [h]; simp)]), fun h => (by rw [rtermLoop, if_pos h])⟩ : (rIs ts m_star q = false → rtermLoop ts ex (kk + 1) E q = (E, q)) ∧ (rIs ts m_star q = true → rtermLoop ts ex (kk + 1) E q = rtermLoop ts ex kk (.mk m_star 0 zs E.at_ [E, (rfactor ts ex (rnx q)).1]) (rfactor ts ex (rnx q)).2)))
  clear HH HE HB HF1
  generalize w1.heap.size = G at *
  go_loopg [4] ts.length (fun kk v4 wr => ∃ (E : Ex) (q : RS) (a : Option Addr × Nat), RTm gp A n c ts w G E q a wr ∧ ts.length ≤ kk + q.i ∧ rtermLoop ts ex (kk + 1) E q = R ∧ RQ d q)
  case atStart => exact ⟨E1, q1, a1, HS1.out, by omega, HR.out, HQ1.out⟩
  case round =>
    clear HS1 HR HQ1
    obtain ⟨E, q, a, hS, hk, hT, hQ⟩ := hrel
    cases hs : rIs ts m_star q
    · have HS := Lib.hid hS
      have HAL := HA.out q _ hS.st
      have HRR : Hid (R = (E, q)) := hT.symm.trans ((HTL.out gk E q).1 hs)
      have HAP : Hid (rover ts m_star q = q) := (by show _ = _; unfold rover; rw [hs]; rfl)
      rw [hs, HAP.out] at HAL
      have HALL := Lib.hid HAL
      clear hS hk hT hQ hs HAL HTL
      go_wp2_with (go_at_call 65; (refine (HALL.out).mono ?_); rintro e w2 ⟨rfl, h2, hW2⟩
                   have HS2 := Lib.hid (HS.out.call h2 hW2)
                   have he2 := HS2.out.e
                   obtain ⟨n0, n1, n2, n3, n4⟩ := Blk.five he2
                   obtain ⟨z0, z1, z2, z3, z4⟩ := Blk.five HS2.out.z
                   obtain ⟨f0, f1, f2, f3, f4⟩ := Blk.fro5 HS2.out.z
                   clear h2 hW2 he2)
      refine bodyPost_ret (res_c rfl _ w.heap.size 39 (exC E a) rfl (by exact (five_set HS2.out.z).1) _ Tryz.underlying39 rfl hdEx) rfl ?_
      rw [HRR.out]
      refine ⟨a, rfl, ?_, ?_, ?_⟩
      · exact (((((HS2.out.ar.keep (keep_fxset _)).keep (keep_fxset _)).keep (keep_fxset _)).keep (keep_fxset _)).keep (keep_fxset _)).keep keep_fxfr
      · exact HS2.out.st.only HLO.out (Nat.le_refl _) (five_set HS2.out.z).2
      · exact ((((HS2.out.wr.setNew (Nat.le_refl _) _).setNew (Nat.le_refl _) _).setNew (Nat.le_refl _) _).setNew (Nat.le_refl _) _).setNew (Nat.le_refl _) _
    · have HS := Lib.hid hS
      have HAL := HA.out q _ hS.st
      have hlt := rIs_lt HCX.out hs
      have HAP : Hid (rover ts m_star q = rnx q) := (by show _ = _; unfold rover; rw [hs]; rfl)
      rw [hs, HAP.out] at HAL
      have HALL := Lib.hid HAL
      have hQ2 : RQ d (rnx q) := hQ.rp rnx_p
      have HFX := Lib.hid (fun W (h : RSt gp A n c ts (rnx q) W) => HF.out (rnx q) W h hQ2)
      have HQ3 := Lib.hid (hQ2.rp (hg (rnx q)))
      have HI3 : Hid (q.i + 1 ≤ (rfactor ts ex (rnx q)).2.i) := (hg (rnx q)).le
      have HT2 := Lib.hid (((HTL.out gk E q).2 hs).symm.trans hT)
      have HKL := Lib.hid (And.intro hk hlt)
      clear hS hk hT hQ hs HAL HTL hlt hQ2
      generalize (rfactor ts ex (rnx q)).1 = X at *
      generalize (rfactor ts ex (rnx q)).2 = q3 at *
      unfold exC at HFX
      go_wp2_with (first
        | (refine wpList_two rfl 37 39 (.tmp 13) (.tmp 14) rfl (exC E a) (exC X y) (by rfl) (by rfl) Tryz.underlying37 (by kernel_rfl) rfl (by rw [exC_len]; omega) (by rw [exC_len]; omega) ?_)
        | (refine wpList_store_all rfl 39 (.tmp 3) (.tmp 16) rfl G (exC (.mk m_star 0 zs E.at_ [E, X]) (some ⟨w3.heap.size + 1, 0, none⟩, 2)) (by rfl) (by exact agS (by simp)) 39 (exC E a) (by exact HS4.out.e.alloc _) hdEx (exC_one _ _) rfl ?_
           intro w5 hb5 ho5
           have HS5 := Lib.hid (HS4.out.grow HY4.out (by simpa using hb5) ho5)
           clear hb5 ho5)
        | (go_at_call 114; (refine (HFX.out _ (by exact HS2.out.st)).mono ?_); rintro e w3 ⟨y, rfl, hy3, h3, hW3⟩
           have hl2 := HS2.out.e.lt
           have HS3 := Lib.hid (HS2.out.call h3 hW3)
           have HS4 := Lib.hid (HS3.out.call (HS3.out.st.alloc (.cells (exC X y).toArray 39)) ((Wr.refl _ _).alloc _))
           have HY4 := Lib.hid ((hy3.keep (keep_fx (g := G) (Nat.lt_of_lt_of_le hzl (Nat.le_of_lt (hl2))) (hl2))).keep (keep_fxal (.cells (exC X y).toArray 39)))
           obtain ⟨n0, n1, n2, n3, n4⟩ := Blk.five HS3.out.e
           obtain ⟨f0, f1, f2, f3, f4⟩ := Blk.fro5 HS3.out.e
           have hg3 : G < w3.heap.size := HS3.out.e.lt
           clear hy3 h3 hW3)
        | (go_at_call 65; (refine (HALL.out).mono ?_); rintro e w2 ⟨rfl, h2, hW2⟩
           have HS2 := Lib.hid (HS.out.call h2 hW2)
           clear h2 hW2))
      have hk5 := HKL.out
      have hi5 := HI3.out
      go_roundg (gk - 1)
      case measure => omega
      case rel => exact ⟨_, q3, _, HS5.out, by omega, by rw [show gk - 1 + 1 = gk by omega]; exact HT2.out, HQ3.out⟩
set_option maxRecDepth 100000 in
set_option maxHeartbeats 4000000 in
theorem rexpr_c (cx : RCx gp A n ts) (ex : RS → Ex × RS) (d : Nat) (hf : RExK gp A n c ts 88 (rterm ts ex) (RQ d)) (hg : ∀ s, RP s (rterm ts ex s).2) : RExK gp A n c ts 64 (rexprG ts ex) (RQ d) := by
  intro s w h hq
  have HF := Lib.hid (fun s W (h : RSt gp A n c ts s W) hq => hf s W h hq)
  have HA := Lib.hid (fun q W (h : RSt gp A n c ts q W) => is_c m_plus cx h)
  have HA2 := Lib.hid (fun q W (h : RSt gp A n c ts q W) => is_c m_minus cx h)
  have HNW := Lib.hid (fun q W (h : RSt gp A n c ts q W) => now_c cx h)
  have HH := Lib.hid (h.alloc (.cells #[.string { data := #[] }, .int .i64 0, .string { data := #[] }, .int .i64 0, .slice none 0 0] 39))
  have HE : Hid (Wr [gp] w (w.alloc (.cells #[.string { data := #[] }, .int .i64 0, .string { data := #[] }, .int .i64 0, .slice none 0 0] 39))) := (Wr.refl _ _).alloc _
  have HB : Hid (Blk (w.alloc (.cells #[.string { data := #[] }, .int .i64 0, .string { data := #[] }, .int .i64 0, .slice none 0 0] 39)) w.heap.size 39 zEc) := Blk.new' rfl rfl
  have HLO := Lib.hid (h.lo cx)
  have HNG : Hid (w.heap.size ∉ [gp]) := by show _ ∉ _; have := h.b.lt; simp; omega
  have HQ1 := Lib.hid (hq.rp (hg s))
  have HT : Hid (rexprG ts ex s = rexprLoop ts ex (ts.length + 1) (rterm ts ex s).1 (rterm ts ex s).2) := rfl
  rw [HT.out]
  have HF1 := Lib.hid (HF.out s _ HH.out hq)
  have HCX := Lib.hid cx
  clear h hq HT
  generalize (rterm ts ex s).1 = E1 at *
  generalize (rterm ts ex s).2 = q1 at *
  generalize hR : rexprLoop ts ex (ts.length + 1) E1 q1 = R at *
  have HR := Lib.hid hR
  clear hR cx
  unfold exC at HF1
  go_enter Tryz.func64, Tryz.ntmps64
  go_wp2_with (go_at_call 88; (refine (HF1.out).mono ?_); rintro e w1 ⟨a1, rfl, ha1, h1, hW1⟩
               have HS1 : Hid (RTm gp A n c ts w w1.heap.size E1 q1 a1 (w1.alloc (.cells (exC E1 a1).toArray 39))) := ⟨h1.alloc _, (HE.out.trans hW1).alloc _, Blk.alloc ((hW1.block _ HB.out.lt HNG.out).trans HB.out) _, Blk.new' rfl rfl, (ha1.keep (keep_fx0 HB.out.lt rfl)).keep (keep_fxal _), Nat.lt_of_lt_of_le HB.out.lt hW1.size, HLO.out⟩
               clear ha1 h1 hW1)
  have hzl : w.heap.size < w1.heap.size := HS1.out.lt
  have HTL := Lib.hid (fun (kk : Nat) (E : Ex) (q : RS) => (⟨fun h h2 => (by rw [rexprLoop, if_neg (by rw [h, h2]; simp)]), fun h => (by rw [rexprLoop, if_pos h])⟩ : (rIs ts m_plus q = false → rIs ts m_minus q = false → rexprLoop ts ex (kk + 1) E q = (E, q)) ∧ ((rIs ts m_plus q || rIs ts m_minus q) = true → rexprLoop ts ex (kk + 1) E q = rexprLoop ts ex kk (.mk (bytesOf (rk ts q).text) 0 zs E.at_ [E, (rterm ts ex (rnx q)).1]) (rterm ts ex (rnx q)).2)))
  clear HH HE HB HF1
  generalize w1.heap.size = G at *
  go_loopg [4, 5] ts.length (fun kk v4 v5 wr => ∃ (E : Ex) (q : RS) (a : Option Addr × Nat), RTm gp A n c ts w G E q a wr ∧ ts.length ≤ kk + q.i ∧ rexprLoop ts ex (kk + 1) E q = R ∧ RQ d q)
  case atStart => exact ⟨E1, q1, a1, HS1.out, by omega, HR.out, HQ1.out⟩
  case round =>
    clear HS1 HR HQ1
    obtain ⟨E, q, a, hS, hk, hT, hQ⟩ := hrel
    cases hs : rIs ts m_plus q
    · cases hs2 : rIs ts m_minus q
      · have HS := Lib.hid hS
        have HRR : Hid (R = (E, q)) := hT.symm.trans ((HTL.out gk E q).1 hs hs2)
        have HAL := fun W h => HA.out q W h
        have HAL2 := fun W h => HA2.out q W h
        rw [hs] at HAL
        rw [hs2] at HAL2
        have HALL := Lib.hid HAL
        have HALL2 := Lib.hid HAL2
        clear hS hk hT hQ hs hs2 HAL HAL2 HTL HA HA2 HNW
        go_wp2_with (first
          | (go_at_call 26; (with_reducible refine (HALL2.out _ (by exact HS1.out.st)).mono ?_); rintro e w2 ⟨rfl, hB2⟩
             have HS2 := Lib.hid (HS1.out.call (HS1.out.st.below hB2) (Wr.of_below hB2))
             have he2 := HS2.out.e
             obtain ⟨n0, n1, n2, n3, n4⟩ := Blk.five he2
             obtain ⟨z0, z1, z2, z3, z4⟩ := Blk.five HS2.out.z
             obtain ⟨f0, f1, f2, f3, f4⟩ := Blk.fro5 HS2.out.z
             clear hB2 he2)
          | (go_at_call 26; (with_reducible refine (HALL.out _ (by exact HS.out.st)).mono ?_); rintro e w8 ⟨rfl, hB2⟩
             have HS1 := Lib.hid (HS.out.call (HS.out.st.below hB2) (Wr.of_below hB2))
             clear hB2))
        refine bodyPost_ret (res_c rfl _ w.heap.size 39 (exC E a) rfl (by exact (five_set HS2.out.z).1) _ Tryz.underlying39 rfl hdEx) rfl ?_
        rw [HRR.out]
        refine ⟨a, rfl, ?_, ?_, ?_⟩
        · exact (((((HS2.out.ar.keep (keep_fxset _)).keep (keep_fxset _)).keep (keep_fxset _)).keep (keep_fxset _)).keep (keep_fxset _)).keep keep_fxfr
        · exact HS2.out.st.only HLO.out (Nat.le_refl _) (five_set HS2.out.z).2
        · exact ((((HS2.out.wr.setNew (Nat.le_refl _) _).setNew (Nat.le_refl _) _).setNew (Nat.le_refl _) _).setNew (Nat.le_refl _) _).setNew (Nat.le_refl _) _
      · have HS := Lib.hid hS
        have hor : (rIs ts m_plus q || rIs ts m_minus q) = true := (by rw [hs, hs2]; rfl)
        have hlt := (rIs_lt HCX.out hs2)
        have HAL := fun W h => HA.out q W h
        rw [hs] at HAL
        have HALL := Lib.hid HAL
        have HAL2 := fun W h => HA2.out q W h
        rw [hs2] at HAL2
        have HALL2 := Lib.hid HAL2
        have HNN := Lib.hid (fun W h => HNW.out q W h)
        have HNX := Lib.hid (fun W (h : RSt gp A n c ts q W) => RSt.next HCX.out h hlt)
        have hQ2 : RQ d (rnx q) := hQ.rp rnx_p
        have HFX := Lib.hid (fun W (h : RSt gp A n c ts (rnx q) W) => HF.out (rnx q) W h hQ2)
        have HQ3 := Lib.hid (hQ2.rp (hg (rnx q)))
        have HI3 : Hid (q.i + 1 ≤ (rterm ts ex (rnx q)).2.i) := (hg (rnx q)).le
        have HT2 := Lib.hid (((HTL.out gk E q).2 hor).symm.trans hT)
        have HKL := Lib.hid (And.intro hk hlt)
        have hi8 : q.i < 100000 := by have := HCX.out.hn; have := HCX.out.hn8; omega
        have HX : Hid (∀ W, RSt gp A n c ts q W → W.cell? ⟨gp, 1, none⟩ = some (.int .i64 q.i) ∧ W.frozen? ⟨gp, 1, none⟩ = false ∧ gp < W.heap.size) := fun W h => ⟨h.b.cell 1, h.b.frozen 1, h.b.lt⟩
        clear hS hk hT hQ hs hs2 HAL HTL hlt hQ2 hor HA HA2 HNW HAL2
        generalize (rterm ts ex (rnx q)).1 = X at *
        generalize (rterm ts ex (rnx q)).2 = q3 at *
        generalize rk ts q = t at *
        unfold tokCells at HNN
        unfold exC at HFX
        have hf := fld1 (.int .i64 t.kind) (.string (bytesOf t.text)) (.int .i64 t.num) (.int .i64 t.at_)
        go_wp2_with (first
          | (refine wpList_two rfl 37 39 (.tmp 29) (.tmp 30) rfl (exC E a) (exC X y) (by rfl) (by rfl) Tryz.underlying37 (by kernel_rfl) rfl (by rw [exC_len]; omega) (by rw [exC_len]; omega) ?_)
          | (refine wpList_store_all rfl 39 (.tmp 3) (.tmp 32) rfl G (exC (.mk (bytesOf t.text) 0 zs E.at_ [E, X]) (some ⟨w3.heap.size + 1, 0, none⟩, 2)) (by rfl) (by exact agS (by simp)) 39 (exC E a) (by exact HS4.out.e.alloc _) hdEx (exC_one _ _) rfl ?_
             intro w5 hb5 ho5
             have HS5 := Lib.hid (HS4.out.grow HY4.out (by simpa using hb5) ho5)
             clear hb5 ho5)
          | (go_at_call 88; (refine (HFX.out _ (by exact HX4.out.1)).mono ?_); rintro e w3 ⟨y, rfl, hy3, h3, hW3⟩
             have hl2 := HS2.out.e.lt
             have HS3 := Lib.hid (HS2.out.call h3 (HX4.out.2.trans hW3))
             have HS4 := Lib.hid (HS3.out.call (HS3.out.st.alloc (.cells (exC X y).toArray 39)) ((Wr.refl _ _).alloc _))
             have HY4 := Lib.hid ((hy3.keep (keep_fx (g := G) (Nat.lt_of_lt_of_le hzl (Nat.le_of_lt (Nat.lt_of_lt_of_le hl2 HX4.out.2.size))) (Nat.lt_of_lt_of_le hl2 HX4.out.2.size))).keep (keep_fxal (.cells (exC X y).toArray 39)))
             obtain ⟨n0, n1, n2, n3, n4⟩ := Blk.five HS3.out.e
             obtain ⟨f0, f1, f2, f3, f4⟩ := Blk.fro5 HS3.out.e
             have hg3 : G < w3.heap.size := HS3.out.e.lt
             clear hy3 h3 hW3)
          | (go_at_call 27; (refine (HNN.out _ (by exact HS1.out.st)).mono ?_); rintro e w2 ⟨rfl, hB2⟩
             have HS2 := Lib.hid (HS1.out.call (HS1.out.st.below hB2) (Wr.of_below hB2))
             obtain ⟨k1, j1, l1⟩ := HX.out w2 HS2.out.st
             have HX4 := Lib.hid (HNX.out w2 HS2.out.st)
             clear hB2)
          | (go_at_call 26; (with_reducible refine (HALL2.out _ (by exact HS9.out.st)).mono ?_); rintro e w8 ⟨rfl, hB2⟩
             have HS1 := Lib.hid (HS9.out.call (HS9.out.st.below hB2) (Wr.of_below hB2))
             clear hB2)
          | (go_at_call 26; (with_reducible refine (HALL.out _ (by exact HS.out.st)).mono ?_); rintro e w8 ⟨rfl, hB2⟩
             have HS9 := Lib.hid (HS.out.call (HS.out.st.below hB2) (Wr.of_below hB2))
             clear hB2))
        have hk5 := HKL.out
        have hi5 := HI3.out
        go_roundg (gk - 1)
        case measure => omega
        case rel => exact ⟨_, q3, _, HS5.out, by omega, by rw [show gk - 1 + 1 = gk by omega]; exact HT2.out, HQ3.out⟩
    · have HS := Lib.hid hS
      have hor : (rIs ts m_plus q || rIs ts m_minus q) = true := (by rw [hs]; rfl)
      have hlt := (rIs_lt HCX.out hs)
      have HAL := fun W h => HA.out q W h
      rw [hs] at HAL
      have HALL := Lib.hid HAL
      have HNN := Lib.hid (fun W h => HNW.out q W h)
      have HNX := Lib.hid (fun W (h : RSt gp A n c ts q W) => RSt.next HCX.out h hlt)
      have hQ2 : RQ d (rnx q) := hQ.rp rnx_p
      have HFX := Lib.hid (fun W (h : RSt gp A n c ts (rnx q) W) => HF.out (rnx q) W h hQ2)
      have HQ3 := Lib.hid (hQ2.rp (hg (rnx q)))
      have HI3 : Hid (q.i + 1 ≤ (rterm ts ex (rnx q)).2.i) := (hg (rnx q)).le
      have HT2 := Lib.hid (((HTL.out gk E q).2 hor).symm.trans hT)
      have HKL := Lib.hid (And.intro hk hlt)
      have hi8 : q.i < 100000 := by have := HCX.out.hn; have := HCX.out.hn8; omega
      have HX : Hid (∀ W, RSt gp A n c ts q W → W.cell? ⟨gp, 1, none⟩ = some (.int .i64 q.i) ∧ W.frozen? ⟨gp, 1, none⟩ = false ∧ gp < W.heap.size) := fun W h => ⟨h.b.cell 1, h.b.frozen 1, h.b.lt⟩
      clear hS hk hT hQ hs HAL HTL hlt hQ2 hor HA HA2 HNW
      generalize (rterm ts ex (rnx q)).1 = X at *
      generalize (rterm ts ex (rnx q)).2 = q3 at *
      generalize rk ts q = t at *
      unfold tokCells at HNN
      unfold exC at HFX
      have hf := fld1 (.int .i64 t.kind) (.string (bytesOf t.text)) (.int .i64 t.num) (.int .i64 t.at_)
      go_wp2_with (first
        | (refine wpList_two rfl 37 39 (.tmp 29) (.tmp 30) rfl (exC E a) (exC X y) (by rfl) (by rfl) Tryz.underlying37 (by kernel_rfl) rfl (by rw [exC_len]; omega) (by rw [exC_len]; omega) ?_)
        | (refine wpList_store_all rfl 39 (.tmp 3) (.tmp 32) rfl G (exC (.mk (bytesOf t.text) 0 zs E.at_ [E, X]) (some ⟨w3.heap.size + 1, 0, none⟩, 2)) (by rfl) (by exact agS (by simp)) 39 (exC E a) (by exact HS4.out.e.alloc _) hdEx (exC_one _ _) rfl ?_
           intro w5 hb5 ho5
           have HS5 := Lib.hid (HS4.out.grow HY4.out (by simpa using hb5) ho5)
           clear hb5 ho5)
        | (go_at_call 88; (refine (HFX.out _ (by exact HX4.out.1)).mono ?_); rintro e w3 ⟨y, rfl, hy3, h3, hW3⟩
           have hl2 := HS2.out.e.lt
           have HS3 := Lib.hid (HS2.out.call h3 (HX4.out.2.trans hW3))
           have HS4 := Lib.hid (HS3.out.call (HS3.out.st.alloc (.cells (exC X y).toArray 39)) ((Wr.refl _ _).alloc _))
           have HY4 := Lib.hid ((hy3.keep (keep_fx (g := G) (Nat.lt_of_lt_of_le hzl (Nat.le_of_lt (Nat.lt_of_lt_of_le hl2 HX4.out.2.size))) (Nat.lt_of_lt_of_le hl2 HX4.out.2.size))).keep (keep_fxal (.cells (exC X y).toArray 39)))
           obtain ⟨n0, n1, n2, n3, n4⟩ := Blk.five HS3.out.e
           obtain ⟨f0, f1, f2, f3, f4⟩ := Blk.fro5 HS3.out.e
           have hg3 : G < w3.heap.size := HS3.out.e.lt
           clear hy3 h3 hW3)
        | (go_at_call 27; (refine (HNN.out _ (by exact HS1.out.st)).mono ?_); rintro e w2 ⟨rfl, hB2⟩
           have HS2 := Lib.hid (HS1.out.call (HS1.out.st.below hB2) (Wr.of_below hB2))
           obtain ⟨k1, j1, l1⟩ := HX.out w2 HS2.out.st
           have HX4 := Lib.hid (HNX.out w2 HS2.out.st)
           clear hB2)
        | (go_at_call 26; (refine (HALL.out _ (by exact HS.out.st)).mono ?_); rintro e w8 ⟨rfl, hB2⟩
           have HS1 := Lib.hid (HS.out.call (HS.out.st.below hB2) (Wr.of_below hB2))
           clear hB2))
      have hk5 := HKL.out
      have hi5 := HI3.out
      go_roundg (gk - 1)
      case measure => omega
      case rel => exact ⟨_, q3, _, HS5.out, by omega, by rw [show gk - 1 + 1 = gk by omega]; exact HT2.out, HQ3.out⟩
end
end Go.Proofs.YtafjkbbiaopemaaGreatDoor.Tr
