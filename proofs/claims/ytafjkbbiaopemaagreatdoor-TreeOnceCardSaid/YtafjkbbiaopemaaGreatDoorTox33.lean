/- Part of the proof: Rgw, Sd. -/
import Derived.Test.YtafjkbbiaopemaaGreatDoorTox28
import Derived.Test.YtafjkbbiaopemaaGreatDoorTox30
set_option linter.unusedVariables false
namespace Go.Proofs.YtafjkbbiaopemaaGreatDoor
open Go.RowKit
section
variable {P : Program} {ops : Array Oper} {Q : Exit → Act → World → Prop} {md : Region.Mode} {T : World → Prop} {k : Nat}
theorem AnyK.pureW {fuel : Nat} {listed : Array Bool} {a : Act} {w : World} (i : Nat) {oi : Oper} {v : Value} (hi : ops[i]? = some oi) (hd : takeB md ops listed k i = true)
    (hQ : ∀ c a w, Q (.panic c) (a.put oi.dst v) w → Q (.panic c) a w) (hg : Region.wanted oi (yielded ops a.tmps) = true) (hy : ∀ w, (execOp a.eval oi).run P w = .ok (.value v) w) (hT : listed.getD k true = false → T w)
    (h : AnyK P md ops Q k T fuel (listed.setIfInBounds i true) (a.put oi.dst v) w) : AnyK P md ops Q k T (fuel + 1) listed a w := by
  simp only [takeB, Bool.and_eq_true, decide_eq_true_eq] at hd
  obtain ⟨⟨⟨h1, h2⟩, h3⟩, h4⟩ := hd
  exact AnyK.first (S := fun _ => True) hi h1 (Region.noSelect_spec h2) hQ (.inl fun _ => trivial) fuel listed a w (Region.free_spec hi h3) (by simpa using h4) (.inl ⟨hg, fun w _ => hy w⟩) trivial hT (.inl fun _ => trivial) h
theorem AnyK.loadW {fuel : Nat} {listed : Array Bool} {a : Act} {w : World} (i : Nat) {oi : Oper} {v : Value} (hi : ops[i]? = some oi) (hd : takeB md ops listed k i = true) (hk : awaits md ops k i = true) (hl : listed.getD k true = false)
    (hQ : ∀ c a w, Q (.panic c) (a.put oi.dst v) w → Q (.panic c) a w) (hg : Region.wanted oi (yielded ops a.tmps) = true) (hy : ∀ w, T w → (execOp a.eval oi).run P w = .ok (.value v) w) (hT : T w)
    (h : AnyK P md ops Q k T fuel (listed.setIfInBounds i true) (a.put oi.dst v) w) : AnyK P md ops Q k T (fuel + 1) listed a w := by
  simp only [takeB, Bool.and_eq_true, decide_eq_true_eq] at hd
  obtain ⟨⟨⟨h1, h2⟩, h3⟩, h4⟩ := hd
  exact AnyK.first (S := T) hi h1 (Region.noSelect_spec h2) hQ (.inr ⟨fun _ h => h, awaits_spec hk⟩) fuel listed a w (Region.free_spec hi h3) (by simpa using h4) (.inl ⟨hg, hy⟩) hT (fun _ => hT) (.inr hl) h
theorem AnyK.turn {k' : Nat} {T' : World → Prop} : ∀ (fuel : Nat) (listed : Array Bool) (a : Act) (w : World), listed.getD k true = true → AnyK P md ops Q k' T' fuel listed a w → AnyK P md ops Q k T fuel listed a w
  | 0, _, _, _, _, h => h
  | fuel + 1, listed, a, w, hl, h => by
    refine ⟨h.1, fun i hi => wpOp_mono (fun a' w' h' => ?_) (h.2 i hi)⟩
    have hl' : (listed.setIfInBounds i true).getD k true = true := by
      by_cases hik : i = k
      · subst hik
        rcases Nat.lt_or_ge i listed.size with h' | h'
        · simp [h']
        · simp
      · rw [Go.getD_set_ne true hik]; exact hl
    exact ⟨fun h0 => (by rw [hl'] at h0; cases h0), AnyK.turn fuel _ a' w' hl' h'.2⟩
theorem AnyK.oneW {fuel : Nat} {listed : Array Bool} {a : Act} {w : World} (i : Nat) {oi : Oper} (hi : ops[i]? = some oi) (hr : Region.ready md ops listed = [i]) (hg : Region.wanted oi (yielded ops a.tmps) = true)
    (h : oi.wp P a w (fun a' w' => ((listed.setIfInBounds i true).getD k true = false → T w') ∧ AnyK P md ops Q k T fuel (listed.setIfInBounds i true) a' w') Q) : AnyK P md ops Q k T (fuel + 1) listed a w := by
  refine ⟨fun h0 => (by rw [hr] at h0; cases h0), fun j hj => ?_⟩
  rw [hr] at hj
  obtain rfl : j = i := by simpa using hj
  unfold wpOp
  simp only [hi]
  rw [if_pos hg]
  exact .inl h
theorem AnyK.enterW {fuel : Nat} {listed : Array Bool} {a : Act} {w : World} (i : Nat) {d : Option Tmp} {f : FuncId} {args : Array Value} {oi : Oper} (hi : ops[i]? = some oi) (hd : oi.dst = d) (hg : Region.wanted oi (yielded ops a.tmps) = true) (hrun : (execOp a.eval oi).run P w = .ok (.enter f args) w) (hr : Region.ready md ops listed = [i])
    (h : Calls P f args w fun e w' => ∃ v, e = .returned v ∧ ((listed.setIfInBounds i true).getD k true = false → T w') ∧ AnyK P md ops Q k T fuel (listed.setIfInBounds i true) (a.put d v) w') : AnyK P md ops Q k T (fuel + 1) listed a w := by
  subst hd
  refine AnyK.oneW i hi hr hg ?_
  unfold Oper.wp
  rw [hrun]
  refine Calls.mono h ?_
  rintro e w' ⟨v, rfl, h1, h2⟩
  exact ⟨h1, h2⟩
theorem AnyK.valW {fuel : Nat} {listed : Array Bool} {a : Act} {w : World} (i : Nat) {oi : Oper} {v : Value} (hi : ops[i]? = some oi) (hr : Region.ready md ops listed = [i]) (hg : Region.wanted oi (yielded ops a.tmps) = true) (hy : (execOp a.eval oi).run P w = .ok (.value v) w)
    (hT : (listed.setIfInBounds i true).getD k true = false → T w) (h : AnyK P md ops Q k T fuel (listed.setIfInBounds i true) (a.put oi.dst v) w) : AnyK P md ops Q k T (fuel + 1) listed a w := by
  refine AnyK.oneW i hi hr hg ?_
  unfold Oper.wp
  rw [hy, Oper.upon_value]
  exact ⟨hT, h⟩
end
end Go.Proofs.YtafjkbbiaopemaaGreatDoor
namespace Go.Proofs.YtafjkbbiaopemaaGreatDoor.Tr
open Go.RowKit
def DcSm (l : List Dc) : Prop := l.length ≤ 140737488355328 ∧ ∀ d ∈ l, ExSm d.value.args ∧ d.places.length ≤ 140737488355328 ∧ ∀ p ∈ d.places, ExSm p.delay.args ∧ ExSm p.flags.args
theorem ldq_Dm (v : Value) : Instr.loadAt 45 v = ldAt 45 v := rfl
theorem szDm (w : World) : (sizeOf 45).run Tryz.prog w = .ok 9 w := by kernel_rfl
theorem dc_cells {w : World} {F : Nat → Prop} {A : Option Addr} {ss : List Dc} (h : DcsIn F w A ss) (i : Nat) (hi : i < ss.length) : ∃ b off p, A = some ⟨b, off, none⟩ ∧ b < w.heap.size ∧ w.rangeAt b (off + i * 9) (dcC ss[i] p) ∧ DcIn F w ss[i] p := by
  obtain ⟨sl, hl, hr, he⟩ := h
  obtain ⟨b, off, rfl, hb, hc⟩ := hr.1.2 (by omega)
  have h1 : ss[i]? = some ss[i] := List.getElem?_eq_getElem hi
  have h2 : sl[i]? = some (sl[i]'(by omega)) := List.getElem?_eq_getElem _
  exact ⟨b, off, sl[i]'(by omega), rfl, hb, fun j v hv => (by rw [Nat.add_assoc]; exact hc _ v (zipC_get dcC 9 (fun _ _ => rfl) ss sl i _ _ j v h1 h2 hv)), he i _ _ h1 h2⟩
theorem pl_cells {w : World} {F : Nat → Prop} {A : Option Addr} {ss : List Pl} (h : PlsIn F w A ss) (i : Nat) (hi : i < ss.length) : ∃ b off p, A = some ⟨b, off, none⟩ ∧ b < w.heap.size ∧ w.rangeAt b (off + i * 12) (plC ss[i] p) ∧ PlIn F w ss[i] p := by
  obtain ⟨sl, hl, hr, he⟩ := h
  obtain ⟨b, off, rfl, hb, hc⟩ := hr.1.2 (by omega)
  have h1 : ss[i]? = some ss[i] := List.getElem?_eq_getElem hi
  have h2 : sl[i]? = some (sl[i]'(by omega)) := List.getElem?_eq_getElem _
  exact ⟨b, off, sl[i]'(by omega), rfl, hb, fun j v hv => (by rw [Nat.add_assoc]; exact hc _ v (zipC_get plC 12 (fun _ _ => rfl) ss sl i _ _ j v h1 h2 hv)), he i _ _ h1 h2⟩
theorem range_bel {w W : World} {b off : Nat} {cs : List Value} (h : w.rangeAt b off cs) (hb : b < w.heap.size) (hW : Below w.heap.size w W) : W.rangeAt b off cs := fun q v hv => (World.cell?_of_block (a := ⟨b, off + q, none⟩) (hW.block b hb)).trans (h q v hv)
theorem szPm (w : World) : (sizeOf 80).run Tryz.prog w = .ok 12 w := by kernel_rfl
theorem range_mid {w : World} {b off : Nat} {cs ds : List Value} (h : w.rangeAt b off cs) (o n : Nat) (hd : (cs.drop o).take n = ds) : w.rangeAt b (off + o) ds := fun j v hv => by
  rw [← hd, List.getElem?_take] at hv
  split at hv
  · rw [List.getElem?_drop] at hv
    rw [Nat.add_assoc]
    exact h _ v hv
  · cases hv
section
variable {w w' : World}
attribute [local go_sem ↓] ldq_Dm
set_option maxRecDepth 100000 in
set_option maxHeartbeats 8000000 in
theorem same_c {F G : Nat → Prop} (T : Sr) (hd : DcSm T.decls) (hb : StSm T.body) (A B C D : Option Addr) (a b c d : Nat) (w : World) (hA : DcsIn F w A T.decls) (hB : BodyIn F w B T.body) (hC : DcsIn G w C T.decls) (hD : BodyIn G w D T.body) :
    Calls Tryz.prog 11 #[.agg #[.slice A T.decls.length a, .slice B T.body.length b], .agg #[.slice C T.decls.length c, .slice D T.body.length d], .bool true] w fun e w' => e = .returned (.bool true) ∧ Below w.heap.size w w' := by
  obtain ⟨ds, bs⟩ := T
  dsimp only at hd hb hA hB hC hD ⊢
  have HBS := Lib.hid (sameStmts_c hb (F := F) (G := G))
  have hn8 : ds.length ≤ 140737488355328 := hd.1
  have HDS := Lib.hid hd.2
  generalize hm : bs.length = m at *
  generalize hn : ds.length = n at *
  have HN := Lib.hid hn
  have HM := Lib.hid hm
  have HW : Hid (∀ W, W = (w.alloc (.cells #[.slice A n a, .slice B m b] 26)).alloc (.cells #[.slice C n c, .slice D m d] 26) → Below w.heap.size w W ∧ Blk W w.heap.size 26 [.slice A n a, .slice B m b] ∧ Blk W (w.heap.size + 1) 26 [.slice C n c, .slice D m d] ∧ DcsIn F W A ds ∧ BodyIn F W B bs ∧ DcsIn G W C ds ∧ BodyIn G W D bs) := by
    rintro W rfl
    have hb2 : Below w.heap.size w ((w.alloc (.cells #[.slice A n a, .slice B m b] 26)).alloc (.cells #[.slice C n c, .slice D m d] 26)) := ((Below.refl _ _).alloc (Nat.le_refl _) _).alloc (by simp) _
    exact ⟨hb2, (Blk.new _ _ _).alloc _, Blk.new' (by simp) rfl, hA.keep (Keep.of_below hb2 F), hB.keep (Keep.of_below hb2 F), hC.keep (Keep.of_below hb2 G), hD.keep (Keep.of_below hb2 G)⟩
  have HSR := Lib.hid sameRef_c
  clear hd hb hA hB hC hD hn hm
  go_enter Tryz.func11, Tryz.ntmps11
  go_wp2
  obtain ⟨h1, hh1⟩ : ∃ h1, h1 = w.heap.size := ⟨_, rfl⟩
  obtain ⟨h2, hh2⟩ : ∃ h2, h2 = w.heap.size + 1 := ⟨_, rfl⟩
  obtain ⟨W1, hW1⟩ : ∃ W1, W1 = ((w.alloc (.cells #[.slice A n a, .slice B m b] 26)).alloc (.cells #[.slice C n c, .slice D m d] 26)) := ⟨_, rfl⟩
  have HX := Lib.hid (HW.out W1 hW1)
  rw [← hW1]
  have HX2 : Hid (Blk W1 h1 26 [.slice A n a, .slice B m b] ∧ Blk W1 h2 26 [.slice C n c, .slice D m d]) := by subst hh1 hh2; exact ⟨HX.out.2.1, HX.out.2.2.1⟩
  rw [← hh2, ← hh1]
  have HBW : Hid (∀ W, Below W1.heap.size W1 W → Below w.heap.size w W) := fun W hW => HX.out.1.trans (hW.mono HX.out.1.size)
  clear HW hW1 hh2 hh1
  go_loopg [7] n (fun kk q wr => ∃ j : Nat, j ≤ n ∧ kk = n - j ∧ q = .int .i64 (j : Int) ∧ Hid (Below W1.heap.size W1 wr))
  case atStart => exact ⟨0, by omega, by omega, rfl, Lib.hid (Below.refl _ _)⟩
  case round =>
    obtain ⟨j, hj, hk, rfl, HR⟩ := hrel
    obtain ⟨KO, hKO⟩ : ∃ KO, KO = gk := ⟨_, rfl⟩
    have f1 : wr.cell? ⟨h1, 0, none⟩ = some (.slice A n a) := (HX2.out.1.below HR.out HX2.out.1.lt).cell 0
    have f2 : wr.cell? ⟨h2, 0, none⟩ = some (.slice C n c) := (HX2.out.2.below HR.out HX2.out.2.lt).cell 0
    rcases Nat.eq_or_lt_of_le hj with rfl | hlt
    · have hnl : ¬ (j : Int) < (j : Int) := by omega
      clear hk hj
      have f3 : wr.cell? ⟨h1, 1, none⟩ = some (.slice B m b) := (HX2.out.1.below HR.out HX2.out.1.lt).cell 1
      have f4 : wr.cell? ⟨h2, 1, none⟩ = some (.slice D m d) := (HX2.out.2.below HR.out HX2.out.2.lt).cell 1
      go_wp2_with (go_at_call 33; (refine (HBS.out B D m b d rfl _ (HX.out.2.2.2.2.1.keep (Keep.of_below HR.out F)) (HX.out.2.2.2.2.2.2.keep (Keep.of_below HR.out G))).mono ?_); rintro e w2 ⟨rfl, hB2⟩)
      go_ret
      exact ⟨rfl, HBW.out _ (HR.out.trans (hB2.mono HR.out.size))⟩
    · have hlt2 : (j : Int) < (n : Int) := by omega
      have hjl : j < ds.length := by have := HN.out; omega
      obtain ⟨b1, o1, sp, rfl, hb1, x1, k1⟩ := dc_cells (HX.out.2.2.2.1.keep (Keep.of_below HR.out F)) j hjl
      obtain ⟨b2, o2, tp, rfl, hb2, x2, k2⟩ := dc_cells (HX.out.2.2.2.2.2.1.keep (Keep.of_below HR.out G)) j hjl
      have HEj := Lib.hid (HDS.out ds[j] (List.getElem_mem _))
      generalize ds[j] = E at *
      have HK : Hid (DcIn F wr E sp ∧ DcIn G wr E tp) := ⟨k1, k2⟩
      have HX' : Hid (wr.rangeAt b1 (o1 + j * 9) (dcC E sp) ∧ wr.rangeAt b2 (o2 + j * 9) (dcC E tp)) := ⟨x1, x2⟩
      have HCO : Hid ((∀ v ∈ dcC E sp, v.oneCell' = true) ∧ (∀ v ∈ dcC E tp, v.oneCell' = true)) := ⟨dcC_one _ _, dcC_one _ _⟩
      have HCL : Hid ((dcC E sp).length = 9 ∧ (dcC E tp).length = 9) := ⟨rfl, rfl⟩
      clear k1 k2 x1 x2
      obtain ⟨CA, hCA⟩ : ∃ CA, CA = dcC E sp := ⟨_, rfl⟩
      obtain ⟨CB, hCB⟩ : ∃ CB, CB = dcC E tp := ⟨_, rfl⟩
      rw [← hCA, ← hCB] at HX' HCO HCL
      have HCC : Hid (CA = dcC E sp ∧ CB = dcC E tp) := ⟨hCA, hCB⟩
      clear hCA hCB
      go_upto_region 6 with fail
      have hT : Below wr.heap.size wr wr.drew := Below.drew (Below.refl _ _)
      have hf : h1 < wr.heap.size ∧ h2 < wr.heap.size := ⟨Nat.lt_of_lt_of_le HX2.out.1.lt HR.out.size, Nat.lt_of_lt_of_le HX2.out.2.lt HR.out.size⟩
      refine region_K (by kernel_rfl) 13 (fun W => Below wr.heap.size wr W) ?_
      refine AnyK.pure 0 (v := .pointer (some ⟨h1, 0, none⟩)) rfl (by kernel_rfl) (fun _ _ _ h => h) rfl (fun _ => by kernel_rfl) (fun _ => hT) ?_
      refine AnyK.load 1 (v := .slice (some ⟨b1, o1, none⟩) n a) rfl (by kernel_rfl) (by kernel_rfl) (by kernel_rfl) (fun _ _ _ h => h) rfl (fun w' hw' => ex_loadZ (t := 23) (x := .tmp 25) (by rfl) (by kernel_rfl) (fun _ => by kernel_rfl) ((World.cell?_of_block (a := ⟨h1, 0, none⟩) (hw'.block h1 hf.1)).trans f1)) hT ?_
      refine AnyK.pure 2 (v := .int .i64 j) rfl (by kernel_rfl) (fun _ _ _ h => h) rfl (fun _ => by kernel_rfl) (fun _ => hT) ?_
      refine AnyK.pure 3 (v := .pointer (some ⟨b1, o1 + j * 9, none⟩)) rfl (by kernel_rfl) (fun _ _ _ h => h) rfl (fun _ => ex_idxT (t := 23) (x := .tmp 26) (y := .tmp 27) (g := b1) (off := o1) (n := n) (c := a) (p := j) (by rfl) (by kernel_rfl) (by kernel_rfl) hlt Tryz.underlying23 szDm) (fun _ => hT) ?_
      refine AnyK.load 4 (v := .agg CA.toArray) rfl (by kernel_rfl) (by kernel_rfl) (by kernel_rfl) (fun _ _ _ h => h) rfl (fun w' hw' => ex_loadS rfl (by kernel_rfl) (run_loadAt_mid w' b1 (o1 + j * 9) 45 CA _ (fun q v hv => (World.cell?_of_block (a := ⟨b1, o1 + j * 9 + q, none⟩) (hw'.block b1 hb1)).trans (HX'.out.1 q v hv)) Tryz.underlying45 rfl (by rw [HCL.out.1]; exact hdDc))) hT ?_
      refine AnyK.pure 5 (v := .pointer (some ⟨h2, 0, none⟩)) rfl (by kernel_rfl) (fun _ _ _ h => h) rfl (fun _ => by kernel_rfl) (fun _ => hT) ?_
      refine AnyK.load 6 (v := .slice (some ⟨b2, o2, none⟩) n c) rfl (by kernel_rfl) (by kernel_rfl) (by kernel_rfl) (fun _ _ _ h => h) rfl (fun w' hw' => ex_loadZ (t := 23) (x := .tmp 30) (by rfl) (by kernel_rfl) (fun _ => by kernel_rfl) ((World.cell?_of_block (a := ⟨h2, 0, none⟩) (hw'.block h2 hf.2)).trans f2)) hT ?_
      refine AnyK.pure 7 (v := .int .i64 j) rfl (by kernel_rfl) (fun _ _ _ h => h) rfl (fun _ => by kernel_rfl) (fun _ => hT) ?_
      refine AnyK.pure 8 (v := .pointer (some ⟨b2, o2 + j * 9, none⟩)) rfl (by kernel_rfl) (fun _ _ _ h => h) rfl (fun _ => ex_idxT (t := 23) (x := .tmp 31) (y := .tmp 32) (g := b2) (off := o2) (n := n) (c := c) (p := j) (by rfl) (by kernel_rfl) (by kernel_rfl) hlt Tryz.underlying23 szDm) (fun _ => hT) ?_
      refine AnyK.load 9 (v := .agg CB.toArray) rfl (by kernel_rfl) (by kernel_rfl) (by kernel_rfl) (fun _ _ _ h => h) rfl (fun w' hw' => ex_loadS rfl (by kernel_rfl) (run_loadAt_mid w' b2 (o2 + j * 9) 45 CB _ (fun q v hv => (World.cell?_of_block (a := ⟨b2, o2 + j * 9 + q, none⟩) (hw'.block b2 hb2)).trans (HX'.out.2 q v hv)) Tryz.underlying45 rfl (by rw [HCL.out.2]; exact hdDc))) hT ?_
      refine AnyK.two_new 10 11 12 13 (d1 := 8) (d2 := 9) (e1 := 29) (e2 := 34) (by decide) 45 (dcC zDc pl0) CA CB rfl rfl rfl (fun _ _ => by kernel_rfl) rfl rfl rfl (fun _ _ => by kernel_rfl) rfl rfl rfl rfl rfl rfl rfl rfl (fun _ _ => by kernel_rfl) (fun _ _ => by kernel_rfl) (fun _ _ => by kernel_rfl) (fun _ _ => by kernel_rfl) (by kernel_rfl) (by kernel_rfl) (by kernel_rfl) (by kernel_rfl) (by kernel_rfl) (by kernel_rfl) hdDc HCO.out.1 HCL.out.1 HCO.out.2 HCL.out.2 (fun W hW => hT.trans hW) ?_
      intro g1 g2 w8 hg1 hg2 hk1 hk2 hB8
      rw [HCC.out.1] at hk1
      rw [HCC.out.2] at hk2
      have H0 : Hid (Blk w8 g1 45 (dcC E sp) ∧ Blk w8 g2 45 (dcC E tp) ∧ Below wr.heap.size wr w8) := ⟨hk1, hk2, hT.trans hB8⟩
      clear hk1 hk2 hB8 hT HX' HCO HCL f1 f2
      obtain ⟨kd, ⟨nm, na⟩, ⟨vo, vn, vx, va, vl⟩, pls⟩ := E
      have c0s : w8.cell? ⟨g1, 0, none⟩ = some (.string kd) := H0.out.1.cell 0
      have c0t : w8.cell? ⟨g2, 0, none⟩ = some (.string kd) := H0.out.2.1.cell 0
      have c1s : w8.cell? ⟨g1, 1, none⟩ = some (.string nm) := H0.out.1.cell 1
      have c1t : w8.cell? ⟨g2, 1, none⟩ = some (.string nm) := H0.out.2.1.cell 1
      have c2s : w8.cell? ⟨g1, 2, none⟩ = some (.int .i64 na) := H0.out.1.cell 2
      have c2t : w8.cell? ⟨g2, 2, none⟩ = some (.int .i64 na) := H0.out.2.1.cell 2
      go_wp2_with (first
        | (go_at_call 32; have _ := H1; (refine (sameExpr_c HEj.out.1 (F := F) (G := G) _ _ _ _ _ _ _ _ _ rfl _ (HK.out.1.1.keep (Keep.of_below H1.out.2.2 F)) (HK.out.2.1.keep (Keep.of_below H1.out.2.2 G))).mono ?_); rintro e v2 ⟨rfl, hB1⟩
           have H2 : Hid (Blk v2 g1 45 (dcC ⟨kd, ⟨nm, na⟩, .mk vo vn vx va vl, pls⟩ sp) ∧ Blk v2 g2 45 (dcC ⟨kd, ⟨nm, na⟩, .mk vo vn vx va vl, pls⟩ tp) ∧ Below wr.heap.size wr v2) := ⟨H1.out.1.below hB1 H1.out.1.lt, H1.out.2.1.below hB1 H1.out.2.1.lt, H1.out.2.2.trans (hB1.mono H1.out.2.2.size)⟩
           have d8s : v2.cell? ⟨g1, 8, none⟩ = some (.slice sp.2.1 pls.length sp.2.2) := H2.out.1.cell 8
           have d8t : v2.cell? ⟨g2, 8, none⟩ = some (.slice tp.2.1 pls.length tp.2.2) := H2.out.2.1.cell 8
           clear hB1)
        | (go_at_call 31; (refine (HSR.out ⟨nm, na⟩ _).mono ?_); rintro e v1 ⟨rfl, hB0⟩
           have H1 : Hid (Blk v1 g1 45 (dcC ⟨kd, ⟨nm, na⟩, .mk vo vn vx va vl, pls⟩ sp) ∧ Blk v1 g2 45 (dcC ⟨kd, ⟨nm, na⟩, .mk vo vn vx va vl, pls⟩ tp) ∧ Below wr.heap.size wr v1) := ⟨H0.out.1.below hB0 H0.out.1.lt, H0.out.2.1.below hB0 H0.out.2.1.lt, H0.out.2.2.trans (hB0.mono H0.out.2.2.size)⟩
           have d3s : v1.cell? ⟨g1, 3, none⟩ = some (.string vo) := H1.out.1.cell 3
           have d3t : v1.cell? ⟨g2, 3, none⟩ = some (.string vo) := H1.out.2.1.cell 3
           have d4s : v1.cell? ⟨g1, 4, none⟩ = some (.int .i64 vn) := H1.out.1.cell 4
           have d4t : v1.cell? ⟨g2, 4, none⟩ = some (.int .i64 vn) := H1.out.2.1.cell 4
           have d5s : v1.cell? ⟨g1, 5, none⟩ = some (.string vx) := H1.out.1.cell 5
           have d5t : v1.cell? ⟨g2, 5, none⟩ = some (.string vx) := H1.out.2.1.cell 5
           have d6s : v1.cell? ⟨g1, 6, none⟩ = some (.int .i64 va) := H1.out.1.cell 6
           have d6t : v1.cell? ⟨g2, 6, none⟩ = some (.int .i64 va) := H1.out.2.1.cell 6
           have d7s : v1.cell? ⟨g1, 7, none⟩ = some (.slice sp.1.1 vl.length sp.1.2) := H1.out.1.cell 7
           have d7t : v1.cell? ⟨g2, 7, none⟩ = some (.slice tp.1.1 vl.length tp.1.2) := H1.out.2.1.cell 7
           clear hB0))
      have HPL := Lib.hid HEj.out.2
      have HKP : Hid (PlsIn F v2 sp.2.1 pls ∧ PlsIn G v2 tp.2.1 pls) := ⟨HK.out.1.2.keep (Keep.of_below H2.out.2.2 F), HK.out.2.2.keep (Keep.of_below H2.out.2.2 G)⟩
      have hp8 : pls.length ≤ 140737488355328 := HPL.out.1
      generalize hu : pls.length = u at *
      have HU := Lib.hid hu
      clear hu
      go_loopg [10] u (fun kk q ws => ∃ k : Nat, k ≤ u ∧ kk = u - k ∧ q = .int .i64 (k : Int) ∧ Hid (Below v2.heap.size v2 ws))
      case atStart => exact ⟨0, by omega, by omega, rfl, Lib.hid (Below.refl _ _)⟩
      case round =>
        obtain ⟨k, hk', hkk, rfl, HS⟩ := hrel
        rcases Nat.eq_or_lt_of_le hk' with rfl | hkl
        · have hnl : ¬ (k : Int) < (k : Int) := by omega
          have e8s : wr.cell? ⟨g1, 8, none⟩ = some (.slice sp.2.1 k sp.2.2) := by have := (H2.out.1.below HS.out H2.out.1.lt).cell 8; rw [this]; show some (Value.slice _ pls.length _) = _; rw [HU.out]
          have e8t : wr.cell? ⟨g2, 8, none⟩ = some (.slice tp.2.1 k tp.2.2) := by have := (H2.out.2.1.below HS.out H2.out.2.1.lt).cell 8; rw [this]; show some (Value.slice _ pls.length _) = _; rw [HU.out]
          clear hkk hk'
          go_wp2
          go_roundg (KO - 1)
          case measure => omega
          case rel => exact ⟨j + 1, by omega, by omega, by simp, Lib.hid ((HR.out.trans (H2.out.2.2.mono HR.out.size)).trans (HS.out.mono (Nat.le_trans HR.out.size H2.out.2.2.size)))⟩
        · have hkl2 : (k : Int) < (u : Int) := by omega
          have hkp : k < pls.length := by have := HU.out; omega
          obtain ⟨b3, o3, sq, hq3, hb3, x3, k3⟩ := pl_cells (HKP.out.1.keep (Keep.of_below HS.out F)) k hkp
          obtain ⟨b4, o4, tq, hq4, hb4, x4, k4⟩ := pl_cells (HKP.out.2.keep (Keep.of_below HS.out G)) k hkp
          have HEp := Lib.hid (HPL.out.2 pls[k] (List.getElem_mem _))
          have HE8 : Hid (Blk wr g1 45 [.string kd, .string nm, .int .i64 na, .string vo, .int .i64 vn, .string vx, .int .i64 va, .slice sp.1.1 vl.length sp.1.2, .slice (some ⟨b3, o3, none⟩) u sp.2.2] ∧ Blk wr g2 45 [.string kd, .string nm, .int .i64 na, .string vo, .int .i64 vn, .string vx, .int .i64 va, .slice tp.1.1 vl.length tp.1.2, .slice (some ⟨b4, o4, none⟩) u tp.2.2]) := by
            have y1 := H2.out.1.below HS.out H2.out.1.lt
            have y2 := H2.out.2.1.below HS.out H2.out.2.1.lt
            simp only [dcC, exC, Ex.op, Ex.num, Ex.text, Ex.at_, Ex.args, List.cons_append, List.nil_append, HU.out, hq3, hq4] at y1 y2
            exact ⟨y1, y2⟩
          have X3 : Hid (wr.rangeAt b3 (o3 + k * 12) (plC pls[k] sq) ∧ wr.rangeAt b4 (o4 + k * 12) (plC pls[k] tq) ∧ b3 < wr.heap.size ∧ b4 < wr.heap.size) := ⟨x3, x4, hb3, hb4⟩
          have K3 : Hid (PlIn F wr pls[k] sq ∧ PlIn G wr pls[k] tq) := ⟨k3, k4⟩
          clear x3 x4 k3 k4 hq3 hq4
          generalize pls[k] = L at *
          obtain ⟨⟨pn, pa⟩, ⟨dlo, dn, dx, da, dl⟩, ⟨fo, fnn, fx, fa, fl⟩⟩ := L
          have l3 := X3.out.2.2.1
          have l4 := X3.out.2.2.2
          have HLD : Hid (∀ W, Below wr.heap.size wr W → (W.cell? ⟨g1, 8, none⟩ = some (.slice (some ⟨b3, o3, none⟩) u sp.2.2) ∧ W.cell? ⟨g2, 8, none⟩ = some (.slice (some ⟨b4, o4, none⟩) u tp.2.2)) ∧ (W.rangeAt b3 (o3 + k * 12) [.string pn, .int .i64 pa] ∧ W.rangeAt b4 (o4 + k * 12) [.string pn, .int .i64 pa]) ∧ (W.rangeAt b3 (o3 + k * 12 + 2) [.string dlo, .int .i64 dn, .string dx, .int .i64 da, .slice sq.1.1 dl.length sq.1.2] ∧ W.rangeAt b4 (o4 + k * 12 + 2) [.string dlo, .int .i64 dn, .string dx, .int .i64 da, .slice tq.1.1 dl.length tq.1.2]) ∧ (W.rangeAt b3 (o3 + k * 12 + 7) [.string fo, .int .i64 fnn, .string fx, .int .i64 fa, .slice sq.2.1 fl.length sq.2.2] ∧ W.rangeAt b4 (o4 + k * 12 + 7) [.string fo, .int .i64 fnn, .string fx, .int .i64 fa, .slice tq.2.1 fl.length tq.2.2])) := fun W hW =>
            ⟨⟨(HE8.out.1.below hW HE8.out.1.lt).cell 8, (HE8.out.2.below hW HE8.out.2.lt).cell 8⟩, ⟨range_mid (range_bel X3.out.1 X3.out.2.2.1 hW) 0 2 (by rfl), range_mid (range_bel X3.out.2.1 X3.out.2.2.2 hW) 0 2 (by rfl)⟩, ⟨range_mid (range_bel X3.out.1 X3.out.2.2.1 hW) 2 5 (by rfl), range_mid (range_bel X3.out.2.1 X3.out.2.2.2 hW) 2 5 (by rfl)⟩, ⟨range_mid (range_bel X3.out.1 X3.out.2.2.1 hW) 7 5 (by rfl), range_mid (range_bel X3.out.2.1 X3.out.2.2.2 hW) 7 5 (by rfl)⟩⟩
          have e8s := (HLD.out wr (Below.refl _ _)).1.1
          have e8t := (HLD.out wr (Below.refl _ _)).1.2
          go_upto_region 12 with fail
          have hT : Below wr.heap.size wr wr.drew := Below.drew (Below.refl _ _)
          refine region_K (by kernel_rfl) 13 (fun W => Below wr.heap.size wr W) ?_
          refine AnyK.pureW 0 (v := .pointer (some ⟨g1, 8, none⟩)) rfl (by kernel_rfl) (fun _ _ _ h => h) (by kernel_rfl) (fun _ => by kernel_rfl) (fun _ => hT) ?_
          refine AnyK.loadP 1 [3, 4, 5, 13] (v := .slice (some ⟨b3, o3, none⟩) u sp.2.2) rfl (by kernel_rfl) (by kernel_rfl) (fun _ _ _ h => h) (by kernel_rfl) (fun w' hw' => ex_loadZ (t := 43) (x := .tmp 74) (by rfl) (by kernel_rfl) (fun _ => by kernel_rfl) (HLD.out w' hw').1.1) hT ?_
          refine AnyK.pureW 2 (v := .int .i64 k) rfl (by kernel_rfl) (fun _ _ _ h => h) (by kernel_rfl) (fun _ => by kernel_rfl) (fun _ => hT) ?_
          refine AnyK.pureW 3 (v := .pointer (some ⟨b3, o3 + k * 12, none⟩)) rfl (by kernel_rfl) (fun _ _ _ h => h) (by kernel_rfl) (fun _ => ex_idxT (t := 43) (x := .tmp 75) (y := .tmp 76) (g := b3) (off := o3) (n := u) (c := sp.2.2) (p := k) (by rfl) (by kernel_rfl) (by kernel_rfl) hkl Tryz.underlying43 szPm) (fun _ => hT) ?_
          refine AnyK.pureW 4 (v := .pointer (some ⟨b3, o3 + k * 12, none⟩)) rfl (by kernel_rfl) (fun _ _ _ h => h) (by kernel_rfl) (fun _ => by kernel_rfl) (fun _ => hT) ?_
          refine AnyK.loadW 5 (v := .agg ([.string pn, .int .i64 pa] : List Value).toArray) rfl (by kernel_rfl) (by kernel_rfl) (by kernel_rfl) (fun _ _ _ h => h) (by kernel_rfl) (fun w' hw' => ex_loadS rfl (by kernel_rfl) (run_loadAt_mid w' b3 (o3 + k * 12) 36 [.string pn, .int .i64 pa] _ (HLD.out w' hw').2.1.1 Tryz.underlying36 rfl hdRf)) hT ?_
          refine AnyK.pureW 6 (v := .pointer (some ⟨g2, 8, none⟩)) rfl (by kernel_rfl) (fun _ _ _ h => h) (by kernel_rfl) (fun _ => by kernel_rfl) (fun _ => hT) ?_
          refine AnyK.loadP 7 [9, 10, 11, 13] (v := .slice (some ⟨b4, o4, none⟩) u tp.2.2) rfl (by kernel_rfl) (by kernel_rfl) (fun _ _ _ h => h) (by kernel_rfl) (fun w' hw' => ex_loadZ (t := 43) (x := .tmp 80) (by rfl) (by kernel_rfl) (fun _ => by kernel_rfl) (HLD.out w' hw').1.2) hT ?_
          refine AnyK.pureW 8 (v := .int .i64 k) rfl (by kernel_rfl) (fun _ _ _ h => h) (by kernel_rfl) (fun _ => by kernel_rfl) (fun _ => hT) ?_
          refine AnyK.pureW 9 (v := .pointer (some ⟨b4, o4 + k * 12, none⟩)) rfl (by kernel_rfl) (fun _ _ _ h => h) (by kernel_rfl) (fun _ => ex_idxT (t := 43) (x := .tmp 81) (y := .tmp 82) (g := b4) (off := o4) (n := u) (c := tp.2.2) (p := k) (by rfl) (by kernel_rfl) (by kernel_rfl) hkl Tryz.underlying43 szPm) (fun _ => hT) ?_
          refine AnyK.pureW 10 (v := .pointer (some ⟨b4, o4 + k * 12, none⟩)) rfl (by kernel_rfl) (fun _ _ _ h => h) (by kernel_rfl) (fun _ => by kernel_rfl) (fun _ => hT) ?_
          refine AnyK.loadW 11 (v := .agg ([.string pn, .int .i64 pa] : List Value).toArray) rfl (by kernel_rfl) (by kernel_rfl) (by kernel_rfl) (fun _ _ _ h => h) (by kernel_rfl) (fun w' hw' => ex_loadS rfl (by kernel_rfl) (run_loadAt_mid w' b4 (o4 + k * 12) 36 [.string pn, .int .i64 pa] _ (HLD.out w' hw').2.1.2 Tryz.underlying36 rfl hdRf)) hT ?_
          refine AnyK.pureW 12 (v := .bool true) rfl (by kernel_rfl) (fun _ _ _ h => h) (by kernel_rfl) (fun _ => by kernel_rfl) (fun _ => hT) ?_
          refine AnyK.enterW 13 (d := some 87) (f := 31) (args := #[.agg ([.string pn, .int .i64 pa] : List Value).toArray, .agg ([.string pn, .int .i64 pa] : List Value).toArray, .bool true]) rfl rfl (by kernel_rfl) (by kernel_rfl) (by kernel_rfl) ((HSR.out ⟨pn, pa⟩ _).mono ?_)
          rintro e y1 ⟨rfl, hB1⟩
          have Y1 : Hid (Below wr.heap.size wr y1) := Lib.hid (hT.trans (hB1.mono hT.size))
          refine ⟨_, rfl, fun _ => Y1.out, ?_⟩
          refine AnyK.valW 14 (v := .bool false) rfl (by kernel_rfl) (by kernel_rfl) (by kernel_rfl) (fun _ => Y1.out) ?_
          refine AnyK.valW 15 (v := .bool false) rfl (by kernel_rfl) (by kernel_rfl) (by kernel_rfl) (fun _ => Y1.out) ?_
          refine AnyK.turn (k' := 29) (T' := fun W => Below wr.heap.size wr W) _ _ _ _ (by kernel_rfl) ?_
          refine AnyK.pureW 16 (v := .pointer (some ⟨g1, 8, none⟩)) rfl (by kernel_rfl) (fun _ _ _ h => h) (by kernel_rfl) (fun _ => by kernel_rfl) (fun _ => Y1.out) ?_
          refine AnyK.loadP 17 [19, 20, 21, 29] (v := .slice (some ⟨b3, o3, none⟩) u sp.2.2) rfl (by kernel_rfl) (by kernel_rfl) (fun _ _ _ h => h) (by kernel_rfl) (fun w' hw' => ex_loadZ (t := 43) (x := .tmp 90) (by rfl) (by kernel_rfl) (fun _ => by kernel_rfl) (HLD.out w' hw').1.1) Y1.out ?_
          refine AnyK.pureW 18 (v := .int .i64 k) rfl (by kernel_rfl) (fun _ _ _ h => h) (by kernel_rfl) (fun _ => by kernel_rfl) (fun _ => Y1.out) ?_
          refine AnyK.pureW 19 (v := .pointer (some ⟨b3, o3 + k * 12, none⟩)) rfl (by kernel_rfl) (fun _ _ _ h => h) (by kernel_rfl) (fun _ => ex_idxT (t := 43) (x := .tmp 91) (y := .tmp 92) (g := b3) (off := o3) (n := u) (c := sp.2.2) (p := k) (by rfl) (by kernel_rfl) (by kernel_rfl) hkl Tryz.underlying43 szPm) (fun _ => Y1.out) ?_
          refine AnyK.pureW 20 (v := .pointer (some ⟨b3, o3 + k * 12 + 2, none⟩)) rfl (by kernel_rfl) (fun _ _ _ h => h) (by kernel_rfl) (fun _ => by kernel_rfl) (fun _ => Y1.out) ?_
          refine AnyK.loadW 21 (v := .agg ([.string dlo, .int .i64 dn, .string dx, .int .i64 da, .slice sq.1.1 dl.length sq.1.2] : List Value).toArray) rfl (by kernel_rfl) (by kernel_rfl) (by kernel_rfl) (fun _ _ _ h => h) (by kernel_rfl) (fun w' hw' => ex_loadS rfl (by kernel_rfl) (run_loadAt_mid w' b3 (o3 + k * 12 + 2) 39 [.string dlo, .int .i64 dn, .string dx, .int .i64 da, .slice sq.1.1 dl.length sq.1.2] _ (HLD.out w' hw').2.2.1.1 Tryz.underlying39 rfl hdEx)) Y1.out ?_
          refine AnyK.pureW 22 (v := .pointer (some ⟨g2, 8, none⟩)) rfl (by kernel_rfl) (fun _ _ _ h => h) (by kernel_rfl) (fun _ => by kernel_rfl) (fun _ => Y1.out) ?_
          refine AnyK.loadP 23 [25, 26, 27, 29] (v := .slice (some ⟨b4, o4, none⟩) u tp.2.2) rfl (by kernel_rfl) (by kernel_rfl) (fun _ _ _ h => h) (by kernel_rfl) (fun w' hw' => ex_loadZ (t := 43) (x := .tmp 96) (by rfl) (by kernel_rfl) (fun _ => by kernel_rfl) (HLD.out w' hw').1.2) Y1.out ?_
          refine AnyK.pureW 24 (v := .int .i64 k) rfl (by kernel_rfl) (fun _ _ _ h => h) (by kernel_rfl) (fun _ => by kernel_rfl) (fun _ => Y1.out) ?_
          refine AnyK.pureW 25 (v := .pointer (some ⟨b4, o4 + k * 12, none⟩)) rfl (by kernel_rfl) (fun _ _ _ h => h) (by kernel_rfl) (fun _ => ex_idxT (t := 43) (x := .tmp 97) (y := .tmp 98) (g := b4) (off := o4) (n := u) (c := tp.2.2) (p := k) (by rfl) (by kernel_rfl) (by kernel_rfl) hkl Tryz.underlying43 szPm) (fun _ => Y1.out) ?_
          refine AnyK.pureW 26 (v := .pointer (some ⟨b4, o4 + k * 12 + 2, none⟩)) rfl (by kernel_rfl) (fun _ _ _ h => h) (by kernel_rfl) (fun _ => by kernel_rfl) (fun _ => Y1.out) ?_
          refine AnyK.loadW 27 (v := .agg ([.string dlo, .int .i64 dn, .string dx, .int .i64 da, .slice tq.1.1 dl.length tq.1.2] : List Value).toArray) rfl (by kernel_rfl) (by kernel_rfl) (by kernel_rfl) (fun _ _ _ h => h) (by kernel_rfl) (fun w' hw' => ex_loadS rfl (by kernel_rfl) (run_loadAt_mid w' b4 (o4 + k * 12 + 2) 39 [.string dlo, .int .i64 dn, .string dx, .int .i64 da, .slice tq.1.1 dl.length tq.1.2] _ (HLD.out w' hw').2.2.1.2 Tryz.underlying39 rfl hdEx)) Y1.out ?_
          refine AnyK.pureW 28 (v := .bool true) rfl (by kernel_rfl) (fun _ _ _ h => h) (by kernel_rfl) (fun _ => by kernel_rfl) (fun _ => Y1.out) ?_
          refine AnyK.enterW 29 (d := some 103) (f := 32) (args := #[.agg ([.string dlo, .int .i64 dn, .string dx, .int .i64 da, .slice sq.1.1 dl.length sq.1.2] : List Value).toArray, .agg ([.string dlo, .int .i64 dn, .string dx, .int .i64 da, .slice tq.1.1 dl.length tq.1.2] : List Value).toArray, .bool true]) rfl rfl (by kernel_rfl) (by kernel_rfl) (by kernel_rfl) ((sameExpr_c HEp.out.1 (F := F) (G := G) _ _ _ _ _ _ _ _ _ rfl _ (K3.out.1.1.keep (Keep.of_below Y1.out F)) (K3.out.2.1.keep (Keep.of_below Y1.out G))).mono ?_)
          rintro e y2 ⟨rfl, hB2⟩
          have Y2 : Hid (Below wr.heap.size wr y2) := qtr Y1 hB2
          refine ⟨_, rfl, fun _ => Y2.out, ?_⟩
          refine AnyK.valW 30 (v := .bool false) rfl (by kernel_rfl) (by kernel_rfl) (by kernel_rfl) (fun _ => Y2.out) ?_
          refine AnyK.valW 31 (v := .bool false) rfl (by kernel_rfl) (by kernel_rfl) (by kernel_rfl) (fun _ => Y2.out) ?_
          refine AnyK.valW 32 (v := .bool false) rfl (by kernel_rfl) (by kernel_rfl) (by kernel_rfl) (fun _ => Y2.out) ?_
          refine AnyK.turn (k' := 46) (T' := fun W => Below wr.heap.size wr W) _ _ _ _ (by kernel_rfl) ?_
          refine AnyK.pureW 33 (v := .pointer (some ⟨g1, 8, none⟩)) rfl (by kernel_rfl) (fun _ _ _ h => h) (by kernel_rfl) (fun _ => by kernel_rfl) (fun _ => Y2.out) ?_
          refine AnyK.loadP 34 [36, 37, 38, 46] (v := .slice (some ⟨b3, o3, none⟩) u sp.2.2) rfl (by kernel_rfl) (by kernel_rfl) (fun _ _ _ h => h) (by kernel_rfl) (fun w' hw' => ex_loadZ (t := 43) (x := .tmp 107) (by rfl) (by kernel_rfl) (fun _ => by kernel_rfl) (HLD.out w' hw').1.1) Y2.out ?_
          refine AnyK.pureW 35 (v := .int .i64 k) rfl (by kernel_rfl) (fun _ _ _ h => h) (by kernel_rfl) (fun _ => by kernel_rfl) (fun _ => Y2.out) ?_
          refine AnyK.pureW 36 (v := .pointer (some ⟨b3, o3 + k * 12, none⟩)) rfl (by kernel_rfl) (fun _ _ _ h => h) (by kernel_rfl) (fun _ => ex_idxT (t := 43) (x := .tmp 108) (y := .tmp 109) (g := b3) (off := o3) (n := u) (c := sp.2.2) (p := k) (by rfl) (by kernel_rfl) (by kernel_rfl) hkl Tryz.underlying43 szPm) (fun _ => Y2.out) ?_
          refine AnyK.pureW 37 (v := .pointer (some ⟨b3, o3 + k * 12 + 7, none⟩)) rfl (by kernel_rfl) (fun _ _ _ h => h) (by kernel_rfl) (fun _ => by kernel_rfl) (fun _ => Y2.out) ?_
          refine AnyK.loadW 38 (v := .agg ([.string fo, .int .i64 fnn, .string fx, .int .i64 fa, .slice sq.2.1 fl.length sq.2.2] : List Value).toArray) rfl (by kernel_rfl) (by kernel_rfl) (by kernel_rfl) (fun _ _ _ h => h) (by kernel_rfl) (fun w' hw' => ex_loadS rfl (by kernel_rfl) (run_loadAt_mid w' b3 (o3 + k * 12 + 7) 39 [.string fo, .int .i64 fnn, .string fx, .int .i64 fa, .slice sq.2.1 fl.length sq.2.2] _ (HLD.out w' hw').2.2.2.1 Tryz.underlying39 rfl hdEx)) Y2.out ?_
          refine AnyK.pureW 39 (v := .pointer (some ⟨g2, 8, none⟩)) rfl (by kernel_rfl) (fun _ _ _ h => h) (by kernel_rfl) (fun _ => by kernel_rfl) (fun _ => Y2.out) ?_
          refine AnyK.loadP 40 [42, 43, 44, 46] (v := .slice (some ⟨b4, o4, none⟩) u tp.2.2) rfl (by kernel_rfl) (by kernel_rfl) (fun _ _ _ h => h) (by kernel_rfl) (fun w' hw' => ex_loadZ (t := 43) (x := .tmp 113) (by rfl) (by kernel_rfl) (fun _ => by kernel_rfl) (HLD.out w' hw').1.2) Y2.out ?_
          refine AnyK.pureW 41 (v := .int .i64 k) rfl (by kernel_rfl) (fun _ _ _ h => h) (by kernel_rfl) (fun _ => by kernel_rfl) (fun _ => Y2.out) ?_
          refine AnyK.pureW 42 (v := .pointer (some ⟨b4, o4 + k * 12, none⟩)) rfl (by kernel_rfl) (fun _ _ _ h => h) (by kernel_rfl) (fun _ => ex_idxT (t := 43) (x := .tmp 114) (y := .tmp 115) (g := b4) (off := o4) (n := u) (c := tp.2.2) (p := k) (by rfl) (by kernel_rfl) (by kernel_rfl) hkl Tryz.underlying43 szPm) (fun _ => Y2.out) ?_
          refine AnyK.pureW 43 (v := .pointer (some ⟨b4, o4 + k * 12 + 7, none⟩)) rfl (by kernel_rfl) (fun _ _ _ h => h) (by kernel_rfl) (fun _ => by kernel_rfl) (fun _ => Y2.out) ?_
          refine AnyK.loadW 44 (v := .agg ([.string fo, .int .i64 fnn, .string fx, .int .i64 fa, .slice tq.2.1 fl.length tq.2.2] : List Value).toArray) rfl (by kernel_rfl) (by kernel_rfl) (by kernel_rfl) (fun _ _ _ h => h) (by kernel_rfl) (fun w' hw' => ex_loadS rfl (by kernel_rfl) (run_loadAt_mid w' b4 (o4 + k * 12 + 7) 39 [.string fo, .int .i64 fnn, .string fx, .int .i64 fa, .slice tq.2.1 fl.length tq.2.2] _ (HLD.out w' hw').2.2.2.2 Tryz.underlying39 rfl hdEx)) Y2.out ?_
          refine AnyK.pureW 45 (v := .bool true) rfl (by kernel_rfl) (fun _ _ _ h => h) (by kernel_rfl) (fun _ => by kernel_rfl) (fun _ => Y2.out) ?_
          refine AnyK.enterW 46 (d := some 120) (f := 32) (args := #[.agg ([.string fo, .int .i64 fnn, .string fx, .int .i64 fa, .slice sq.2.1 fl.length sq.2.2] : List Value).toArray, .agg ([.string fo, .int .i64 fnn, .string fx, .int .i64 fa, .slice tq.2.1 fl.length tq.2.2] : List Value).toArray, .bool true]) rfl rfl (by kernel_rfl) (by kernel_rfl) (by kernel_rfl) ((sameExpr_c HEp.out.2 (F := F) (G := G) _ _ _ _ _ _ _ _ _ rfl _ (K3.out.1.2.keep (Keep.of_below Y2.out F)) (K3.out.2.2.keep (Keep.of_below Y2.out G))).mono ?_)
          rintro e y3 ⟨rfl, hB3⟩
          have Y3 : Hid (Below wr.heap.size wr y3) := qtr Y2 hB3
          refine ⟨_, rfl, fun _ => Y3.out, ?_⟩
          refine AnyK.valW 47 (v := .bool false) rfl (by kernel_rfl) (by kernel_rfl) (by kernel_rfl) (fun _ => Y3.out) ?_
          refine AnyK.valW 48 (v := .bool false) rfl (by kernel_rfl) (by kernel_rfl) (by kernel_rfl) (fun _ => Y3.out) ?_
          refine AnyK.done (by kernel_rfl) ?_
          clear hT
          simp only [List.getElem_toArray, List.getElem_cons_zero, List.getElem_cons_succ, Act.put, List.setIfInBounds_toArray, List.set_cons_succ, List.set_cons_zero]
          repeat (first | go_values | go_skip | go_guarded | go_step | go_upon | go_back)
          go_roundg (gk - 1)
          case measure => omega
          case rel => exact ⟨k + 1, by omega, by omega, by simp, Lib.hid (HS.out.trans (Y3.out.mono HS.out.size))⟩
end
end Go.Proofs.YtafjkbbiaopemaaGreatDoor.Tr
