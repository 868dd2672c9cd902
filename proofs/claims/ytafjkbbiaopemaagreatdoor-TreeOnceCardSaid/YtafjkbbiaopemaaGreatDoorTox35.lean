/- Part of the proof: Taa, Tab. -/
import Derived.Test.YtafjkbbiaopemaaGreatDoorTox33
set_option linter.unusedVariables false
namespace Go.Proofs.YtafjkbbiaopemaaGreatDoor.Tr
open Go.RowKit
@[reducible] def rdC (A : Option Addr) (n c : Nat) (s : RS) : List Value := [.slice A n c, .int .i64 s.i, .int .i64 s.bo, .int .i64 s.pa, .bool s.bad, .int .i64 s.fe, .int .i64 s.fa]
structure RCx (gp : Nat) (A : Option Addr) (n : Nat) (ts : List Lx.Tok) : Prop where
  tk : ∀ ad : Addr, A = some ad → ad.block ≠ gp
  hn : ts.length = n
  hn8 : n ≤ 100000
  ends : Ends ts
structure RSt (gp : Nat) (A : Option Addr) (n c : Nat) (ts : List Lx.Tok) (s : RS) (w : World) : Prop where
  b : Blk w gp 70 (rdC A n c s)
  r : RdS 4 w A n (toksCells ts)
  lt : s.i < ts.length
theorem hdTk : (Tryz.prog.info? 72).map (·.size) = some 4 := by kernel_rfl
section
variable {gp : Nat} {A : Option Addr} {n c : Nat} {ts : List Lx.Tok} {s : RS} {w w' : World}
theorem RSt.below (h : RSt gp A n c ts s w) (hb : Below w.heap.size w w') : RSt gp A n c ts s w' := ⟨h.b.below hb h.b.lt, h.r.below hb, h.lt⟩
theorem RSt.alloc (h : RSt gp A n c ts s w) (o : Obj) : RSt gp A n c ts s (w.alloc o) := h.below ((Below.refl _ _).alloc (Nat.le_refl _) o)
theorem RSt.tok (h : RSt gp A n c ts s w) (cx : RCx gp A n ts) : s.i < n ∧ ∃ b off, A = some ⟨b, off, none⟩ ∧ b < w.heap.size ∧ w.cell? ⟨b, off + s.i * 4, none⟩ = some (.int .i64 (rk ts s).kind) ∧ w.cell? ⟨b, off + s.i * 4 + 1, none⟩ = some (.string (bytesOf (rk ts s).text)) ∧ w.cell? ⟨b, off + s.i * 4 + 2, none⟩ = some (.int .i64 (rk ts s).num) ∧ w.cell? ⟨b, off + s.i * 4 + 3, none⟩ = some (.int .i64 (rk ts s).at_) := by
  have hlt := h.lt
  refine ⟨by rw [← cx.hn]; exact hlt, ?_⟩
  obtain ⟨b, off, rfl, hb, hc⟩ := h.r.2 (by rw [← cx.hn]; omega)
  have ht : ts[s.i]? = some (rk ts s) := by unfold rk tokAt; rw [List.getElem?_eq_getElem hlt]; rfl
  obtain ⟨g0, g1, g2, g3⟩ := toks_get ht
  exact ⟨b, off, rfl, hb, hc _ _ g0, (by rw [Nat.add_assoc]; exact hc _ _ g1), (by rw [Nat.add_assoc]; exact hc _ _ g2), (by rw [Nat.add_assoc]; exact hc _ _ g3)⟩
set_option maxRecDepth 100000 in
set_option maxHeartbeats 2000000 in
theorem now_c (cx : RCx gp A n ts) (h : RSt gp A n c ts s w) : Calls Tryz.prog 27 #[.pointer (some ⟨gp, 0, none⟩)] w fun e w' => e = .returned (.agg (tokCells (rk ts s)).toArray) ∧ Below w.heap.size w w' := by
  obtain ⟨hin, b, off, rfl, hb, t0, t1, t2, t3⟩ := h.tok cx
  have c0 : w.cell? ⟨gp, 0, none⟩ = some (.slice (some ⟨b, off, none⟩) n c) := h.b.cell 0
  have c1 : w.cell? ⟨gp, 1, none⟩ = some (.int .i64 s.i) := h.b.cell 1
  have hgl := h.b.lt
  have hin2 : (s.i : Int) < (n : Int) := by omega
  clear h cx
  generalize rk ts s = t at *
  generalize s.i = i at *
  unfold tokCells
  have mixed : Tryz.prog.follows .mixedOrders = true := by kernel_rfl
  go_enter Tryz.func27, Tryz.ntmps27
  go_wp2
  go_region_o
  all_goals
    go_wp2
    refine bodyPost_ret (res_c rfl _ w.heap.size 72 [.int .i64 t.kind, .string (bytesOf t.text), .int .i64 t.num, .int .i64 t.at_] rfl (by exact (Blk.new w _ _).drew) _ Tryz.underlying72 rfl hdTk) rfl ⟨rfl, ?_⟩
    exact ((Below.refl _ w).alloc (Nat.le_refl _) _).drew
theorem RSt.upd {s' : RS} (cx : RCx gp A n ts) (h : RSt gp A n c ts s w) (ho : Only w w' gp) (hb : Blk w' gp 70 (rdC A n c s')) (hl : s'.i < ts.length) : RSt gp A n c ts s' w' ∧ Wr [gp] w w' := ⟨⟨hb, RdS.wrote' h.r ho.grown cx.tk, hl⟩, Wr.of_wrote ho.grown (by simp)⟩
theorem RSt.upd' {s' : RS} {w0 : World} (cx : RCx gp A n ts) (h : RSt gp A n c ts s w) (h0 : Wr [gp] w0 w) (ho : Only w w' gp) (hb : Blk w' gp 70 (rdC A n c s')) (hl : s'.i < ts.length) : RSt gp A n c ts s' w' ∧ Wr [gp] w0 w' := ⟨(h.upd cx ho hb hl).1, h0.trans (h.upd cx ho hb hl).2⟩
set_option maxRecDepth 100000 in
set_option maxHeartbeats 2000000 in
theorem stop_c (e : Int) (cx : RCx gp A n ts) (h : RSt gp A n c ts s w) : Calls Tryz.prog 30 #[.pointer (some ⟨gp, 0, none⟩), .int .i64 e] w fun e' w' => e' = .returned (.tuple #[]) ∧ RSt gp A n c ts (rstop ts e s) w' ∧ Wr [gp] w w' := by
  have c4 : w.cell? ⟨gp, 4, none⟩ = some (.bool s.bad) := h.b.cell 4
  have f4 := h.b.frozen 4
  have hgl := h.b.lt
  cases hb : s.bad
  · have HR : Hid (rstop ts e s = ⟨s.i, s.bo, s.pa, true, e, (rk ts s).at_⟩) := (by show _ = _; unfold rstop; rw [if_neg (by rw [hb]; simp)])
    have H1 : Hid (RSt gp A n c ts ⟨s.i, s.bo, s.pa, true, s.fe, s.fa⟩ (w.setCell ⟨gp, 4, none⟩ (.bool true)) ∧ Wr [gp] w (w.setCell ⟨gp, 4, none⟩ (.bool true))) := RSt.upd cx h ((Only.refl w gp).setCell 4 _) (h.b.set_ 4 _) h.lt
    have HN := Lib.hid (now_c cx H1.out.1)
    rw [hb] at c4
    rw [HR.out]
    have HK : Hid (rk ts ⟨s.i, s.bo, s.pa, true, s.fe, s.fa⟩ = rk ts s) := rfl
    rw [HK.out] at HN
    have HCX := Lib.hid cx
    have HLT := Lib.hid h.lt
    clear HK HR h cx hb
    obtain ⟨i, bo, pa, bad, fe, fa⟩ := s
    dsimp only at *
    generalize rk ts _ = t at *
    unfold tokCells at HN
    have hf := fld3 (.int .i64 t.kind) (.string (bytesOf t.text)) (.int .i64 t.num) (.int .i64 t.at_)
    go_enter Tryz.func30, Tryz.ntmps30
    go_wp2_with (go_at_call 27; (refine HN.out.mono ?_); rintro e1 w2 ⟨rfl, hB2⟩
                 have H2 : Hid (RSt gp A n c ts ⟨i, bo, pa, true, fe, fa⟩ w2 ∧ Wr [gp] w w2) := ⟨H1.out.1.below hB2, H1.out.2.trans (Wr.of_below hB2)⟩
                 have k5 := H2.out.1.b.cell 5
                 have k6 := H2.out.1.b.cell 6
                 have j5 := H2.out.1.b.frozen 5
                 have j6 := H2.out.1.b.frozen 6
                 clear hB2)
    first | go_end0 | refine bodyPost_ret (results_none rfl _ _ _) rfl ?_
    exact ⟨rfl, RSt.upd' HCX.out H2.out.1 H2.out.2 (((Only.refl w2 gp).setCell 5 _).setCell 6 _) ((H2.out.1.b.set_ 5 _).set_ 6 _) HLT.out⟩
  · have HR : Hid (rstop ts e s = s) := (by show _ = _; unfold rstop; rw [if_pos hb])
    rw [HR.out]
    rw [hb] at c4
    have H0 := Lib.hid h
    clear h cx HR
    go_enter Tryz.func30, Tryz.ntmps30
    go_wp2
    first | go_end0 | refine bodyPost_ret (results_none rfl _ _ _) rfl ?_
    exact ⟨rfl, H0.out, Wr.refl _ _⟩
end
end Go.Proofs.YtafjkbbiaopemaaGreatDoor.Tr
namespace Go.Proofs.YtafjkbbiaopemaaGreatDoor.Tr
open Go.RowKit
theorem isOf_one (t : Lx.Tok) (T : ByteArray) : isOf t [T] = ((decide ((t.kind : Int) = 2) || decide ((t.kind : Int) = 5)) && ((bytesOf t.text).toList == T.toList)) := by
  unfold isOf bmem
  rw [ByteArray.toList_eq, ByteArray.toList_eq, show decide ((t.kind : Int) = 2) = decide (t.kind = 2) from decide_eq_decide.2 (by omega), show decide ((t.kind : Int) = 5) = decide (t.kind = 5) from decide_eq_decide.2 (by omega)]
  simp only [List.map_cons, List.map_nil, List.contains_cons, List.contains_nil, Bool.or_false]
section
variable {gp : Nat} {A : Option Addr} {n c : Nat} {ts : List Lx.Tok} {s : RS} {w w' : World}
set_option maxRecDepth 100000 in
set_option maxHeartbeats 2000000 in
theorem is_c (T : ByteArray) (cx : RCx gp A n ts) (h : RSt gp A n c ts s w) : Calls Tryz.prog 26 #[.pointer (some ⟨gp, 0, none⟩), .string T] w fun e w' => e = .returned (.bool (rIs ts T s)) ∧ Below w.heap.size w w' := by
  have HN := Lib.hid (now_c cx h)
  have H0 := Lib.hid h
  have HR : Hid (rIs ts T s = (!s.bad && isOf (rk ts s) [T])) := rfl
  clear h cx
  generalize rk ts s = t at *
  generalize hb : s.bad = b at *
  have HB := Lib.hid hb
  clear hb
  unfold tokCells at HN
  have HC : Hid (∀ W, Below w.heap.size w W → W.cell? ⟨gp, 4, none⟩ = some (.bool b) ∧ gp < W.heap.size) := fun W hW => by
    have := (H0.out.b.below hW H0.out.b.lt)
    exact ⟨by rw [← HB.out]; exact this.cell 4, this.lt⟩
  go_enter Tryz.func26, Tryz.ntmps26
  go_wp2_with (go_at_call 27; (refine HN.out.mono ?_); rintro e1 w2 ⟨rfl, hB2⟩
               have H2 := Lib.hid hB2
               obtain ⟨k4, hl4⟩ := HC.out w2 hB2
               clear hB2)
  all_goals
    go_ret
    refine ⟨ret_bool ?_, H2.out.alloc H2.out.size _⟩
    rw [HR.out]
    rw [isOf_one]
    generalize ((bytesOf t.text).toList == T.toList) = z at *
    clear HN HC H2 H0 HB HR
    simp_all
theorem rIs_lt {T : ByteArray} (cx : RCx gp A n ts) (h : rIs ts T s = true) : s.i + 1 < ts.length := cx.ends s.i (fun e => by
  unfold rIs isOf rk at h
  rw [e] at h
  simp at h)
theorem rKind_lt (cx : RCx gp A n ts) (h : rKind ts 1 s = true) : s.i + 1 < ts.length := cx.ends s.i (fun e => by
  unfold rKind rk at h
  rw [e] at h
  simp at h)
def rover (ts : List Lx.Tok) (T : ByteArray) (s : RS) : RS := if rIs ts T s then rnx s else s
theorem RSt.next (cx : RCx gp A n ts) (h : RSt gp A n c ts s w) (hl : s.i + 1 < ts.length) : RSt gp A n c ts (rnx s) (w.setCell ⟨gp, 1, none⟩ (.int .i64 ((s.i : Int) + 1))) ∧ Wr [gp] w (w.setCell ⟨gp, 1, none⟩ (.int .i64 ((s.i : Int) + 1))) :=
  RSt.upd cx h ((Only.refl w gp).setCell 1 _) (by have := h.b.set_ 1 (.int .i64 ((s.i : Int) + 1)); exact this) hl
set_option maxRecDepth 100000 in
set_option maxHeartbeats 2000000 in
theorem over_c (T : ByteArray) (cx : RCx gp A n ts) (h : RSt gp A n c ts s w) : Calls Tryz.prog 65 #[.pointer (some ⟨gp, 0, none⟩), .string T] w fun e w' => e = .returned (.bool (rIs ts T s)) ∧ RSt gp A n c ts (rover ts T s) w' ∧ Wr [gp] w w' := by
  have HI := Lib.hid (is_c T cx h)
  have H0 := Lib.hid h
  have HCX := Lib.hid cx
  have hi8 : s.i < 100000 := by have := h.lt; have := cx.hn; have := cx.hn8; omega
  have HX : Hid (∀ W, Below w.heap.size w W → W.cell? ⟨gp, 1, none⟩ = some (.int .i64 s.i) ∧ W.frozen? ⟨gp, 1, none⟩ = false ∧ gp < W.heap.size) := fun W hW => by
    have := (H0.out.b.below hW H0.out.b.lt)
    exact ⟨this.cell 1, this.frozen 1, this.lt⟩
  cases hb : rIs ts T s
  · have HR : Hid (rover ts T s = s) := (by show _ = _; unfold rover; rw [if_neg (by rw [hb]; simp)])
    rw [hb] at HI
    rw [HR.out]
    clear h cx hb HR
    go_enter Tryz.func65, Tryz.ntmps65
    go_wp2_with (go_at_call 26; (refine HI.out.mono ?_); rintro e1 w2 ⟨rfl, hB2⟩)
    go_ret
    exact ⟨rfl, H0.out.below hB2, Wr.of_below hB2⟩
  · have HR : Hid (rover ts T s = rnx s) := (by show _ = _; unfold rover; rw [if_pos hb])
    have HLT := Lib.hid (rIs_lt cx hb)
    rw [hb] at HI
    rw [HR.out]
    clear h cx hb HR
    go_enter Tryz.func65, Tryz.ntmps65
    go_wp2_with (go_at_call 26; (refine HI.out.mono ?_); rintro e1 w2 ⟨rfl, hB2⟩
                 have H2 := Lib.hid hB2
                 obtain ⟨k1, j1, l1⟩ := HX.out w2 hB2
                 clear hB2)
    go_ret
    have := (H0.out.below H2.out).next HCX.out HLT.out
    exact ⟨rfl, this.1, (Wr.of_below H2.out).trans this.2⟩
set_option maxRecDepth 100000 in
set_option maxHeartbeats 2000000 in
theorem need_c (T : ByteArray) (cx : RCx gp A n ts) (h : RSt gp A n c ts s w) : Calls Tryz.prog 63 #[.pointer (some ⟨gp, 0, none⟩), .string T] w fun e w' => e = .returned (.tuple #[]) ∧ RSt gp A n c ts (rneed ts T s) w' ∧ Wr [gp] w w' := by
  have HO := Lib.hid (over_c T cx h)
  have HS := Lib.hid (fun W (h : RSt gp A n c ts s W) => stop_c 9 cx h)
  cases hb : rIs ts T s
  · have HR : Hid (rneed ts T s = rstop ts 9 s ∧ rover ts T s = s) := ⟨(by unfold rneed; rw [if_neg (by rw [hb]; simp)]), (by unfold rover; rw [if_neg (by rw [hb]; simp)])⟩
    rw [hb, HR.out.2] at HO
    rw [HR.out.1]
    clear h cx hb HR
    go_enter Tryz.func63, Tryz.ntmps63
    go_wp2_with (first
      | (go_at_call 30; (refine (HS.out _ H2.out.1).mono ?_); rintro e1 w3 ⟨rfl, h3, hW3⟩; have H3 := Lib.hid (And.intro h3 (H2.out.2.trans hW3)); clear h3 hW3)
      | (go_at_call 65; (refine HO.out.mono ?_); rintro e1 w2 ⟨rfl, h2, hW2⟩; have H2 := Lib.hid (And.intro h2 hW2); clear h2 hW2))
    first | go_end0 | refine bodyPost_ret (results_none rfl _ _ _) rfl ?_
    exact ⟨rfl, H3.out⟩
  · have HR : Hid (rneed ts T s = rnx s ∧ rover ts T s = rnx s) := ⟨(by unfold rneed; rw [if_pos hb]), (by unfold rover; rw [if_pos hb])⟩
    rw [hb, HR.out.2] at HO
    rw [HR.out.1]
    clear h cx hb HR
    go_enter Tryz.func63, Tryz.ntmps63
    go_wp2_with (go_at_call 65; (refine HO.out.mono ?_); rintro e1 w2 ⟨rfl, h2, hW2⟩; have H2 := Lib.hid (And.intro h2 hW2); clear h2 hW2)
    first | go_end0 | refine bodyPost_ret (results_none rfl _ _ _) rfl ?_
    exact ⟨rfl, H2.out⟩
end
end Go.Proofs.YtafjkbbiaopemaaGreatDoor.Tr
