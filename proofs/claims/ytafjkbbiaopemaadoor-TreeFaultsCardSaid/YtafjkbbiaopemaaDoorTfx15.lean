/- Part of the proof: LexX. -/
import Derived.Test.YtafjkbbiaopemaaDoorTfx12
set_option linter.unusedVariables false
namespace Go.Proofs.YtafjkbbiaopemaaDoor
open Go.RowKit
theorem res_cc {P : Program} {w : World} {fn : Func} {p p2 : Tmp} {ty ty2 : TypeId} (h : fn.results = #[.cell p ty, .cell p2 ty2]) (tmps : Array Value) (g g2 : Nat) (t t2 : TypeId) (cs cs2 : List Value) (hp : tmps.getD p undef = .pointer (some ⟨g, 0, none⟩)) (hp2 : tmps.getD p2 undef = .pointer (some ⟨g2, 0, none⟩))
    (hB : Blk w g t cs) (hB2 : Blk w g2 t2 cs2) (d d2 : TypeDesc) (hu : P.underlying ty = some d) (hd : d.isRow = true) (hi : (P.info? ty).map (·.size) = some cs.length) (hu2 : P.underlying ty2 = some d2) (hd2 : d2.isRow = true) (hi2 : (P.info? ty2).map (·.size) = some cs2.length) :
    (results fn tmps).run P w = .ok (.tuple #[.agg cs.toArray, .agg cs2.toArray]) w := by
  have hp' : tmps[p]?.getD undef = .pointer (some ⟨g, 0, none⟩) := by rw [← hp]; simp
  have hp2' : tmps[p2]?.getD undef = .pointer (some ⟨g2, 0, none⟩) := by rw [← hp2]; simp
  simp [results, h, hp', hp2', asAddr, run_loadVar_mid w g 0 ty cs d hB.range hu hd hi, run_loadVar_mid w g2 0 ty2 cs2 d2 hB2.range hu2 hd2 hi2]
theorem isOf_ne {t : Lx.Tok} {l : List ByteArray} (h : isOf t l = true) : t.kind ≠ 6 := fun e => by
  unfold isOf at h; rw [e] at h; revert h; simp
section
variable (g : Nat) (A : Option Addr) (n c i : Nat) (ts : List Lx.Tok) (t : Lx.Tok)
def Stm (w : World) : Prop := Blk w g 74 [.slice A n c, .int .i64 i] ∧ RdS 4 w A n (toksCells ts)
end
theorem Stm.below {g : Nat} {A : Option Addr} {n c i : Nat} {ts : List Lx.Tok} {w w' : World} (h : Stm g A n c i ts w) (hb : Below w.heap.size w w') : Stm g A n c i ts w' := ⟨h.1.below hb h.1.lt, h.2.below hb⟩
theorem Stm.alloc {g : Nat} {A : Option Addr} {n c i : Nat} {ts : List Lx.Tok} {w : World} (h : Stm g A n c i ts w) (o : Obj) : Stm g A n c i ts (w.alloc o) := ⟨h.1.alloc o, h.2.alloc o⟩
theorem Rd.new1 (w : World) (t : TypeId) (T : ByteArray) : Rd (w.alloc (.cells #[.string T] t)) (some ⟨w.heap.size, 0, none⟩) 1 (strs [T]) := RdS.to1 (RdS.new w t [.string T] 1 rfl)
theorem fld3 (a b c d : Value) (W : World) : (Instr.field 77 (.agg #[a, b, c, d]) 3).run Tryd.prog W = .ok d W := by kernel_rfl
theorem Rd.new1' {w : World} {t : TypeId} {T : ByteArray} {g : Nat} (hg : g = w.heap.size) : Rd (w.alloc (.cells #[.string T] t)) (some ⟨g, 0, none⟩) 1 (strs [T]) := by subst hg; exact Rd.new1 w t T
set_option maxRecDepth 100000 in
set_option maxHeartbeats 1000000 in
theorem take_no (g : Nat) (A : Option Addr) (n c i : Nat) (ts : List Lx.Tok) (t : Lx.Tok) (T : ByteArray) (w : World) (h : Stm g A n c i ts w) (hn : ts.length = n) (hn8 : n ≤ 100000) (ht : tokAt ts i = t) (hno : isOf t [T] = false) :
    Calls Tryd.prog 42 #[.pointer (some ⟨g, 0, none⟩), .string T] w fun e w' => e = .returned (.agg #[.int .i64 9, .int .i64 t.at_]) ∧ Below w.heap.size w w' := by
  have HI := Lib.hid (fun W A1 n1 c1 (h : Stm g A n c i ts W) (h2 : Rd W A1 n1 (strs [T])) (h3 : n1 ≤ 140737488355328) => hno ▸ is_any g A n c i ts t A1 n1 c1 [T] W h.1 h.2 hn hn8 ht h2 h3)
  have HP := Lib.hid (fun W (h : Stm g A n c i ts W) => ht ▸ peek_any g A n c i ts W h.1 h.2 hn hn8)
  have HS := Lib.hid h
  clear h ht hn hno
  have HZ : Hid (∀ W, Below (w.alloc (.cells #[.int .i64 0, .int .i64 0] 29)).heap.size (w.alloc (.cells #[.int .i64 0, .int .i64 0] 29)) W → Blk W w.heap.size 29 [.int .i64 0, .int .i64 0]) := fun W hW => (Blk.new w _ _).below hW (by simp)
  unfold tokCells at *
  have hfld := fld3 (.int .i64 t.kind) (.string (bytesOf t.text)) (.int .i64 t.num) (.int .i64 t.at_)
  go_enter Tryd.func42, Tryd.ntmps42
  go_wp2_with (first
    | (go_at_call 21; (with_reducible refine (HI.out _ (some ⟨w.heap.size + 1, 0, none⟩) 1 1 ((HS.out.alloc _).alloc _) (by exact Rd.new1' (by simp)) (by omega)).mono ?_); rintro e w2 ⟨rfl, hB2⟩)
    | (go_at_call 28; refine (HP.out _ (((HS.out.alloc _).alloc _).below hB2)).mono ?_; rintro e w3 ⟨rfl, hB3⟩
       have hB13 := (((Below.refl _ (w.alloc (.cells #[.int .i64 0, .int .i64 0] 29))).alloc (Nat.le_refl _) (.cells #[.string T] 9)).trans (hB2.mono (by simp))).trans (hB3.mono (by have := hB2.size; simp at this; simp; omega))
       have hz3 := HZ.out w3 hB13
       obtain ⟨z0, z1, f0, f1⟩ := hz3.two))
  refine bodyPost_ret (res_c rfl _ w.heap.size 29 [.int .i64 9, .int .i64 t.at_] rfl (by exact (hz3.set_ 0 _).set_ 1 _) _ Tryd.underlying29 rfl hd48) rfl ⟨rfl, ?_⟩
  exact ((((Below.refl _ _).alloc (Nat.le_refl _) _).trans (hB13.mono (by simp))).setCell (Nat.le_refl _) _).setCell (Nat.le_refl _) _
set_option maxRecDepth 100000 in
set_option maxHeartbeats 1000000 in
theorem take_yes (g : Nat) (A : Option Addr) (n c i : Nat) (ts : List Lx.Tok) (t : Lx.Tok) (T : ByteArray) (w : World) (h : Stm g A n c i ts w) (hn : ts.length = n) (hn8 : n ≤ 100000) (hi : i ≤ 100000) (ht : tokAt ts i = t) (hyes : isOf t [T] = true) :
    Calls Tryd.prog 42 #[.pointer (some ⟨g, 0, none⟩), .string T] w fun e w' => e = .returned (.agg #[.int .i64 0, .int .i64 0]) ∧ Blk w' g 74 [.slice A n c, .int .i64 ((i + 1 : Nat) : Int)] ∧ Wrote g w w' := by
  have HI := Lib.hid (fun W A1 n1 c1 (h : Stm g A n c i ts W) (h2 : Rd W A1 n1 (strs [T])) (h3 : n1 ≤ 140737488355328) => hyes ▸ is_any g A n c i ts t A1 n1 c1 [T] W h.1 h.2 hn hn8 ht h2 h3)
  have HX : Hid (∀ W (h : Stm g A n c i ts W), Calls Tryd.prog 22 #[.pointer (some ⟨g, 0, none⟩)] W fun e w' => e = .returned (.agg (tokCells t).toArray) ∧ Blk w' g 74 [.slice A n c, .int .i64 ((i + 1 : Nat) : Int)] ∧ Wrote g W w') := fun W h => by
    have := next_any g A n c i ts t W h.1 h.2 hn hn8 hi ht
    rw [if_neg (isOf_ne hyes)] at this
    exact this
  have HS := Lib.hid h
  have hgl := h.1.lt
  clear h ht hn hyes
  have HZ : Hid (∀ W, Below (w.alloc (.cells #[.int .i64 0, .int .i64 0] 29)).heap.size (w.alloc (.cells #[.int .i64 0, .int .i64 0] 29)) W → Blk W w.heap.size 29 [.int .i64 0, .int .i64 0]) := fun W hW => (Blk.new w _ _).below hW (by simp)
  unfold tokCells at *
  go_enter Tryd.func42, Tryd.ntmps42
  go_wp2_with (first
    | (go_at_call 21; (with_reducible refine (HI.out _ (some ⟨w.heap.size + 1, 0, none⟩) 1 1 ((HS.out.alloc _).alloc _) (by exact Rd.new1' (by simp)) (by omega)).mono ?_); rintro e w2 ⟨rfl, hB2⟩)
    | (go_at_call 22; refine (HX.out _ (((HS.out.alloc _).alloc _).below hB2)).mono ?_; rintro e w3 ⟨rfl, hb3, hW3⟩
       have hB12 := ((Below.refl _ (w.alloc (.cells #[.int .i64 0, .int .i64 0] 29))).alloc (Nat.le_refl _) (.cells #[.string T] 9)).trans (hB2.mono (by simp))
       have hz3 := Blk.grown (HZ.out w2 hB12) hW3 (fun e => by injection e with e; omega)
       obtain ⟨z0, z1, f0, f1⟩ := hz3.two))
  have hne : g ≠ w.heap.size := Nat.ne_of_lt hgl
  refine bodyPost_ret (res_c rfl _ w.heap.size 29 [.int .i64 0, .int .i64 0] rfl (by exact (hz3.set_ 0 _).set_ 1 _) _ Tryd.underlying29 rfl hd48) rfl ⟨rfl, ?_, ?_⟩
  · exact (hb3.far hne _).far hne _
  · have h0 := Below.wrote (((Below.refl _ w).alloc (Nat.le_refl _) _).trans (hB12.mono (by simp))) hW3
    exact (h0.setNew (Nat.le_refl _) _).setNew (Nat.le_refl _) _
set_option maxRecDepth 100000 in
set_option maxHeartbeats 1000000 in
theorem new_no (s : ByteArray) (w : World) {p q : Nat} {ts : List Lx.Tok} (h : Lx.scan s.data.toList = ((p, q), ts)) (hp : p ≠ 0) :
    Calls Tryd.prog 8 #[.string s] w fun e w' => e = .returned (.tuple #[.pointer none, .agg #[.int .i64 p, .int .i64 q]]) ∧ Below w.heap.size w w' := by
  have HSC := Lib.hid (fun w => scan_is s w h (n := ts.length) rfl)
  have e1 : ((p : Int) != 0) = true := by rw [bne_iff_ne]; omega
  clear h hp
  have HZ : Hid (∀ W, Below (w.alloc (.cells #[.int .i64 0, .int .i64 0] 29)).heap.size (w.alloc (.cells #[.int .i64 0, .int .i64 0] 29)) W → Blk W w.heap.size 29 [.int .i64 0, .int .i64 0] ∧ Below w.heap.size w W) := fun W hW => ⟨(Blk.new w _ _).below hW (by simp), ((Below.refl _ w).alloc (Nat.le_refl _) _).trans (hW.mono (by simp))⟩
  go_enter Tryd.func8, Tryd.ntmps8
  go_wp2_with (go_at_call 20; refine (HSC.out _).mono ?_; rintro e w2 ⟨A2, c2, rfl, hc2, hown2, hB2⟩; obtain ⟨hz, hBw⟩ := HZ.out w2 hB2; have hl1 := hz.lt)
  have hz' := hz.alloc (.cells #[.int .i64 p, .int .i64 q] 29)
  have hBw' := hBw.alloc hBw.size (.cells #[.int .i64 p, .int .i64 q] 29)
  have hnew := Blk.new w2 29 [.int .i64 p, .int .i64 q]
  clear hz hBw hB2 hown2
  generalize w2.alloc (.cells #[.int .i64 p, .int .i64 q] 29) = w3 at *
  generalize w2.heap.size = u at *
  obtain ⟨z0, z1, f0, f1⟩ := hz'.two
  obtain ⟨x0, x1, k0, k1⟩ := hnew.two
  have n1 : ¬ u = w.heap.size := by omega
  go_region
  go_wp2_with fail
  refine bodyPost_ret (res_tmp_cell rfl _ w.heap.size 29 [.int .i64 p, .int .i64 q] rfl (by exact (hz'.drew.set_ 0 _).set_ 1 _) _ Tryd.underlying29 rfl hd48) rfl ?_
  exact ⟨rfl, (hBw'.drew.setCell (Nat.le_refl _) _).setCell (Nat.le_refl _) _⟩
set_option maxRecDepth 100000 in
set_option maxHeartbeats 1000000 in
theorem new_yes (s : ByteArray) (w : World) {n : Nat} {ts : List Lx.Tok} (h : Lx.scan s.data.toList = ((0, 0), ts)) (hn : ts.length = n) :
    Calls Tryd.prog 8 #[.string s] w fun e w' => ∃ A c g, e = .returned (.tuple #[.pointer (some ⟨g, 0, none⟩), .agg #[.int .i64 0, .int .i64 0]]) ∧ w.heap.size ≤ g ∧ Stm g A n c 0 ts w' ∧ Below w.heap.size w w' := by
  have HSC := Lib.hid (fun w => scan_is s w h hn)
  clear h
  have HZ : Hid (∀ W, Below (w.alloc (.cells #[.int .i64 0, .int .i64 0] 29)).heap.size (w.alloc (.cells #[.int .i64 0, .int .i64 0] 29)) W → Blk W w.heap.size 29 [.int .i64 0, .int .i64 0] ∧ Below w.heap.size w W) := fun W hW => ⟨(Blk.new w _ _).below hW (by simp), ((Below.refl _ w).alloc (Nat.le_refl _) _).trans (hW.mono (by simp))⟩
  go_enter Tryd.func8, Tryd.ntmps8
  go_wp2_with (go_at_call 20; refine (HSC.out _).mono ?_; rintro e w2 ⟨A2, c2, rfl, hc2, hown2, hB2⟩; obtain ⟨hz, hBw⟩ := HZ.out w2 hB2; have hl1 := hz.lt; obtain ⟨z0, z1, f0, f1⟩ := hz.two)
  refine bodyPost_ret (res_tmp_cell rfl _ w.heap.size 29 [.int .i64 0, .int .i64 0] rfl (by exact (((hz.set_ 0 _).set_ 1 _).alloc _).alloc _) _ Tryd.underlying29 rfl hd48) rfl ?_
  have ho : Only w2 ((w2.setCell ⟨w.heap.size, 0, none⟩ (.int .i64 0)).setCell ⟨w.heap.size, 1, none⟩ (.int .i64 0)) w.heap.size := ((Only.refl w2 w.heap.size).setCell 0 _).setCell 1 _
  have hown3 := hown2.kept ho.grown (.inr (own_blk_ne hown2 hz (by decide)))
  have hB3 := ho.below hBw (Nat.le_refl _) (Nat.le_of_lt hl1)
  refine ⟨A2, c2, w2.heap.size + 1, rfl, by omega, ⟨?_, ((RdS.of_own hown3).alloc _).alloc _⟩, (hB3.alloc hB3.size _).alloc (by have := hB3.size; simp at this ⊢; omega) _⟩
  exact Blk.new' (by simp [World.setCell]) rfl
end Go.Proofs.YtafjkbbiaopemaaDoor
