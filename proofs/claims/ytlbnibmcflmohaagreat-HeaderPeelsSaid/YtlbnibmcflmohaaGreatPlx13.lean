/- Part of the proof: Cha2. -/
import Derived.Test.YtlbnibmcflmohaaGreatPlx07
namespace Go.Proofs.YtlbnibmcflmohaaGreat
open Go.RowKit
theorem u32s_set (s : List UInt32) (i : Nat) (x : UInt32) : (u32s s).set i (.int .u32 (n32 x)) = u32s (s.set i x) := by unfold u32s; rw [List.map_set]; rfl
theorem s16_get {s : List UInt32} (h : s.length = 16) (i : Nat) (hi : i < 16) : (u32s s)[i]? = some (.int .u32 (n32 (s.getD i 0))) := by
  rw [List.getD_eq_getElem?_getD]
  have := List.getElem?_eq_getElem (l := s) (i := i) (by omega)
  rw [this]
  exact u32s_get this
section
variable {P : Program} {w : World} {o : Oper} {a : Act}
theorem ex_load {t : TypeId} {x : Operand} {p : Addr} {v : Value} (ho : o.op = .load t x) (hx : a.eval x = .pointer (some p)) (hn : ∀ w, (isAgg t).run P w = .ok false w) (hc : w.cell? p = some v) : (execOp a.eval o).run P w = .ok (.value v) w := by
  unfold execOp
  simp [ho, hx, Instr.loadAt, Instr.sureAddr, loadVar, hn, hc]
theorem ex_store {t : TypeId} {x y : Operand} {p : Addr} {u : Value} {k : IntKind} {n : Int} (ho : o.op = .store t x y) (hx : a.eval x = .pointer (some p)) (hy : a.eval y = .int k n) (hz : ∀ w, (sizeOf t).run P w = .ok 1 w) (hc : w.cell? p = some u) (hf : w.frozen? p = false) : (execOp a.eval o).run P w = .ok .skip (w.setCell p (.int k n)) := by
  unfold execOp
  simp [ho, hx, hy, Instr.storeAt, Instr.sureAddr, storeVar, hz, Value.cells, storeCells, store, Addr.add, Sem.run, hc, hf]
end
theorem szU32 (w : World) : (sizeOf 47).run Tryz.prog w = .ok 1 w := by kernel_rfl
theorem agU32 (w : World) : (isAgg 47).run Tryz.prog w = .ok false w := by kernel_rfl
section
variable {P : Program} {w : World} {o : Oper} {a : Act}
theorem ex_idxA {t e : TypeId} {x y : Operand} {g off m p : Nat} (ho : o.op = .indexAddr t x y) (hx : a.eval x = .pointer (some ⟨g, off, none⟩)) (hy : a.eval y = .int .i64 (p : Int)) (hp : p < m) (hu : P.underlying t = some (.array m e)) (hz : ∀ w, (sizeOf e).run P w = .ok 1 w) : (execOp a.eval o).run P w = .ok (.value (.pointer (some ⟨g, off + p, none⟩))) w := by
  unfold execOp
  simp [ho, hx, hy, Instr.indexAt, asIntOf, run_underlying hu, hz, hp, Addr.add, Instr.sureAddr]
end
set_option maxRecDepth 100000 in
set_option maxHeartbeats 4000000 in
theorem round_at (i1 i2 i3 i4 : Nat) (q1 : i1 < 16) (q2 : i2 < 16) (q3 : i3 < 16) (q4 : i4 < 16) (g : Nat) (t : TypeId) (s : List UInt32) (w : World) (h : Blk w g t (u32s s)) (hs : s.length = 16) :
    Calls Tryz.prog 91 #[.pointer (some ⟨g, 0, none⟩), .int .i64 (i1 : Int), .int .i64 (i2 : Int), .int .i64 (i3 : Int), .int .i64 (i4 : Int)] w fun e w' => e = .returned (.tuple #[]) ∧ Blk w' g t (u32s (Ch.round s i1 i2 i3 i4)) ∧ Wrote g w w' := by
  have ca := (h.cell i1).trans (s16_get hs i1 (by omega))
  have cb := (h.cell i2).trans (s16_get hs i2 (by omega))
  have cc := (h.cell i3).trans (s16_get hs i3 (by omega))
  have cd := (h.cell i4).trans (s16_get hs i4 (by omega))
  obtain ⟨a, ha⟩ : ∃ a, a = s.getD i1 0 := ⟨_, rfl⟩
  obtain ⟨b, hb⟩ : ∃ b, b = s.getD i2 0 := ⟨_, rfl⟩
  obtain ⟨c, hc⟩ : ∃ c, c = s.getD i3 0 := ⟨_, rfl⟩
  obtain ⟨d, hd⟩ : ∃ d, d = s.getD i4 0 := ⟨_, rfl⟩
  rcases hq : Ch.quarter a b c d with ⟨x, y, z, u⟩
  rw [← ha] at ca
  rw [← hb] at cb
  rw [← hc] at cc
  rw [← hd] at cd
  have HQ : Hid (∀ W : World, Calls Tryz.prog 97 #[.int .u32 (n32 a), .int .u32 (n32 b), .int .u32 (n32 c), .int .u32 (n32 d)] W fun e w' => e = .returned (.tuple #[.int .u32 (n32 x), .int .u32 (n32 y), .int .u32 (n32 z), .int .u32 (n32 u)]) ∧ W = w') := fun W => by
    have := quarter_any a b c d W
    rw [hq] at this
    exact this
  have HR : Hid (Ch.round s i1 i2 i3 i4 = (((s.set i1 x).set i2 y).set i3 z).set i4 u) := by
    show _ = _
    unfold Ch.round
    rw [← ha, ← hb, ← hc, ← hd, hq]
  have HB := Lib.hid h
  have hT : w.drew.cell? ⟨g, i1, none⟩ = some (.int .u32 (n32 a)) ∧ w.drew.cell? ⟨g, i2, none⟩ = some (.int .u32 (n32 b)) ∧ w.drew.cell? ⟨g, i3, none⟩ = some (.int .u32 (n32 c)) ∧ w.drew.cell? ⟨g, i4, none⟩ = some (.int .u32 (n32 d)) := ⟨ca, cb, cc, cd⟩
  have b0 := h.drew
  have b1 := b0.set_ i1 (.int .u32 (n32 x))
  have b2 := b1.set_ i2 (.int .u32 (n32 y))
  have b3 := b2.set_ i3 (.int .u32 (n32 z))
  have b4 := b3.set_ i4 (.int .u32 (n32 u))
  rw [u32s_set] at b1
  rw [u32s_set, u32s_set] at b2
  rw [u32s_set, u32s_set, u32s_set] at b3
  rw [u32s_set, u32s_set, u32s_set, u32s_set] at b4
  have hB0 := And.intro ((b0.cell i1).trans (s16_get hs i1 (by omega))) (b0.frozen i1)
  have hB1 := And.intro ((b1.cell i2).trans (s16_get (by simpa using hs) i2 (by omega))) (b1.frozen i2)
  have hB2 := And.intro ((b2.cell i3).trans (s16_get (by simpa using hs) i3 (by omega))) (b2.frozen i3)
  have hB3 := And.intro ((b3.cell i4).trans (s16_get (by simpa using hs) i4 (by omega))) (b3.frozen i4)
  have HF := Lib.hid b4
  have HW := Lib.hid (((((Wrote.refl w g).drew.setCell i1 (.int .u32 (n32 x))).setCell i2 (.int .u32 (n32 y))).setCell i3 (.int .u32 (n32 z))).setCell i4 (.int .u32 (n32 u)))
  clear ha hb hc hd hq hs h b0 b1 b2 b3 b4
  go_enter Tryz.func91, Tryz.ntmps91
  refine region_K (by kernel_rfl) 36 (fun w' => w'.cell? ⟨g, i1, none⟩ = some (.int .u32 (n32 a)) ∧ w'.cell? ⟨g, i2, none⟩ = some (.int .u32 (n32 b)) ∧ w'.cell? ⟨g, i3, none⟩ = some (.int .u32 (n32 c)) ∧ w'.cell? ⟨g, i4, none⟩ = some (.int .u32 (n32 d))) ?_
  refine AnyK.pure 0 (v := .pointer (some ⟨g, 0, none⟩)) rfl (by kernel_rfl) (fun _ _ _ h => h) rfl (fun _ => by kernel_rfl) (fun _ => hT) ?_
  refine AnyK.pure 1 (v := .int .i64 (i1 : Int)) rfl (by kernel_rfl) (fun _ _ _ h => h) rfl (fun _ => by kernel_rfl) (fun _ => hT) ?_
  refine AnyK.pure 2 (v := .pointer (some ⟨g, 0, none⟩)) rfl (by kernel_rfl) (fun _ _ _ h => h) rfl (fun _ => by kernel_rfl) (fun _ => hT) ?_
  refine AnyK.pure 3 (v := .int .i64 (i2 : Int)) rfl (by kernel_rfl) (fun _ _ _ h => h) rfl (fun _ => by kernel_rfl) (fun _ => hT) ?_
  refine AnyK.pure 4 (v := .pointer (some ⟨g, 0, none⟩)) rfl (by kernel_rfl) (fun _ _ _ h => h) rfl (fun _ => by kernel_rfl) (fun _ => hT) ?_
  refine AnyK.pure 5 (v := .int .i64 (i3 : Int)) rfl (by kernel_rfl) (fun _ _ _ h => h) rfl (fun _ => by kernel_rfl) (fun _ => hT) ?_
  refine AnyK.pure 6 (v := .pointer (some ⟨g, 0, none⟩)) rfl (by kernel_rfl) (fun _ _ _ h => h) rfl (fun _ => by kernel_rfl) (fun _ => hT) ?_
  refine AnyK.pure 7 (v := .int .i64 (i4 : Int)) rfl (by kernel_rfl) (fun _ _ _ h => h) rfl (fun _ => by kernel_rfl) (fun _ => hT) ?_
  refine AnyK.pure 8 (v := .pointer (some ⟨g, 0, none⟩)) rfl (by kernel_rfl) (fun _ _ _ h => h) rfl (fun _ => by kernel_rfl) (fun _ => hT) ?_
  refine AnyK.pure 9 (v := .int .i64 (i1 : Int)) rfl (by kernel_rfl) (fun _ _ _ h => h) rfl (fun _ => by kernel_rfl) (fun _ => hT) ?_
  refine AnyK.pure 10 (v := .pointer (some ⟨g, 0, none⟩)) rfl (by kernel_rfl) (fun _ _ _ h => h) rfl (fun _ => by kernel_rfl) (fun _ => hT) ?_
  refine AnyK.pure 11 (v := .pointer (some ⟨g, i1, none⟩)) rfl (by kernel_rfl) (fun _ _ _ h => h) rfl (fun _ => (ex_idxA (t := 154) (e := 47) (x := .tmp 21) (y := .tmp 20) (off := 0) (m := 16) (by rfl) (by kernel_rfl) (by kernel_rfl) q1 Tryz.underlying154 szU32).trans (by rw [Nat.zero_add])) (fun _ => hT) ?_
  refine AnyK.load 12 (v := .int .u32 (n32 a)) rfl (by kernel_rfl) (by kernel_rfl) (by kernel_rfl) (fun _ _ _ h => h) rfl (fun w' hw' => ex_load (t := 47) (x := .tmp 22) (p := ⟨g, i1, none⟩) (by rfl) (by kernel_rfl) agU32 hw'.1) hT ?_
  refine AnyK.pure 13 (v := .pointer (some ⟨g, 0, none⟩)) rfl (by kernel_rfl) (fun _ _ _ h => h) rfl (fun _ => by kernel_rfl) (fun _ => hT) ?_
  refine AnyK.pure 14 (v := .int .i64 (i2 : Int)) rfl (by kernel_rfl) (fun _ _ _ h => h) rfl (fun _ => by kernel_rfl) (fun _ => hT) ?_
  refine AnyK.pure 15 (v := .pointer (some ⟨g, 0, none⟩)) rfl (by kernel_rfl) (fun _ _ _ h => h) rfl (fun _ => by kernel_rfl) (fun _ => hT) ?_
  refine AnyK.pure 16 (v := .pointer (some ⟨g, i2, none⟩)) rfl (by kernel_rfl) (fun _ _ _ h => h) rfl (fun _ => (ex_idxA (t := 154) (e := 47) (x := .tmp 26) (y := .tmp 25) (off := 0) (m := 16) (by rfl) (by kernel_rfl) (by kernel_rfl) q2 Tryz.underlying154 szU32).trans (by rw [Nat.zero_add])) (fun _ => hT) ?_
  refine AnyK.load 17 (v := .int .u32 (n32 b)) rfl (by kernel_rfl) (by kernel_rfl) (by kernel_rfl) (fun _ _ _ h => h) rfl (fun w' hw' => ex_load (t := 47) (x := .tmp 27) (p := ⟨g, i2, none⟩) (by rfl) (by kernel_rfl) agU32 hw'.2.1) hT ?_
  refine AnyK.pure 18 (v := .pointer (some ⟨g, 0, none⟩)) rfl (by kernel_rfl) (fun _ _ _ h => h) rfl (fun _ => by kernel_rfl) (fun _ => hT) ?_
  refine AnyK.pure 19 (v := .int .i64 (i3 : Int)) rfl (by kernel_rfl) (fun _ _ _ h => h) rfl (fun _ => by kernel_rfl) (fun _ => hT) ?_
  refine AnyK.pure 20 (v := .pointer (some ⟨g, 0, none⟩)) rfl (by kernel_rfl) (fun _ _ _ h => h) rfl (fun _ => by kernel_rfl) (fun _ => hT) ?_
  refine AnyK.pure 21 (v := .pointer (some ⟨g, i3, none⟩)) rfl (by kernel_rfl) (fun _ _ _ h => h) rfl (fun _ => (ex_idxA (t := 154) (e := 47) (x := .tmp 31) (y := .tmp 30) (off := 0) (m := 16) (by rfl) (by kernel_rfl) (by kernel_rfl) q3 Tryz.underlying154 szU32).trans (by rw [Nat.zero_add])) (fun _ => hT) ?_
  refine AnyK.load 22 (v := .int .u32 (n32 c)) rfl (by kernel_rfl) (by kernel_rfl) (by kernel_rfl) (fun _ _ _ h => h) rfl (fun w' hw' => ex_load (t := 47) (x := .tmp 32) (p := ⟨g, i3, none⟩) (by rfl) (by kernel_rfl) agU32 hw'.2.2.1) hT ?_
  refine AnyK.pure 23 (v := .pointer (some ⟨g, 0, none⟩)) rfl (by kernel_rfl) (fun _ _ _ h => h) rfl (fun _ => by kernel_rfl) (fun _ => hT) ?_
  refine AnyK.pure 24 (v := .int .i64 (i4 : Int)) rfl (by kernel_rfl) (fun _ _ _ h => h) rfl (fun _ => by kernel_rfl) (fun _ => hT) ?_
  refine AnyK.pure 25 (v := .pointer (some ⟨g, 0, none⟩)) rfl (by kernel_rfl) (fun _ _ _ h => h) rfl (fun _ => by kernel_rfl) (fun _ => hT) ?_
  refine AnyK.pure 26 (v := .pointer (some ⟨g, i4, none⟩)) rfl (by kernel_rfl) (fun _ _ _ h => h) rfl (fun _ => (ex_idxA (t := 154) (e := 47) (x := .tmp 36) (y := .tmp 35) (off := 0) (m := 16) (by rfl) (by kernel_rfl) (by kernel_rfl) q4 Tryz.underlying154 szU32).trans (by rw [Nat.zero_add])) (fun _ => hT) ?_
  refine AnyK.load 27 (v := .int .u32 (n32 d)) rfl (by kernel_rfl) (by kernel_rfl) (by kernel_rfl) (fun _ _ _ h => h) rfl (fun w' hw' => ex_load (t := 47) (x := .tmp 37) (p := ⟨g, i4, none⟩) (by rfl) (by kernel_rfl) agU32 hw'.2.2.2) hT ?_
  refine AnyK.pure 34 (v := .pointer (some ⟨g, 0, none⟩)) rfl (by kernel_rfl) (fun _ _ _ h => h) rfl (fun _ => by kernel_rfl) (fun _ => hT) ?_
  refine AnyK.pure 37 (v := .pointer (some ⟨g, 0, none⟩)) rfl (by kernel_rfl) (fun _ _ _ h => h) rfl (fun _ => by kernel_rfl) (fun _ => hT) ?_
  refine AnyK.pure 40 (v := .pointer (some ⟨g, 0, none⟩)) rfl (by kernel_rfl) (fun _ _ _ h => h) rfl (fun _ => by kernel_rfl) (fun _ => hT) ?_
  refine AnyK.pure 43 (v := .pointer (some ⟨g, 0, none⟩)) rfl (by kernel_rfl) (fun _ _ _ h => h) rfl (fun _ => by kernel_rfl) (fun _ => hT) ?_
  refine AnyK.enter 28 (d := some 39) (f := 97) (args := #[.int .u32 (n32 a), .int .u32 (n32 b), .int .u32 (n32 c), .int .u32 (n32 d)]) (by kernel_rfl) (by kernel_rfl) (by kernel_rfl) ?_
  refine (HQ.out _).mono ?_
  rintro e w' ⟨rfl, rfl⟩
  refine ⟨_, rfl, fun _ => hT, ?_⟩
  refine AnyK.pure 29 (v := .tuple #[.int .u32 (n32 x), .int .u32 (n32 y), .int .u32 (n32 z), .int .u32 (n32 u)]) rfl (by kernel_rfl) (fun _ _ _ h => h) rfl (fun _ => by kernel_rfl) (fun _ => hT) ?_
  refine AnyK.pure 30 (v := .int .u32 (n32 x)) rfl (by kernel_rfl) (fun _ _ _ h => h) rfl (fun _ => by kernel_rfl) (fun _ => hT) ?_
  refine AnyK.pure 31 (v := .int .u32 (n32 y)) rfl (by kernel_rfl) (fun _ _ _ h => h) rfl (fun _ => by kernel_rfl) (fun _ => hT) ?_
  refine AnyK.pure 32 (v := .int .u32 (n32 z)) rfl (by kernel_rfl) (fun _ _ _ h => h) rfl (fun _ => by kernel_rfl) (fun _ => hT) ?_
  refine AnyK.pure 33 (v := .int .u32 (n32 u)) rfl (by kernel_rfl) (fun _ _ _ h => h) rfl (fun _ => by kernel_rfl) (fun _ => hT) ?_
  refine AnyK.pure 35 (v := .pointer (some ⟨g, i1, none⟩)) rfl (by kernel_rfl) (fun _ _ _ h => h) rfl (fun _ => (ex_idxA (t := 154) (e := 47) (x := .tmp 44) (y := .tmp 12) (off := 0) (m := 16) (by rfl) (by kernel_rfl) (by kernel_rfl) q1 Tryz.underlying154 szU32).trans (by rw [Nat.zero_add])) (fun _ => hT) ?_
  refine AnyK.store 36 (d := none) (op := .store 47 (.tmp 45) (.tmp 40)) (by kernel_rfl) (fun o ho => ex_store (p := ⟨g, i1, none⟩) (k := .u32) (n := n32 x) ho (by kernel_rfl) (by kernel_rfl) szU32 hB0.1 hB0.2) (by kernel_rfl) (fun h => (by cases h)) ?_
  refine AnyK.pure 38 (v := .pointer (some ⟨g, i2, none⟩)) rfl (by kernel_rfl) (fun _ _ _ h => h) rfl (fun _ => (ex_idxA (t := 154) (e := 47) (x := .tmp 46) (y := .tmp 14) (off := 0) (m := 16) (by rfl) (by kernel_rfl) (by kernel_rfl) q2 Tryz.underlying154 szU32).trans (by rw [Nat.zero_add])) (fun h => (by cases h)) ?_
  refine AnyK.store 39 (d := none) (op := .store 47 (.tmp 47) (.tmp 41)) (by kernel_rfl) (fun o ho => ex_store (p := ⟨g, i2, none⟩) (k := .u32) (n := n32 y) ho (by kernel_rfl) (by kernel_rfl) szU32 hB1.1 hB1.2) (by kernel_rfl) (fun h => (by cases h)) ?_
  refine AnyK.pure 41 (v := .pointer (some ⟨g, i3, none⟩)) rfl (by kernel_rfl) (fun _ _ _ h => h) rfl (fun _ => (ex_idxA (t := 154) (e := 47) (x := .tmp 48) (y := .tmp 16) (off := 0) (m := 16) (by rfl) (by kernel_rfl) (by kernel_rfl) q3 Tryz.underlying154 szU32).trans (by rw [Nat.zero_add])) (fun h => (by cases h)) ?_
  refine AnyK.store 42 (d := none) (op := .store 47 (.tmp 49) (.tmp 42)) (by kernel_rfl) (fun o ho => ex_store (p := ⟨g, i3, none⟩) (k := .u32) (n := n32 z) ho (by kernel_rfl) (by kernel_rfl) szU32 hB2.1 hB2.2) (by kernel_rfl) (fun h => (by cases h)) ?_
  refine AnyK.pure 44 (v := .pointer (some ⟨g, i4, none⟩)) rfl (by kernel_rfl) (fun _ _ _ h => h) rfl (fun _ => (ex_idxA (t := 154) (e := 47) (x := .tmp 50) (y := .tmp 18) (off := 0) (m := 16) (by rfl) (by kernel_rfl) (by kernel_rfl) q4 Tryz.underlying154 szU32).trans (by rw [Nat.zero_add])) (fun h => (by cases h)) ?_
  refine AnyK.store 45 (d := none) (op := .store 47 (.tmp 51) (.tmp 43)) (by kernel_rfl) (fun o ho => ex_store (p := ⟨g, i4, none⟩) (k := .u32) (n := n32 u) ho (by kernel_rfl) (by kernel_rfl) szU32 hB3.1 hB3.2) (by kernel_rfl) (fun h => (by cases h)) ?_
  refine AnyK.done (by kernel_rfl) ?_
  go_end0
  exact ⟨rfl, by rw [HR.out]; exact HF.out, HW.out⟩
theorem round_0 (g : Nat) (t : TypeId) (s : List UInt32) (w : World) (h : Blk w g t (u32s s)) (hs : s.length = 16) :
    Calls Tryz.prog 91 #[.pointer (some ⟨g, 0, none⟩), .int .i64 0, .int .i64 4, .int .i64 8, .int .i64 12] w fun e w' => e = .returned (.tuple #[]) ∧ Blk w' g t (u32s (Ch.round s 0 4 8 12)) ∧ Wrote g w w' := round_at 0 4 8 12 (by omega) (by omega) (by omega) (by omega) g t s w h hs
theorem round_1 (g : Nat) (t : TypeId) (s : List UInt32) (w : World) (h : Blk w g t (u32s s)) (hs : s.length = 16) :
    Calls Tryz.prog 91 #[.pointer (some ⟨g, 0, none⟩), .int .i64 1, .int .i64 5, .int .i64 9, .int .i64 13] w fun e w' => e = .returned (.tuple #[]) ∧ Blk w' g t (u32s (Ch.round s 1 5 9 13)) ∧ Wrote g w w' := round_at 1 5 9 13 (by omega) (by omega) (by omega) (by omega) g t s w h hs
theorem round_2 (g : Nat) (t : TypeId) (s : List UInt32) (w : World) (h : Blk w g t (u32s s)) (hs : s.length = 16) :
    Calls Tryz.prog 91 #[.pointer (some ⟨g, 0, none⟩), .int .i64 2, .int .i64 6, .int .i64 10, .int .i64 14] w fun e w' => e = .returned (.tuple #[]) ∧ Blk w' g t (u32s (Ch.round s 2 6 10 14)) ∧ Wrote g w w' := round_at 2 6 10 14 (by omega) (by omega) (by omega) (by omega) g t s w h hs
theorem round_3 (g : Nat) (t : TypeId) (s : List UInt32) (w : World) (h : Blk w g t (u32s s)) (hs : s.length = 16) :
    Calls Tryz.prog 91 #[.pointer (some ⟨g, 0, none⟩), .int .i64 3, .int .i64 7, .int .i64 11, .int .i64 15] w fun e w' => e = .returned (.tuple #[]) ∧ Blk w' g t (u32s (Ch.round s 3 7 11 15)) ∧ Wrote g w w' := round_at 3 7 11 15 (by omega) (by omega) (by omega) (by omega) g t s w h hs
theorem round_4 (g : Nat) (t : TypeId) (s : List UInt32) (w : World) (h : Blk w g t (u32s s)) (hs : s.length = 16) :
    Calls Tryz.prog 91 #[.pointer (some ⟨g, 0, none⟩), .int .i64 0, .int .i64 5, .int .i64 10, .int .i64 15] w fun e w' => e = .returned (.tuple #[]) ∧ Blk w' g t (u32s (Ch.round s 0 5 10 15)) ∧ Wrote g w w' := round_at 0 5 10 15 (by omega) (by omega) (by omega) (by omega) g t s w h hs
theorem round_5 (g : Nat) (t : TypeId) (s : List UInt32) (w : World) (h : Blk w g t (u32s s)) (hs : s.length = 16) :
    Calls Tryz.prog 91 #[.pointer (some ⟨g, 0, none⟩), .int .i64 1, .int .i64 6, .int .i64 11, .int .i64 12] w fun e w' => e = .returned (.tuple #[]) ∧ Blk w' g t (u32s (Ch.round s 1 6 11 12)) ∧ Wrote g w w' := round_at 1 6 11 12 (by omega) (by omega) (by omega) (by omega) g t s w h hs
theorem round_6 (g : Nat) (t : TypeId) (s : List UInt32) (w : World) (h : Blk w g t (u32s s)) (hs : s.length = 16) :
    Calls Tryz.prog 91 #[.pointer (some ⟨g, 0, none⟩), .int .i64 2, .int .i64 7, .int .i64 8, .int .i64 13] w fun e w' => e = .returned (.tuple #[]) ∧ Blk w' g t (u32s (Ch.round s 2 7 8 13)) ∧ Wrote g w w' := round_at 2 7 8 13 (by omega) (by omega) (by omega) (by omega) g t s w h hs
theorem round_7 (g : Nat) (t : TypeId) (s : List UInt32) (w : World) (h : Blk w g t (u32s s)) (hs : s.length = 16) :
    Calls Tryz.prog 91 #[.pointer (some ⟨g, 0, none⟩), .int .i64 3, .int .i64 4, .int .i64 9, .int .i64 14] w fun e w' => e = .returned (.tuple #[]) ∧ Blk w' g t (u32s (Ch.round s 3 4 9 14)) ∧ Wrote g w w' := round_at 3 4 9 14 (by omega) (by omega) (by omega) (by omega) g t s w h hs
end Go.Proofs.YtlbnibmcflmohaaGreat
