/- Part of the proof: Cha2. -/
import Derived.Test.YtpgpaenloaphaaaGreatPpx03
import Derived.Test.YtpgpaenloaphaaaGreatPpx08
namespace Go.Proofs.YtpgpaenloaphaaaGreat
open Go.RowKit
theorem u32s_set (s : List UInt32) (i : Nat) (x : UInt32) : (u32s s).set i (.int .u32 (n32 x)) = u32s (s.set i x) := by unfold u32s; rw [List.map_set]; rfl
theorem s16_get {s : List UInt32} (h : s.length = 16) (i : Nat) (hi : i < 16) : (u32s s)[i]? = some (.int .u32 (n32 (s.getD i 0))) := by
 rw [List.getD_eq_getElem?_getD]
 have := List.getElem?_eq_getElem (l := s) (i := i) (by omega)
 rw [this]
 exact u32s_get this
section
variable {P : Program} {w : World} {o : Oper} {a : Act}
theorem ex_load {t : TypeId} {x : Operand} {p : Addr} {v : Value} (ho : o.op = .load t x) (hx : a.eval x = .pointer (some p)) (hn : ∀ w, (isAgg t).run P w = .ok false w) (hc : w.cell? p = some v) : (execOp a.eval o).run P w = .ok (.value v) w := by
 unfold execOp
 simp [ho, hx, Instr.loadAt, Instr.sureAddr, loadVar, hn, hc]
theorem ex_store {t : TypeId} {x y : Operand} {p : Addr} {u : Value} {k : IntKind} {n : Int} (ho : o.op = .store t x y) (hx : a.eval x = .pointer (some p)) (hy : a.eval y = .int k n) (hz : ∀ w, (sizeOf t).run P w = .ok 1 w) (hc : w.cell? p = some u) (hf : w.frozen? p = false) : (execOp a.eval o).run P w = .ok .skip (w.setCell p (.int k n)) := by
 unfold execOp
 simp [ho, hx, hy, Instr.storeAt, Instr.sureAddr, storeVar, hz, Value.cells, storeCells, store, Addr.add, Sem.run, hc, hf]
end
theorem szU32 (w : World) : (sizeOf 44).run Tryz.prog w = .ok 1 w := by kernel_rfl
theorem agU32 (w : World) : (isAgg 44).run Tryz.prog w = .ok false w := by kernel_rfl
set_option maxRecDepth 100000 in
set_option maxHeartbeats 4000000 in
theorem round_0 (g : Nat) (t : TypeId) (s : List UInt32) (w : World) (h : Blk w g t (u32s s)) (hs : s.length = 16) :
   Calls Tryz.prog 183 #[.pointer (some ⟨g, 0, none⟩), .int .i64 0, .int .i64 4, .int .i64 8, .int .i64 12] w fun e w' => e = .returned (.tuple #[]) ∧ Blk w' g t (u32s (Ch.round s 0 4 8 12)) ∧ Wrote g w w' := by
 have ca := (h.cell 0).trans (s16_get hs 0 (by omega))
 have cb := (h.cell 4).trans (s16_get hs 4 (by omega))
 have cc := (h.cell 8).trans (s16_get hs 8 (by omega))
 have cd := (h.cell 12).trans (s16_get hs 12 (by omega))
 obtain ⟨a, ha⟩ : ∃ a, a = s.getD 0 0 := ⟨_, rfl⟩
 obtain ⟨b, hb⟩ : ∃ b, b = s.getD 4 0 := ⟨_, rfl⟩
 obtain ⟨c, hc⟩ : ∃ c, c = s.getD 8 0 := ⟨_, rfl⟩
 obtain ⟨d, hd⟩ : ∃ d, d = s.getD 12 0 := ⟨_, rfl⟩
 rcases hq : Ch.quarter a b c d with ⟨x, y, z, u⟩
 rw [← ha] at ca
 rw [← hb] at cb
 rw [← hc] at cc
 rw [← hd] at cd
 have HQ : Hid (∀ W : World, Calls Tryz.prog 192 #[.int .u32 (n32 a), .int .u32 (n32 b), .int .u32 (n32 c), .int .u32 (n32 d)] W fun e w' => e = .returned (.tuple #[.int .u32 (n32 x), .int .u32 (n32 y), .int .u32 (n32 z), .int .u32 (n32 u)]) ∧ W = w') := fun W => by
   have := quarter_any a b c d W
   rw [hq] at this
   exact this
 have HR : Hid (Ch.round s 0 4 8 12 = (((s.set 0 x).set 4 y).set 8 z).set 12 u) := by
   show _ = _
   unfold Ch.round
   rw [← ha, ← hb, ← hc, ← hd, hq]
 have HB := qh h
 have hT : w.drew.cell? ⟨g, 0, none⟩ = some (.int .u32 (n32 a)) ∧ w.drew.cell? ⟨g, 4, none⟩ = some (.int .u32 (n32 b)) ∧ w.drew.cell? ⟨g, 8, none⟩ = some (.int .u32 (n32 c)) ∧ w.drew.cell? ⟨g, 12, none⟩ = some (.int .u32 (n32 d)) := ⟨ca, cb, cc, cd⟩
 have b0 := h.drew
 have b1 := b0.set_ 0 (.int .u32 (n32 x))
 have b2 := b1.set_ 4 (.int .u32 (n32 y))
 have b3 := b2.set_ 8 (.int .u32 (n32 z))
 have b4 := b3.set_ 12 (.int .u32 (n32 u))
 rw [u32s_set] at b1
 rw [u32s_set, u32s_set] at b2
 rw [u32s_set, u32s_set, u32s_set] at b3
 rw [u32s_set, u32s_set, u32s_set, u32s_set] at b4
 have hB0 := And.intro ((b0.cell 0).trans (s16_get hs 0 (by omega))) (b0.frozen 0)
 have hB1 := And.intro ((b1.cell 4).trans (s16_get (by simpa using hs) 4 (by omega))) (b1.frozen 4)
 have hB2 := And.intro ((b2.cell 8).trans (s16_get (by simpa using hs) 8 (by omega))) (b2.frozen 8)
 have hB3 := And.intro ((b3.cell 12).trans (s16_get (by simpa using hs) 12 (by omega))) (b3.frozen 12)
 have HF := qh b4
 have HW := qh (((((Wrote.refl w g).drew.setCell 0 (.int .u32 (n32 x))).setCell 4 (.int .u32 (n32 y))).setCell 8 (.int .u32 (n32 z))).setCell 12 (.int .u32 (n32 u)))
 clear ha hb hc hd hq hs h b0 b1 b2 b3 b4
 go_enter Tryz.func183, Tryz.ntmps183
 refine region_K (by kernel_rfl) 36 (fun w' => w'.cell? ⟨g, 0, none⟩ = some (.int .u32 (n32 a)) ∧ w'.cell? ⟨g, 4, none⟩ = some (.int .u32 (n32 b)) ∧ w'.cell? ⟨g, 8, none⟩ = some (.int .u32 (n32 c)) ∧ w'.cell? ⟨g, 12, none⟩ = some (.int .u32 (n32 d))) ?_
 refine AnyK.pure 0 (v := .pointer (some ⟨g, 0, none⟩)) rfl (by kernel_rfl) (fun _ _ _ h => h) rfl (fun _ => by kernel_rfl) (fun _ => hT) ?_
 refine AnyK.pure 1 (v := .int .i64 0) rfl (by kernel_rfl) (fun _ _ _ h => h) rfl (fun _ => by kernel_rfl) (fun _ => hT) ?_
 refine AnyK.pure 2 (v := .pointer (some ⟨g, 0, none⟩)) rfl (by kernel_rfl) (fun _ _ _ h => h) rfl (fun _ => by kernel_rfl) (fun _ => hT) ?_
 refine AnyK.pure 3 (v := .int .i64 4) rfl (by kernel_rfl) (fun _ _ _ h => h) rfl (fun _ => by kernel_rfl) (fun _ => hT) ?_
 refine AnyK.pure 4 (v := .pointer (some ⟨g, 0, none⟩)) rfl (by kernel_rfl) (fun _ _ _ h => h) rfl (fun _ => by kernel_rfl) (fun _ => hT) ?_
 refine AnyK.pure 5 (v := .int .i64 8) rfl (by kernel_rfl) (fun _ _ _ h => h) rfl (fun _ => by kernel_rfl) (fun _ => hT) ?_
 refine AnyK.pure 6 (v := .pointer (some ⟨g, 0, none⟩)) rfl (by kernel_rfl) (fun _ _ _ h => h) rfl (fun _ => by kernel_rfl) (fun _ => hT) ?_
 refine AnyK.pure 7 (v := .int .i64 12) rfl (by kernel_rfl) (fun _ _ _ h => h) rfl (fun _ => by kernel_rfl) (fun _ => hT) ?_
 refine AnyK.pure 8 (v := .pointer (some ⟨g, 0, none⟩)) rfl (by kernel_rfl) (fun _ _ _ h => h) rfl (fun _ => by kernel_rfl) (fun _ => hT) ?_
 refine AnyK.pure 9 (v := .int .i64 0) rfl (by kernel_rfl) (fun _ _ _ h => h) rfl (fun _ => by kernel_rfl) (fun _ => hT) ?_
 refine AnyK.pure 10 (v := .pointer (some ⟨g, 0, none⟩)) rfl (by kernel_rfl) (fun _ _ _ h => h) rfl (fun _ => by kernel_rfl) (fun _ => hT) ?_
 refine AnyK.pure 11 (v := .pointer (some ⟨g, 0, none⟩)) rfl (by kernel_rfl) (fun _ _ _ h => h) rfl (fun _ => by kernel_rfl) (fun _ => hT) ?_
 refine AnyK.load 12 (v := .int .u32 (n32 a)) rfl (by kernel_rfl) (by kernel_rfl) (by kernel_rfl) (fun _ _ _ h => h) rfl (fun w' hw' => ex_load (t := 44) (x := .tmp 22) (p := ⟨g, 0, none⟩) (by rfl) (by kernel_rfl) agU32 hw'.1) hT ?_
 refine AnyK.pure 13 (v := .pointer (some ⟨g, 0, none⟩)) rfl (by kernel_rfl) (fun _ _ _ h => h) rfl (fun _ => by kernel_rfl) (fun _ => hT) ?_
 refine AnyK.pure 14 (v := .int .i64 4) rfl (by kernel_rfl) (fun _ _ _ h => h) rfl (fun _ => by kernel_rfl) (fun _ => hT) ?_
 refine AnyK.pure 15 (v := .pointer (some ⟨g, 0, none⟩)) rfl (by kernel_rfl) (fun _ _ _ h => h) rfl (fun _ => by kernel_rfl) (fun _ => hT) ?_
 refine AnyK.pure 16 (v := .pointer (some ⟨g, 4, none⟩)) rfl (by kernel_rfl) (fun _ _ _ h => h) rfl (fun _ => by kernel_rfl) (fun _ => hT) ?_
 refine AnyK.load 17 (v := .int .u32 (n32 b)) rfl (by kernel_rfl) (by kernel_rfl) (by kernel_rfl) (fun _ _ _ h => h) rfl (fun w' hw' => ex_load (t := 44) (x := .tmp 27) (p := ⟨g, 4, none⟩) (by rfl) (by kernel_rfl) agU32 hw'.2.1) hT ?_
 refine AnyK.pure 18 (v := .pointer (some ⟨g, 0, none⟩)) rfl (by kernel_rfl) (fun _ _ _ h => h) rfl (fun _ => by kernel_rfl) (fun _ => hT) ?_
 refine AnyK.pure 19 (v := .int .i64 8) rfl (by kernel_rfl) (fun _ _ _ h => h) rfl (fun _ => by kernel_rfl) (fun _ => hT) ?_
 refine AnyK.pure 20 (v := .pointer (some ⟨g, 0, none⟩)) rfl (by kernel_rfl) (fun _ _ _ h => h) rfl (fun _ => by kernel_rfl) (fun _ => hT) ?_
 refine AnyK.pure 21 (v := .pointer (some ⟨g, 8, none⟩)) rfl (by kernel_rfl) (fun _ _ _ h => h) rfl (fun _ => by kernel_rfl) (fun _ => hT) ?_
 refine AnyK.load 22 (v := .int .u32 (n32 c)) rfl (by kernel_rfl) (by kernel_rfl) (by kernel_rfl) (fun _ _ _ h => h) rfl (fun w' hw' => ex_load (t := 44) (x := .tmp 32) (p := ⟨g, 8, none⟩) (by rfl) (by kernel_rfl) agU32 hw'.2.2.1) hT ?_
 refine AnyK.pure 23 (v := .pointer (some ⟨g, 0, none⟩)) rfl (by kernel_rfl) (fun _ _ _ h => h) rfl (fun _ => by kernel_rfl) (fun _ => hT) ?_
 refine AnyK.pure 24 (v := .int .i64 12) rfl (by kernel_rfl) (fun _ _ _ h => h) rfl (fun _ => by kernel_rfl) (fun _ => hT) ?_
 refine AnyK.pure 25 (v := .pointer (some ⟨g, 0, none⟩)) rfl (by kernel_rfl) (fun _ _ _ h => h) rfl (fun _ => by kernel_rfl) (fun _ => hT) ?_
 refine AnyK.pure 26 (v := .pointer (some ⟨g, 12, none⟩)) rfl (by kernel_rfl) (fun _ _ _ h => h) rfl (fun _ => by kernel_rfl) (fun _ => hT) ?_
 refine AnyK.load 27 (v := .int .u32 (n32 d)) rfl (by kernel_rfl) (by kernel_rfl) (by kernel_rfl) (fun _ _ _ h => h) rfl (fun w' hw' => ex_load (t := 44) (x := .tmp 37) (p := ⟨g, 12, none⟩) (by rfl) (by kernel_rfl) agU32 hw'.2.2.2) hT ?_
 refine AnyK.pure 34 (v := .pointer (some ⟨g, 0, none⟩)) rfl (by kernel_rfl) (fun _ _ _ h => h) rfl (fun _ => by kernel_rfl) (fun _ => hT) ?_
 refine AnyK.pure 37 (v := .pointer (some ⟨g, 0, none⟩)) rfl (by kernel_rfl) (fun _ _ _ h => h) rfl (fun _ => by kernel_rfl) (fun _ => hT) ?_
 refine AnyK.pure 40 (v := .pointer (some ⟨g, 0, none⟩)) rfl (by kernel_rfl) (fun _ _ _ h => h) rfl (fun _ => by kernel_rfl) (fun _ => hT) ?_
 refine AnyK.pure 43 (v := .pointer (some ⟨g, 0, none⟩)) rfl (by kernel_rfl) (fun _ _ _ h => h) rfl (fun _ => by kernel_rfl) (fun _ => hT) ?_
 refine AnyK.enter 28 (d := some 39) (f := 192) (args := #[.int .u32 (n32 a), .int .u32 (n32 b), .int .u32 (n32 c), .int .u32 (n32 d)]) (by kernel_rfl) (by kernel_rfl) (by kernel_rfl) ?_
 refine (HQ.out _).mono ?_
 rintro e w' ⟨rfl, rfl⟩
 refine ⟨_, rfl, fun _ => hT, ?_⟩
 refine AnyK.pure 29 (v := .tuple #[.int .u32 (n32 x), .int .u32 (n32 y), .int .u32 (n32 z), .int .u32 (n32 u)]) rfl (by kernel_rfl) (fun _ _ _ h => h) rfl (fun _ => by kernel_rfl) (fun _ => hT) ?_
 refine AnyK.pure 30 (v := .int .u32 (n32 x)) rfl (by kernel_rfl) (fun _ _ _ h => h) rfl (fun _ => by kernel_rfl) (fun _ => hT) ?_
 refine AnyK.pure 31 (v := .int .u32 (n32 y)) rfl (by kernel_rfl) (fun _ _ _ h => h) rfl (fun _ => by kernel_rfl) (fun _ => hT) ?_
 refine AnyK.pure 32 (v := .int .u32 (n32 z)) rfl (by kernel_rfl) (fun _ _ _ h => h) rfl (fun _ => by kernel_rfl) (fun _ => hT) ?_
 refine AnyK.pure 33 (v := .int .u32 (n32 u)) rfl (by kernel_rfl) (fun _ _ _ h => h) rfl (fun _ => by kernel_rfl) (fun _ => hT) ?_
 refine AnyK.pure 35 (v := .pointer (some ⟨g, 0, none⟩)) rfl (by kernel_rfl) (fun _ _ _ h => h) rfl (fun _ => by kernel_rfl) (fun _ => hT) ?_
 refine AnyK.store 36 (d := none) (op := .store 44 (.tmp 45) (.tmp 40)) (by kernel_rfl) (fun o ho => ex_store (p := ⟨g, 0, none⟩) (k := .u32) (n := n32 x) ho (by kernel_rfl) (by kernel_rfl) szU32 hB0.1 hB0.2) (by kernel_rfl) (fun h => (by cases h)) ?_
 refine AnyK.pure 38 (v := .pointer (some ⟨g, 4, none⟩)) rfl (by kernel_rfl) (fun _ _ _ h => h) rfl (fun _ => by kernel_rfl) (fun h => (by cases h)) ?_
 refine AnyK.store 39 (d := none) (op := .store 44 (.tmp 47) (.tmp 41)) (by kernel_rfl) (fun o ho => ex_store (p := ⟨g, 4, none⟩) (k := .u32) (n := n32 y) ho (by kernel_rfl) (by kernel_rfl) szU32 hB1.1 hB1.2) (by kernel_rfl) (fun h => (by cases h)) ?_
 refine AnyK.pure 41 (v := .pointer (some ⟨g, 8, none⟩)) rfl (by kernel_rfl) (fun _ _ _ h => h) rfl (fun _ => by kernel_rfl) (fun h => (by cases h)) ?_
 refine AnyK.store 42 (d := none) (op := .store 44 (.tmp 49) (.tmp 42)) (by kernel_rfl) (fun o ho => ex_store (p := ⟨g, 8, none⟩) (k := .u32) (n := n32 z) ho (by kernel_rfl) (by kernel_rfl) szU32 hB2.1 hB2.2) (by kernel_rfl) (fun h => (by cases h)) ?_
 refine AnyK.pure 44 (v := .pointer (some ⟨g, 12, none⟩)) rfl (by kernel_rfl) (fun _ _ _ h => h) rfl (fun _ => by kernel_rfl) (fun h => (by cases h)) ?_
 refine AnyK.store 45 (d := none) (op := .store 44 (.tmp 51) (.tmp 43)) (by kernel_rfl) (fun o ho => ex_store (p := ⟨g, 12, none⟩) (k := .u32) (n := n32 u) ho (by kernel_rfl) (by kernel_rfl) szU32 hB3.1 hB3.2) (by kernel_rfl) (fun h => (by cases h)) ?_
 refine AnyK.done (by kernel_rfl) ?_
 go_end0
 exact ⟨rfl, by rw [HR.out]; exact HF.out, HW.out⟩
set_option maxRecDepth 100000 in
set_option maxHeartbeats 4000000 in
theorem round_1 (g : Nat) (t : TypeId) (s : List UInt32) (w : World) (h : Blk w g t (u32s s)) (hs : s.length = 16) :
   Calls Tryz.prog 183 #[.pointer (some ⟨g, 0, none⟩), .int .i64 1, .int .i64 5, .int .i64 9, .int .i64 13] w fun e w' => e = .returned (.tuple #[]) ∧ Blk w' g t (u32s (Ch.round s 1 5 9 13)) ∧ Wrote g w w' := by
 have ca := (h.cell 1).trans (s16_get hs 1 (by omega))
 have cb := (h.cell 5).trans (s16_get hs 5 (by omega))
 have cc := (h.cell 9).trans (s16_get hs 9 (by omega))
 have cd := (h.cell 13).trans (s16_get hs 13 (by omega))
 obtain ⟨a, ha⟩ : ∃ a, a = s.getD 1 0 := ⟨_, rfl⟩
 obtain ⟨b, hb⟩ : ∃ b, b = s.getD 5 0 := ⟨_, rfl⟩
 obtain ⟨c, hc⟩ : ∃ c, c = s.getD 9 0 := ⟨_, rfl⟩
 obtain ⟨d, hd⟩ : ∃ d, d = s.getD 13 0 := ⟨_, rfl⟩
 rcases hq : Ch.quarter a b c d with ⟨x, y, z, u⟩
 rw [← ha] at ca
 rw [← hb] at cb
 rw [← hc] at cc
 rw [← hd] at cd
 have HQ : Hid (∀ W : World, Calls Tryz.prog 192 #[.int .u32 (n32 a), .int .u32 (n32 b), .int .u32 (n32 c), .int .u32 (n32 d)] W fun e w' => e = .returned (.tuple #[.int .u32 (n32 x), .int .u32 (n32 y), .int .u32 (n32 z), .int .u32 (n32 u)]) ∧ W = w') := fun W => by
   have := quarter_any a b c d W
   rw [hq] at this
   exact this
 have HR : Hid (Ch.round s 1 5 9 13 = (((s.set 1 x).set 5 y).set 9 z).set 13 u) := by
   show _ = _
   unfold Ch.round
   rw [← ha, ← hb, ← hc, ← hd, hq]
 have HB := qh h
 have hT : w.drew.cell? ⟨g, 1, none⟩ = some (.int .u32 (n32 a)) ∧ w.drew.cell? ⟨g, 5, none⟩ = some (.int .u32 (n32 b)) ∧ w.drew.cell? ⟨g, 9, none⟩ = some (.int .u32 (n32 c)) ∧ w.drew.cell? ⟨g, 13, none⟩ = some (.int .u32 (n32 d)) := ⟨ca, cb, cc, cd⟩
 have b0 := h.drew
 have b1 := b0.set_ 1 (.int .u32 (n32 x))
 have b2 := b1.set_ 5 (.int .u32 (n32 y))
 have b3 := b2.set_ 9 (.int .u32 (n32 z))
 have b4 := b3.set_ 13 (.int .u32 (n32 u))
 rw [u32s_set] at b1
 rw [u32s_set, u32s_set] at b2
 rw [u32s_set, u32s_set, u32s_set] at b3
 rw [u32s_set, u32s_set, u32s_set, u32s_set] at b4
 have hB0 := And.intro ((b0.cell 1).trans (s16_get hs 1 (by omega))) (b0.frozen 1)
 have hB1 := And.intro ((b1.cell 5).trans (s16_get (by simpa using hs) 5 (by omega))) (b1.frozen 5)
 have hB2 := And.intro ((b2.cell 9).trans (s16_get (by simpa using hs) 9 (by omega))) (b2.frozen 9)
 have hB3 := And.intro ((b3.cell 13).trans (s16_get (by simpa using hs) 13 (by omega))) (b3.frozen 13)
 have HF := qh b4
 have HW := qh (((((Wrote.refl w g).drew.setCell 1 (.int .u32 (n32 x))).setCell 5 (.int .u32 (n32 y))).setCell 9 (.int .u32 (n32 z))).setCell 13 (.int .u32 (n32 u)))
 clear ha hb hc hd hq hs h b0 b1 b2 b3 b4
 go_enter Tryz.func183, Tryz.ntmps183
 refine region_K (by kernel_rfl) 36 (fun w' => w'.cell? ⟨g, 1, none⟩ = some (.int .u32 (n32 a)) ∧ w'.cell? ⟨g, 5, none⟩ = some (.int .u32 (n32 b)) ∧ w'.cell? ⟨g, 9, none⟩ = some (.int .u32 (n32 c)) ∧ w'.cell? ⟨g, 13, none⟩ = some (.int .u32 (n32 d))) ?_
 refine AnyK.pure 0 (v := .pointer (some ⟨g, 0, none⟩)) rfl (by kernel_rfl) (fun _ _ _ h => h) rfl (fun _ => by kernel_rfl) (fun _ => hT) ?_
 refine AnyK.pure 1 (v := .int .i64 1) rfl (by kernel_rfl) (fun _ _ _ h => h) rfl (fun _ => by kernel_rfl) (fun _ => hT) ?_
 refine AnyK.pure 2 (v := .pointer (some ⟨g, 0, none⟩)) rfl (by kernel_rfl) (fun _ _ _ h => h) rfl (fun _ => by kernel_rfl) (fun _ => hT) ?_
 refine AnyK.pure 3 (v := .int .i64 5) rfl (by kernel_rfl) (fun _ _ _ h => h) rfl (fun _ => by kernel_rfl) (fun _ => hT) ?_
 refine AnyK.pure 4 (v := .pointer (some ⟨g, 0, none⟩)) rfl (by kernel_rfl) (fun _ _ _ h => h) rfl (fun _ => by kernel_rfl) (fun _ => hT) ?_
 refine AnyK.pure 5 (v := .int .i64 9) rfl (by kernel_rfl) (fun _ _ _ h => h) rfl (fun _ => by kernel_rfl) (fun _ => hT) ?_
 refine AnyK.pure 6 (v := .pointer (some ⟨g, 0, none⟩)) rfl (by kernel_rfl) (fun _ _ _ h => h) rfl (fun _ => by kernel_rfl) (fun _ => hT) ?_
 refine AnyK.pure 7 (v := .int .i64 13) rfl (by kernel_rfl) (fun _ _ _ h => h) rfl (fun _ => by kernel_rfl) (fun _ => hT) ?_
 refine AnyK.pure 8 (v := .pointer (some ⟨g, 0, none⟩)) rfl (by kernel_rfl) (fun _ _ _ h => h) rfl (fun _ => by kernel_rfl) (fun _ => hT) ?_
 refine AnyK.pure 9 (v := .int .i64 1) rfl (by kernel_rfl) (fun _ _ _ h => h) rfl (fun _ => by kernel_rfl) (fun _ => hT) ?_
 refine AnyK.pure 10 (v := .pointer (some ⟨g, 0, none⟩)) rfl (by kernel_rfl) (fun _ _ _ h => h) rfl (fun _ => by kernel_rfl) (fun _ => hT) ?_
 refine AnyK.pure 11 (v := .pointer (some ⟨g, 1, none⟩)) rfl (by kernel_rfl) (fun _ _ _ h => h) rfl (fun _ => by kernel_rfl) (fun _ => hT) ?_
 refine AnyK.load 12 (v := .int .u32 (n32 a)) rfl (by kernel_rfl) (by kernel_rfl) (by kernel_rfl) (fun _ _ _ h => h) rfl (fun w' hw' => ex_load (t := 44) (x := .tmp 22) (p := ⟨g, 1, none⟩) (by rfl) (by kernel_rfl) agU32 hw'.1) hT ?_
 refine AnyK.pure 13 (v := .pointer (some ⟨g, 0, none⟩)) rfl (by kernel_rfl) (fun _ _ _ h => h) rfl (fun _ => by kernel_rfl) (fun _ => hT) ?_
 refine AnyK.pure 14 (v := .int .i64 5) rfl (by kernel_rfl) (fun _ _ _ h => h) rfl (fun _ => by kernel_rfl) (fun _ => hT) ?_
 refine AnyK.pure 15 (v := .pointer (some ⟨g, 0, none⟩)) rfl (by kernel_rfl) (fun _ _ _ h => h) rfl (fun _ => by kernel_rfl) (fun _ => hT) ?_
 refine AnyK.pure 16 (v := .pointer (some ⟨g, 5, none⟩)) rfl (by kernel_rfl) (fun _ _ _ h => h) rfl (fun _ => by kernel_rfl) (fun _ => hT) ?_
 refine AnyK.load 17 (v := .int .u32 (n32 b)) rfl (by kernel_rfl) (by kernel_rfl) (by kernel_rfl) (fun _ _ _ h => h) rfl (fun w' hw' => ex_load (t := 44) (x := .tmp 27) (p := ⟨g, 5, none⟩) (by rfl) (by kernel_rfl) agU32 hw'.2.1) hT ?_
 refine AnyK.pure 18 (v := .pointer (some ⟨g, 0, none⟩)) rfl (by kernel_rfl) (fun _ _ _ h => h) rfl (fun _ => by kernel_rfl) (fun _ => hT) ?_
 refine AnyK.pure 19 (v := .int .i64 9) rfl (by kernel_rfl) (fun _ _ _ h => h) rfl (fun _ => by kernel_rfl) (fun _ => hT) ?_
 refine AnyK.pure 20 (v := .pointer (some ⟨g, 0, none⟩)) rfl (by kernel_rfl) (fun _ _ _ h => h) rfl (fun _ => by kernel_rfl) (fun _ => hT) ?_
 refine AnyK.pure 21 (v := .pointer (some ⟨g, 9, none⟩)) rfl (by kernel_rfl) (fun _ _ _ h => h) rfl (fun _ => by kernel_rfl) (fun _ => hT) ?_
 refine AnyK.load 22 (v := .int .u32 (n32 c)) rfl (by kernel_rfl) (by kernel_rfl) (by kernel_rfl) (fun _ _ _ h => h) rfl (fun w' hw' => ex_load (t := 44) (x := .tmp 32) (p := ⟨g, 9, none⟩) (by rfl) (by kernel_rfl) agU32 hw'.2.2.1) hT ?_
 refine AnyK.pure 23 (v := .pointer (some ⟨g, 0, none⟩)) rfl (by kernel_rfl) (fun _ _ _ h => h) rfl (fun _ => by kernel_rfl) (fun _ => hT) ?_
 refine AnyK.pure 24 (v := .int .i64 13) rfl (by kernel_rfl) (fun _ _ _ h => h) rfl (fun _ => by kernel_rfl) (fun _ => hT) ?_
 refine AnyK.pure 25 (v := .pointer (some ⟨g, 0, none⟩)) rfl (by kernel_rfl) (fun _ _ _ h => h) rfl (fun _ => by kernel_rfl) (fun _ => hT) ?_
 refine AnyK.pure 26 (v := .pointer (some ⟨g, 13, none⟩)) rfl (by kernel_rfl) (fun _ _ _ h => h) rfl (fun _ => by kernel_rfl) (fun _ => hT) ?_
 refine AnyK.load 27 (v := .int .u32 (n32 d)) rfl (by kernel_rfl) (by kernel_rfl) (by kernel_rfl) (fun _ _ _ h => h) rfl (fun w' hw' => ex_load (t := 44) (x := .tmp 37) (p := ⟨g, 13, none⟩) (by rfl) (by kernel_rfl) agU32 hw'.2.2.2) hT ?_
 refine AnyK.pure 34 (v := .pointer (some ⟨g, 0, none⟩)) rfl (by kernel_rfl) (fun _ _ _ h => h) rfl (fun _ => by kernel_rfl) (fun _ => hT) ?_
 refine AnyK.pure 37 (v := .pointer (some ⟨g, 0, none⟩)) rfl (by kernel_rfl) (fun _ _ _ h => h) rfl (fun _ => by kernel_rfl) (fun _ => hT) ?_
 refine AnyK.pure 40 (v := .pointer (some ⟨g, 0, none⟩)) rfl (by kernel_rfl) (fun _ _ _ h => h) rfl (fun _ => by kernel_rfl) (fun _ => hT) ?_
 refine AnyK.pure 43 (v := .pointer (some ⟨g, 0, none⟩)) rfl (by kernel_rfl) (fun _ _ _ h => h) rfl (fun _ => by kernel_rfl) (fun _ => hT) ?_
 refine AnyK.enter 28 (d := some 39) (f := 192) (args := #[.int .u32 (n32 a), .int .u32 (n32 b), .int .u32 (n32 c), .int .u32 (n32 d)]) (by kernel_rfl) (by kernel_rfl) (by kernel_rfl) ?_
 refine (HQ.out _).mono ?_
 rintro e w' ⟨rfl, rfl⟩
 refine ⟨_, rfl, fun _ => hT, ?_⟩
 refine AnyK.pure 29 (v := .tuple #[.int .u32 (n32 x), .int .u32 (n32 y), .int .u32 (n32 z), .int .u32 (n32 u)]) rfl (by kernel_rfl) (fun _ _ _ h => h) rfl (fun _ => by kernel_rfl) (fun _ => hT) ?_
 refine AnyK.pure 30 (v := .int .u32 (n32 x)) rfl (by kernel_rfl) (fun _ _ _ h => h) rfl (fun _ => by kernel_rfl) (fun _ => hT) ?_
 refine AnyK.pure 31 (v := .int .u32 (n32 y)) rfl (by kernel_rfl) (fun _ _ _ h => h) rfl (fun _ => by kernel_rfl) (fun _ => hT) ?_
 refine AnyK.pure 32 (v := .int .u32 (n32 z)) rfl (by kernel_rfl) (fun _ _ _ h => h) rfl (fun _ => by kernel_rfl) (fun _ => hT) ?_
 refine AnyK.pure 33 (v := .int .u32 (n32 u)) rfl (by kernel_rfl) (fun _ _ _ h => h) rfl (fun _ => by kernel_rfl) (fun _ => hT) ?_
 refine AnyK.pure 35 (v := .pointer (some ⟨g, 1, none⟩)) rfl (by kernel_rfl) (fun _ _ _ h => h) rfl (fun _ => by kernel_rfl) (fun _ => hT) ?_
 refine AnyK.store 36 (d := none) (op := .store 44 (.tmp 45) (.tmp 40)) (by kernel_rfl) (fun o ho => ex_store (p := ⟨g, 1, none⟩) (k := .u32) (n := n32 x) ho (by kernel_rfl) (by kernel_rfl) szU32 hB0.1 hB0.2) (by kernel_rfl) (fun h => (by cases h)) ?_
 refine AnyK.pure 38 (v := .pointer (some ⟨g, 5, none⟩)) rfl (by kernel_rfl) (fun _ _ _ h => h) rfl (fun _ => by kernel_rfl) (fun h => (by cases h)) ?_
 refine AnyK.store 39 (d := none) (op := .store 44 (.tmp 47) (.tmp 41)) (by kernel_rfl) (fun o ho => ex_store (p := ⟨g, 5, none⟩) (k := .u32) (n := n32 y) ho (by kernel_rfl) (by kernel_rfl) szU32 hB1.1 hB1.2) (by kernel_rfl) (fun h => (by cases h)) ?_
 refine AnyK.pure 41 (v := .pointer (some ⟨g, 9, none⟩)) rfl (by kernel_rfl) (fun _ _ _ h => h) rfl (fun _ => by kernel_rfl) (fun h => (by cases h)) ?_
 refine AnyK.store 42 (d := none) (op := .store 44 (.tmp 49) (.tmp 42)) (by kernel_rfl) (fun o ho => ex_store (p := ⟨g, 9, none⟩) (k := .u32) (n := n32 z) ho (by kernel_rfl) (by kernel_rfl) szU32 hB2.1 hB2.2) (by kernel_rfl) (fun h => (by cases h)) ?_
 refine AnyK.pure 44 (v := .pointer (some ⟨g, 13, none⟩)) rfl (by kernel_rfl) (fun _ _ _ h => h) rfl (fun _ => by kernel_rfl) (fun h => (by cases h)) ?_
 refine AnyK.store 45 (d := none) (op := .store 44 (.tmp 51) (.tmp 43)) (by kernel_rfl) (fun o ho => ex_store (p := ⟨g, 13, none⟩) (k := .u32) (n := n32 u) ho (by kernel_rfl) (by kernel_rfl) szU32 hB3.1 hB3.2) (by kernel_rfl) (fun h => (by cases h)) ?_
 refine AnyK.done (by kernel_rfl) ?_
 go_end0
 exact ⟨rfl, by rw [HR.out]; exact HF.out, HW.out⟩
set_option maxRecDepth 100000 in
set_option maxHeartbeats 4000000 in
theorem round_2 (g : Nat) (t : TypeId) (s : List UInt32) (w : World) (h : Blk w g t (u32s s)) (hs : s.length = 16) :
   Calls Tryz.prog 183 #[.pointer (some ⟨g, 0, none⟩), .int .i64 2, .int .i64 6, .int .i64 10, .int .i64 14] w fun e w' => e = .returned (.tuple #[]) ∧ Blk w' g t (u32s (Ch.round s 2 6 10 14)) ∧ Wrote g w w' := by
 have ca := (h.cell 2).trans (s16_get hs 2 (by omega))
 have cb := (h.cell 6).trans (s16_get hs 6 (by omega))
 have cc := (h.cell 10).trans (s16_get hs 10 (by omega))
 have cd := (h.cell 14).trans (s16_get hs 14 (by omega))
 obtain ⟨a, ha⟩ : ∃ a, a = s.getD 2 0 := ⟨_, rfl⟩
 obtain ⟨b, hb⟩ : ∃ b, b = s.getD 6 0 := ⟨_, rfl⟩
 obtain ⟨c, hc⟩ : ∃ c, c = s.getD 10 0 := ⟨_, rfl⟩
 obtain ⟨d, hd⟩ : ∃ d, d = s.getD 14 0 := ⟨_, rfl⟩
 rcases hq : Ch.quarter a b c d with ⟨x, y, z, u⟩
 rw [← ha] at ca
 rw [← hb] at cb
 rw [← hc] at cc
 rw [← hd] at cd
 have HQ : Hid (∀ W : World, Calls Tryz.prog 192 #[.int .u32 (n32 a), .int .u32 (n32 b), .int .u32 (n32 c), .int .u32 (n32 d)] W fun e w' => e = .returned (.tuple #[.int .u32 (n32 x), .int .u32 (n32 y), .int .u32 (n32 z), .int .u32 (n32 u)]) ∧ W = w') := fun W => by
   have := quarter_any a b c d W
   rw [hq] at this
   exact this
 have HR : Hid (Ch.round s 2 6 10 14 = (((s.set 2 x).set 6 y).set 10 z).set 14 u) := by
   show _ = _
   unfold Ch.round
   rw [← ha, ← hb, ← hc, ← hd, hq]
 have HB := qh h
 have hT : w.drew.cell? ⟨g, 2, none⟩ = some (.int .u32 (n32 a)) ∧ w.drew.cell? ⟨g, 6, none⟩ = some (.int .u32 (n32 b)) ∧ w.drew.cell? ⟨g, 10, none⟩ = some (.int .u32 (n32 c)) ∧ w.drew.cell? ⟨g, 14, none⟩ = some (.int .u32 (n32 d)) := ⟨ca, cb, cc, cd⟩
 have b0 := h.drew
 have b1 := b0.set_ 2 (.int .u32 (n32 x))
 have b2 := b1.set_ 6 (.int .u32 (n32 y))
 have b3 := b2.set_ 10 (.int .u32 (n32 z))
 have b4 := b3.set_ 14 (.int .u32 (n32 u))
 rw [u32s_set] at b1
 rw [u32s_set, u32s_set] at b2
 rw [u32s_set, u32s_set, u32s_set] at b3
 rw [u32s_set, u32s_set, u32s_set, u32s_set] at b4
 have hB0 := And.intro ((b0.cell 2).trans (s16_get hs 2 (by omega))) (b0.frozen 2)
 have hB1 := And.intro ((b1.cell 6).trans (s16_get (by simpa using hs) 6 (by omega))) (b1.frozen 6)
 have hB2 := And.intro ((b2.cell 10).trans (s16_get (by simpa using hs) 10 (by omega))) (b2.frozen 10)
 have hB3 := And.intro ((b3.cell 14).trans (s16_get (by simpa using hs) 14 (by omega))) (b3.frozen 14)
 have HF := qh b4
 have HW := qh (((((Wrote.refl w g).drew.setCell 2 (.int .u32 (n32 x))).setCell 6 (.int .u32 (n32 y))).setCell 10 (.int .u32 (n32 z))).setCell 14 (.int .u32 (n32 u)))
 clear ha hb hc hd hq hs h b0 b1 b2 b3 b4
 go_enter Tryz.func183, Tryz.ntmps183
 refine region_K (by kernel_rfl) 36 (fun w' => w'.cell? ⟨g, 2, none⟩ = some (.int .u32 (n32 a)) ∧ w'.cell? ⟨g, 6, none⟩ = some (.int .u32 (n32 b)) ∧ w'.cell? ⟨g, 10, none⟩ = some (.int .u32 (n32 c)) ∧ w'.cell? ⟨g, 14, none⟩ = some (.int .u32 (n32 d))) ?_
 refine AnyK.pure 0 (v := .pointer (some ⟨g, 0, none⟩)) rfl (by kernel_rfl) (fun _ _ _ h => h) rfl (fun _ => by kernel_rfl) (fun _ => hT) ?_
 refine AnyK.pure 1 (v := .int .i64 2) rfl (by kernel_rfl) (fun _ _ _ h => h) rfl (fun _ => by kernel_rfl) (fun _ => hT) ?_
 refine AnyK.pure 2 (v := .pointer (some ⟨g, 0, none⟩)) rfl (by kernel_rfl) (fun _ _ _ h => h) rfl (fun _ => by kernel_rfl) (fun _ => hT) ?_
 refine AnyK.pure 3 (v := .int .i64 6) rfl (by kernel_rfl) (fun _ _ _ h => h) rfl (fun _ => by kernel_rfl) (fun _ => hT) ?_
 refine AnyK.pure 4 (v := .pointer (some ⟨g, 0, none⟩)) rfl (by kernel_rfl) (fun _ _ _ h => h) rfl (fun _ => by kernel_rfl) (fun _ => hT) ?_
 refine AnyK.pure 5 (v := .int .i64 10) rfl (by kernel_rfl) (fun _ _ _ h => h) rfl (fun _ => by kernel_rfl) (fun _ => hT) ?_
 refine AnyK.pure 6 (v := .pointer (some ⟨g, 0, none⟩)) rfl (by kernel_rfl) (fun _ _ _ h => h) rfl (fun _ => by kernel_rfl) (fun _ => hT) ?_
 refine AnyK.pure 7 (v := .int .i64 14) rfl (by kernel_rfl) (fun _ _ _ h => h) rfl (fun _ => by kernel_rfl) (fun _ => hT) ?_
 refine AnyK.pure 8 (v := .pointer (some ⟨g, 0, none⟩)) rfl (by kernel_rfl) (fun _ _ _ h => h) rfl (fun _ => by kernel_rfl) (fun _ => hT) ?_
 refine AnyK.pure 9 (v := .int .i64 2) rfl (by kernel_rfl) (fun _ _ _ h => h) rfl (fun _ => by kernel_rfl) (fun _ => hT) ?_
 refine AnyK.pure 10 (v := .pointer (some ⟨g, 0, none⟩)) rfl (by kernel_rfl) (fun _ _ _ h => h) rfl (fun _ => by kernel_rfl) (fun _ => hT) ?_
 refine AnyK.pure 11 (v := .pointer (some ⟨g, 2, none⟩)) rfl (by kernel_rfl) (fun _ _ _ h => h) rfl (fun _ => by kernel_rfl) (fun _ => hT) ?_
 refine AnyK.load 12 (v := .int .u32 (n32 a)) rfl (by kernel_rfl) (by kernel_rfl) (by kernel_rfl) (fun _ _ _ h => h) rfl (fun w' hw' => ex_load (t := 44) (x := .tmp 22) (p := ⟨g, 2, none⟩) (by rfl) (by kernel_rfl) agU32 hw'.1) hT ?_
 refine AnyK.pure 13 (v := .pointer (some ⟨g, 0, none⟩)) rfl (by kernel_rfl) (fun _ _ _ h => h) rfl (fun _ => by kernel_rfl) (fun _ => hT) ?_
 refine AnyK.pure 14 (v := .int .i64 6) rfl (by kernel_rfl) (fun _ _ _ h => h) rfl (fun _ => by kernel_rfl) (fun _ => hT) ?_
 refine AnyK.pure 15 (v := .pointer (some ⟨g, 0, none⟩)) rfl (by kernel_rfl) (fun _ _ _ h => h) rfl (fun _ => by kernel_rfl) (fun _ => hT) ?_
 refine AnyK.pure 16 (v := .pointer (some ⟨g, 6, none⟩)) rfl (by kernel_rfl) (fun _ _ _ h => h) rfl (fun _ => by kernel_rfl) (fun _ => hT) ?_
 refine AnyK.load 17 (v := .int .u32 (n32 b)) rfl (by kernel_rfl) (by kernel_rfl) (by kernel_rfl) (fun _ _ _ h => h) rfl (fun w' hw' => ex_load (t := 44) (x := .tmp 27) (p := ⟨g, 6, none⟩) (by rfl) (by kernel_rfl) agU32 hw'.2.1) hT ?_
 refine AnyK.pure 18 (v := .pointer (some ⟨g, 0, none⟩)) rfl (by kernel_rfl) (fun _ _ _ h => h) rfl (fun _ => by kernel_rfl) (fun _ => hT) ?_
 refine AnyK.pure 19 (v := .int .i64 10) rfl (by kernel_rfl) (fun _ _ _ h => h) rfl (fun _ => by kernel_rfl) (fun _ => hT) ?_
 refine AnyK.pure 20 (v := .pointer (some ⟨g, 0, none⟩)) rfl (by kernel_rfl) (fun _ _ _ h => h) rfl (fun _ => by kernel_rfl) (fun _ => hT) ?_
 refine AnyK.pure 21 (v := .pointer (some ⟨g, 10, none⟩)) rfl (by kernel_rfl) (fun _ _ _ h => h) rfl (fun _ => by kernel_rfl) (fun _ => hT) ?_
 refine AnyK.load 22 (v := .int .u32 (n32 c)) rfl (by kernel_rfl) (by kernel_rfl) (by kernel_rfl) (fun _ _ _ h => h) rfl (fun w' hw' => ex_load (t := 44) (x := .tmp 32) (p := ⟨g, 10, none⟩) (by rfl) (by kernel_rfl) agU32 hw'.2.2.1) hT ?_
 refine AnyK.pure 23 (v := .pointer (some ⟨g, 0, none⟩)) rfl (by kernel_rfl) (fun _ _ _ h => h) rfl (fun _ => by kernel_rfl) (fun _ => hT) ?_
 refine AnyK.pure 24 (v := .int .i64 14) rfl (by kernel_rfl) (fun _ _ _ h => h) rfl (fun _ => by kernel_rfl) (fun _ => hT) ?_
 refine AnyK.pure 25 (v := .pointer (some ⟨g, 0, none⟩)) rfl (by kernel_rfl) (fun _ _ _ h => h) rfl (fun _ => by kernel_rfl) (fun _ => hT) ?_
 refine AnyK.pure 26 (v := .pointer (some ⟨g, 14, none⟩)) rfl (by kernel_rfl) (fun _ _ _ h => h) rfl (fun _ => by kernel_rfl) (fun _ => hT) ?_
 refine AnyK.load 27 (v := .int .u32 (n32 d)) rfl (by kernel_rfl) (by kernel_rfl) (by kernel_rfl) (fun _ _ _ h => h) rfl (fun w' hw' => ex_load (t := 44) (x := .tmp 37) (p := ⟨g, 14, none⟩) (by rfl) (by kernel_rfl) agU32 hw'.2.2.2) hT ?_
 refine AnyK.pure 34 (v := .pointer (some ⟨g, 0, none⟩)) rfl (by kernel_rfl) (fun _ _ _ h => h) rfl (fun _ => by kernel_rfl) (fun _ => hT) ?_
 refine AnyK.pure 37 (v := .pointer (some ⟨g, 0, none⟩)) rfl (by kernel_rfl) (fun _ _ _ h => h) rfl (fun _ => by kernel_rfl) (fun _ => hT) ?_
 refine AnyK.pure 40 (v := .pointer (some ⟨g, 0, none⟩)) rfl (by kernel_rfl) (fun _ _ _ h => h) rfl (fun _ => by kernel_rfl) (fun _ => hT) ?_
 refine AnyK.pure 43 (v := .pointer (some ⟨g, 0, none⟩)) rfl (by kernel_rfl) (fun _ _ _ h => h) rfl (fun _ => by kernel_rfl) (fun _ => hT) ?_
 refine AnyK.enter 28 (d := some 39) (f := 192) (args := #[.int .u32 (n32 a), .int .u32 (n32 b), .int .u32 (n32 c), .int .u32 (n32 d)]) (by kernel_rfl) (by kernel_rfl) (by kernel_rfl) ?_
 refine (HQ.out _).mono ?_
 rintro e w' ⟨rfl, rfl⟩
 refine ⟨_, rfl, fun _ => hT, ?_⟩
 refine AnyK.pure 29 (v := .tuple #[.int .u32 (n32 x), .int .u32 (n32 y), .int .u32 (n32 z), .int .u32 (n32 u)]) rfl (by kernel_rfl) (fun _ _ _ h => h) rfl (fun _ => by kernel_rfl) (fun _ => hT) ?_
 refine AnyK.pure 30 (v := .int .u32 (n32 x)) rfl (by kernel_rfl) (fun _ _ _ h => h) rfl (fun _ => by kernel_rfl) (fun _ => hT) ?_
 refine AnyK.pure 31 (v := .int .u32 (n32 y)) rfl (by kernel_rfl) (fun _ _ _ h => h) rfl (fun _ => by kernel_rfl) (fun _ => hT) ?_
 refine AnyK.pure 32 (v := .int .u32 (n32 z)) rfl (by kernel_rfl) (fun _ _ _ h => h) rfl (fun _ => by kernel_rfl) (fun _ => hT) ?_
 refine AnyK.pure 33 (v := .int .u32 (n32 u)) rfl (by kernel_rfl) (fun _ _ _ h => h) rfl (fun _ => by kernel_rfl) (fun _ => hT) ?_
 refine AnyK.pure 35 (v := .pointer (some ⟨g, 2, none⟩)) rfl (by kernel_rfl) (fun _ _ _ h => h) rfl (fun _ => by kernel_rfl) (fun _ => hT) ?_
 refine AnyK.store 36 (d := none) (op := .store 44 (.tmp 45) (.tmp 40)) (by kernel_rfl) (fun o ho => ex_store (p := ⟨g, 2, none⟩) (k := .u32) (n := n32 x) ho (by kernel_rfl) (by kernel_rfl) szU32 hB0.1 hB0.2) (by kernel_rfl) (fun h => (by cases h)) ?_
 refine AnyK.pure 38 (v := .pointer (some ⟨g, 6, none⟩)) rfl (by kernel_rfl) (fun _ _ _ h => h) rfl (fun _ => by kernel_rfl) (fun h => (by cases h)) ?_
 refine AnyK.store 39 (d := none) (op := .store 44 (.tmp 47) (.tmp 41)) (by kernel_rfl) (fun o ho => ex_store (p := ⟨g, 6, none⟩) (k := .u32) (n := n32 y) ho (by kernel_rfl) (by kernel_rfl) szU32 hB1.1 hB1.2) (by kernel_rfl) (fun h => (by cases h)) ?_
 refine AnyK.pure 41 (v := .pointer (some ⟨g, 10, none⟩)) rfl (by kernel_rfl) (fun _ _ _ h => h) rfl (fun _ => by kernel_rfl) (fun h => (by cases h)) ?_
 refine AnyK.store 42 (d := none) (op := .store 44 (.tmp 49) (.tmp 42)) (by kernel_rfl) (fun o ho => ex_store (p := ⟨g, 10, none⟩) (k := .u32) (n := n32 z) ho (by kernel_rfl) (by kernel_rfl) szU32 hB2.1 hB2.2) (by kernel_rfl) (fun h => (by cases h)) ?_
 refine AnyK.pure 44 (v := .pointer (some ⟨g, 14, none⟩)) rfl (by kernel_rfl) (fun _ _ _ h => h) rfl (fun _ => by kernel_rfl) (fun h => (by cases h)) ?_
 refine AnyK.store 45 (d := none) (op := .store 44 (.tmp 51) (.tmp 43)) (by kernel_rfl) (fun o ho => ex_store (p := ⟨g, 14, none⟩) (k := .u32) (n := n32 u) ho (by kernel_rfl) (by kernel_rfl) szU32 hB3.1 hB3.2) (by kernel_rfl) (fun h => (by cases h)) ?_
 refine AnyK.done (by kernel_rfl) ?_
 go_end0
 exact ⟨rfl, by rw [HR.out]; exact HF.out, HW.out⟩
set_option maxRecDepth 100000 in
set_option maxHeartbeats 4000000 in
theorem round_3 (g : Nat) (t : TypeId) (s : List UInt32) (w : World) (h : Blk w g t (u32s s)) (hs : s.length = 16) :
   Calls Tryz.prog 183 #[.pointer (some ⟨g, 0, none⟩), .int .i64 3, .int .i64 7, .int .i64 11, .int .i64 15] w fun e w' => e = .returned (.tuple #[]) ∧ Blk w' g t (u32s (Ch.round s 3 7 11 15)) ∧ Wrote g w w' := by
 have ca := (h.cell 3).trans (s16_get hs 3 (by omega))
 have cb := (h.cell 7).trans (s16_get hs 7 (by omega))
 have cc := (h.cell 11).trans (s16_get hs 11 (by omega))
 have cd := (h.cell 15).trans (s16_get hs 15 (by omega))
 obtain ⟨a, ha⟩ : ∃ a, a = s.getD 3 0 := ⟨_, rfl⟩
 obtain ⟨b, hb⟩ : ∃ b, b = s.getD 7 0 := ⟨_, rfl⟩
 obtain ⟨c, hc⟩ : ∃ c, c = s.getD 11 0 := ⟨_, rfl⟩
 obtain ⟨d, hd⟩ : ∃ d, d = s.getD 15 0 := ⟨_, rfl⟩
 rcases hq : Ch.quarter a b c d with ⟨x, y, z, u⟩
 rw [← ha] at ca
 rw [← hb] at cb
 rw [← hc] at cc
 rw [← hd] at cd
 have HQ : Hid (∀ W : World, Calls Tryz.prog 192 #[.int .u32 (n32 a), .int .u32 (n32 b), .int .u32 (n32 c), .int .u32 (n32 d)] W fun e w' => e = .returned (.tuple #[.int .u32 (n32 x), .int .u32 (n32 y), .int .u32 (n32 z), .int .u32 (n32 u)]) ∧ W = w') := fun W => by
   have := quarter_any a b c d W
   rw [hq] at this
   exact this
 have HR : Hid (Ch.round s 3 7 11 15 = (((s.set 3 x).set 7 y).set 11 z).set 15 u) := by
   show _ = _
   unfold Ch.round
   rw [← ha, ← hb, ← hc, ← hd, hq]
 have HB := qh h
 have hT : w.drew.cell? ⟨g, 3, none⟩ = some (.int .u32 (n32 a)) ∧ w.drew.cell? ⟨g, 7, none⟩ = some (.int .u32 (n32 b)) ∧ w.drew.cell? ⟨g, 11, none⟩ = some (.int .u32 (n32 c)) ∧ w.drew.cell? ⟨g, 15, none⟩ = some (.int .u32 (n32 d)) := ⟨ca, cb, cc, cd⟩
 have b0 := h.drew
 have b1 := b0.set_ 3 (.int .u32 (n32 x))
 have b2 := b1.set_ 7 (.int .u32 (n32 y))
 have b3 := b2.set_ 11 (.int .u32 (n32 z))
 have b4 := b3.set_ 15 (.int .u32 (n32 u))
 rw [u32s_set] at b1
 rw [u32s_set, u32s_set] at b2
 rw [u32s_set, u32s_set, u32s_set] at b3
 rw [u32s_set, u32s_set, u32s_set, u32s_set] at b4
 have hB0 := And.intro ((b0.cell 3).trans (s16_get hs 3 (by omega))) (b0.frozen 3)
 have hB1 := And.intro ((b1.cell 7).trans (s16_get (by simpa using hs) 7 (by omega))) (b1.frozen 7)
 have hB2 := And.intro ((b2.cell 11).trans (s16_get (by simpa using hs) 11 (by omega))) (b2.frozen 11)
 have hB3 := And.intro ((b3.cell 15).trans (s16_get (by simpa using hs) 15 (by omega))) (b3.frozen 15)
 have HF := qh b4
 have HW := qh (((((Wrote.refl w g).drew.setCell 3 (.int .u32 (n32 x))).setCell 7 (.int .u32 (n32 y))).setCell 11 (.int .u32 (n32 z))).setCell 15 (.int .u32 (n32 u)))
 clear ha hb hc hd hq hs h b0 b1 b2 b3 b4
 go_enter Tryz.func183, Tryz.ntmps183
 refine region_K (by kernel_rfl) 36 (fun w' => w'.cell? ⟨g, 3, none⟩ = some (.int .u32 (n32 a)) ∧ w'.cell? ⟨g, 7, none⟩ = some (.int .u32 (n32 b)) ∧ w'.cell? ⟨g, 11, none⟩ = some (.int .u32 (n32 c)) ∧ w'.cell? ⟨g, 15, none⟩ = some (.int .u32 (n32 d))) ?_
 refine AnyK.pure 0 (v := .pointer (some ⟨g, 0, none⟩)) rfl (by kernel_rfl) (fun _ _ _ h => h) rfl (fun _ => by kernel_rfl) (fun _ => hT) ?_
 refine AnyK.pure 1 (v := .int .i64 3) rfl (by kernel_rfl) (fun _ _ _ h => h) rfl (fun _ => by kernel_rfl) (fun _ => hT) ?_
 refine AnyK.pure 2 (v := .pointer (some ⟨g, 0, none⟩)) rfl (by kernel_rfl) (fun _ _ _ h => h) rfl (fun _ => by kernel_rfl) (fun _ => hT) ?_
 refine AnyK.pure 3 (v := .int .i64 7) rfl (by kernel_rfl) (fun _ _ _ h => h) rfl (fun _ => by kernel_rfl) (fun _ => hT) ?_
 refine AnyK.pure 4 (v := .pointer (some ⟨g, 0, none⟩)) rfl (by kernel_rfl) (fun _ _ _ h => h) rfl (fun _ => by kernel_rfl) (fun _ => hT) ?_
 refine AnyK.pure 5 (v := .int .i64 11) rfl (by kernel_rfl) (fun _ _ _ h => h) rfl (fun _ => by kernel_rfl) (fun _ => hT) ?_
 refine AnyK.pure 6 (v := .pointer (some ⟨g, 0, none⟩)) rfl (by kernel_rfl) (fun _ _ _ h => h) rfl (fun _ => by kernel_rfl) (fun _ => hT) ?_
 refine AnyK.pure 7 (v := .int .i64 15) rfl (by kernel_rfl) (fun _ _ _ h => h) rfl (fun _ => by kernel_rfl) (fun _ => hT) ?_
 refine AnyK.pure 8 (v := .pointer (some ⟨g, 0, none⟩)) rfl (by kernel_rfl) (fun _ _ _ h => h) rfl (fun _ => by kernel_rfl) (fun _ => hT) ?_
 refine AnyK.pure 9 (v := .int .i64 3) rfl (by kernel_rfl) (fun _ _ _ h => h) rfl (fun _ => by kernel_rfl) (fun _ => hT) ?_
 refine AnyK.pure 10 (v := .pointer (some ⟨g, 0, none⟩)) rfl (by kernel_rfl) (fun _ _ _ h => h) rfl (fun _ => by kernel_rfl) (fun _ => hT) ?_
 refine AnyK.pure 11 (v := .pointer (some ⟨g, 3, none⟩)) rfl (by kernel_rfl) (fun _ _ _ h => h) rfl (fun _ => by kernel_rfl) (fun _ => hT) ?_
 refine AnyK.load 12 (v := .int .u32 (n32 a)) rfl (by kernel_rfl) (by kernel_rfl) (by kernel_rfl) (fun _ _ _ h => h) rfl (fun w' hw' => ex_load (t := 44) (x := .tmp 22) (p := ⟨g, 3, none⟩) (by rfl) (by kernel_rfl) agU32 hw'.1) hT ?_
 refine AnyK.pure 13 (v := .pointer (some ⟨g, 0, none⟩)) rfl (by kernel_rfl) (fun _ _ _ h => h) rfl (fun _ => by kernel_rfl) (fun _ => hT) ?_
 refine AnyK.pure 14 (v := .int .i64 7) rfl (by kernel_rfl) (fun _ _ _ h => h) rfl (fun _ => by kernel_rfl) (fun _ => hT) ?_
 refine AnyK.pure 15 (v := .pointer (some ⟨g, 0, none⟩)) rfl (by kernel_rfl) (fun _ _ _ h => h) rfl (fun _ => by kernel_rfl) (fun _ => hT) ?_
 refine AnyK.pure 16 (v := .pointer (some ⟨g, 7, none⟩)) rfl (by kernel_rfl) (fun _ _ _ h => h) rfl (fun _ => by kernel_rfl) (fun _ => hT) ?_
 refine AnyK.load 17 (v := .int .u32 (n32 b)) rfl (by kernel_rfl) (by kernel_rfl) (by kernel_rfl) (fun _ _ _ h => h) rfl (fun w' hw' => ex_load (t := 44) (x := .tmp 27) (p := ⟨g, 7, none⟩) (by rfl) (by kernel_rfl) agU32 hw'.2.1) hT ?_
 refine AnyK.pure 18 (v := .pointer (some ⟨g, 0, none⟩)) rfl (by kernel_rfl) (fun _ _ _ h => h) rfl (fun _ => by kernel_rfl) (fun _ => hT) ?_
 refine AnyK.pure 19 (v := .int .i64 11) rfl (by kernel_rfl) (fun _ _ _ h => h) rfl (fun _ => by kernel_rfl) (fun _ => hT) ?_
 refine AnyK.pure 20 (v := .pointer (some ⟨g, 0, none⟩)) rfl (by kernel_rfl) (fun _ _ _ h => h) rfl (fun _ => by kernel_rfl) (fun _ => hT) ?_
 refine AnyK.pure 21 (v := .pointer (some ⟨g, 11, none⟩)) rfl (by kernel_rfl) (fun _ _ _ h => h) rfl (fun _ => by kernel_rfl) (fun _ => hT) ?_
 refine AnyK.load 22 (v := .int .u32 (n32 c)) rfl (by kernel_rfl) (by kernel_rfl) (by kernel_rfl) (fun _ _ _ h => h) rfl (fun w' hw' => ex_load (t := 44) (x := .tmp 32) (p := ⟨g, 11, none⟩) (by rfl) (by kernel_rfl) agU32 hw'.2.2.1) hT ?_
 refine AnyK.pure 23 (v := .pointer (some ⟨g, 0, none⟩)) rfl (by kernel_rfl) (fun _ _ _ h => h) rfl (fun _ => by kernel_rfl) (fun _ => hT) ?_
 refine AnyK.pure 24 (v := .int .i64 15) rfl (by kernel_rfl) (fun _ _ _ h => h) rfl (fun _ => by kernel_rfl) (fun _ => hT) ?_
 refine AnyK.pure 25 (v := .pointer (some ⟨g, 0, none⟩)) rfl (by kernel_rfl) (fun _ _ _ h => h) rfl (fun _ => by kernel_rfl) (fun _ => hT) ?_
 refine AnyK.pure 26 (v := .pointer (some ⟨g, 15, none⟩)) rfl (by kernel_rfl) (fun _ _ _ h => h) rfl (fun _ => by kernel_rfl) (fun _ => hT) ?_
 refine AnyK.load 27 (v := .int .u32 (n32 d)) rfl (by kernel_rfl) (by kernel_rfl) (by kernel_rfl) (fun _ _ _ h => h) rfl (fun w' hw' => ex_load (t := 44) (x := .tmp 37) (p := ⟨g, 15, none⟩) (by rfl) (by kernel_rfl) agU32 hw'.2.2.2) hT ?_
 refine AnyK.pure 34 (v := .pointer (some ⟨g, 0, none⟩)) rfl (by kernel_rfl) (fun _ _ _ h => h) rfl (fun _ => by kernel_rfl) (fun _ => hT) ?_
 refine AnyK.pure 37 (v := .pointer (some ⟨g, 0, none⟩)) rfl (by kernel_rfl) (fun _ _ _ h => h) rfl (fun _ => by kernel_rfl) (fun _ => hT) ?_
 refine AnyK.pure 40 (v := .pointer (some ⟨g, 0, none⟩)) rfl (by kernel_rfl) (fun _ _ _ h => h) rfl (fun _ => by kernel_rfl) (fun _ => hT) ?_
 refine AnyK.pure 43 (v := .pointer (some ⟨g, 0, none⟩)) rfl (by kernel_rfl) (fun _ _ _ h => h) rfl (fun _ => by kernel_rfl) (fun _ => hT) ?_
 refine AnyK.enter 28 (d := some 39) (f := 192) (args := #[.int .u32 (n32 a), .int .u32 (n32 b), .int .u32 (n32 c), .int .u32 (n32 d)]) (by kernel_rfl) (by kernel_rfl) (by kernel_rfl) ?_
 refine (HQ.out _).mono ?_
 rintro e w' ⟨rfl, rfl⟩
 refine ⟨_, rfl, fun _ => hT, ?_⟩
 refine AnyK.pure 29 (v := .tuple #[.int .u32 (n32 x), .int .u32 (n32 y), .int .u32 (n32 z), .int .u32 (n32 u)]) rfl (by kernel_rfl) (fun _ _ _ h => h) rfl (fun _ => by kernel_rfl) (fun _ => hT) ?_
 refine AnyK.pure 30 (v := .int .u32 (n32 x)) rfl (by kernel_rfl) (fun _ _ _ h => h) rfl (fun _ => by kernel_rfl) (fun _ => hT) ?_
 refine AnyK.pure 31 (v := .int .u32 (n32 y)) rfl (by kernel_rfl) (fun _ _ _ h => h) rfl (fun _ => by kernel_rfl) (fun _ => hT) ?_
 refine AnyK.pure 32 (v := .int .u32 (n32 z)) rfl (by kernel_rfl) (fun _ _ _ h => h) rfl (fun _ => by kernel_rfl) (fun _ => hT) ?_
 refine AnyK.pure 33 (v := .int .u32 (n32 u)) rfl (by kernel_rfl) (fun _ _ _ h => h) rfl (fun _ => by kernel_rfl) (fun _ => hT) ?_
 refine AnyK.pure 35 (v := .pointer (some ⟨g, 3, none⟩)) rfl (by kernel_rfl) (fun _ _ _ h => h) rfl (fun _ => by kernel_rfl) (fun _ => hT) ?_
 refine AnyK.store 36 (d := none) (op := .store 44 (.tmp 45) (.tmp 40)) (by kernel_rfl) (fun o ho => ex_store (p := ⟨g, 3, none⟩) (k := .u32) (n := n32 x) ho (by kernel_rfl) (by kernel_rfl) szU32 hB0.1 hB0.2) (by kernel_rfl) (fun h => (by cases h)) ?_
 refine AnyK.pure 38 (v := .pointer (some ⟨g, 7, none⟩)) rfl (by kernel_rfl) (fun _ _ _ h => h) rfl (fun _ => by kernel_rfl) (fun h => (by cases h)) ?_
 refine AnyK.store 39 (d := none) (op := .store 44 (.tmp 47) (.tmp 41)) (by kernel_rfl) (fun o ho => ex_store (p := ⟨g, 7, none⟩) (k := .u32) (n := n32 y) ho (by kernel_rfl) (by kernel_rfl) szU32 hB1.1 hB1.2) (by kernel_rfl) (fun h => (by cases h)) ?_
 refine AnyK.pure 41 (v := .pointer (some ⟨g, 11, none⟩)) rfl (by kernel_rfl) (fun _ _ _ h => h) rfl (fun _ => by kernel_rfl) (fun h => (by cases h)) ?_
 refine AnyK.store 42 (d := none) (op := .store 44 (.tmp 49) (.tmp 42)) (by kernel_rfl) (fun o ho => ex_store (p := ⟨g, 11, none⟩) (k := .u32) (n := n32 z) ho (by kernel_rfl) (by kernel_rfl) szU32 hB2.1 hB2.2) (by kernel_rfl) (fun h => (by cases h)) ?_
 refine AnyK.pure 44 (v := .pointer (some ⟨g, 15, none⟩)) rfl (by kernel_rfl) (fun _ _ _ h => h) rfl (fun _ => by kernel_rfl) (fun h => (by cases h)) ?_
 refine AnyK.store 45 (d := none) (op := .store 44 (.tmp 51) (.tmp 43)) (by kernel_rfl) (fun o ho => ex_store (p := ⟨g, 15, none⟩) (k := .u32) (n := n32 u) ho (by kernel_rfl) (by kernel_rfl) szU32 hB3.1 hB3.2) (by kernel_rfl) (fun h => (by cases h)) ?_
 refine AnyK.done (by kernel_rfl) ?_
 go_end0
 exact ⟨rfl, by rw [HR.out]; exact HF.out, HW.out⟩
set_option maxRecDepth 100000 in
set_option maxHeartbeats 4000000 in
theorem round_4 (g : Nat) (t : TypeId) (s : List UInt32) (w : World) (h : Blk w g t (u32s s)) (hs : s.length = 16) :
   Calls Tryz.prog 183 #[.pointer (some ⟨g, 0, none⟩), .int .i64 0, .int .i64 5, .int .i64 10, .int .i64 15] w fun e w' => e = .returned (.tuple #[]) ∧ Blk w' g t (u32s (Ch.round s 0 5 10 15)) ∧ Wrote g w w' := by
 have ca := (h.cell 0).trans (s16_get hs 0 (by omega))
 have cb := (h.cell 5).trans (s16_get hs 5 (by omega))
 have cc := (h.cell 10).trans (s16_get hs 10 (by omega))
 have cd := (h.cell 15).trans (s16_get hs 15 (by omega))
 obtain ⟨a, ha⟩ : ∃ a, a = s.getD 0 0 := ⟨_, rfl⟩
 obtain ⟨b, hb⟩ : ∃ b, b = s.getD 5 0 := ⟨_, rfl⟩
 obtain ⟨c, hc⟩ : ∃ c, c = s.getD 10 0 := ⟨_, rfl⟩
 obtain ⟨d, hd⟩ : ∃ d, d = s.getD 15 0 := ⟨_, rfl⟩
 rcases hq : Ch.quarter a b c d with ⟨x, y, z, u⟩
 rw [← ha] at ca
 rw [← hb] at cb
 rw [← hc] at cc
 rw [← hd] at cd
 have HQ : Hid (∀ W : World, Calls Tryz.prog 192 #[.int .u32 (n32 a), .int .u32 (n32 b), .int .u32 (n32 c), .int .u32 (n32 d)] W fun e w' => e = .returned (.tuple #[.int .u32 (n32 x), .int .u32 (n32 y), .int .u32 (n32 z), .int .u32 (n32 u)]) ∧ W = w') := fun W => by
   have := quarter_any a b c d W
   rw [hq] at this
   exact this
 have HR : Hid (Ch.round s 0 5 10 15 = (((s.set 0 x).set 5 y).set 10 z).set 15 u) := by
   show _ = _
   unfold Ch.round
   rw [← ha, ← hb, ← hc, ← hd, hq]
 have HB := qh h
 have hT : w.drew.cell? ⟨g, 0, none⟩ = some (.int .u32 (n32 a)) ∧ w.drew.cell? ⟨g, 5, none⟩ = some (.int .u32 (n32 b)) ∧ w.drew.cell? ⟨g, 10, none⟩ = some (.int .u32 (n32 c)) ∧ w.drew.cell? ⟨g, 15, none⟩ = some (.int .u32 (n32 d)) := ⟨ca, cb, cc, cd⟩
 have b0 := h.drew
 have b1 := b0.set_ 0 (.int .u32 (n32 x))
 have b2 := b1.set_ 5 (.int .u32 (n32 y))
 have b3 := b2.set_ 10 (.int .u32 (n32 z))
 have b4 := b3.set_ 15 (.int .u32 (n32 u))
 rw [u32s_set] at b1
 rw [u32s_set, u32s_set] at b2
 rw [u32s_set, u32s_set, u32s_set] at b3
 rw [u32s_set, u32s_set, u32s_set, u32s_set] at b4
 have hB0 := And.intro ((b0.cell 0).trans (s16_get hs 0 (by omega))) (b0.frozen 0)
 have hB1 := And.intro ((b1.cell 5).trans (s16_get (by simpa using hs) 5 (by omega))) (b1.frozen 5)
 have hB2 := And.intro ((b2.cell 10).trans (s16_get (by simpa using hs) 10 (by omega))) (b2.frozen 10)
 have hB3 := And.intro ((b3.cell 15).trans (s16_get (by simpa using hs) 15 (by omega))) (b3.frozen 15)
 have HF := qh b4
 have HW := qh (((((Wrote.refl w g).drew.setCell 0 (.int .u32 (n32 x))).setCell 5 (.int .u32 (n32 y))).setCell 10 (.int .u32 (n32 z))).setCell 15 (.int .u32 (n32 u)))
 clear ha hb hc hd hq hs h b0 b1 b2 b3 b4
 go_enter Tryz.func183, Tryz.ntmps183
 refine region_K (by kernel_rfl) 36 (fun w' => w'.cell? ⟨g, 0, none⟩ = some (.int .u32 (n32 a)) ∧ w'.cell? ⟨g, 5, none⟩ = some (.int .u32 (n32 b)) ∧ w'.cell? ⟨g, 10, none⟩ = some (.int .u32 (n32 c)) ∧ w'.cell? ⟨g, 15, none⟩ = some (.int .u32 (n32 d))) ?_
 refine AnyK.pure 0 (v := .pointer (some ⟨g, 0, none⟩)) rfl (by kernel_rfl) (fun _ _ _ h => h) rfl (fun _ => by kernel_rfl) (fun _ => hT) ?_
 refine AnyK.pure 1 (v := .int .i64 0) rfl (by kernel_rfl) (fun _ _ _ h => h) rfl (fun _ => by kernel_rfl) (fun _ => hT) ?_
 refine AnyK.pure 2 (v := .pointer (some ⟨g, 0, none⟩)) rfl (by kernel_rfl) (fun _ _ _ h => h) rfl (fun _ => by kernel_rfl) (fun _ => hT) ?_
 refine AnyK.pure 3 (v := .int .i64 5) rfl (by kernel_rfl) (fun _ _ _ h => h) rfl (fun _ => by kernel_rfl) (fun _ => hT) ?_
 refine AnyK.pure 4 (v := .pointer (some ⟨g, 0, none⟩)) rfl (by kernel_rfl) (fun _ _ _ h => h) rfl (fun _ => by kernel_rfl) (fun _ => hT) ?_
 refine AnyK.pure 5 (v := .int .i64 10) rfl (by kernel_rfl) (fun _ _ _ h => h) rfl (fun _ => by kernel_rfl) (fun _ => hT) ?_
 refine AnyK.pure 6 (v := .pointer (some ⟨g, 0, none⟩)) rfl (by kernel_rfl) (fun _ _ _ h => h) rfl (fun _ => by kernel_rfl) (fun _ => hT) ?_
 refine AnyK.pure 7 (v := .int .i64 15) rfl (by kernel_rfl) (fun _ _ _ h => h) rfl (fun _ => by kernel_rfl) (fun _ => hT) ?_
 refine AnyK.pure 8 (v := .pointer (some ⟨g, 0, none⟩)) rfl (by kernel_rfl) (fun _ _ _ h => h) rfl (fun _ => by kernel_rfl) (fun _ => hT) ?_
 refine AnyK.pure 9 (v := .int .i64 0) rfl (by kernel_rfl) (fun _ _ _ h => h) rfl (fun _ => by kernel_rfl) (fun _ => hT) ?_
 refine AnyK.pure 10 (v := .pointer (some ⟨g, 0, none⟩)) rfl (by kernel_rfl) (fun _ _ _ h => h) rfl (fun _ => by kernel_rfl) (fun _ => hT) ?_
 refine AnyK.pure 11 (v := .pointer (some ⟨g, 0, none⟩)) rfl (by kernel_rfl) (fun _ _ _ h => h) rfl (fun _ => by kernel_rfl) (fun _ => hT) ?_
 refine AnyK.load 12 (v := .int .u32 (n32 a)) rfl (by kernel_rfl) (by kernel_rfl) (by kernel_rfl) (fun _ _ _ h => h) rfl (fun w' hw' => ex_load (t := 44) (x := .tmp 22) (p := ⟨g, 0, none⟩) (by rfl) (by kernel_rfl) agU32 hw'.1) hT ?_
 refine AnyK.pure 13 (v := .pointer (some ⟨g, 0, none⟩)) rfl (by kernel_rfl) (fun _ _ _ h => h) rfl (fun _ => by kernel_rfl) (fun _ => hT) ?_
 refine AnyK.pure 14 (v := .int .i64 5) rfl (by kernel_rfl) (fun _ _ _ h => h) rfl (fun _ => by kernel_rfl) (fun _ => hT) ?_
 refine AnyK.pure 15 (v := .pointer (some ⟨g, 0, none⟩)) rfl (by kernel_rfl) (fun _ _ _ h => h) rfl (fun _ => by kernel_rfl) (fun _ => hT) ?_
 refine AnyK.pure 16 (v := .pointer (some ⟨g, 5, none⟩)) rfl (by kernel_rfl) (fun _ _ _ h => h) rfl (fun _ => by kernel_rfl) (fun _ => hT) ?_
 refine AnyK.load 17 (v := .int .u32 (n32 b)) rfl (by kernel_rfl) (by kernel_rfl) (by kernel_rfl) (fun _ _ _ h => h) rfl (fun w' hw' => ex_load (t := 44) (x := .tmp 27) (p := ⟨g, 5, none⟩) (by rfl) (by kernel_rfl) agU32 hw'.2.1) hT ?_
 refine AnyK.pure 18 (v := .pointer (some ⟨g, 0, none⟩)) rfl (by kernel_rfl) (fun _ _ _ h => h) rfl (fun _ => by kernel_rfl) (fun _ => hT) ?_
 refine AnyK.pure 19 (v := .int .i64 10) rfl (by kernel_rfl) (fun _ _ _ h => h) rfl (fun _ => by kernel_rfl) (fun _ => hT) ?_
 refine AnyK.pure 20 (v := .pointer (some ⟨g, 0, none⟩)) rfl (by kernel_rfl) (fun _ _ _ h => h) rfl (fun _ => by kernel_rfl) (fun _ => hT) ?_
 refine AnyK.pure 21 (v := .pointer (some ⟨g, 10, none⟩)) rfl (by kernel_rfl) (fun _ _ _ h => h) rfl (fun _ => by kernel_rfl) (fun _ => hT) ?_
 refine AnyK.load 22 (v := .int .u32 (n32 c)) rfl (by kernel_rfl) (by kernel_rfl) (by kernel_rfl) (fun _ _ _ h => h) rfl (fun w' hw' => ex_load (t := 44) (x := .tmp 32) (p := ⟨g, 10, none⟩) (by rfl) (by kernel_rfl) agU32 hw'.2.2.1) hT ?_
 refine AnyK.pure 23 (v := .pointer (some ⟨g, 0, none⟩)) rfl (by kernel_rfl) (fun _ _ _ h => h) rfl (fun _ => by kernel_rfl) (fun _ => hT) ?_
 refine AnyK.pure 24 (v := .int .i64 15) rfl (by kernel_rfl) (fun _ _ _ h => h) rfl (fun _ => by kernel_rfl) (fun _ => hT) ?_
 refine AnyK.pure 25 (v := .pointer (some ⟨g, 0, none⟩)) rfl (by kernel_rfl) (fun _ _ _ h => h) rfl (fun _ => by kernel_rfl) (fun _ => hT) ?_
 refine AnyK.pure 26 (v := .pointer (some ⟨g, 15, none⟩)) rfl (by kernel_rfl) (fun _ _ _ h => h) rfl (fun _ => by kernel_rfl) (fun _ => hT) ?_
 refine AnyK.load 27 (v := .int .u32 (n32 d)) rfl (by kernel_rfl) (by kernel_rfl) (by kernel_rfl) (fun _ _ _ h => h) rfl (fun w' hw' => ex_load (t := 44) (x := .tmp 37) (p := ⟨g, 15, none⟩) (by rfl) (by kernel_rfl) agU32 hw'.2.2.2) hT ?_
 refine AnyK.pure 34 (v := .pointer (some ⟨g, 0, none⟩)) rfl (by kernel_rfl) (fun _ _ _ h => h) rfl (fun _ => by kernel_rfl) (fun _ => hT) ?_
 refine AnyK.pure 37 (v := .pointer (some ⟨g, 0, none⟩)) rfl (by kernel_rfl) (fun _ _ _ h => h) rfl (fun _ => by kernel_rfl) (fun _ => hT) ?_
 refine AnyK.pure 40 (v := .pointer (some ⟨g, 0, none⟩)) rfl (by kernel_rfl) (fun _ _ _ h => h) rfl (fun _ => by kernel_rfl) (fun _ => hT) ?_
 refine AnyK.pure 43 (v := .pointer (some ⟨g, 0, none⟩)) rfl (by kernel_rfl) (fun _ _ _ h => h) rfl (fun _ => by kernel_rfl) (fun _ => hT) ?_
 refine AnyK.enter 28 (d := some 39) (f := 192) (args := #[.int .u32 (n32 a), .int .u32 (n32 b), .int .u32 (n32 c), .int .u32 (n32 d)]) (by kernel_rfl) (by kernel_rfl) (by kernel_rfl) ?_
 refine (HQ.out _).mono ?_
 rintro e w' ⟨rfl, rfl⟩
 refine ⟨_, rfl, fun _ => hT, ?_⟩
 refine AnyK.pure 29 (v := .tuple #[.int .u32 (n32 x), .int .u32 (n32 y), .int .u32 (n32 z), .int .u32 (n32 u)]) rfl (by kernel_rfl) (fun _ _ _ h => h) rfl (fun _ => by kernel_rfl) (fun _ => hT) ?_
 refine AnyK.pure 30 (v := .int .u32 (n32 x)) rfl (by kernel_rfl) (fun _ _ _ h => h) rfl (fun _ => by kernel_rfl) (fun _ => hT) ?_
 refine AnyK.pure 31 (v := .int .u32 (n32 y)) rfl (by kernel_rfl) (fun _ _ _ h => h) rfl (fun _ => by kernel_rfl) (fun _ => hT) ?_
 refine AnyK.pure 32 (v := .int .u32 (n32 z)) rfl (by kernel_rfl) (fun _ _ _ h => h) rfl (fun _ => by kernel_rfl) (fun _ => hT) ?_
 refine AnyK.pure 33 (v := .int .u32 (n32 u)) rfl (by kernel_rfl) (fun _ _ _ h => h) rfl (fun _ => by kernel_rfl) (fun _ => hT) ?_
 refine AnyK.pure 35 (v := .pointer (some ⟨g, 0, none⟩)) rfl (by kernel_rfl) (fun _ _ _ h => h) rfl (fun _ => by kernel_rfl) (fun _ => hT) ?_
 refine AnyK.store 36 (d := none) (op := .store 44 (.tmp 45) (.tmp 40)) (by kernel_rfl) (fun o ho => ex_store (p := ⟨g, 0, none⟩) (k := .u32) (n := n32 x) ho (by kernel_rfl) (by kernel_rfl) szU32 hB0.1 hB0.2) (by kernel_rfl) (fun h => (by cases h)) ?_
 refine AnyK.pure 38 (v := .pointer (some ⟨g, 5, none⟩)) rfl (by kernel_rfl) (fun _ _ _ h => h) rfl (fun _ => by kernel_rfl) (fun h => (by cases h)) ?_
 refine AnyK.store 39 (d := none) (op := .store 44 (.tmp 47) (.tmp 41)) (by kernel_rfl) (fun o ho => ex_store (p := ⟨g, 5, none⟩) (k := .u32) (n := n32 y) ho (by kernel_rfl) (by kernel_rfl) szU32 hB1.1 hB1.2) (by kernel_rfl) (fun h => (by cases h)) ?_
 refine AnyK.pure 41 (v := .pointer (some ⟨g, 10, none⟩)) rfl (by kernel_rfl) (fun _ _ _ h => h) rfl (fun _ => by kernel_rfl) (fun h => (by cases h)) ?_
 refine AnyK.store 42 (d := none) (op := .store 44 (.tmp 49) (.tmp 42)) (by kernel_rfl) (fun o ho => ex_store (p := ⟨g, 10, none⟩) (k := .u32) (n := n32 z) ho (by kernel_rfl) (by kernel_rfl) szU32 hB2.1 hB2.2) (by kernel_rfl) (fun h => (by cases h)) ?_
 refine AnyK.pure 44 (v := .pointer (some ⟨g, 15, none⟩)) rfl (by kernel_rfl) (fun _ _ _ h => h) rfl (fun _ => by kernel_rfl) (fun h => (by cases h)) ?_
 refine AnyK.store 45 (d := none) (op := .store 44 (.tmp 51) (.tmp 43)) (by kernel_rfl) (fun o ho => ex_store (p := ⟨g, 15, none⟩) (k := .u32) (n := n32 u) ho (by kernel_rfl) (by kernel_rfl) szU32 hB3.1 hB3.2) (by kernel_rfl) (fun h => (by cases h)) ?_
 refine AnyK.done (by kernel_rfl) ?_
 go_end0
 exact ⟨rfl, by rw [HR.out]; exact HF.out, HW.out⟩
set_option maxRecDepth 100000 in
set_option maxHeartbeats 4000000 in
theorem round_5 (g : Nat) (t : TypeId) (s : List UInt32) (w : World) (h : Blk w g t (u32s s)) (hs : s.length = 16) :
   Calls Tryz.prog 183 #[.pointer (some ⟨g, 0, none⟩), .int .i64 1, .int .i64 6, .int .i64 11, .int .i64 12] w fun e w' => e = .returned (.tuple #[]) ∧ Blk w' g t (u32s (Ch.round s 1 6 11 12)) ∧ Wrote g w w' := by
 have ca := (h.cell 1).trans (s16_get hs 1 (by omega))
 have cb := (h.cell 6).trans (s16_get hs 6 (by omega))
 have cc := (h.cell 11).trans (s16_get hs 11 (by omega))
 have cd := (h.cell 12).trans (s16_get hs 12 (by omega))
 obtain ⟨a, ha⟩ : ∃ a, a = s.getD 1 0 := ⟨_, rfl⟩
 obtain ⟨b, hb⟩ : ∃ b, b = s.getD 6 0 := ⟨_, rfl⟩
 obtain ⟨c, hc⟩ : ∃ c, c = s.getD 11 0 := ⟨_, rfl⟩
 obtain ⟨d, hd⟩ : ∃ d, d = s.getD 12 0 := ⟨_, rfl⟩
 rcases hq : Ch.quarter a b c d with ⟨x, y, z, u⟩
 rw [← ha] at ca
 rw [← hb] at cb
 rw [← hc] at cc
 rw [← hd] at cd
 have HQ : Hid (∀ W : World, Calls Tryz.prog 192 #[.int .u32 (n32 a), .int .u32 (n32 b), .int .u32 (n32 c), .int .u32 (n32 d)] W fun e w' => e = .returned (.tuple #[.int .u32 (n32 x), .int .u32 (n32 y), .int .u32 (n32 z), .int .u32 (n32 u)]) ∧ W = w') := fun W => by
   have := quarter_any a b c d W
   rw [hq] at this
   exact this
 have HR : Hid (Ch.round s 1 6 11 12 = (((s.set 1 x).set 6 y).set 11 z).set 12 u) := by
   show _ = _
   unfold Ch.round
   rw [← ha, ← hb, ← hc, ← hd, hq]
 have HB := qh h
 have hT : w.drew.cell? ⟨g, 1, none⟩ = some (.int .u32 (n32 a)) ∧ w.drew.cell? ⟨g, 6, none⟩ = some (.int .u32 (n32 b)) ∧ w.drew.cell? ⟨g, 11, none⟩ = some (.int .u32 (n32 c)) ∧ w.drew.cell? ⟨g, 12, none⟩ = some (.int .u32 (n32 d)) := ⟨ca, cb, cc, cd⟩
 have b0 := h.drew
 have b1 := b0.set_ 1 (.int .u32 (n32 x))
 have b2 := b1.set_ 6 (.int .u32 (n32 y))
 have b3 := b2.set_ 11 (.int .u32 (n32 z))
 have b4 := b3.set_ 12 (.int .u32 (n32 u))
 rw [u32s_set] at b1
 rw [u32s_set, u32s_set] at b2
 rw [u32s_set, u32s_set, u32s_set] at b3
 rw [u32s_set, u32s_set, u32s_set, u32s_set] at b4
 have hB0 := And.intro ((b0.cell 1).trans (s16_get hs 1 (by omega))) (b0.frozen 1)
 have hB1 := And.intro ((b1.cell 6).trans (s16_get (by simpa using hs) 6 (by omega))) (b1.frozen 6)
 have hB2 := And.intro ((b2.cell 11).trans (s16_get (by simpa using hs) 11 (by omega))) (b2.frozen 11)
 have hB3 := And.intro ((b3.cell 12).trans (s16_get (by simpa using hs) 12 (by omega))) (b3.frozen 12)
 have HF := qh b4
 have HW := qh (((((Wrote.refl w g).drew.setCell 1 (.int .u32 (n32 x))).setCell 6 (.int .u32 (n32 y))).setCell 11 (.int .u32 (n32 z))).setCell 12 (.int .u32 (n32 u)))
 clear ha hb hc hd hq hs h b0 b1 b2 b3 b4
 go_enter Tryz.func183, Tryz.ntmps183
 refine region_K (by kernel_rfl) 36 (fun w' => w'.cell? ⟨g, 1, none⟩ = some (.int .u32 (n32 a)) ∧ w'.cell? ⟨g, 6, none⟩ = some (.int .u32 (n32 b)) ∧ w'.cell? ⟨g, 11, none⟩ = some (.int .u32 (n32 c)) ∧ w'.cell? ⟨g, 12, none⟩ = some (.int .u32 (n32 d))) ?_
 refine AnyK.pure 0 (v := .pointer (some ⟨g, 0, none⟩)) rfl (by kernel_rfl) (fun _ _ _ h => h) rfl (fun _ => by kernel_rfl) (fun _ => hT) ?_
 refine AnyK.pure 1 (v := .int .i64 1) rfl (by kernel_rfl) (fun _ _ _ h => h) rfl (fun _ => by kernel_rfl) (fun _ => hT) ?_
 refine AnyK.pure 2 (v := .pointer (some ⟨g, 0, none⟩)) rfl (by kernel_rfl) (fun _ _ _ h => h) rfl (fun _ => by kernel_rfl) (fun _ => hT) ?_
 refine AnyK.pure 3 (v := .int .i64 6) rfl (by kernel_rfl) (fun _ _ _ h => h) rfl (fun _ => by kernel_rfl) (fun _ => hT) ?_
 refine AnyK.pure 4 (v := .pointer (some ⟨g, 0, none⟩)) rfl (by kernel_rfl) (fun _ _ _ h => h) rfl (fun _ => by kernel_rfl) (fun _ => hT) ?_
 refine AnyK.pure 5 (v := .int .i64 11) rfl (by kernel_rfl) (fun _ _ _ h => h) rfl (fun _ => by kernel_rfl) (fun _ => hT) ?_
 refine AnyK.pure 6 (v := .pointer (some ⟨g, 0, none⟩)) rfl (by kernel_rfl) (fun _ _ _ h => h) rfl (fun _ => by kernel_rfl) (fun _ => hT) ?_
 refine AnyK.pure 7 (v := .int .i64 12) rfl (by kernel_rfl) (fun _ _ _ h => h) rfl (fun _ => by kernel_rfl) (fun _ => hT) ?_
 refine AnyK.pure 8 (v := .pointer (some ⟨g, 0, none⟩)) rfl (by kernel_rfl) (fun _ _ _ h => h) rfl (fun _ => by kernel_rfl) (fun _ => hT) ?_
 refine AnyK.pure 9 (v := .int .i64 1) rfl (by kernel_rfl) (fun _ _ _ h => h) rfl (fun _ => by kernel_rfl) (fun _ => hT) ?_
 refine AnyK.pure 10 (v := .pointer (some ⟨g, 0, none⟩)) rfl (by kernel_rfl) (fun _ _ _ h => h) rfl (fun _ => by kernel_rfl) (fun _ => hT) ?_
 refine AnyK.pure 11 (v := .pointer (some ⟨g, 1, none⟩)) rfl (by kernel_rfl) (fun _ _ _ h => h) rfl (fun _ => by kernel_rfl) (fun _ => hT) ?_
 refine AnyK.load 12 (v := .int .u32 (n32 a)) rfl (by kernel_rfl) (by kernel_rfl) (by kernel_rfl) (fun _ _ _ h => h) rfl (fun w' hw' => ex_load (t := 44) (x := .tmp 22) (p := ⟨g, 1, none⟩) (by rfl) (by kernel_rfl) agU32 hw'.1) hT ?_
 refine AnyK.pure 13 (v := .pointer (some ⟨g, 0, none⟩)) rfl (by kernel_rfl) (fun _ _ _ h => h) rfl (fun _ => by kernel_rfl) (fun _ => hT) ?_
 refine AnyK.pure 14 (v := .int .i64 6) rfl (by kernel_rfl) (fun _ _ _ h => h) rfl (fun _ => by kernel_rfl) (fun _ => hT) ?_
 refine AnyK.pure 15 (v := .pointer (some ⟨g, 0, none⟩)) rfl (by kernel_rfl) (fun _ _ _ h => h) rfl (fun _ => by kernel_rfl) (fun _ => hT) ?_
 refine AnyK.pure 16 (v := .pointer (some ⟨g, 6, none⟩)) rfl (by kernel_rfl) (fun _ _ _ h => h) rfl (fun _ => by kernel_rfl) (fun _ => hT) ?_
 refine AnyK.load 17 (v := .int .u32 (n32 b)) rfl (by kernel_rfl) (by kernel_rfl) (by kernel_rfl) (fun _ _ _ h => h) rfl (fun w' hw' => ex_load (t := 44) (x := .tmp 27) (p := ⟨g, 6, none⟩) (by rfl) (by kernel_rfl) agU32 hw'.2.1) hT ?_
 refine AnyK.pure 18 (v := .pointer (some ⟨g, 0, none⟩)) rfl (by kernel_rfl) (fun _ _ _ h => h) rfl (fun _ => by kernel_rfl) (fun _ => hT) ?_
 refine AnyK.pure 19 (v := .int .i64 11) rfl (by kernel_rfl) (fun _ _ _ h => h) rfl (fun _ => by kernel_rfl) (fun _ => hT) ?_
 refine AnyK.pure 20 (v := .pointer (some ⟨g, 0, none⟩)) rfl (by kernel_rfl) (fun _ _ _ h => h) rfl (fun _ => by kernel_rfl) (fun _ => hT) ?_
 refine AnyK.pure 21 (v := .pointer (some ⟨g, 11, none⟩)) rfl (by kernel_rfl) (fun _ _ _ h => h) rfl (fun _ => by kernel_rfl) (fun _ => hT) ?_
 refine AnyK.load 22 (v := .int .u32 (n32 c)) rfl (by kernel_rfl) (by kernel_rfl) (by kernel_rfl) (fun _ _ _ h => h) rfl (fun w' hw' => ex_load (t := 44) (x := .tmp 32) (p := ⟨g, 11, none⟩) (by rfl) (by kernel_rfl) agU32 hw'.2.2.1) hT ?_
 refine AnyK.pure 23 (v := .pointer (some ⟨g, 0, none⟩)) rfl (by kernel_rfl) (fun _ _ _ h => h) rfl (fun _ => by kernel_rfl) (fun _ => hT) ?_
 refine AnyK.pure 24 (v := .int .i64 12) rfl (by kernel_rfl) (fun _ _ _ h => h) rfl (fun _ => by kernel_rfl) (fun _ => hT) ?_
 refine AnyK.pure 25 (v := .pointer (some ⟨g, 0, none⟩)) rfl (by kernel_rfl) (fun _ _ _ h => h) rfl (fun _ => by kernel_rfl) (fun _ => hT) ?_
 refine AnyK.pure 26 (v := .pointer (some ⟨g, 12, none⟩)) rfl (by kernel_rfl) (fun _ _ _ h => h) rfl (fun _ => by kernel_rfl) (fun _ => hT) ?_
 refine AnyK.load 27 (v := .int .u32 (n32 d)) rfl (by kernel_rfl) (by kernel_rfl) (by kernel_rfl) (fun _ _ _ h => h) rfl (fun w' hw' => ex_load (t := 44) (x := .tmp 37) (p := ⟨g, 12, none⟩) (by rfl) (by kernel_rfl) agU32 hw'.2.2.2) hT ?_
 refine AnyK.pure 34 (v := .pointer (some ⟨g, 0, none⟩)) rfl (by kernel_rfl) (fun _ _ _ h => h) rfl (fun _ => by kernel_rfl) (fun _ => hT) ?_
 refine AnyK.pure 37 (v := .pointer (some ⟨g, 0, none⟩)) rfl (by kernel_rfl) (fun _ _ _ h => h) rfl (fun _ => by kernel_rfl) (fun _ => hT) ?_
 refine AnyK.pure 40 (v := .pointer (some ⟨g, 0, none⟩)) rfl (by kernel_rfl) (fun _ _ _ h => h) rfl (fun _ => by kernel_rfl) (fun _ => hT) ?_
 refine AnyK.pure 43 (v := .pointer (some ⟨g, 0, none⟩)) rfl (by kernel_rfl) (fun _ _ _ h => h) rfl (fun _ => by kernel_rfl) (fun _ => hT) ?_
 refine AnyK.enter 28 (d := some 39) (f := 192) (args := #[.int .u32 (n32 a), .int .u32 (n32 b), .int .u32 (n32 c), .int .u32 (n32 d)]) (by kernel_rfl) (by kernel_rfl) (by kernel_rfl) ?_
 refine (HQ.out _).mono ?_
 rintro e w' ⟨rfl, rfl⟩
 refine ⟨_, rfl, fun _ => hT, ?_⟩
 refine AnyK.pure 29 (v := .tuple #[.int .u32 (n32 x), .int .u32 (n32 y), .int .u32 (n32 z), .int .u32 (n32 u)]) rfl (by kernel_rfl) (fun _ _ _ h => h) rfl (fun _ => by kernel_rfl) (fun _ => hT) ?_
 refine AnyK.pure 30 (v := .int .u32 (n32 x)) rfl (by kernel_rfl) (fun _ _ _ h => h) rfl (fun _ => by kernel_rfl) (fun _ => hT) ?_
 refine AnyK.pure 31 (v := .int .u32 (n32 y)) rfl (by kernel_rfl) (fun _ _ _ h => h) rfl (fun _ => by kernel_rfl) (fun _ => hT) ?_
 refine AnyK.pure 32 (v := .int .u32 (n32 z)) rfl (by kernel_rfl) (fun _ _ _ h => h) rfl (fun _ => by kernel_rfl) (fun _ => hT) ?_
 refine AnyK.pure 33 (v := .int .u32 (n32 u)) rfl (by kernel_rfl) (fun _ _ _ h => h) rfl (fun _ => by kernel_rfl) (fun _ => hT) ?_
 refine AnyK.pure 35 (v := .pointer (some ⟨g, 1, none⟩)) rfl (by kernel_rfl) (fun _ _ _ h => h) rfl (fun _ => by kernel_rfl) (fun _ => hT) ?_
 refine AnyK.store 36 (d := none) (op := .store 44 (.tmp 45) (.tmp 40)) (by kernel_rfl) (fun o ho => ex_store (p := ⟨g, 1, none⟩) (k := .u32) (n := n32 x) ho (by kernel_rfl) (by kernel_rfl) szU32 hB0.1 hB0.2) (by kernel_rfl) (fun h => (by cases h)) ?_
 refine AnyK.pure 38 (v := .pointer (some ⟨g, 6, none⟩)) rfl (by kernel_rfl) (fun _ _ _ h => h) rfl (fun _ => by kernel_rfl) (fun h => (by cases h)) ?_
 refine AnyK.store 39 (d := none) (op := .store 44 (.tmp 47) (.tmp 41)) (by kernel_rfl) (fun o ho => ex_store (p := ⟨g, 6, none⟩) (k := .u32) (n := n32 y) ho (by kernel_rfl) (by kernel_rfl) szU32 hB1.1 hB1.2) (by kernel_rfl) (fun h => (by cases h)) ?_
 refine AnyK.pure 41 (v := .pointer (some ⟨g, 11, none⟩)) rfl (by kernel_rfl) (fun _ _ _ h => h) rfl (fun _ => by kernel_rfl) (fun h => (by cases h)) ?_
 refine AnyK.store 42 (d := none) (op := .store 44 (.tmp 49) (.tmp 42)) (by kernel_rfl) (fun o ho => ex_store (p := ⟨g, 11, none⟩) (k := .u32) (n := n32 z) ho (by kernel_rfl) (by kernel_rfl) szU32 hB2.1 hB2.2) (by kernel_rfl) (fun h => (by cases h)) ?_
 refine AnyK.pure 44 (v := .pointer (some ⟨g, 12, none⟩)) rfl (by kernel_rfl) (fun _ _ _ h => h) rfl (fun _ => by kernel_rfl) (fun h => (by cases h)) ?_
 refine AnyK.store 45 (d := none) (op := .store 44 (.tmp 51) (.tmp 43)) (by kernel_rfl) (fun o ho => ex_store (p := ⟨g, 12, none⟩) (k := .u32) (n := n32 u) ho (by kernel_rfl) (by kernel_rfl) szU32 hB3.1 hB3.2) (by kernel_rfl) (fun h => (by cases h)) ?_
 refine AnyK.done (by kernel_rfl) ?_
 go_end0
 exact ⟨rfl, by rw [HR.out]; exact HF.out, HW.out⟩
set_option maxRecDepth 100000 in
set_option maxHeartbeats 4000000 in
theorem round_6 (g : Nat) (t : TypeId) (s : List UInt32) (w : World) (h : Blk w g t (u32s s)) (hs : s.length = 16) :
   Calls Tryz.prog 183 #[.pointer (some ⟨g, 0, none⟩), .int .i64 2, .int .i64 7, .int .i64 8, .int .i64 13] w fun e w' => e = .returned (.tuple #[]) ∧ Blk w' g t (u32s (Ch.round s 2 7 8 13)) ∧ Wrote g w w' := by
 have ca := (h.cell 2).trans (s16_get hs 2 (by omega))
 have cb := (h.cell 7).trans (s16_get hs 7 (by omega))
 have cc := (h.cell 8).trans (s16_get hs 8 (by omega))
 have cd := (h.cell 13).trans (s16_get hs 13 (by omega))
 obtain ⟨a, ha⟩ : ∃ a, a = s.getD 2 0 := ⟨_, rfl⟩
 obtain ⟨b, hb⟩ : ∃ b, b = s.getD 7 0 := ⟨_, rfl⟩
 obtain ⟨c, hc⟩ : ∃ c, c = s.getD 8 0 := ⟨_, rfl⟩
 obtain ⟨d, hd⟩ : ∃ d, d = s.getD 13 0 := ⟨_, rfl⟩
 rcases hq : Ch.quarter a b c d with ⟨x, y, z, u⟩
 rw [← ha] at ca
 rw [← hb] at cb
 rw [← hc] at cc
 rw [← hd] at cd
 have HQ : Hid (∀ W : World, Calls Tryz.prog 192 #[.int .u32 (n32 a), .int .u32 (n32 b), .int .u32 (n32 c), .int .u32 (n32 d)] W fun e w' => e = .returned (.tuple #[.int .u32 (n32 x), .int .u32 (n32 y), .int .u32 (n32 z), .int .u32 (n32 u)]) ∧ W = w') := fun W => by
   have := quarter_any a b c d W
   rw [hq] at this
   exact this
 have HR : Hid (Ch.round s 2 7 8 13 = (((s.set 2 x).set 7 y).set 8 z).set 13 u) := by
   show _ = _
   unfold Ch.round
   rw [← ha, ← hb, ← hc, ← hd, hq]
 have HB := qh h
 have hT : w.drew.cell? ⟨g, 2, none⟩ = some (.int .u32 (n32 a)) ∧ w.drew.cell? ⟨g, 7, none⟩ = some (.int .u32 (n32 b)) ∧ w.drew.cell? ⟨g, 8, none⟩ = some (.int .u32 (n32 c)) ∧ w.drew.cell? ⟨g, 13, none⟩ = some (.int .u32 (n32 d)) := ⟨ca, cb, cc, cd⟩
 have b0 := h.drew
 have b1 := b0.set_ 2 (.int .u32 (n32 x))
 have b2 := b1.set_ 7 (.int .u32 (n32 y))
 have b3 := b2.set_ 8 (.int .u32 (n32 z))
 have b4 := b3.set_ 13 (.int .u32 (n32 u))
 rw [u32s_set] at b1
 rw [u32s_set, u32s_set] at b2
 rw [u32s_set, u32s_set, u32s_set] at b3
 rw [u32s_set, u32s_set, u32s_set, u32s_set] at b4
 have hB0 := And.intro ((b0.cell 2).trans (s16_get hs 2 (by omega))) (b0.frozen 2)
 have hB1 := And.intro ((b1.cell 7).trans (s16_get (by simpa using hs) 7 (by omega))) (b1.frozen 7)
 have hB2 := And.intro ((b2.cell 8).trans (s16_get (by simpa using hs) 8 (by omega))) (b2.frozen 8)
 have hB3 := And.intro ((b3.cell 13).trans (s16_get (by simpa using hs) 13 (by omega))) (b3.frozen 13)
 have HF := qh b4
 have HW := qh (((((Wrote.refl w g).drew.setCell 2 (.int .u32 (n32 x))).setCell 7 (.int .u32 (n32 y))).setCell 8 (.int .u32 (n32 z))).setCell 13 (.int .u32 (n32 u)))
 clear ha hb hc hd hq hs h b0 b1 b2 b3 b4
 go_enter Tryz.func183, Tryz.ntmps183
 refine region_K (by kernel_rfl) 36 (fun w' => w'.cell? ⟨g, 2, none⟩ = some (.int .u32 (n32 a)) ∧ w'.cell? ⟨g, 7, none⟩ = some (.int .u32 (n32 b)) ∧ w'.cell? ⟨g, 8, none⟩ = some (.int .u32 (n32 c)) ∧ w'.cell? ⟨g, 13, none⟩ = some (.int .u32 (n32 d))) ?_
 refine AnyK.pure 0 (v := .pointer (some ⟨g, 0, none⟩)) rfl (by kernel_rfl) (fun _ _ _ h => h) rfl (fun _ => by kernel_rfl) (fun _ => hT) ?_
 refine AnyK.pure 1 (v := .int .i64 2) rfl (by kernel_rfl) (fun _ _ _ h => h) rfl (fun _ => by kernel_rfl) (fun _ => hT) ?_
 refine AnyK.pure 2 (v := .pointer (some ⟨g, 0, none⟩)) rfl (by kernel_rfl) (fun _ _ _ h => h) rfl (fun _ => by kernel_rfl) (fun _ => hT) ?_
 refine AnyK.pure 3 (v := .int .i64 7) rfl (by kernel_rfl) (fun _ _ _ h => h) rfl (fun _ => by kernel_rfl) (fun _ => hT) ?_
 refine AnyK.pure 4 (v := .pointer (some ⟨g, 0, none⟩)) rfl (by kernel_rfl) (fun _ _ _ h => h) rfl (fun _ => by kernel_rfl) (fun _ => hT) ?_
 refine AnyK.pure 5 (v := .int .i64 8) rfl (by kernel_rfl) (fun _ _ _ h => h) rfl (fun _ => by kernel_rfl) (fun _ => hT) ?_
 refine AnyK.pure 6 (v := .pointer (some ⟨g, 0, none⟩)) rfl (by kernel_rfl) (fun _ _ _ h => h) rfl (fun _ => by kernel_rfl) (fun _ => hT) ?_
 refine AnyK.pure 7 (v := .int .i64 13) rfl (by kernel_rfl) (fun _ _ _ h => h) rfl (fun _ => by kernel_rfl) (fun _ => hT) ?_
 refine AnyK.pure 8 (v := .pointer (some ⟨g, 0, none⟩)) rfl (by kernel_rfl) (fun _ _ _ h => h) rfl (fun _ => by kernel_rfl) (fun _ => hT) ?_
 refine AnyK.pure 9 (v := .int .i64 2) rfl (by kernel_rfl) (fun _ _ _ h => h) rfl (fun _ => by kernel_rfl) (fun _ => hT) ?_
 refine AnyK.pure 10 (v := .pointer (some ⟨g, 0, none⟩)) rfl (by kernel_rfl) (fun _ _ _ h => h) rfl (fun _ => by kernel_rfl) (fun _ => hT) ?_
 refine AnyK.pure 11 (v := .pointer (some ⟨g, 2, none⟩)) rfl (by kernel_rfl) (fun _ _ _ h => h) rfl (fun _ => by kernel_rfl) (fun _ => hT) ?_
 refine AnyK.load 12 (v := .int .u32 (n32 a)) rfl (by kernel_rfl) (by kernel_rfl) (by kernel_rfl) (fun _ _ _ h => h) rfl (fun w' hw' => ex_load (t := 44) (x := .tmp 22) (p := ⟨g, 2, none⟩) (by rfl) (by kernel_rfl) agU32 hw'.1) hT ?_
 refine AnyK.pure 13 (v := .pointer (some ⟨g, 0, none⟩)) rfl (by kernel_rfl) (fun _ _ _ h => h) rfl (fun _ => by kernel_rfl) (fun _ => hT) ?_
 refine AnyK.pure 14 (v := .int .i64 7) rfl (by kernel_rfl) (fun _ _ _ h => h) rfl (fun _ => by kernel_rfl) (fun _ => hT) ?_
 refine AnyK.pure 15 (v := .pointer (some ⟨g, 0, none⟩)) rfl (by kernel_rfl) (fun _ _ _ h => h) rfl (fun _ => by kernel_rfl) (fun _ => hT) ?_
 refine AnyK.pure 16 (v := .pointer (some ⟨g, 7, none⟩)) rfl (by kernel_rfl) (fun _ _ _ h => h) rfl (fun _ => by kernel_rfl) (fun _ => hT) ?_
 refine AnyK.load 17 (v := .int .u32 (n32 b)) rfl (by kernel_rfl) (by kernel_rfl) (by kernel_rfl) (fun _ _ _ h => h) rfl (fun w' hw' => ex_load (t := 44) (x := .tmp 27) (p := ⟨g, 7, none⟩) (by rfl) (by kernel_rfl) agU32 hw'.2.1) hT ?_
 refine AnyK.pure 18 (v := .pointer (some ⟨g, 0, none⟩)) rfl (by kernel_rfl) (fun _ _ _ h => h) rfl (fun _ => by kernel_rfl) (fun _ => hT) ?_
 refine AnyK.pure 19 (v := .int .i64 8) rfl (by kernel_rfl) (fun _ _ _ h => h) rfl (fun _ => by kernel_rfl) (fun _ => hT) ?_
 refine AnyK.pure 20 (v := .pointer (some ⟨g, 0, none⟩)) rfl (by kernel_rfl) (fun _ _ _ h => h) rfl (fun _ => by kernel_rfl) (fun _ => hT) ?_
 refine AnyK.pure 21 (v := .pointer (some ⟨g, 8, none⟩)) rfl (by kernel_rfl) (fun _ _ _ h => h) rfl (fun _ => by kernel_rfl) (fun _ => hT) ?_
 refine AnyK.load 22 (v := .int .u32 (n32 c)) rfl (by kernel_rfl) (by kernel_rfl) (by kernel_rfl) (fun _ _ _ h => h) rfl (fun w' hw' => ex_load (t := 44) (x := .tmp 32) (p := ⟨g, 8, none⟩) (by rfl) (by kernel_rfl) agU32 hw'.2.2.1) hT ?_
 refine AnyK.pure 23 (v := .pointer (some ⟨g, 0, none⟩)) rfl (by kernel_rfl) (fun _ _ _ h => h) rfl (fun _ => by kernel_rfl) (fun _ => hT) ?_
 refine AnyK.pure 24 (v := .int .i64 13) rfl (by kernel_rfl) (fun _ _ _ h => h) rfl (fun _ => by kernel_rfl) (fun _ => hT) ?_
 refine AnyK.pure 25 (v := .pointer (some ⟨g, 0, none⟩)) rfl (by kernel_rfl) (fun _ _ _ h => h) rfl (fun _ => by kernel_rfl) (fun _ => hT) ?_
 refine AnyK.pure 26 (v := .pointer (some ⟨g, 13, none⟩)) rfl (by kernel_rfl) (fun _ _ _ h => h) rfl (fun _ => by kernel_rfl) (fun _ => hT) ?_
 refine AnyK.load 27 (v := .int .u32 (n32 d)) rfl (by kernel_rfl) (by kernel_rfl) (by kernel_rfl) (fun _ _ _ h => h) rfl (fun w' hw' => ex_load (t := 44) (x := .tmp 37) (p := ⟨g, 13, none⟩) (by rfl) (by kernel_rfl) agU32 hw'.2.2.2) hT ?_
 refine AnyK.pure 34 (v := .pointer (some ⟨g, 0, none⟩)) rfl (by kernel_rfl) (fun _ _ _ h => h) rfl (fun _ => by kernel_rfl) (fun _ => hT) ?_
 refine AnyK.pure 37 (v := .pointer (some ⟨g, 0, none⟩)) rfl (by kernel_rfl) (fun _ _ _ h => h) rfl (fun _ => by kernel_rfl) (fun _ => hT) ?_
 refine AnyK.pure 40 (v := .pointer (some ⟨g, 0, none⟩)) rfl (by kernel_rfl) (fun _ _ _ h => h) rfl (fun _ => by kernel_rfl) (fun _ => hT) ?_
 refine AnyK.pure 43 (v := .pointer (some ⟨g, 0, none⟩)) rfl (by kernel_rfl) (fun _ _ _ h => h) rfl (fun _ => by kernel_rfl) (fun _ => hT) ?_
 refine AnyK.enter 28 (d := some 39) (f := 192) (args := #[.int .u32 (n32 a), .int .u32 (n32 b), .int .u32 (n32 c), .int .u32 (n32 d)]) (by kernel_rfl) (by kernel_rfl) (by kernel_rfl) ?_
 refine (HQ.out _).mono ?_
 rintro e w' ⟨rfl, rfl⟩
 refine ⟨_, rfl, fun _ => hT, ?_⟩
 refine AnyK.pure 29 (v := .tuple #[.int .u32 (n32 x), .int .u32 (n32 y), .int .u32 (n32 z), .int .u32 (n32 u)]) rfl (by kernel_rfl) (fun _ _ _ h => h) rfl (fun _ => by kernel_rfl) (fun _ => hT) ?_
 refine AnyK.pure 30 (v := .int .u32 (n32 x)) rfl (by kernel_rfl) (fun _ _ _ h => h) rfl (fun _ => by kernel_rfl) (fun _ => hT) ?_
 refine AnyK.pure 31 (v := .int .u32 (n32 y)) rfl (by kernel_rfl) (fun _ _ _ h => h) rfl (fun _ => by kernel_rfl) (fun _ => hT) ?_
 refine AnyK.pure 32 (v := .int .u32 (n32 z)) rfl (by kernel_rfl) (fun _ _ _ h => h) rfl (fun _ => by kernel_rfl) (fun _ => hT) ?_
 refine AnyK.pure 33 (v := .int .u32 (n32 u)) rfl (by kernel_rfl) (fun _ _ _ h => h) rfl (fun _ => by kernel_rfl) (fun _ => hT) ?_
 refine AnyK.pure 35 (v := .pointer (some ⟨g, 2, none⟩)) rfl (by kernel_rfl) (fun _ _ _ h => h) rfl (fun _ => by kernel_rfl) (fun _ => hT) ?_
 refine AnyK.store 36 (d := none) (op := .store 44 (.tmp 45) (.tmp 40)) (by kernel_rfl) (fun o ho => ex_store (p := ⟨g, 2, none⟩) (k := .u32) (n := n32 x) ho (by kernel_rfl) (by kernel_rfl) szU32 hB0.1 hB0.2) (by kernel_rfl) (fun h => (by cases h)) ?_
 refine AnyK.pure 38 (v := .pointer (some ⟨g, 7, none⟩)) rfl (by kernel_rfl) (fun _ _ _ h => h) rfl (fun _ => by kernel_rfl) (fun h => (by cases h)) ?_
 refine AnyK.store 39 (d := none) (op := .store 44 (.tmp 47) (.tmp 41)) (by kernel_rfl) (fun o ho => ex_store (p := ⟨g, 7, none⟩) (k := .u32) (n := n32 y) ho (by kernel_rfl) (by kernel_rfl) szU32 hB1.1 hB1.2) (by kernel_rfl) (fun h => (by cases h)) ?_
 refine AnyK.pure 41 (v := .pointer (some ⟨g, 8, none⟩)) rfl (by kernel_rfl) (fun _ _ _ h => h) rfl (fun _ => by kernel_rfl) (fun h => (by cases h)) ?_
 refine AnyK.store 42 (d := none) (op := .store 44 (.tmp 49) (.tmp 42)) (by kernel_rfl) (fun o ho => ex_store (p := ⟨g, 8, none⟩) (k := .u32) (n := n32 z) ho (by kernel_rfl) (by kernel_rfl) szU32 hB2.1 hB2.2) (by kernel_rfl) (fun h => (by cases h)) ?_
 refine AnyK.pure 44 (v := .pointer (some ⟨g, 13, none⟩)) rfl (by kernel_rfl) (fun _ _ _ h => h) rfl (fun _ => by kernel_rfl) (fun h => (by cases h)) ?_
 refine AnyK.store 45 (d := none) (op := .store 44 (.tmp 51) (.tmp 43)) (by kernel_rfl) (fun o ho => ex_store (p := ⟨g, 13, none⟩) (k := .u32) (n := n32 u) ho (by kernel_rfl) (by kernel_rfl) szU32 hB3.1 hB3.2) (by kernel_rfl) (fun h => (by cases h)) ?_
 refine AnyK.done (by kernel_rfl) ?_
 go_end0
 exact ⟨rfl, by rw [HR.out]; exact HF.out, HW.out⟩
set_option maxRecDepth 100000 in
set_option maxHeartbeats 4000000 in
theorem round_7 (g : Nat) (t : TypeId) (s : List UInt32) (w : World) (h : Blk w g t (u32s s)) (hs : s.length = 16) :
   Calls Tryz.prog 183 #[.pointer (some ⟨g, 0, none⟩), .int .i64 3, .int .i64 4, .int .i64 9, .int .i64 14] w fun e w' => e = .returned (.tuple #[]) ∧ Blk w' g t (u32s (Ch.round s 3 4 9 14)) ∧ Wrote g w w' := by
 have ca := (h.cell 3).trans (s16_get hs 3 (by omega))
 have cb := (h.cell 4).trans (s16_get hs 4 (by omega))
 have cc := (h.cell 9).trans (s16_get hs 9 (by omega))
 have cd := (h.cell 14).trans (s16_get hs 14 (by omega))
 obtain ⟨a, ha⟩ : ∃ a, a = s.getD 3 0 := ⟨_, rfl⟩
 obtain ⟨b, hb⟩ : ∃ b, b = s.getD 4 0 := ⟨_, rfl⟩
 obtain ⟨c, hc⟩ : ∃ c, c = s.getD 9 0 := ⟨_, rfl⟩
 obtain ⟨d, hd⟩ : ∃ d, d = s.getD 14 0 := ⟨_, rfl⟩
 rcases hq : Ch.quarter a b c d with ⟨x, y, z, u⟩
 rw [← ha] at ca
 rw [← hb] at cb
 rw [← hc] at cc
 rw [← hd] at cd
 have HQ : Hid (∀ W : World, Calls Tryz.prog 192 #[.int .u32 (n32 a), .int .u32 (n32 b), .int .u32 (n32 c), .int .u32 (n32 d)] W fun e w' => e = .returned (.tuple #[.int .u32 (n32 x), .int .u32 (n32 y), .int .u32 (n32 z), .int .u32 (n32 u)]) ∧ W = w') := fun W => by
   have := quarter_any a b c d W
   rw [hq] at this
   exact this
 have HR : Hid (Ch.round s 3 4 9 14 = (((s.set 3 x).set 4 y).set 9 z).set 14 u) := by
   show _ = _
   unfold Ch.round
   rw [← ha, ← hb, ← hc, ← hd, hq]
 have HB := qh h
 have hT : w.drew.cell? ⟨g, 3, none⟩ = some (.int .u32 (n32 a)) ∧ w.drew.cell? ⟨g, 4, none⟩ = some (.int .u32 (n32 b)) ∧ w.drew.cell? ⟨g, 9, none⟩ = some (.int .u32 (n32 c)) ∧ w.drew.cell? ⟨g, 14, none⟩ = some (.int .u32 (n32 d)) := ⟨ca, cb, cc, cd⟩
 have b0 := h.drew
 have b1 := b0.set_ 3 (.int .u32 (n32 x))
 have b2 := b1.set_ 4 (.int .u32 (n32 y))
 have b3 := b2.set_ 9 (.int .u32 (n32 z))
 have b4 := b3.set_ 14 (.int .u32 (n32 u))
 rw [u32s_set] at b1
 rw [u32s_set, u32s_set] at b2
 rw [u32s_set, u32s_set, u32s_set] at b3
 rw [u32s_set, u32s_set, u32s_set, u32s_set] at b4
 have hB0 := And.intro ((b0.cell 3).trans (s16_get hs 3 (by omega))) (b0.frozen 3)
 have hB1 := And.intro ((b1.cell 4).trans (s16_get (by simpa using hs) 4 (by omega))) (b1.frozen 4)
 have hB2 := And.intro ((b2.cell 9).trans (s16_get (by simpa using hs) 9 (by omega))) (b2.frozen 9)
 have hB3 := And.intro ((b3.cell 14).trans (s16_get (by simpa using hs) 14 (by omega))) (b3.frozen 14)
 have HF := qh b4
 have HW := qh (((((Wrote.refl w g).drew.setCell 3 (.int .u32 (n32 x))).setCell 4 (.int .u32 (n32 y))).setCell 9 (.int .u32 (n32 z))).setCell 14 (.int .u32 (n32 u)))
 clear ha hb hc hd hq hs h b0 b1 b2 b3 b4
 go_enter Tryz.func183, Tryz.ntmps183
 refine region_K (by kernel_rfl) 36 (fun w' => w'.cell? ⟨g, 3, none⟩ = some (.int .u32 (n32 a)) ∧ w'.cell? ⟨g, 4, none⟩ = some (.int .u32 (n32 b)) ∧ w'.cell? ⟨g, 9, none⟩ = some (.int .u32 (n32 c)) ∧ w'.cell? ⟨g, 14, none⟩ = some (.int .u32 (n32 d))) ?_
 refine AnyK.pure 0 (v := .pointer (some ⟨g, 0, none⟩)) rfl (by kernel_rfl) (fun _ _ _ h => h) rfl (fun _ => by kernel_rfl) (fun _ => hT) ?_
 refine AnyK.pure 1 (v := .int .i64 3) rfl (by kernel_rfl) (fun _ _ _ h => h) rfl (fun _ => by kernel_rfl) (fun _ => hT) ?_
 refine AnyK.pure 2 (v := .pointer (some ⟨g, 0, none⟩)) rfl (by kernel_rfl) (fun _ _ _ h => h) rfl (fun _ => by kernel_rfl) (fun _ => hT) ?_
 refine AnyK.pure 3 (v := .int .i64 4) rfl (by kernel_rfl) (fun _ _ _ h => h) rfl (fun _ => by kernel_rfl) (fun _ => hT) ?_
 refine AnyK.pure 4 (v := .pointer (some ⟨g, 0, none⟩)) rfl (by kernel_rfl) (fun _ _ _ h => h) rfl (fun _ => by kernel_rfl) (fun _ => hT) ?_
 refine AnyK.pure 5 (v := .int .i64 9) rfl (by kernel_rfl) (fun _ _ _ h => h) rfl (fun _ => by kernel_rfl) (fun _ => hT) ?_
 refine AnyK.pure 6 (v := .pointer (some ⟨g, 0, none⟩)) rfl (by kernel_rfl) (fun _ _ _ h => h) rfl (fun _ => by kernel_rfl) (fun _ => hT) ?_
 refine AnyK.pure 7 (v := .int .i64 14) rfl (by kernel_rfl) (fun _ _ _ h => h) rfl (fun _ => by kernel_rfl) (fun _ => hT) ?_
 refine AnyK.pure 8 (v := .pointer (some ⟨g, 0, none⟩)) rfl (by kernel_rfl) (fun _ _ _ h => h) rfl (fun _ => by kernel_rfl) (fun _ => hT) ?_
 refine AnyK.pure 9 (v := .int .i64 3) rfl (by kernel_rfl) (fun _ _ _ h => h) rfl (fun _ => by kernel_rfl) (fun _ => hT) ?_
 refine AnyK.pure 10 (v := .pointer (some ⟨g, 0, none⟩)) rfl (by kernel_rfl) (fun _ _ _ h => h) rfl (fun _ => by kernel_rfl) (fun _ => hT) ?_
 refine AnyK.pure 11 (v := .pointer (some ⟨g, 3, none⟩)) rfl (by kernel_rfl) (fun _ _ _ h => h) rfl (fun _ => by kernel_rfl) (fun _ => hT) ?_
 refine AnyK.load 12 (v := .int .u32 (n32 a)) rfl (by kernel_rfl) (by kernel_rfl) (by kernel_rfl) (fun _ _ _ h => h) rfl (fun w' hw' => ex_load (t := 44) (x := .tmp 22) (p := ⟨g, 3, none⟩) (by rfl) (by kernel_rfl) agU32 hw'.1) hT ?_
 refine AnyK.pure 13 (v := .pointer (some ⟨g, 0, none⟩)) rfl (by kernel_rfl) (fun _ _ _ h => h) rfl (fun _ => by kernel_rfl) (fun _ => hT) ?_
 refine AnyK.pure 14 (v := .int .i64 4) rfl (by kernel_rfl) (fun _ _ _ h => h) rfl (fun _ => by kernel_rfl) (fun _ => hT) ?_
 refine AnyK.pure 15 (v := .pointer (some ⟨g, 0, none⟩)) rfl (by kernel_rfl) (fun _ _ _ h => h) rfl (fun _ => by kernel_rfl) (fun _ => hT) ?_
 refine AnyK.pure 16 (v := .pointer (some ⟨g, 4, none⟩)) rfl (by kernel_rfl) (fun _ _ _ h => h) rfl (fun _ => by kernel_rfl) (fun _ => hT) ?_
 refine AnyK.load 17 (v := .int .u32 (n32 b)) rfl (by kernel_rfl) (by kernel_rfl) (by kernel_rfl) (fun _ _ _ h => h) rfl (fun w' hw' => ex_load (t := 44) (x := .tmp 27) (p := ⟨g, 4, none⟩) (by rfl) (by kernel_rfl) agU32 hw'.2.1) hT ?_
 refine AnyK.pure 18 (v := .pointer (some ⟨g, 0, none⟩)) rfl (by kernel_rfl) (fun _ _ _ h => h) rfl (fun _ => by kernel_rfl) (fun _ => hT) ?_
 refine AnyK.pure 19 (v := .int .i64 9) rfl (by kernel_rfl) (fun _ _ _ h => h) rfl (fun _ => by kernel_rfl) (fun _ => hT) ?_
 refine AnyK.pure 20 (v := .pointer (some ⟨g, 0, none⟩)) rfl (by kernel_rfl) (fun _ _ _ h => h) rfl (fun _ => by kernel_rfl) (fun _ => hT) ?_
 refine AnyK.pure 21 (v := .pointer (some ⟨g, 9, none⟩)) rfl (by kernel_rfl) (fun _ _ _ h => h) rfl (fun _ => by kernel_rfl) (fun _ => hT) ?_
 refine AnyK.load 22 (v := .int .u32 (n32 c)) rfl (by kernel_rfl) (by kernel_rfl) (by kernel_rfl) (fun _ _ _ h => h) rfl (fun w' hw' => ex_load (t := 44) (x := .tmp 32) (p := ⟨g, 9, none⟩) (by rfl) (by kernel_rfl) agU32 hw'.2.2.1) hT ?_
 refine AnyK.pure 23 (v := .pointer (some ⟨g, 0, none⟩)) rfl (by kernel_rfl) (fun _ _ _ h => h) rfl (fun _ => by kernel_rfl) (fun _ => hT) ?_
 refine AnyK.pure 24 (v := .int .i64 14) rfl (by kernel_rfl) (fun _ _ _ h => h) rfl (fun _ => by kernel_rfl) (fun _ => hT) ?_
 refine AnyK.pure 25 (v := .pointer (some ⟨g, 0, none⟩)) rfl (by kernel_rfl) (fun _ _ _ h => h) rfl (fun _ => by kernel_rfl) (fun _ => hT) ?_
 refine AnyK.pure 26 (v := .pointer (some ⟨g, 14, none⟩)) rfl (by kernel_rfl) (fun _ _ _ h => h) rfl (fun _ => by kernel_rfl) (fun _ => hT) ?_
 refine AnyK.load 27 (v := .int .u32 (n32 d)) rfl (by kernel_rfl) (by kernel_rfl) (by kernel_rfl) (fun _ _ _ h => h) rfl (fun w' hw' => ex_load (t := 44) (x := .tmp 37) (p := ⟨g, 14, none⟩) (by rfl) (by kernel_rfl) agU32 hw'.2.2.2) hT ?_
 refine AnyK.pure 34 (v := .pointer (some ⟨g, 0, none⟩)) rfl (by kernel_rfl) (fun _ _ _ h => h) rfl (fun _ => by kernel_rfl) (fun _ => hT) ?_
 refine AnyK.pure 37 (v := .pointer (some ⟨g, 0, none⟩)) rfl (by kernel_rfl) (fun _ _ _ h => h) rfl (fun _ => by kernel_rfl) (fun _ => hT) ?_
 refine AnyK.pure 40 (v := .pointer (some ⟨g, 0, none⟩)) rfl (by kernel_rfl) (fun _ _ _ h => h) rfl (fun _ => by kernel_rfl) (fun _ => hT) ?_
 refine AnyK.pure 43 (v := .pointer (some ⟨g, 0, none⟩)) rfl (by kernel_rfl) (fun _ _ _ h => h) rfl (fun _ => by kernel_rfl) (fun _ => hT) ?_
 refine AnyK.enter 28 (d := some 39) (f := 192) (args := #[.int .u32 (n32 a), .int .u32 (n32 b), .int .u32 (n32 c), .int .u32 (n32 d)]) (by kernel_rfl) (by kernel_rfl) (by kernel_rfl) ?_
 refine (HQ.out _).mono ?_
 rintro e w' ⟨rfl, rfl⟩
 refine ⟨_, rfl, fun _ => hT, ?_⟩
 refine AnyK.pure 29 (v := .tuple #[.int .u32 (n32 x), .int .u32 (n32 y), .int .u32 (n32 z), .int .u32 (n32 u)]) rfl (by kernel_rfl) (fun _ _ _ h => h) rfl (fun _ => by kernel_rfl) (fun _ => hT) ?_
 refine AnyK.pure 30 (v := .int .u32 (n32 x)) rfl (by kernel_rfl) (fun _ _ _ h => h) rfl (fun _ => by kernel_rfl) (fun _ => hT) ?_
 refine AnyK.pure 31 (v := .int .u32 (n32 y)) rfl (by kernel_rfl) (fun _ _ _ h => h) rfl (fun _ => by kernel_rfl) (fun _ => hT) ?_
 refine AnyK.pure 32 (v := .int .u32 (n32 z)) rfl (by kernel_rfl) (fun _ _ _ h => h) rfl (fun _ => by kernel_rfl) (fun _ => hT) ?_
 refine AnyK.pure 33 (v := .int .u32 (n32 u)) rfl (by kernel_rfl) (fun _ _ _ h => h) rfl (fun _ => by kernel_rfl) (fun _ => hT) ?_
 refine AnyK.pure 35 (v := .pointer (some ⟨g, 3, none⟩)) rfl (by kernel_rfl) (fun _ _ _ h => h) rfl (fun _ => by kernel_rfl) (fun _ => hT) ?_
 refine AnyK.store 36 (d := none) (op := .store 44 (.tmp 45) (.tmp 40)) (by kernel_rfl) (fun o ho => ex_store (p := ⟨g, 3, none⟩) (k := .u32) (n := n32 x) ho (by kernel_rfl) (by kernel_rfl) szU32 hB0.1 hB0.2) (by kernel_rfl) (fun h => (by cases h)) ?_
 refine AnyK.pure 38 (v := .pointer (some ⟨g, 4, none⟩)) rfl (by kernel_rfl) (fun _ _ _ h => h) rfl (fun _ => by kernel_rfl) (fun h => (by cases h)) ?_
 refine AnyK.store 39 (d := none) (op := .store 44 (.tmp 47) (.tmp 41)) (by kernel_rfl) (fun o ho => ex_store (p := ⟨g, 4, none⟩) (k := .u32) (n := n32 y) ho (by kernel_rfl) (by kernel_rfl) szU32 hB1.1 hB1.2) (by kernel_rfl) (fun h => (by cases h)) ?_
 refine AnyK.pure 41 (v := .pointer (some ⟨g, 9, none⟩)) rfl (by kernel_rfl) (fun _ _ _ h => h) rfl (fun _ => by kernel_rfl) (fun h => (by cases h)) ?_
 refine AnyK.store 42 (d := none) (op := .store 44 (.tmp 49) (.tmp 42)) (by kernel_rfl) (fun o ho => ex_store (p := ⟨g, 9, none⟩) (k := .u32) (n := n32 z) ho (by kernel_rfl) (by kernel_rfl) szU32 hB2.1 hB2.2) (by kernel_rfl) (fun h => (by cases h)) ?_
 refine AnyK.pure 44 (v := .pointer (some ⟨g, 14, none⟩)) rfl (by kernel_rfl) (fun _ _ _ h => h) rfl (fun _ => by kernel_rfl) (fun h => (by cases h)) ?_
 refine AnyK.store 45 (d := none) (op := .store 44 (.tmp 51) (.tmp 43)) (by kernel_rfl) (fun o ho => ex_store (p := ⟨g, 14, none⟩) (k := .u32) (n := n32 u) ho (by kernel_rfl) (by kernel_rfl) szU32 hB3.1 hB3.2) (by kernel_rfl) (fun h => (by cases h)) ?_
 refine AnyK.done (by kernel_rfl) ?_
 go_end0
 exact ⟨rfl, by rw [HR.out]; exact HF.out, HW.out⟩
end Go.Proofs.YtpgpaenloaphaaaGreat
