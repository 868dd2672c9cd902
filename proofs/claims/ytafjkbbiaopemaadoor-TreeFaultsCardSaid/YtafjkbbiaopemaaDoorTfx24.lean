/- Part of the proof: Tw. -/
import Derived.Test.YtafjkbbiaopemaaDoorTfx23
set_option linter.unusedVariables false
namespace Go.Proofs.YtafjkbbiaopemaaDoor.Tr
open Go.RowKit
section
variable {P : Program} {w : World} {o : Oper} {a : Act}
theorem ex_one1 (t e : TypeId) (x : Operand) (ho : o.op = .buildSlice t 1 #[(0, x)]) (cs : List Value) (hx : a.eval x = .agg cs.toArray) (hu : P.underlying t = some (.slice e)) (hi : (P.info? e).map (fun i => ((i.zero.map (fun z => z.cells.size)), i.size)) = some (some cs.length, cs.length)) (hpos : 0 < cs.length) (hsm : cs.length ≤ 1000000) :
    (execOp a.eval o).run P w = .ok (.value (.slice (some ⟨w.heap.size, 0, none⟩) 1 1)) (w.alloc (.cells cs.toArray e)) := by
  cases hie : P.info? e with
  | none => simp [hie] at hi
  | some ie =>
    cases hz : ie.zero with
    | none => simp [hie, hz] at hi
    | some z =>
      simp only [hie, hz, Option.map_some, Option.some.injEq, Prod.mk.injEq] at hi
      have h1 : (#[(0, x)].map fun (p : Nat × Operand) => (p.1, a.eval p.2)).toList = [(0, .agg cs.toArray)] := by simp [hx]
      have h2 : ∃ Z : List Value, ((Array.range (1 * ie.size)).map (z.cells[· % z.cells.size]!)) = Z.toArray ∧ Z.length = cs.length := ⟨((Array.range (1 * ie.size)).map (z.cells[· % z.cells.size]!)).toList, Array.toArray_toList.symm, by simp [hi.2]⟩
      obtain ⟨Z, hZ, hZl⟩ := h2
      have hfill : Instr.fill (fun i => some (i * ie.size, ie.size)) ((Array.range (1 * ie.size)).map (z.cells[· % z.cells.size]!)) (#[(0, x)].map fun (p : Nat × Operand) => (p.1, a.eval p.2)).toList = some cs.toArray := by
        rw [h1, hZ, fill_cons (cs := cs) (off := 0) rfl (by simp [hi.2]) (by omega), splice_whole Z cs (by omega)]
        rfl
      have h := run_buildSlice (P := P) w t e 1 (#[(0, x)].map fun (p : Nat × Operand) => (p.1, a.eval p.2)) cs.toArray ie z hu hie hz (by rw [hi.2]; omega) (by rw [hi.2]; omega) hfill
      unfold execOp
      simp only [ho]
      simp only [Sem.run_bind, h, Result.andThen_ok]
      rfl
theorem ey_storeS {t : TypeId} {x y : Operand} {p : Addr} {u : Value} {A : Option Addr} {n c : Nat} (ho : o.op = .store t x y) (hx : a.eval x = .pointer (some p)) (hy : a.eval y = .slice A n c) (hz : ∀ w, (sizeOf t).run P w = .ok 1 w) (hc : w.cell? p = some u) (hf : w.frozen? p = false) : (execOp a.eval o).run P w = .ok .skip (w.setCell p (.slice A n c)) := by
  unfold execOp
  simp [ho, hx, hy, Instr.storeAt, Instr.sureAddr, storeVar, hz, Value.cells, storeCells, store, Addr.add, Sem.run, hc, hf]
end
theorem eEx : ElemIs Tryd.prog 38 5 72 := ElemIs.of (z := .agg #[.string ByteArray.empty, .int .i64 0, .string ByteArray.empty, .int .i64 0, .slice none 0 0]) (by kernel_rfl) rfl (by omega)
theorem szSlx (w : World) : (sizeOf 36).run Tryd.prog w = .ok 1 w := by kernel_rfl
theorem agSlx (w : World) : (isAgg 36).run Tryd.prog w = .ok false w := by kernel_rfl
theorem own_same {w w' : World} {base n : Nat} {e : TypeId} {size : Nat} {v : Value} {xs : List Value} (h : w.ownsRow base e size v n xs) (hB : ∀ k, base ≤ k → k < w.heap.size → v.ownBlock = some k → w'.heap[k]? = w.heap[k]?) : w'.ownsRow base e size v n xs := by
  obtain ⟨h1, h2⟩ := h
  refine ⟨h1, ?_⟩
  rcases h2 with h2 | ⟨g, cap, cur, hv, hb, hg, r⟩
  · exact .inl h2
  · exact .inr ⟨g, cap, cur, hv, hb, (hB g hb (Array.getElem?_eq_some_iff.1 hg).1 (by rw [hv]; rfl)).trans hg, r⟩
end Go.Proofs.YtafjkbbiaopemaaDoor.Tr
