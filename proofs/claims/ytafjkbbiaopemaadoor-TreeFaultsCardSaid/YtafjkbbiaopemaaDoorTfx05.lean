/- Part of the proof: SlG. -/
import Derived.Great.BuildSlice
import Derived.Test.YtafjkbbiaopemaaDoorTfx02
set_option linter.unusedVariables false
namespace Go.Proofs.YtafjkbbiaopemaaDoor
open Go.RowKit
section
variable {P : Program} {w : World} {o : Oper} {a : Act} {K : Act → World → Prop} {Q : Exit → Act → World → Prop}
end
section
variable {P : Program} {ops : Array Oper} {Q : Exit → Act → World → Prop} {md : Region.Mode} {T : World → Prop} {k : Nat}
theorem AnyK.storeAt {fuel : Nat} {listed : Array Bool} {a : Act} {w : World} (i : Nat) {oi : Oper} {t : TypeId} {x y : Operand} (g off : Nat) (cs : List Value) (t' : TypeId) (Z Z' : List Value) (hi : ops[i]? = some oi) (hid : oi.dst = none) (hg : oi.guard = none) (ho : oi.op = .store t x y) (hr : Region.ready md ops listed = [i])
    (hx : a.eval x = .pointer (some ⟨g, off, none⟩)) (hy : a.eval y = .agg cs.toArray) (hb : Blk w g t' Z) (hsz : (P.info? t).map (·.size) = some cs.length) (hone : ∀ v ∈ cs, v.oneCell' = true) (hlen : off + cs.length ≤ Z.length) (hZ : splice Z off cs = Z')
    (hT : ∀ w', Blk w' g t' Z' → Only w w' g → (listed.setIfInBounds i true).getD k true = false → T w')
    (h : ∀ w', Blk w' g t' Z' → Only w w' g → AnyK P md ops Q k T fuel (listed.setIfInBounds i true) (a.put none undef) w') : AnyK P md ops Q k T (fuel + 1) listed a w := by
  subst hZ
  refine AnyK.one i hi hr hg ?_
  refine wp_store t x y ho g off cs hx hy t' Z hb hsz hone (by omega) ?_
  intro w' hb' ho'
  rw [hid]
  exact ⟨hT w' hb' ho', h w' hb' ho'⟩
theorem AnyK.main {fuel : Nat} {listed : Array Bool} {a : Act} {w : World} (i : Nat) {oi : Oper} (hi : ops[i]? = some oi) (hr : Region.ready md ops listed = [i]) (hg : oi.guard = none)
    (h : ∀ K : Act → World → Prop, (∀ a' w', ((listed.setIfInBounds i true).getD k true = false → T w') ∧ AnyK P md ops Q k T fuel (listed.setIfInBounds i true) a' w' → K a' w') → oi.wp P a w K Q) : AnyK P md ops Q k T (fuel + 1) listed a w :=
  AnyK.one i hi hr hg (h _ fun _ _ h => h)
end
section
variable {P : Program} {w : World} {o : Oper} {a : Act}
theorem ex_two (t e : TypeId) (x y : Operand) (ho : o.op = .buildSlice t 2 #[(0, x), (1, y)]) (cs ds : List Value) (hx : a.eval x = .agg cs.toArray) (hy : a.eval y = .agg ds.toArray) (hu : P.underlying t = some (.slice e)) (hi : (P.info? e).map (fun i => ((i.zero.map (fun z => z.cells.size)), i.size)) = some (some cs.length, cs.length)) (hl : ds.length = cs.length) (hpos : 0 < cs.length) (hsm : cs.length ≤ 1000000) :
    (execOp a.eval o).run P w = .ok (.value (.slice (some ⟨w.heap.size, 0, none⟩) 2 2)) (w.alloc (.cells (cs ++ ds).toArray e)) := by
  cases hie : P.info? e with
  | none => simp [hie] at hi
  | some ie =>
    cases hz : ie.zero with
    | none => simp [hie, hz] at hi
    | some z =>
      simp only [hie, hz, Option.map_some, Option.some.injEq, Prod.mk.injEq] at hi
      have h1 : (#[(0, x), (1, y)].map fun (p : Nat × Operand) => (p.1, a.eval p.2)).toList = [(0, .agg cs.toArray), (1, .agg ds.toArray)] := by simp [hx, hy]
      have h2 : ∃ Z : List Value, ((Array.range (2 * ie.size)).map (z.cells[· % z.cells.size]!)) = Z.toArray ∧ Z.length = cs.length + ds.length := ⟨((Array.range (2 * ie.size)).map (z.cells[· % z.cells.size]!)).toList, Array.toArray_toList.symm, by simp [hi.2]; omega⟩
      obtain ⟨Z, hZ, hZl⟩ := h2
      have hfill : Instr.fill (fun i => some (i * ie.size, ie.size)) ((Array.range (2 * ie.size)).map (z.cells[· % z.cells.size]!)) (#[(0, x), (1, y)].map fun (p : Nat × Operand) => (p.1, a.eval p.2)).toList = some (cs ++ ds).toArray := by
        rw [h1, hZ, fill_cons (cs := cs) (off := 0) rfl (by simp [hi.2]) (by omega), fill_cons (cs := ds) (off := cs.length) rfl (by simp [hi.2, hl]) (by simp [splice]; omega), splice_two Z cs ds cs.length rfl hZl]
        rfl
      have h := run_buildSlice (P := P) w t e 2 (#[(0, x), (1, y)].map fun (p : Nat × Operand) => (p.1, a.eval p.2)) (cs ++ ds).toArray ie z hu hie hz (by rw [hi.2]; omega) (by rw [hi.2]; omega) hfill
      unfold execOp
      simp only [ho]
      simp only [Sem.run_bind, h, Result.andThen_ok]
      rfl
end
section
variable {P : Program} {w : World} {o : Oper} {a : Act}
theorem ex_load {t : TypeId} {x : Operand} {p : Addr} {v : Value} (ho : o.op = .load t x) (hx : a.eval x = .pointer (some p)) (hn : ∀ w, (isAgg t).run P w = .ok false w) (hc : w.cell? p = some v) : (execOp a.eval o).run P w = .ok (.value v) w := by
  unfold execOp
  simp [ho, hx, Instr.loadAt, Instr.sureAddr, loadVar, hn, hc]
theorem ey_loadR {t : TypeId} {x : Operand} {p v : Value} (ho : o.op = .load t x) (hx : a.eval x = p) (hr : (Instr.loadAt t p).run P w = .ok v w) : (execOp a.eval o).run P w = .ok (.value v) w := by
  unfold execOp
  simp [ho, hx, hr]
end
theorem ex_bld {P : Program} {o : Oper} {a : Act} {w : World} (t : TypeId) (parts : List (Nat × Operand)) (ho : o.op = .build t parts.toArray) (parts' : List (Nat × Value)) (he : parts.map (fun p => (p.1, a.eval p.2)) = parts') {v : Value} (hrun : (Instr.build t parts'.toArray).run P w = .ok v w) : (execOp a.eval o).run P w = .ok (.value v) w := by
  unfold execOp
  simp only [ho, Sem.run_bind, List.map_toArray, he, hrun, Sem.run_pure, Result.andThen_ok]
end Go.Proofs.YtafjkbbiaopemaaDoor
