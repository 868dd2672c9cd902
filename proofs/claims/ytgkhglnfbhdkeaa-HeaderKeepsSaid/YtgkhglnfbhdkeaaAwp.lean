/- What the first hop of a built header reads; slices of one struct. -/
import Derived.Test.YtgkhglnfbhdkeaaBld
import Derived.Great.BuildSlice
namespace Go.Proofs.Ytgkhglnfbhdkeaa
open Go.RowKit

theorem fits_head {c : Cm} {s : Sp} {f P : List UInt8} {m : Nat} (hc : c.ok) (hs : s.ok) (hf : f.length ≤ 208) (hP : P.length = 288) : fits s (headOf c s f m P) = true := by
  have hb := betaOf_len (s := s) (m := m) hc hf hP
  unfold fits headOf
  rw [decide_eq_true_iff]
  have e1 : ((s.alpha ++ ((Mc.tag s.mac (s.alpha ++ betaOf c s f m P)).take 16 ++ betaOf c s f m P)).drop 32).take 16 = (Mc.tag s.mac (s.alpha ++ betaOf c s f m P)).take 16 := by
    rw [List.drop_left' hs.2.2.2.2.1, List.take_left' (by rw [List.length_take, Mc.tag_len]; rfl)]
  have e2 : ((s.alpha ++ ((Mc.tag s.mac (s.alpha ++ betaOf c s f m P)).take 16 ++ betaOf c s f m P)).drop 48).take 240 = betaOf c s f m P := by
    rw [← List.append_assoc, List.drop_left' (by rw [List.length_append, hs.2.2.2.2.1, List.length_take, Mc.tag_len]; rfl), List.take_of_length_le (by omega)]
  rw [e1, tagOf, e2, List.take_left' hs.2.2.2.2.1]
theorem xor_append {a b c d : List UInt8} (h : a.length = c.length) : Ch.xor (a ++ b) (c ++ d) = Ch.xor a c ++ Ch.xor b d := List.zipWith_append h
theorem turn_append (key a b : List UInt8) : Ch.turn key (a ++ b) = Ch.turn key a ++ Ch.xor b (Ch.piece key a.length b.length) := by
  unfold Ch.turn
  rw [List.length_append, Ch.piece_add, xor_append (Ch.piece_len _ _ _).symm, Nat.zero_add]
theorem turn_back (key x y : List UInt8) : (Ch.turn key (Ch.turn key x ++ y)).take x.length = x := by
  rw [turn_append, Ch.turn_turn, List.take_left]
/-- what the hop of a built header reads first is its command -/
theorem plain_head {c : Cm} {s : Sp} {f P : List UInt8} {m : Nat} (hc : c.ok) (hs : s.ok) (hf : f.length ≤ 208) (hP : P.length = 288) : (plainOf s (headOf c s f m P)).take 32 = c.enc := by
  have hb := betaOf_len (s := s) (m := m) hc hf hP
  have e2 : ((headOf c s f m P).drop 48).take 240 = betaOf c s f m P := by
    unfold headOf
    rw [← List.append_assoc, List.drop_left' (by rw [List.length_append, hs.2.2.2.2.1, List.length_take, Mc.tag_len]; rfl), List.take_of_length_le (by omega)]
  have hel := Cm.enc_len hc
  unfold plainOf
  rw [e2]
  have key : ∀ x y z, x.length = 32 → (Ch.turn s.stream ((Ch.turn s.stream (x ++ y)) ++ z)).take 32 = x := fun x y z hx => by
    have h1 := turn_back s.stream (x ++ y) z
    have h2 := congrArg (List.take 32) h1
    rw [List.take_take, Nat.min_eq_left (by rw [List.length_append]; omega), List.take_left' hx] at h2
    exact h2
  unfold betaOf
  split
  · rw [List.append_assoc]; exact key _ _ _ hel
  · exact key _ _ _ hel

section
variable {P : Program} {w : World} {ops : Array Oper} {rest : List Oper} {o : Oper} {a : Act} {K : Act → World → Prop} {Q : Exit → Act → World → Prop}
theorem wp_slice1 (t e : TypeId) (x : Operand) (ho : o.op = .buildSlice t 1 #[(0, x)]) (cs : List Value) (hx : a.eval x = .agg cs.toArray) (hu : P.underlying t = some (.slice e)) (hi : (P.info? e).map (fun i => ((i.zero.map (fun z => z.cells.size)), i.size)) = some (some cs.length, cs.length)) (hpos : 0 < cs.length) (hsm : cs.length ≤ 16777216)
    (h : K (a.put o.dst (.slice (some ⟨w.heap.size, 0, none⟩) 1 1)) (w.alloc (.cells cs.toArray e))) : o.wp P a w K Q := by
  cases hie : P.info? e with
  | none => simp [hie] at hi
  | some ie =>
    cases hz : ie.zero with
    | none => simp [hie, hz] at hi
    | some z =>
      simp only [hie, hz, Option.map_some, Option.some.injEq, Prod.mk.injEq] at hi
      refine wp_buildSlice t e 1 #[(0, x)] ho cs.toArray ie z hu hie hz (by rw [hi.2]; omega) (by rw [hi.2]; omega) ?_ h
      have h1 : (#[(0, x)].map fun (p : Nat × Operand) => (p.1, a.eval p.2)).toList = [(0, .agg cs.toArray)] := by simp [hx]
      have h2 : ∃ Z : List Value, ((Array.range (1 * ie.size)).map (z.cells[· % z.cells.size]!)) = Z.toArray ∧ Z.length = cs.length := ⟨((Array.range (1 * ie.size)).map (z.cells[· % z.cells.size]!)).toList, Array.toArray_toList.symm, by simp [hi.2]⟩
      obtain ⟨Z, hZ, hZl⟩ := h2
      show Instr.fill _ _ (#[(0, x)].map fun (p : Nat × Operand) => (p.1, a.eval p.2)).toList = _
      rw [h1, hZ, fill_cons (cs := cs) (off := 0) rfl (by simp [hi.2]) (by omega), splice_whole _ _ hZl.symm]
      rfl
theorem wpList_slice1 (hgd : o.guard = none) (t e : TypeId) (x : Operand) (ho : o.op = .buildSlice t 1 #[(0, x)]) (cs : List Value) (hx : a.eval x = .agg cs.toArray) (hu : P.underlying t = some (.slice e)) (hi : (P.info? e).map (fun i => ((i.zero.map (fun z => z.cells.size)), i.size)) = some (some cs.length, cs.length)) (hpos : 0 < cs.length) (hsm : cs.length ≤ 16777216)
    (h : wpList P ops Q rest (a.put o.dst (.slice (some ⟨w.heap.size, 0, none⟩) 1 1)) (w.alloc (.cells cs.toArray e))) : wpList P ops Q (o :: rest) a w :=
  wpList_of hgd fun _ hK => wp_slice1 t e x ho cs hx hu hi hpos hsm (hK _ _ h)
end
theorem z1cm : (Try.prog.info? 76).map (fun i => ((i.zero.map (fun z => z.cells.size)), i.size)) = some (some 20, 20) := by kernel_rfl
theorem z1sp : (Try.prog.info? 69).map (fun i => ((i.zero.map (fun z => z.cells.size)), i.size)) = some (some 192, 192) := by kernel_rfl
end Go.Proofs.Ytgkhglnfbhdkeaa
