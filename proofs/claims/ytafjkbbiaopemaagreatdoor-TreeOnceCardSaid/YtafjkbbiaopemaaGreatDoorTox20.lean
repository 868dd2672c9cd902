/- Part of the proof: Tv, Tw. -/
import Derived.Test.YtafjkbbiaopemaaGreatDoorTox19
set_option linter.unusedVariables false
namespace Go.Proofs.YtafjkbbiaopemaaGreatDoor.Tr
open Go.RowKit
section
variable {gp gs : Nat} {A : Option Addr} {n c : Nat} {ts : List Lx.Tok} {s q q' : PS} {w w' w0 : World} {g : Nat} {E : Ex} {a : Option Addr × Nat}
set_option maxRecDepth 100000 in
set_option maxHeartbeats 1000000 in
theorem factor_tx (cx : Cx gp gs A n ts) (ex : PS → Ex × PS) (h : PSt gp gs A n c ts s w) (hk4 : kindIs ts 4 s = true) : Calls Tryz.prog 111 #[.pointer (some ⟨gp, 0, none⟩)] w fun e w' => ∃ a : Option Addr × Nat, e = .returned (.agg (exC (factorP ts ex s).1 a).toArray) ∧ ArgsIn (Fr w.heap.size) w' a.1 (factorP ts ex s).1.args ∧ PSt gp gs A n c ts (factorP ts ex s).2 w' ∧ Wr [gp, gs] w w' := by
  have HK4 := Lib.hid (fun W (h : PSt gp gs A n c ts s W) => kind4_c cx h)
  have HH := Lib.hid (h.alloc (.cells #[.string { data := #[] }, .int .i64 0, .string { data := #[] }, .int .i64 0, .slice none 0 0] 39))
  have HE : Hid (Wr [gp, gs] w (w.alloc (.cells #[.string { data := #[] }, .int .i64 0, .string { data := #[] }, .int .i64 0, .slice none 0 0] 39))) := (Wr.refl _ _).alloc _
  have HB : Hid (Blk (w.alloc (.cells #[.string { data := #[] }, .int .i64 0, .string { data := #[] }, .int .i64 0, .slice none 0 0] 39)) w.heap.size 39 zEc) := Blk.new' rfl rfl
  have HLO := Lib.hid (h.lo cx)
  have hpl := h.par.lt
  have hsl := h.stm.1.lt
  have c0 : ∀ W, PSt gp gs A n c ts s W → W.cell? ⟨gp, 0, none⟩ = some (.pointer (some ⟨gs, 0, none⟩)) := fun W h => h.par.cell 0
  have HC0 := Lib.hid c0
  clear c0
  rw [hk4] at HK4
  have hk6 : (tokAt ts s.i).kind ≠ 6 := by
    have hk := hk4
    unfold kindIs pk at hk
    simp only [Bool.and_eq_true, decide_eq_true_eq] at hk
    omega
  have HNX := Lib.hid (fun W (h : PSt gp gs A n c ts s W) => next_c cx h hk6)
  have HR : Hid (factorP ts ex s = (.mk k_text 0 (bytesOf (pk ts s).text) ((pk ts s).at_ : Int) [], nxt s)) := (by show _ = _; unfold factorP; rw [hk4]; rfl)
  rw [HR.out]
  clear h hk4 hk6 HR
  unfold pk
  generalize tokAt ts s.i = t at *
  unfold tokCells at HNX
  go_enter Tryz.func111, Tryz.ntmps111
  go_wp2_with (first
    | (go_at_call 23; (with_reducible refine (HK4.out _ (by exact HH.out)).mono ?_); rintro e w2 ⟨rfl, hB2⟩
       have H2 := Lib.hid (HH.out.below hB2)
       have HE2 := Lib.hid (HE.out.trans (Wr.of_below hB2))
       have HB2 := qbl HB hB2
       have c2 := HC0.out _ H2.out
       clear hB2)
    | (go_at_call 47; (refine (HNX.out _ (by exact H2.out)).mono ?_); rintro e w4 ⟨rfl, h4, hW4⟩
       have H4 := Lib.hid h4
       have HE4 := Lib.hid (HE2.out.trans hW4)
       have HB4 : Hid (Blk w4 w.heap.size 39 zEc) := Blk.wr HB2.out hW4 HLO.out (Nat.le_refl _)
       obtain ⟨z0, z1, z2, z3, z4⟩ := Blk.five HB4.out
       obtain ⟨f0, f1, f2, f3, f4⟩ := Blk.fro5 HB4.out
       have hz4 : w.heap.size < w4.heap.size := HB4.out.lt
       clear h4 hW4))
  refine bodyPost_ret (res_c rfl _ w.heap.size 39 (exC (.mk k_text 0 (bytesOf t.text) (t.at_ : Int) []) (none, 0)) rfl (by exact (((((HB4.out.set_ 0 _).set_ 1 _).set_ 2 _).set_ 3 _).set_ 4 _).alloc _) _ Tryz.underlying39 rfl hdEx) rfl ⟨(none, 0), rfl, ArgsIn.nil _ _ _, ?_, ?_⟩
  · exact (((((H4.out.setNew HLO.out (Nat.le_refl _) _).setNew HLO.out (Nat.le_refl _) _).setNew HLO.out (Nat.le_refl _) _).setNew HLO.out (Nat.le_refl _) _).setNew HLO.out (Nat.le_refl _) _).alloc _
  · exact (((((HE4.out.setNew (Nat.le_refl _) _).setNew (Nat.le_refl _) _).setNew (Nat.le_refl _) _).setNew (Nat.le_refl _) _).setNew (Nat.le_refl _) _).alloc _
set_option maxRecDepth 100000 in
set_option maxHeartbeats 1000000 in
theorem factor_at (cx : Cx gp gs A n ts) (ex : PS → Ex × PS) (d : Nat) (hat : ExK gp gs A n c ts 84 (atomP ts ex) (Q d)) (h : PSt gp gs A n c ts s w) (hq : Q d s) (hk4 : kindIs ts 4 s = false) (hkj : sees ts [k_join] s = false) : Calls Tryz.prog 111 #[.pointer (some ⟨gp, 0, none⟩)] w fun e w' => ∃ a : Option Addr × Nat, e = .returned (.agg (exC (factorP ts ex s).1 a).toArray) ∧ ArgsIn (Fr w.heap.size) w' a.1 (factorP ts ex s).1.args ∧ PSt gp gs A n c ts (factorP ts ex s).2 w' ∧ Wr [gp, gs] w w' := by
  have HAT := Lib.hid (fun W (h : PSt gp gs A n c ts s W) => hat s W h hq)
  have HS := Lib.hid (fun W A1 (h : PSt gp gs A n c ts s W) (hl : Rd W A1 1 (strs [k_join])) => sees_c cx h [k_join] A1 1 1 hl (by omega))
  have HK4 := Lib.hid (fun W (h : PSt gp gs A n c ts s W) => kind4_c cx h)
  have HH := Lib.hid (h.alloc (.cells #[.string { data := #[] }, .int .i64 0, .string { data := #[] }, .int .i64 0, .slice none 0 0] 39))
  have HE : Hid (Wr [gp, gs] w (w.alloc (.cells #[.string { data := #[] }, .int .i64 0, .string { data := #[] }, .int .i64 0, .slice none 0 0] 39))) := (Wr.refl _ _).alloc _
  have HB : Hid (Blk (w.alloc (.cells #[.string { data := #[] }, .int .i64 0, .string { data := #[] }, .int .i64 0, .slice none 0 0] 39)) w.heap.size 39 zEc) := Blk.new' rfl rfl
  have HLO := Lib.hid (h.lo cx)
  have hpl := h.par.lt
  have hsl := h.stm.1.lt
  have c0 : ∀ W, PSt gp gs A n c ts s W → W.cell? ⟨gp, 0, none⟩ = some (.pointer (some ⟨gs, 0, none⟩)) := fun W h => h.par.cell 0
  have HC0 := Lib.hid c0
  clear c0
  rw [hk4] at HK4
  rw [hkj] at HS
  have HR : Hid (factorP ts ex s = atomP ts ex s) := (by show _ = _; unfold factorP; rw [hk4, hkj]; rfl)
  rw [HR.out]
  clear h hk4 hkj hq hat HR
  generalize (atomP ts ex s).1 = E at *
  generalize (atomP ts ex s).2 = q at *
  unfold exC at HAT
  go_enter Tryz.func111, Tryz.ntmps111
  go_wp2_with (first
    | (go_at_call 23; (with_reducible refine (HK4.out _ (by exact HH.out)).mono ?_); rintro e w2 ⟨rfl, hB2⟩
       have H2 := Lib.hid (HH.out.below hB2)
       have HE2 := Lib.hid (HE.out.trans (Wr.of_below hB2))
       have HB2 := qbl HB hB2
       have c2 := HC0.out _ H2.out
       clear hB2)
    | (go_at_call 20; (refine (HS.out _ _ (by exact H2.out.alloc _) (by exact Rd.new1' rfl)).mono ?_); rintro e w4 ⟨rfl, hB4⟩
       have H4 := Lib.hid ((H2.out.alloc _).below hB4)
       have HE4 := Lib.hid ((HE2.out.alloc _).trans (Wr.of_below hB4))
       have HB4 := Lib.hid ((HB2.out.alloc _).below hB4 (HB2.out.alloc _).lt)
       clear hB4)
    | (go_at_call 84; (refine (HAT.out _ (by exact H4.out)).mono ?_); rintro e w5 ⟨⟨a1, a2⟩, rfl, ha5, h5, hW5⟩
       have hlt4 : w.heap.size < w4.heap.size := HB4.out.lt
       have H5 := Lib.hid h5
       have HA5 := Lib.hid ha5
       have HE5 := Lib.hid (HE4.out.trans hW5)
       have HB5 : Hid (Blk w5 w.heap.size 39 zEc) := Blk.wr HB4.out hW5 HLO.out (Nat.le_refl _)
       obtain ⟨z0, z1, z2, z3, z4⟩ := Blk.five HB5.out
       obtain ⟨f0, f1, f2, f3, f4⟩ := Blk.fro5 HB5.out
       clear h5 ha5 hW5))
  refine bodyPost_ret (res_c rfl _ w.heap.size 39 (exC E (a1, a2)) rfl (by exact ((((HB5.out.set_ 0 _).set_ 1 _).set_ 2 _).set_ 3 _).set_ 4 _) _ Tryz.underlying39 rfl hdEx) rfl ⟨(a1, a2), rfl, ?_, ?_, ?_⟩
  · exact (((((HA5.out.keep (keep_set hlt4 _)).keep (keep_set hlt4 _)).keep (keep_set hlt4 _)).keep (keep_set hlt4 _)).keep (keep_set hlt4 _)).keep (keep_low (Nat.le_of_lt hlt4))
  · exact ((((H5.out.setNew HLO.out (Nat.le_refl _) _).setNew HLO.out (Nat.le_refl _) _).setNew HLO.out (Nat.le_refl _) _).setNew HLO.out (Nat.le_refl _) _).setNew HLO.out (Nat.le_refl _) _
  · exact ((((HE5.out.setNew (Nat.le_refl _) _).setNew (Nat.le_refl _) _).setNew (Nat.le_refl _) _).setNew (Nat.le_refl _) _).setNew (Nat.le_refl _) _
end
end Go.Proofs.YtafjkbbiaopemaaGreatDoor.Tr
namespace Go.Proofs.YtafjkbbiaopemaaGreatDoor.Tr
open Go.RowKit
section
variable {P : Program} {w : World} {o : Oper} {a : Act}
theorem ex_one1 (t e : TypeId) (x : Operand) (ho : o.op = .buildSlice t 1 #[(0, x)]) (cs : List Value) (hx : a.eval x = .agg cs.toArray) (hu : P.underlying t = some (.slice e)) (hi : (P.info? e).map (fun i => ((i.zero.map (fun z => z.cells.size)), i.size)) = some (some cs.length, cs.length)) (hpos : 0 < cs.length) (hsm : cs.length ≤ 1000000) :
    (execOp a.eval o).run P w = .ok (.value (.slice (some ⟨w.heap.size, 0, none⟩) 1 1)) (w.alloc (.cells cs.toArray e)) := by
  cases hie : P.info? e with
  | none => simp [hie] at hi
  | some ie =>
    cases hz : ie.zero with
    | none => simp [hie, hz] at hi
    | some z =>
      simp only [hie, hz, Option.map_some, Option.some.injEq, Prod.mk.injEq] at hi
      have h1 : (#[(0, x)].map fun (p : Nat × Operand) => (p.1, a.eval p.2)).toList = [(0, .agg cs.toArray)] := by simp [hx]
      have h2 : ∃ Z : List Value, ((Array.range (1 * ie.size)).map (z.cells[· % z.cells.size]!)) = Z.toArray ∧ Z.length = cs.length := ⟨((Array.range (1 * ie.size)).map (z.cells[· % z.cells.size]!)).toList, Array.toArray_toList.symm, by simp [hi.2]⟩
      obtain ⟨Z, hZ, hZl⟩ := h2
      have hfill : Instr.fill (fun i => some (i * ie.size, ie.size)) ((Array.range (1 * ie.size)).map (z.cells[· % z.cells.size]!)) (#[(0, x)].map fun (p : Nat × Operand) => (p.1, a.eval p.2)).toList = some cs.toArray := by
        rw [h1, hZ, fill_cons (cs := cs) (off := 0) rfl (by simp [hi.2]) (by omega), splice_whole Z cs (by omega)]
        rfl
      have h := run_buildSlice (P := P) w t e 1 (#[(0, x)].map fun (p : Nat × Operand) => (p.1, a.eval p.2)) cs.toArray ie z hu hie hz (by rw [hi.2]; omega) (by rw [hi.2]; omega) hfill
      unfold execOp
      simp only [ho]
      simp only [Sem.run_bind, h, Result.andThen_ok]
      rfl
theorem ey_storeS {t : TypeId} {x y : Operand} {p : Addr} {u : Value} {A : Option Addr} {n c : Nat} (ho : o.op = .store t x y) (hx : a.eval x = .pointer (some p)) (hy : a.eval y = .slice A n c) (hz : ∀ w, (sizeOf t).run P w = .ok 1 w) (hc : w.cell? p = some u) (hf : w.frozen? p = false) : (execOp a.eval o).run P w = .ok .skip (w.setCell p (.slice A n c)) := by
  unfold execOp
  simp [ho, hx, hy, Instr.storeAt, Instr.sureAddr, storeVar, hz, Value.cells, storeCells, store, Addr.add, Sem.run, hc, hf]
end
theorem eEx : ElemIs Tryz.prog 39 5 72 := ElemIs.of (z := .agg #[.string ByteArray.empty, .int .i64 0, .string ByteArray.empty, .int .i64 0, .slice none 0 0]) (by kernel_rfl) rfl (by omega)
theorem szSlx (w : World) : (sizeOf 37).run Tryz.prog w = .ok 1 w := by kernel_rfl
theorem agSlx (w : World) : (isAgg 37).run Tryz.prog w = .ok false w := by kernel_rfl
theorem own_same {w w' : World} {base n : Nat} {e : TypeId} {size : Nat} {v : Value} {xs : List Value} (h : w.ownsRow base e size v n xs) (hB : ∀ k, base ≤ k → k < w.heap.size → v.ownBlock = some k → w'.heap[k]? = w.heap[k]?) : w'.ownsRow base e size v n xs := by
  obtain ⟨h1, h2⟩ := h
  refine ⟨h1, ?_⟩
  rcases h2 with h2 | ⟨g, cap, cur, hv, hb, hg, r⟩
  · exact .inl h2
  · exact .inr ⟨g, cap, cur, hv, hb, (hB g hb (Array.getElem?_eq_some_iff.1 hg).1 (by rw [hv]; rfl)).trans hg, r⟩
end Go.Proofs.YtafjkbbiaopemaaGreatDoor.Tr
