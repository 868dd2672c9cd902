/- Part of the proof: SlG, Tt. -/
import Derived.Great.BuildSlice
import Derived.Test.YtafjkbbiaopemaaGreatDoorTox17
set_option linter.unusedVariables false
namespace Go.Proofs.YtafjkbbiaopemaaGreatDoor
open Go.RowKit
section
variable {P : Program} {w : World} {o : Oper} {a : Act} {K : Act → World → Prop} {Q : Exit → Act → World → Prop}
end
section
variable {P : Program} {ops : Array Oper} {Q : Exit → Act → World → Prop} {md : Region.Mode} {T : World → Prop} {k : Nat}
theorem AnyK.storeAt {fuel : Nat} {listed : Array Bool} {a : Act} {w : World} (i : Nat) {oi : Oper} {t : TypeId} {x y : Operand} (g off : Nat) (cs : List Value) (t' : TypeId) (Z Z' : List Value) (hi : ops[i]? = some oi) (hid : oi.dst = none) (hg : oi.guard = none) (ho : oi.op = .store t x y) (hr : Region.ready md ops listed = [i])
    (hx : a.eval x = .pointer (some ⟨g, off, none⟩)) (hy : a.eval y = .agg cs.toArray) (hb : Blk w g t' Z) (hsz : (P.info? t).map (·.size) = some cs.length) (hone : ∀ v ∈ cs, v.oneCell' = true) (hlen : off + cs.length ≤ Z.length) (hZ : splice Z off cs = Z')
    (hT : ∀ w', Blk w' g t' Z' → Only w w' g → (listed.setIfInBounds i true).getD k true = false → T w')
    (h : ∀ w', Blk w' g t' Z' → Only w w' g → AnyK P md ops Q k T fuel (listed.setIfInBounds i true) (a.put none undef) w') : AnyK P md ops Q k T (fuel + 1) listed a w := by
  subst hZ
  refine AnyK.one i hi hr hg ?_
  refine wp_store t x y ho g off cs hx hy t' Z hb hsz hone (by omega) ?_
  intro w' hb' ho'
  rw [hid]
  exact ⟨hT w' hb' ho', h w' hb' ho'⟩
theorem AnyK.main {fuel : Nat} {listed : Array Bool} {a : Act} {w : World} (i : Nat) {oi : Oper} (hi : ops[i]? = some oi) (hr : Region.ready md ops listed = [i]) (hg : oi.guard = none)
    (h : ∀ K : Act → World → Prop, (∀ a' w', ((listed.setIfInBounds i true).getD k true = false → T w') ∧ AnyK P md ops Q k T fuel (listed.setIfInBounds i true) a' w' → K a' w') → oi.wp P a w K Q) : AnyK P md ops Q k T (fuel + 1) listed a w :=
  AnyK.one i hi hr hg (h _ fun _ _ h => h)
end
section
variable {P : Program} {w : World} {o : Oper} {a : Act}
theorem ex_two (t e : TypeId) (x y : Operand) (ho : o.op = .buildSlice t 2 #[(0, x), (1, y)]) (cs ds : List Value) (hx : a.eval x = .agg cs.toArray) (hy : a.eval y = .agg ds.toArray) (hu : P.underlying t = some (.slice e)) (hi : (P.info? e).map (fun i => ((i.zero.map (fun z => z.cells.size)), i.size)) = some (some cs.length, cs.length)) (hl : ds.length = cs.length) (hpos : 0 < cs.length) (hsm : cs.length ≤ 1000000) :
    (execOp a.eval o).run P w = .ok (.value (.slice (some ⟨w.heap.size, 0, none⟩) 2 2)) (w.alloc (.cells (cs ++ ds).toArray e)) := by
  cases hie : P.info? e with
  | none => simp [hie] at hi
  | some ie =>
    cases hz : ie.zero with
    | none => simp [hie, hz] at hi
    | some z =>
      simp only [hie, hz, Option.map_some, Option.some.injEq, Prod.mk.injEq] at hi
      have h1 : (#[(0, x), (1, y)].map fun (p : Nat × Operand) => (p.1, a.eval p.2)).toList = [(0, .agg cs.toArray), (1, .agg ds.toArray)] := by simp [hx, hy]
      have h2 : ∃ Z : List Value, ((Array.range (2 * ie.size)).map (z.cells[· % z.cells.size]!)) = Z.toArray ∧ Z.length = cs.length + ds.length := ⟨((Array.range (2 * ie.size)).map (z.cells[· % z.cells.size]!)).toList, Array.toArray_toList.symm, by simp [hi.2]; omega⟩
      obtain ⟨Z, hZ, hZl⟩ := h2
      have hfill : Instr.fill (fun i => some (i * ie.size, ie.size)) ((Array.range (2 * ie.size)).map (z.cells[· % z.cells.size]!)) (#[(0, x), (1, y)].map fun (p : Nat × Operand) => (p.1, a.eval p.2)).toList = some (cs ++ ds).toArray := by
        rw [h1, hZ, fill_cons (cs := cs) (off := 0) rfl (by simp [hi.2]) (by omega), fill_cons (cs := ds) (off := cs.length) rfl (by simp [hi.2, hl]) (by simp [splice]; omega), splice_two Z cs ds cs.length rfl hZl]
        rfl
      have h := run_buildSlice (P := P) w t e 2 (#[(0, x), (1, y)].map fun (p : Nat × Operand) => (p.1, a.eval p.2)) (cs ++ ds).toArray ie z hu hie hz (by rw [hi.2]; omega) (by rw [hi.2]; omega) hfill
      unfold execOp
      simp only [ho]
      simp only [Sem.run_bind, h, Result.andThen_ok]
      rfl
end
section
variable {P : Program} {w : World} {o : Oper} {a : Act}
theorem ex_load {t : TypeId} {x : Operand} {p : Addr} {v : Value} (ho : o.op = .load t x) (hx : a.eval x = .pointer (some p)) (hn : ∀ w, (isAgg t).run P w = .ok false w) (hc : w.cell? p = some v) : (execOp a.eval o).run P w = .ok (.value v) w := by
  unfold execOp
  simp [ho, hx, Instr.loadAt, Instr.sureAddr, loadVar, hn, hc]
theorem ey_loadR {t : TypeId} {x : Operand} {p v : Value} (ho : o.op = .load t x) (hx : a.eval x = p) (hr : (Instr.loadAt t p).run P w = .ok v w) : (execOp a.eval o).run P w = .ok (.value v) w := by
  unfold execOp
  simp [ho, hx, hr]
end
theorem ex_bld {P : Program} {o : Oper} {a : Act} {w : World} (t : TypeId) (parts : List (Nat × Operand)) (ho : o.op = .build t parts.toArray) (parts' : List (Nat × Value)) (he : parts.map (fun p => (p.1, a.eval p.2)) = parts') {v : Value} (hrun : (Instr.build t parts'.toArray).run P w = .ok v w) : (execOp a.eval o).run P w = .ok (.value v) w := by
  unfold execOp
  simp only [ho, Sem.run_bind, List.map_toArray, he, hrun, Sem.run_pure, Result.andThen_ok]
end Go.Proofs.YtafjkbbiaopemaaGreatDoor
namespace Go.Proofs.YtafjkbbiaopemaaGreatDoor.Tr
open Go.RowKit
def Fx (B g k : Nat) : Prop := B < k ∧ k ≠ g
theorem keep_only {B g : Nat} {w w' : World} (h : Only w w' g) : Keep (Fx B g) (Fx B g) w w' :=
  ⟨by rw [h.size]; exact Nat.le_refl _, fun k hk hlt => h.grown.block k hlt (fun e => hk.2 (by injection e)), fun _ h _ => h⟩
theorem keep_fx {B B' g : Nat} {w : World} (hB : B < B') (hg : g < B') : Keep (Fr B') (Fx B g) w w := ⟨Nat.le_refl _, fun _ _ _ => rfl, fun k hk _ => ⟨by unfold Fr at hk; omega, by unfold Fr at hk; omega⟩⟩
theorem keep_fx0 {B B' g : Nat} {w : World} (hB : B < B') (hg : g = w.heap.size) : Keep (Fr B') (Fx B g) w w := ⟨Nat.le_refl _, fun _ _ _ => rfl, fun k hk hlt => ⟨by unfold Fr at hk; omega, by omega⟩⟩
theorem keep_fxwr {B g : Nat} {L : List Nat} {w w' : World} (hw : Wr L w w') (hL : ∀ x ∈ L, x ≤ B) : Keep (Fx B g) (Fx B g) w w' := hw.keep _ _ (fun k hk _ hm => by have h1 := hL k hm; have h2 := hk.1; omega) (fun _ h _ => h)
theorem keep_fxal {B g : Nat} {w : World} (o : Obj) : Keep (Fx B g) (Fx B g) w (w.alloc o) := ⟨((Below.refl w.heap.size w).alloc (Nat.le_refl _) o).size, fun k _ hk => Below.heap_alloc w o k hk, fun _ h _ => h⟩
theorem keep_fxset {B g : Nat} {w : World} {o : Nat} {x : Option _} (v : Value) : Keep (Fx B g) (Fx B g) w (w.setCell ⟨B, o, x⟩ v) :=
  ⟨by simp [World.setCell], fun k hk _ => Below.heap_setCell w ⟨B, o, x⟩ v k (by have := hk.1; show k ≠ B; omega), fun _ h _ => h⟩
theorem keep_fxfr {B g : Nat} {w : World} : Keep (Fx B g) (Fr B) w w := ⟨Nat.le_refl _, fun _ _ _ => rfl, fun k hk _ => by have := hk.1; unfold Fr; omega⟩
theorem exC_len (e : Ex) (a : Option Addr × Nat) : (exC e a).length = 5 := rfl
theorem exC_one (e : Ex) (a : Option Addr × Nat) : ∀ v ∈ exC e a, v.oneCell' = true := by intro v hv; simp only [exC, List.mem_cons, List.not_mem_nil, or_false] at hv; rcases hv with rfl | rfl | rfl | rfl | rfl <;> rfl
theorem ArgsIn.two {F : Nat → Prop} {w : World} {g : Nat} {t : TypeId} {e x : Ex} {a y : Option Addr × Nat} (hb : Blk w g t (exC e a ++ exC x y)) (hF : F g) (h1 : ArgsIn F w a.1 e.args) (h2 : ArgsIn F w y.1 x.args) : ArgsIn F w (some ⟨g, 0, none⟩) [e, x] := by
  refine .mk _ _ [a, y] rfl ⟨⟨rfl, fun _ => ⟨g, 0, rfl, hb.lt, fun j u hu => ?_⟩⟩, fun _ ad e => by injection e with e; subst e; exact ⟨hF, hb.frozen⟩⟩ ?_
  · rw [Nat.zero_add, hb.cell]
    simpa [zipC] using hu
  · intro i e' a' he ha
    match i with
    | 0 => simp at he ha; subst he; subst ha; exact h1
    | 1 => simp at he ha; subst he; subst ha; exact h2
    | k + 2 => simp at he
structure TmS (gp gs : Nat) (A : Option Addr) (n c : Nat) (ts : List Lx.Tok) (w0 : World) (g : Nat) (E : Ex) (q : PS) (a : Option Addr × Nat) (w : World) : Prop where
  st : PSt gp gs A n c ts q w
  wr : Wr [gp, gs] w0 w
  z : Blk w w0.heap.size 39 zEc
  e : Blk w g 39 (exC E a)
  ar : ArgsIn (Fx w0.heap.size g) w a.1 E.args
  lt : w0.heap.size < g
  lo : PLo gp gs A w0.heap.size
section
variable {gp gs : Nat} {A : Option Addr} {n c : Nat} {ts : List Lx.Tok} {s q q' : PS} {w w' w0 : World} {g : Nat} {E : Ex} {a : Option Addr × Nat}
theorem PLo.all {B : Nat} (h : PLo gp gs A B) : ∀ x ∈ [gp, gs], x ≤ B := by
  intro x hx
  have h2 := h.1
  have h3 := h.2.1
  simp only [List.mem_cons, List.not_mem_nil, or_false] at hx
  omega
theorem PLo.mono {B B' : Nat} (h : PLo gp gs A B) (hB : B ≤ B') : PLo gp gs A B' := ⟨Nat.lt_of_lt_of_le h.1 hB, Nat.lt_of_lt_of_le h.2.1 hB, fun ad e => Nat.lt_of_lt_of_le (h.2.2 ad e) hB⟩
theorem TmS.call (h : TmS gp gs A n c ts w0 g E q a w) (hs : PSt gp gs A n c ts q' w') (hW : Wr [gp, gs] w w') : TmS gp gs A n c ts w0 g E q' a w' :=
  ⟨hs, h.wr.trans hW, Blk.wr h.z hW h.lo (Nat.le_refl _), Blk.wr h.e hW (h.lo.mono (Nat.le_of_lt h.lt)) (Nat.le_refl _), h.ar.keep (keep_fxwr hW h.lo.all), h.lt, h.lo⟩
theorem TmS.ld (h : TmS gp gs A n c ts w0 g E q a w) {w2 : World} (hb : Blk w2 g 39 (exC E a)) : (ldAt 39 (.pointer (some ⟨g, 0, none⟩))).run Tryz.prog w2 = .ok (.agg (exC E a).toArray) w2 := ldAt_run hb 39 0 (exC E a) rfl _ Tryz.underlying39 rfl hdEx
theorem RdS.only {sz : Nat} {xs : List Value} (h : RdS sz w A n xs) (hw : Only w w' g) (hb : ∀ ad : Addr, A = some ad → ad.block ≠ g) : RdS sz w' A n xs :=
  ⟨h.1, fun hn => by
    obtain ⟨b, off, rfl, hbl, hc⟩ := h.2 hn
    exact ⟨b, off, rfl, by rw [hw.size]; exact hbl, fun j u hu => (World.cell?_of_block (a := ⟨b, off + j, none⟩) (hw.grown.block b hbl (fun e => hb _ rfl (by injection e)))).trans (hc j u hu)⟩⟩
theorem PSt.only {B : Nat} (h : PSt gp gs A n c ts s w) (hl : PLo gp gs A B) (hg : B ≤ g) (ho : Only w w' g) : PSt gp gs A n c ts s w' :=
  ⟨ho.blk h.par (by have := hl.1; omega), ⟨ho.blk h.stm.1 (by have := hl.2.1; omega), RdS.only h.stm.2 ho (fun ad e => by have := hl.2.2 ad e; omega)⟩, h.z, h.lt⟩
theorem Wr.thenb {L : List Nat} (h : Wr L w0 w) (hb : Below w0.heap.size w w') : Wr L w0 w' :=
  ⟨hb.os.trans h.os, hb.tape.trans h.tape, hb.output.trans h.output, Nat.le_trans h.size hb.size, fun k hk hL => (hb.block k hk).trans (h.block k hk hL)⟩
theorem TmS.grow {X : Ex} {y : Option Addr × Nat} {op : ByteArray} {at_ : Int} (h : TmS gp gs A n c ts w0 g E q a w) (hy : ArgsIn (Fx w0.heap.size g) w y.1 X.args)
    (hb : Blk w' g 39 (exC (.mk op 0 zs at_ [E, X]) (some ⟨w.heap.size, 0, none⟩, 2))) (ho : Only (w.alloc (.cells (exC E a ++ exC X y).toArray 39)) w' g) :
    TmS gp gs A n c ts w0 g (.mk op 0 zs at_ [E, X]) q (some ⟨w.heap.size, 0, none⟩, 2) w' := by
  have hlt := h.e.lt
  have hlt2 := h.lt
  refine ⟨(h.st.alloc _).only h.lo (Nat.le_of_lt h.lt) ho, (h.wr.alloc _).thenb (ho.below (Below.refl _ _) (Nat.le_of_lt h.lt) (h.wr.alloc _).size), ho.blk (h.z.alloc _) (by omega), hb, ?_, h.lt, h.lo⟩
  have hn : Blk w' w.heap.size 39 (exC E a ++ exC X y) := ho.blk (Blk.new w _ _) (by omega)
  exact ArgsIn.two hn ⟨by omega, by omega⟩ ((h.ar.keep (keep_fxal _)).keep (keep_only ho)) ((hy.keep (keep_fxal _)).keep (keep_only ho))
theorem agIn (w : World) : (isAgg 3).run Tryz.prog w = .ok false w := by kernel_rfl
set_option maxRecDepth 100000 in
set_option maxHeartbeats 1000000 in
theorem term_c (cx : Cx gp gs A n ts) (ex : PS → Ex × PS) (d : Nat) (hf : ExK gp gs A n c ts 111 (factorP ts ex) (Q d)) (hg : ∀ s, Pg ts s (factorP ts ex s).2) : ExK gp gs A n c ts 83 (termP ts ex) (Q d) := by
  intro s w h hq
  have HF := Lib.hid (fun s W (h : PSt gp gs A n c ts s W) hq => hf s W h hq)
  have HA := Lib.hid (fun q W (h : PSt gp gs A n c ts q W) => also_c cx h m_star)
  have HH := Lib.hid (h.alloc (.cells #[.string { data := #[] }, .int .i64 0, .string { data := #[] }, .int .i64 0, .slice none 0 0] 39))
  have HE : Hid (Wr [gp, gs] w (w.alloc (.cells #[.string { data := #[] }, .int .i64 0, .string { data := #[] }, .int .i64 0, .slice none 0 0] 39))) := (Wr.refl _ _).alloc _
  have HB : Hid (Blk (w.alloc (.cells #[.string { data := #[] }, .int .i64 0, .string { data := #[] }, .int .i64 0, .slice none 0 0] 39)) w.heap.size 39 zEc) := Blk.new' rfl rfl
  have HLO := Lib.hid (h.lo cx)
  have HQ := Lib.hid hq
  have HQ1 := Lib.hid (hq.pg (hg s))
  have HT : Hid (termP ts ex s = termLoop ts ex (ts.length + 1) (factorP ts ex s).1 (factorP ts ex s).2) := rfl
  rw [HT.out]
  have HF1 := Lib.hid (HF.out s _ HH.out hq)
  clear h hq HT
  generalize (factorP ts ex s).1 = E1 at *
  generalize (factorP ts ex s).2 = q1 at *
  generalize hR : termLoop ts ex (ts.length + 1) E1 q1 = R at *
  have HR := Lib.hid hR
  clear hR
  unfold exC at HF1
  go_enter Tryz.func83, Tryz.ntmps83
  go_wp2_with (go_at_call 111; (refine (HF1.out).mono ?_); rintro e w1 ⟨a1, rfl, ha1, h1, hW1⟩
               have HS1 : Hid (TmS gp gs A n c ts w w1.heap.size E1 q1 a1 (w1.alloc (.cells (exC E1 a1).toArray 39))) := ⟨h1.alloc _, (HE.out.trans hW1).alloc _, (Blk.wr HB.out hW1 HLO.out (Nat.le_refl _)).alloc _, Blk.new' rfl rfl, (ha1.keep (keep_fx0 HB.out.lt rfl)).keep (keep_fxal _), (Blk.wr HB.out hW1 HLO.out (Nat.le_refl _)).lt, HLO.out⟩
               clear ha1 h1 hW1)
  have hzl : w.heap.size < w1.heap.size := HS1.out.lt
  have HTL := Lib.hid (fun (kk : Nat) (E : Ex) (q : PS) => (⟨fun h => (by rw [termLoop, if_neg (by rw [h]; simp)]), fun h => (by rw [termLoop, if_pos h])⟩ : (sees ts [m_star] q = false → termLoop ts ex (kk + 1) E q = (E, q)) ∧ (sees ts [m_star] q = true → termLoop ts ex (kk + 1) E q = termLoop ts ex kk (.mk m_star 0 zs E.at_ [E, (factorP ts ex (nxt q)).1]) (factorP ts ex (nxt q)).2)))
  clear HH HE HB HF1
  go_loopg [] ts.length (fun kk wr => ∃ (E : Ex) (q : PS) (a : Option Addr × Nat), TmS gp gs A n c ts w w1.heap.size E q a wr ∧ ts.length ≤ kk + q.i ∧ termLoop ts ex (kk + 1) E q = R ∧ Q d q)
  case atStart => exact ⟨E1, q1, a1, HS1.out, by omega, HR.out, HQ1.out⟩
  case round =>
    clear HS1 HR HQ1 HQ
    obtain ⟨E, q, a, hS, hk, hT, hQ⟩ := hrel
    cases hs : sees ts [m_star] q
    · have HS := Lib.hid hS
      have HAL := HA.out q _ hS.st
      have HRR : Hid (R = (E, q)) := hT.symm.trans ((HTL.out gk E q).1 hs)
      have HAP : Hid (alsoP ts m_star q = q) := (by show _ = _; unfold alsoP; rw [hs]; rfl)
      rw [hs, HAP.out] at HAL
      have HALL := Lib.hid HAL
      clear hS hk hT hQ hs HAL HTL
      go_wp2_with (go_at_call 52; (refine (HALL.out).mono ?_); rintro e w2 ⟨rfl, h2, hW2⟩
                   have HS2 := Lib.hid (HS.out.call h2 hW2)
                   have he2 := HS2.out.e
                   obtain ⟨n0, n1, n2, n3, n4⟩ := Blk.five he2
                   obtain ⟨z0, z1, z2, z3, z4⟩ := Blk.five HS2.out.z
                   obtain ⟨f0, f1, f2, f3, f4⟩ := Blk.fro5 HS2.out.z
                   clear h2 hW2 he2)
      refine bodyPost_ret (res_c rfl _ w.heap.size 39 (exC E a) rfl (by exact ((((HS2.out.z.set_ 0 _).set_ 1 _).set_ 2 _).set_ 3 _).set_ 4 _) _ Tryz.underlying39 rfl hdEx) rfl ?_
      rw [HRR.out]
      refine ⟨a, rfl, ?_, ?_, ?_⟩
      · exact (((((HS2.out.ar.keep (keep_fxset _)).keep (keep_fxset _)).keep (keep_fxset _)).keep (keep_fxset _)).keep (keep_fxset _)).keep keep_fxfr
      · exact ((((HS2.out.st.setNew HLO.out (Nat.le_refl _) _).setNew HLO.out (Nat.le_refl _) _).setNew HLO.out (Nat.le_refl _) _).setNew HLO.out (Nat.le_refl _) _).setNew HLO.out (Nat.le_refl _) _
      · exact ((((HS2.out.wr.setNew (Nat.le_refl _) _).setNew (Nat.le_refl _) _).setNew (Nat.le_refl _) _).setNew (Nat.le_refl _) _).setNew (Nat.le_refl _) _
    · have HS := Lib.hid hS
      have HAL := HA.out q _ hS.st
      have hlt := sees_lt cx.ends hs
      have HAP : Hid (alsoP ts m_star q = nxt q) := (by show _ = _; unfold alsoP; rw [hs]; rfl)
      rw [hs, HAP.out] at HAL
      have HALL := Lib.hid HAL
      have hQ2 : Q d (nxt q) := hQ.pg (nxt_g hlt (sees_ok hs))
      have HFX := Lib.hid (fun W (h : PSt gp gs A n c ts (nxt q) W) => HF.out (nxt q) W h hQ2)
      have HQ3 := Lib.hid (hQ2.pg (hg (nxt q)))
      have HI3 : Hid (q.i + 1 ≤ (factorP ts ex (nxt q)).2.i) := (hg (nxt q)).le
      have HT2 := Lib.hid (((HTL.out gk E q).2 hs).symm.trans hT)
      have HKL := Lib.hid (And.intro hk hlt)
      clear hS hk hT hQ hs HAL HTL hlt hQ2
      generalize (factorP ts ex (nxt q)).1 = X at *
      generalize (factorP ts ex (nxt q)).2 = q3 at *
      go_wp2_with (go_at_call 52; (refine (HALL.out).mono ?_); rintro e w2 ⟨rfl, h2, hW2⟩
                   have HS2 := Lib.hid (HS.out.call h2 hW2)
                   clear h2 hW2)
      have HB0 : Hid (Blk w2.drew w1.heap.size 39 (exC E a)) := HS2.out.e.drew
      refine region_K (by kernel_rfl) 7 (fun W' => Blk W' w1.heap.size 39 (exC E a)) ?_
      refine AnyK.pure 0 (v := .pointer (some ⟨w1.heap.size, 3, none⟩)) rfl (by kernel_rfl) (fun _ _ _ h => h) rfl (fun _ => by kernel_rfl) (fun _ => HB0.out) ?_
      refine AnyK.load 1 (v := .int .i64 E.at_) rfl (by kernel_rfl) (by kernel_rfl) (by kernel_rfl) (fun _ _ _ h => h) rfl (fun w' hw' => ex_load (t := 3) (x := .tmp 8) (by rfl) (by kernel_rfl) agIn (hw'.cell 3)) HB0.out ?_
      refine AnyK.load 2 (v := .agg (exC E a).toArray) rfl (by kernel_rfl) (by kernel_rfl) (by kernel_rfl) (fun _ _ _ h => h) rfl (fun w' hw' => ey_loadR (x := .tmp 3) (by rfl) (by kernel_rfl) (HS2.out.ld hw')) HB0.out ?_
      refine AnyK.pure 3 (v := .pointer (some ⟨gp, 0, none⟩)) rfl (by kernel_rfl) (fun _ _ _ h => h) rfl (fun _ => by kernel_rfl) (fun _ => HB0.out) ?_
      have HD2 : Hid (TmS gp gs A n c ts w w1.heap.size E (nxt q) a w2.drew) := HS2.out.call (HS2.out.st.below ((Below.refl _ _).drew)) (Wr.of_below ((Below.refl _ _).drew))
      refine AnyK.enter 4 (d := some 12) (f := 111) (args := #[.pointer (some ⟨gp, 0, none⟩)]) (by rfl) (by kernel_rfl) (by kernel_rfl) ?_
      refine (HFX.out _ HD2.out.st).mono ?_
      rintro e w3 ⟨y, rfl, hy3, h3, hW3⟩
      have hl2 := HD2.out.e.lt
      have HS3 := Lib.hid (HD2.out.call h3 hW3)
      have HY3 := Lib.hid (hy3.keep (keep_fx (g := w1.heap.size) (Nat.lt_trans hzl hl2) hl2))
      clear hy3 h3 hW3
      refine ⟨_, rfl, fun _ => HS3.out.e, ?_⟩
      refine AnyK.main 5 (by rfl) (by kernel_rfl) rfl (fun K hK => wp_val (ex_two 37 39 (.tmp 10) (.tmp 12) (by rfl) (exC E a) (exC X y) (by kernel_rfl) (by kernel_rfl) Tryz.underlying37 (by kernel_rfl) rfl (by rw [exC_len]; omega) (by rw [exC_len]; omega)) (hK _ _ ⟨fun _ => HS3.out.e.alloc _, ?_⟩))
      refine AnyK.val 6 (v := .agg (exC (.mk m_star 0 zs E.at_ [E, X]) (some ⟨w3.heap.size, 0, none⟩, 2)).toArray) (by rfl) (by kernel_rfl) rfl (ex_bld 39 [(0, .const (.string m_star)), (3, .tmp 9), (4, .tmp 13)] (by rfl) [(0, .string m_star), (3, .int .i64 E.at_), (4, .slice (some ⟨w3.heap.size, 0, none⟩) 2 2)] (by kernel_rfl) (by kernel_rfl)) (fun _ => HS3.out.e.alloc _) ?_
      refine AnyK.storeAll 7 w1.heap.size (exC (.mk m_star 0 zs E.at_ [E, X]) (some ⟨w3.heap.size, 0, none⟩, 2)) 39 (exC E a) (by rfl) rfl rfl (by rfl) (by kernel_rfl) (by kernel_rfl) (by kernel_rfl) (HS3.out.e.alloc _) hdEx (exC_one _ _) rfl (fun _ _ _ h => (by cases h)) ?_
      intro w5 hb5 ho5
      have HS5 := Lib.hid (HS3.out.grow HY3.out hb5 ho5)
      refine AnyK.done (by kernel_rfl) ?_
      clear hb5 ho5
      go_wp2
      have hk5 := HKL.out
      have hi5 := HI3.out
      go_roundg (gk - 1)
      case measure => omega
      case rel => exact ⟨_, q3, _, HS5.out, by omega, by rw [show gk - 1 + 1 = gk by omega]; exact HT2.out, HQ3.out⟩
end
end Go.Proofs.YtafjkbbiaopemaaGreatDoor.Tr
