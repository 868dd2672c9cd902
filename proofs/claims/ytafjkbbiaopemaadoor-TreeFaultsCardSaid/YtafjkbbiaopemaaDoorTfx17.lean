/- Part of the proof: Tq. -/
import Derived.Test.YtafjkbbiaopemaaDoorTfx16
set_option linter.unusedVariables false
namespace Go.Proofs.YtafjkbbiaopemaaDoor.Tr
open Go.RowKit
def paC (gs : Nat) (s : PS) : List Value := [.pointer (some ⟨gs, 0, none⟩), .int .i64 s.fe, .int .i64 s.fa, .int .i64 s.bo, .int .i64 s.pa]
structure Cx (gp gs : Nat) (A : Option Addr) (n : Nat) (ts : List Lx.Tok) : Prop where
  ne : gp ≠ gs
  tk : ∀ ad : Addr, A = some ad → ad.block ≠ gp ∧ ad.block ≠ gs
  hn : ts.length = n
  hn8 : n ≤ 100000
  ends : Ends ts
structure PSt (gp gs : Nat) (A : Option Addr) (n c : Nat) (ts : List Lx.Tok) (s : PS) (w : World) : Prop where
  par : Blk w gp 48 (paC gs s)
  stm : Stm gs A n c s.i ts w
  z : s.ok = true → s.fe = 0 ∧ s.fa = 0
  lt : s.i < ts.length
section
variable {gp gs : Nat} {A : Option Addr} {n c : Nat} {ts : List Lx.Tok} {s : PS} {w w' : World}
theorem PSt.below (h : PSt gp gs A n c ts s w) (hb : Below w.heap.size w w') : PSt gp gs A n c ts s w' := ⟨h.par.below hb h.par.lt, h.stm.below hb, h.z, h.lt⟩
theorem PSt.alloc (h : PSt gp gs A n c ts s w) (o : Obj) : PSt gp gs A n c ts s (w.alloc o) := h.below ((Below.refl _ _).alloc (Nat.le_refl _) o)
theorem RdS.set_far {sz : Nat} {xs : List Value} (h : RdS sz w A n xs) {p : Addr} (hp : ∀ ad : Addr, A = some ad → ad.block ≠ p.block) (v : Value) : RdS sz (w.setCell p v) A n xs := by
  refine ⟨h.1, fun hn => ?_⟩
  obtain ⟨b, off, rfl, hb, hc⟩ := h.2 hn
  refine ⟨b, off, rfl, by simpa [World.setCell] using hb, fun j u hu => ?_⟩
  exact (World.cell?_of_block (a := ⟨b, off + j, none⟩) (Below.heap_setCell w p v b (fun e => hp _ rfl e))).trans (hc j u hu)
theorem Stm.far {g : Nat} {i : Nat} (h : Stm g A n c i ts w) {p : Addr} (hg : g ≠ p.block) (hA : ∀ ad : Addr, A = some ad → ad.block ≠ p.block) (v : Value) : Stm g A n c i ts (w.setCell p v) := ⟨h.1.far hg v, RdS.set_far h.2 hA v⟩
theorem Wr.setCell {L : List Nat} (h : Wr L w w') {p : Addr} (hp : p.block ∈ L) (v : Value) : Wr L w (w'.setCell p v) :=
  ⟨h.os, h.tape, h.output, by have := h.size; simpa [World.setCell] using this, fun k hk hL => (Below.heap_setCell w' p v k (fun e => hL (e ▸ hp))).trans (h.block k hk hL)⟩
theorem Wr.setNew {L : List Nat} (h : Wr L w w') {p : Addr} (hp : w.heap.size ≤ p.block) (v : Value) : Wr L w (w'.setCell p v) :=
  ⟨h.os, h.tape, h.output, by have := h.size; simpa [World.setCell] using this, fun k hk hL => (Below.heap_setCell w' p v k (by omega)).trans (h.block k hk hL)⟩
theorem Wr.alloc {L : List Nat} (h : Wr L w w') (o : Obj) : Wr L w (w'.alloc o) := h.trans (Wr.of_below ((Below.refl _ _).alloc (Nat.le_refl _) o))
theorem Wr.mono {L M : List Nat} (h : Wr L w w') (hM : ∀ g ∈ L, g ∈ M) : Wr M w w' := ⟨h.os, h.tape, h.output, h.size, fun k hk hk2 => h.block k hk fun h3 => hk2 (hM k h3)⟩
theorem RdS.wrote' {sz g : Nat} {xs : List Value} (h : RdS sz w A n xs) (hw : Wrote g w w') (hb : ∀ ad : Addr, A = some ad → ad.block ≠ g) : RdS sz w' A n xs :=
  ⟨h.1, fun hn => by
    obtain ⟨b, off, rfl, hbl, hc⟩ := h.2 hn
    exact ⟨b, off, rfl, Nat.lt_of_lt_of_le hbl hw.size, fun j u hu => (World.grownBy.cell_far hw ⟨b, off + j, none⟩ hbl (fun e => hb _ rfl (by injection e))).trans (hc j u hu)⟩⟩
theorem ok_c (h : Blk w gp 48 (paC gs s)) : Calls Tryd.prog 11 #[.pointer (some ⟨gp, 0, none⟩)] w fun e w' => e = .returned (.bool s.ok) ∧ w = w' := by
  have c1 : w.cell? ⟨gp, 1, none⟩ = some (.int .i64 s.fe) := h.cell 1
  go_enter Tryd.func11, Tryd.ntmps11
  go_wp2
  go_ret
  exact ⟨rfl, rfl⟩
theorem fld0 (a b c d : Value) (W : World) : (Instr.field 77 (.agg #[a, b, c, d]) 0).run Tryd.prog W = .ok a W := by kernel_rfl
theorem fld1 (a b c d : Value) (W : World) : (Instr.field 77 (.agg #[a, b, c, d]) 1).run Tryd.prog W = .ok b W := by kernel_rfl
set_option maxRecDepth 100000 in
set_option maxHeartbeats 1000000 in
theorem kind_c (cx : Cx gp gs A n ts) (h : PSt gp gs A n c ts s w) (k : Nat) : Calls Tryd.prog 12 #[.pointer (some ⟨gp, 0, none⟩), .int .i64 (k : Int)] w fun e w' => e = .returned (.bool (kindIs ts k s)) ∧ Below w.heap.size w w' := by
  have HO := Lib.hid (fun w (h : Blk w gp 48 (paC gs s)) => ok_c h)
  have HP := Lib.hid (fun W (h : Stm gs A n c s.i ts W) => peek_any gs A n c s.i ts W h.1 h.2 cx.hn cx.hn8)
  have HH := Lib.hid h
  have c0 : w.cell? ⟨gp, 0, none⟩ = some (.pointer (some ⟨gs, 0, none⟩)) := h.par.cell 0
  have HK : Hid (kindIs ts k s = (s.ok && decide ((tokAt ts s.i).kind = k))) := rfl
  clear h
  generalize tokAt ts s.i = t at *
  unfold tokCells at HP
  have hf := fld0 (.int .i64 t.kind) (.string (bytesOf t.text)) (.int .i64 t.num) (.int .i64 t.at_)
  generalize s.ok = b at *
  cases b
  · go_enter Tryd.func12, Tryd.ntmps12
    go_wp2_with (go_at_call 11; (refine (HO.out _ (by exact HH.out.par)).mono ?_); rintro e w1 ⟨rfl, rfl⟩)
    go_ret
    exact ⟨by rw [HK.out]; rfl, Below.refl _ _⟩
  · go_enter Tryd.func12, Tryd.ntmps12
    go_wp2_with (first
      | (go_at_call 11; (refine (HO.out _ (by exact HH.out.par)).mono ?_); rintro e w1 ⟨rfl, rfl⟩)
      | (go_at_call 28; (refine (HP.out _ (by exact HH.out.stm)).mono ?_); rintro e w2 ⟨rfl, hB2⟩))
    go_ret
    refine ⟨ret_bool (a := ((t.kind : Int) == (k : Int))) ?_, hB2⟩
    rw [HK.out, Bool.true_and, Bool.eq_iff_iff]
    simp
    omega
set_option maxRecDepth 100000 in
set_option maxHeartbeats 1000000 in
theorem sees_c (cx : Cx gp gs A n ts) (h : PSt gp gs A n c ts s w) (l : List ByteArray) (A1 : Option Addr) (n1 c1 : Nat) (hl : Rd w A1 n1 (strs l)) (hn1 : n1 ≤ 140737488355328) : Calls Tryd.prog 9 #[.pointer (some ⟨gp, 0, none⟩), .slice A1 n1 c1] w fun e w' => e = .returned (.bool (sees ts l s)) ∧ Below w.heap.size w w' := by
  have HO := Lib.hid (fun w (h : Blk w gp 48 (paC gs s)) => ok_c h)
  have HI := Lib.hid (fun W (h : Stm gs A n c s.i ts W) (h2 : Rd W A1 n1 (strs l)) => is_any gs A n c s.i ts (tokAt ts s.i) A1 n1 c1 l W h.1 h.2 cx.hn cx.hn8 rfl h2 hn1)
  have HH := Lib.hid h
  have HL := Lib.hid hl
  have c0 : w.cell? ⟨gp, 0, none⟩ = some (.pointer (some ⟨gs, 0, none⟩)) := h.par.cell 0
  have HK : Hid (sees ts l s = (s.ok && isOf (tokAt ts s.i) l)) := rfl
  clear h hl
  generalize isOf (tokAt ts s.i) l = t at *
  generalize s.ok = b at *
  cases b
  · go_enter Tryd.func9, Tryd.ntmps9
    go_wp2_with (go_at_call 11; (refine (HO.out _ (by exact HH.out.par)).mono ?_); rintro e w1 ⟨rfl, rfl⟩)
    go_ret
    exact ⟨by rw [HK.out]; rfl, Below.refl _ _⟩
  · go_enter Tryd.func9, Tryd.ntmps9
    go_wp2_with (first
      | (go_at_call 11; (refine (HO.out _ (by exact HH.out.par)).mono ?_); rintro e w1 ⟨rfl, rfl⟩)
      | (go_at_call 21; (refine (HI.out _ (by exact HH.out.stm) (by exact HL.out)).mono ?_); rintro e w2 ⟨rfl, hB2⟩))
    go_ret
    exact ⟨by rw [HK.out]; rfl, hB2⟩
set_option maxRecDepth 100000 in
set_option maxHeartbeats 1000000 in
theorem fail_c (cx : Cx gp gs A n ts) (h : PSt gp gs A n c ts s w) (e0 : Int) (he : e0 ≠ 0) : Calls Tryd.prog 29 #[.pointer (some ⟨gp, 0, none⟩), .int .i64 e0] w fun e w' => e = .returned (.tuple #[]) ∧ PSt gp gs A n c ts (failP ts e0 s) w' ∧ Wr [gp] w w' := by
  have HO := Lib.hid (fun w (h : Blk w gp 48 (paC gs s)) => ok_c h)
  have HP := Lib.hid (fun W (h : Stm gs A n c s.i ts W) => peek_any gs A n c s.i ts W h.1 h.2 cx.hn cx.hn8)
  have HH := Lib.hid h
  have c0 : w.cell? ⟨gp, 0, none⟩ = some (.pointer (some ⟨gs, 0, none⟩)) := h.par.cell 0
  cases hb : s.ok
  · have HF : Hid (failP ts e0 s = s) := (by show _ = _; unfold failP; rw [hb]; rfl)
    rw [hb] at HO
    clear h hb
    go_enter Tryd.func29, Tryd.ntmps29
    go_wp2_with (go_at_call 11; (refine (HO.out _ (by exact HH.out.par)).mono ?_); rintro e w1 ⟨rfl, rfl⟩)
    refine bodyPost_end (results_none rfl _ _ _) rfl ⟨rfl, ?_, Wr.refl _ _⟩
    rw [HF.out]
    exact HH.out
  · have HF : Hid (failP ts e0 s = { s with fe := e0, fa := ((tokAt ts s.i).at_ : Int) }) := (by show _ = _; unfold failP; rw [hb]; rfl)
    rw [hb] at HO
    clear h hb
    have hf := fld3 (.int .i64 (tokAt ts s.i).kind) (.string (bytesOf (tokAt ts s.i).text)) (.int .i64 (tokAt ts s.i).num) (.int .i64 (tokAt ts s.i).at_)
    generalize tokAt ts s.i = t at *
    unfold tokCells at HP
    go_enter Tryd.func29, Tryd.ntmps29
    go_wp2_with (first
      | (go_at_call 11; (refine (HO.out _ (by exact HH.out.par)).mono ?_); rintro e w1 ⟨rfl, rfl⟩)
      | (go_at_call 28; (refine (HP.out _ (by exact HH.out.stm)).mono ?_); rintro e w2 ⟨rfl, hB2⟩
         have H2 := Lib.hid (HH.out.below hB2)
         have c1 : w2.cell? ⟨gp, 1, none⟩ = some (.int .i64 s.fe) := H2.out.par.cell 1
         have c2 : w2.cell? ⟨gp, 2, none⟩ = some (.int .i64 s.fa) := H2.out.par.cell 2
         have f1 := H2.out.par.frozen 1
         have f2 := H2.out.par.frozen 2))
    have h3 := (H2.out.par.set_ 1 (.int .i64 e0)).set_ 2 (.int .i64 (t.at_ : Int))
    refine bodyPost_end (results_none rfl _ _ _) rfl ⟨rfl, ?_, ((Wr.of_below hB2).setCell (by simp) _).setCell (by simp) _⟩
    rw [HF.out]
    refine ⟨h3, Stm.far (Stm.far H2.out.stm cx.ne.symm (fun ad e => (cx.tk ad e).1) _) cx.ne.symm (fun ad e => (cx.tk ad e).1) _, fun h => ?_, H2.out.lt⟩
    exfalso
    have : (e0 == 0) = true := h
    simp at this
    exact he this
set_option maxRecDepth 100000 in
set_option maxHeartbeats 1000000 in
theorem take_c (cx : Cx gp gs A n ts) (h : PSt gp gs A n c ts s w) (T : ByteArray) : Calls Tryd.prog 24 #[.pointer (some ⟨gp, 0, none⟩), .string T] w fun e w' => e = .returned (.tuple #[]) ∧ PSt gp gs A n c ts (takeP ts T s) w' ∧ Wr [gp, gs] w w' := by
  have HO := Lib.hid (fun w (h : Blk w gp 48 (paC gs s)) => ok_c h)
  have HH := Lib.hid h
  have c0 : w.cell? ⟨gp, 0, none⟩ = some (.pointer (some ⟨gs, 0, none⟩)) := h.par.cell 0
  cases hb : s.ok
  · have HF : Hid (takeP ts T s = s) := (by show _ = _; unfold takeP; rw [hb]; rfl)
    rw [hb] at HO
    clear h hb
    go_enter Tryd.func24, Tryd.ntmps24
    go_wp2_with (go_at_call 11; (refine (HO.out _ (by exact HH.out.par)).mono ?_); rintro e w1 ⟨rfl, rfl⟩)
    refine bodyPost_end (results_none rfl _ _ _) rfl ⟨rfl, ?_, Wr.refl _ _⟩
    rw [HF.out]
    exact HH.out
  · have hz := h.z hb
    cases hi : isOf (tokAt ts s.i) [T]
    · have HF : Hid (takeP ts T s = { s with fe := 9, fa := ((tokAt ts s.i).at_ : Int) }) := (by show _ = _; unfold takeP; rw [hb, show isOf (pk ts s) [T] = false from hi]; rfl)
      have HT := Lib.hid (fun W (h : Stm gs A n c s.i ts W) => take_no gs A n c s.i ts (tokAt ts s.i) T W h cx.hn cx.hn8 rfl hi)
      rw [hb] at HO
      clear h hb hi
      generalize tokAt ts s.i = t at *
      go_enter Tryd.func24, Tryd.ntmps24
      go_wp2_with (first
        | (go_at_call 11; (refine (HO.out _ (by exact HH.out.par)).mono ?_); rintro e w1 ⟨rfl, rfl⟩)
        | (go_at_call 42; (refine (HT.out _ (by exact HH.out.stm)).mono ?_); rintro e w2 ⟨rfl, hB2⟩
           have H2 := Lib.hid (HH.out.below hB2)
           have c1 : w2.cell? ⟨gp, 1, none⟩ = some (.int .i64 s.fe) := H2.out.par.cell 1
           have c2 : w2.cell? ⟨gp, 2, none⟩ = some (.int .i64 s.fa) := H2.out.par.cell 2
           have f1 := H2.out.par.frozen 1
           have f2 := H2.out.par.frozen 2))
      have h3 := (H2.out.par.set_ 1 (.int .i64 9)).set_ 2 (.int .i64 (t.at_ : Int))
      refine bodyPost_end (results_none rfl _ _ _) rfl ⟨rfl, ?_, ((Wr.of_below hB2).setCell (by simp) _).setCell (by simp) _⟩
      rw [HF.out]
      exact ⟨h3, Stm.far (Stm.far H2.out.stm cx.ne.symm (fun ad e => (cx.tk ad e).1) _) cx.ne.symm (fun ad e => (cx.tk ad e).1) _, fun h => (by cases h), H2.out.lt⟩
    · have HF : Hid (takeP ts T s = nxt s) := (by show _ = _; unfold takeP; rw [hb, show isOf (pk ts s) [T] = true from hi]; rfl)
      have hlt : s.i + 1 < ts.length := isOf_lt cx.ends (s := s) hi
      have HT := Lib.hid (fun W (h : Stm gs A n c s.i ts W) => take_yes gs A n c s.i ts (tokAt ts s.i) T W h cx.hn cx.hn8 (by have := cx.hn; have := cx.hn8; omega) rfl hi)
      have HLT := Lib.hid hlt
      have HOK := Lib.hid hb
      rw [hb] at HO
      clear h hb hi hlt
      go_enter Tryd.func24, Tryd.ntmps24
      go_wp2_with (first
        | (go_at_call 11; (refine (HO.out _ (by exact HH.out.par)).mono ?_); rintro e w1 ⟨rfl, rfl⟩)
        | (go_at_call 42; (refine (HT.out _ (by exact HH.out.stm)).mono ?_); rintro e w2 ⟨rfl, hb2, hW2⟩
           have H2 := Lib.hid (HH.out.par.wrote hW2 cx.ne)
           have HR2 : Hid (RdS 4 w2 A n (toksCells ts)) := RdS.wrote' HH.out.stm.2 hW2 (fun ad e => (cx.tk ad e).2)
           have c1 : w2.cell? ⟨gp, 1, none⟩ = some (.int .i64 s.fe) := H2.out.cell 1
           have c2 : w2.cell? ⟨gp, 2, none⟩ = some (.int .i64 s.fa) := H2.out.cell 2
           have f1 := H2.out.frozen 1
           have f2 := H2.out.frozen 2
           have HB2 := Lib.hid hb2
           clear hb2))
      have h3 := (H2.out.set_ 1 (.int .i64 0)).set_ 2 (.int .i64 0)
      refine bodyPost_end (results_none rfl _ _ _) rfl ⟨rfl, ?_, ((Wr.of_wrote hW2 (by simp)).setCell (by simp) _).setCell (by simp) _⟩
      rw [HF.out]
      have h4 : Stm gs A n c (s.i + 1) ts w2 := ⟨HB2.out, HR2.out⟩
      refine ⟨?_, Stm.far (Stm.far h4 cx.ne.symm (fun ad e => (cx.tk ad e).1) _) cx.ne.symm (fun ad e => (cx.tk ad e).1) _, fun _ => hz, HLT.out⟩
      have h5 : paC gs (nxt s) = [.pointer (some ⟨gs, 0, none⟩), .int .i64 0, .int .i64 0, .int .i64 s.bo, .int .i64 s.pa] := by
        simp [paC, nxt, hz.1, hz.2]
      rw [h5]
      exact h3
end
end Go.Proofs.YtafjkbbiaopemaaDoor.Tr
