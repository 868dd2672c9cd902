/- Part of the proof: LexC, LexV. -/
import Derived.Test.YtafjkbbiaopemaaGreatDoorTox09
set_option linter.unusedVariables false
namespace Go.Proofs.YtafjkbbiaopemaaGreatDoor
open Go.RowKit
theorem RdS.of_own {w : World} {base n c sz : Nat} {e : TypeId} {A : Option Addr} {xs : List Value} (h : w.ownsRow base e sz (.slice A n c) n xs) : RdS sz w A n xs := by
  refine ⟨h.1, fun hn => ?_⟩
  rcases h.2 with ⟨_, h0⟩ | ⟨g, cap, cur, hv, _, hg, hnc, _, hcs, htake⟩
  · omega
  · injection hv with hA
    subst hA
    refine ⟨g, 0, rfl, (Array.getElem?_eq_some_iff.1 hg).1, fun j u hu => ?_⟩
    rw [cell_of_row w g (0 + j) cur e (0, 0) hg, Nat.zero_add]
    rw [← htake, List.getElem?_take] at hu
    split at hu
    · simpa using hu
    · cases hu
theorem scan_is (s : ByteArray) (w : World) {p q n : Nat} {ts : List Lx.Tok} (h : Lx.scan s.data.toList = ((p, q), ts)) (hn : ts.length = n) :
    Calls Tryz.prog 45 #[.string s] w fun e w' => ∃ A c, e = .returned (.tuple #[.slice A n c, .agg #[.int .i64 p, .int .i64 q]]) ∧ n ≤ c ∧ w'.ownsRow w.heap.size 72 4 (.slice A n c) n (toksCells ts) ∧ Below w.heap.size w w' := by
  subst hn
  have := scan_any s w
  rw [h] at this
  exact this
theorem toks_get {l : List Lx.Tok} {i : Nat} {t : Lx.Tok} (h : l[i]? = some t) : (toksCells l)[i * 4 + 0]? = some (.int .i64 t.kind) ∧ (toksCells l)[i * 4 + 1]? = some (.string (bytesOf t.text)) ∧ (toksCells l)[i * 4 + 2]? = some (.int .i64 t.num) ∧ (toksCells l)[i * 4 + 3]? = some (.int .i64 t.at_) := by
  induction l generalizing i with
  | nil => simp at h
  | cons x l ih =>
    have hc : toksCells (x :: l) = tokCells x ++ toksCells l := by simp [toksCells]
    cases i with
    | zero =>
      simp at h
      subst h
      rw [hc]
      exact ⟨rfl, rfl, rfl, rfl⟩
    | succ i =>
      have := ih (i := i) (by simpa using h)
      rw [hc]
      have hl : (tokCells x).length = 4 := rfl
      have e : ∀ k, (tokCells x ++ toksCells l)[(i + 1) * 4 + k]? = (toksCells l)[i * 4 + k]? := fun k => by
        rw [List.getElem?_append_right (by rw [hl]; omega), hl]
        congr 1
        omega
      rw [e, e, e, e]
      exact this
end Go.Proofs.YtafjkbbiaopemaaGreatDoor
namespace Go.Proofs.YtafjkbbiaopemaaGreatDoor
open Go.RowKit
theorem RdS.keep {sz : Nat} {w w' : World} {A : Option Addr} {n : Nat} {xs : List Value} (h : RdS sz w A n xs) (hs : w.heap.size ≤ w'.heap.size) (hk : ∀ p : Addr, p.block < w.heap.size → w'.cell? p = w.cell? p) : RdS sz w' A n xs :=
  ⟨h.1, fun hn => by
    obtain ⟨b, off, e, hbl, hc⟩ := h.2 hn
    exact ⟨b, off, e, Nat.lt_of_lt_of_le hbl hs, fun j u hu => (hk ⟨b, off + j, none⟩ hbl).trans (hc j u hu)⟩⟩
theorem RdS.below {sz : Nat} {w w' : World} {A : Option Addr} {n : Nat} {xs : List Value} (h : RdS sz w A n xs) (hb : Below w.heap.size w w') : RdS sz w' A n xs := h.keep hb.size fun _ hp => hb.cell hp
theorem RdS.alloc {sz : Nat} {w : World} {A : Option Addr} {n : Nat} {xs : List Value} (h : RdS sz w A n xs) (o : Obj) : RdS sz (w.alloc o) A n xs := h.keep (by simp) fun p hp => World.cell?_alloc_lt w o p hp
theorem Blk.two {w : World} {g : Nat} {t : TypeId} {a b : Value} (h : Blk w g t [a, b]) : w.cell? ⟨g, 0, none⟩ = some a ∧ w.cell? ⟨g, 1, none⟩ = some b ∧ w.frozen? ⟨g, 0, none⟩ = false ∧ w.frozen? ⟨g, 1, none⟩ = false := ⟨h.cell 0, h.cell 1, h.frozen 0, h.frozen 1⟩
theorem Blk.four {w : World} {g : Nat} {t : TypeId} {a b c d : Value} (h : Blk w g t [a, b, c, d]) : w.cell? ⟨g, 0, none⟩ = some a ∧ w.cell? ⟨g, 1, none⟩ = some b ∧ w.cell? ⟨g, 2, none⟩ = some c ∧ w.cell? ⟨g, 3, none⟩ = some d ∧
    w.frozen? ⟨g, 0, none⟩ = false ∧ w.frozen? ⟨g, 1, none⟩ = false ∧ w.frozen? ⟨g, 2, none⟩ = false ∧ w.frozen? ⟨g, 3, none⟩ = false := ⟨h.cell 0, h.cell 1, h.cell 2, h.cell 3, h.frozen 0, h.frozen 1, h.frozen 2, h.frozen 3⟩
theorem res_c {P : Program} {w : World} {fn : Func} {p : Tmp} {ty : TypeId} (h : fn.results = #[.cell p ty]) (tmps : Array Value) (g : Nat) (t : TypeId) (cs : List Value) (hp : tmps.getD p undef = .pointer (some ⟨g, 0, none⟩))
    (hB : Blk w g t cs) (d : TypeDesc) (hu : P.underlying ty = some d) (hd : d.isRow = true) (hi : (P.info? ty).map (·.size) = some cs.length) :
    (results fn tmps).run P w = .ok (.agg cs.toArray) w := res_cell h tmps g t cs hp hB d hu hd hi
theorem hdTok' : (Tryz.prog.info? 72).map (·.size) = some 4 := by kernel_rfl
def endTok : Lx.Tok := ⟨6, [], 0, 0⟩
set_option maxHeartbeats 2000000 in
theorem peek_in (g : Nat) (A : Option Addr) (n c i : Nat) (ts : List Lx.Tok) (t : Lx.Tok) (w : World) (hb : Blk w g 100 [.slice A n c, .int .i64 i]) (hr : RdS 4 w A n (toksCells ts)) (hn : ts.length = n) (hn8 : n ≤ 100000) (ht : ts[i]? = some t) :
    Calls Tryz.prog 53 #[.pointer (some ⟨g, 0, none⟩)] w fun e w' => e = .returned (.agg (tokCells t).toArray) ∧ Below w.heap.size w w' := by
  have hi : i < n := by rw [← hn]; exact (List.getElem?_eq_some_iff.1 ht).1
  obtain ⟨b, off, rfl, hbl, hcells⟩ := hr.2 (by omega)
  obtain ⟨x0, x1, x2, x3⟩ := toks_get ht
  have d0 := hcells _ _ x0
  have d1 := hcells _ _ x1
  have d2 := hcells _ _ x2
  have d3 := hcells _ _ x3
  rw [Nat.add_zero] at d0
  rw [← Nat.add_assoc] at d1 d2 d3
  have c0 : w.cell? ⟨g, 0, none⟩ = some (.slice (some ⟨b, off, none⟩) n c) := hb.cell 0
  have c1 : w.cell? ⟨g, 1, none⟩ = some (.int .i64 i) := hb.cell 1
  have hgl := hb.lt
  have i0 : (0 : Int) ≤ (i : Int) := by omega
  have i1 : (i : Int) < (n : Int) := by omega
  clear x0 x1 x2 x3 hcells hr hb ht hn
  unfold tokCells
  go_enter Tryz.func53, Tryz.ntmps53
  go_wp2_with fail
  go_quiet (fail)
  have hz : Blk ((w.alloc (.cells #[.int .i64 0, .string { data := #[] }, .int .i64 0, .int .i64 0] 72)).drewN nq) w.heap.size 72 [.int .i64 0, .string { data := #[] }, .int .i64 0, .int .i64 0] := (Blk.new w _ _).drewN nq
  have hB1 : Below w.heap.size w ((w.alloc (.cells #[.int .i64 0, .string { data := #[] }, .int .i64 0, .int .i64 0] 72)).drewN nq) := below_drewN ((Below.refl _ _).alloc (Nat.le_refl _) _) _
  generalize ((w.alloc (.cells #[.int .i64 0, .string { data := #[] }, .int .i64 0, .int .i64 0] 72)).drewN nq) = w1 at *
  have c0 := (hB1.cell (p := ⟨g, 0, none⟩) hgl).trans c0
  have c1 := (hB1.cell (p := ⟨g, 1, none⟩) hgl).trans c1
  have d0 := (hB1.cell (p := ⟨b, off + i * 4, none⟩) hbl).trans d0
  have d1 := (hB1.cell (p := ⟨b, off + i * 4 + 1, none⟩) hbl).trans d1
  have d2 := (hB1.cell (p := ⟨b, off + i * 4 + 2, none⟩) hbl).trans d2
  have d3 := (hB1.cell (p := ⟨b, off + i * 4 + 3, none⟩) hbl).trans d3
  have z0 : w1.cell? ⟨w.heap.size, 0, none⟩ = some (.int .i64 0) := hz.cell 0
  have z1 : w1.cell? ⟨w.heap.size, 1, none⟩ = some (.string { data := #[] }) := hz.cell 1
  have z2 : w1.cell? ⟨w.heap.size, 2, none⟩ = some (.int .i64 0) := hz.cell 2
  have z3 : w1.cell? ⟨w.heap.size, 3, none⟩ = some (.int .i64 0) := hz.cell 3
  have f0 := hz.frozen 0
  have f1 := hz.frozen 1
  have f2 := hz.frozen 2
  have f3 := hz.frozen 3
  have HZ := Lib.hid hz
  clear hz
  go_wp2_with fail
  go_region
  go_wp2_with fail
  refine bodyPost_ret (res_c rfl _ w.heap.size 72 (tokCells t) rfl (by exact (((HZ.out.drew.set_ 0 _).set_ 1 _).set_ 2 _).set_ 3 _) _ Tryz.underlying72 rfl hdTok') rfl ⟨rfl, ?_⟩
  exact (((hB1.drew.setCell (Nat.le_refl _) _).setCell (Nat.le_refl _) _).setCell (Nat.le_refl _) _).setCell (Nat.le_refl _) _
set_option maxHeartbeats 2000000 in
theorem peek_out (g : Nat) (A : Option Addr) (n c i : Nat) (w : World) (hb : Blk w g 100 [.slice A n c, .int .i64 i]) (hi : n ≤ i) :
    Calls Tryz.prog 53 #[.pointer (some ⟨g, 0, none⟩)] w fun e w' => e = .returned (.agg (tokCells endTok).toArray) ∧ Below w.heap.size w w' := by
  have c0 : w.cell? ⟨g, 0, none⟩ = some (.slice A n c) := hb.cell 0
  have c1 : w.cell? ⟨g, 1, none⟩ = some (.int .i64 i) := hb.cell 1
  have hgl := hb.lt
  have i1 : decide ((i : Int) < (n : Int)) = false := by simp; omega
  clear hb
  go_enter Tryz.func53, Tryz.ntmps53
  go_wp2_with fail
  go_quiet (fail)
  have hz : Blk ((w.alloc (.cells #[.int .i64 0, .string { data := #[] }, .int .i64 0, .int .i64 0] 72)).drewN nq) w.heap.size 72 [.int .i64 0, .string { data := #[] }, .int .i64 0, .int .i64 0] := (Blk.new w _ _).drewN nq
  have hB1 : Below w.heap.size w ((w.alloc (.cells #[.int .i64 0, .string { data := #[] }, .int .i64 0, .int .i64 0] 72)).drewN nq) := below_drewN ((Below.refl _ _).alloc (Nat.le_refl _) _) _
  generalize ((w.alloc (.cells #[.int .i64 0, .string { data := #[] }, .int .i64 0, .int .i64 0] 72)).drewN nq) = w1 at *
  have z0 : w1.cell? ⟨w.heap.size, 0, none⟩ = some (.int .i64 0) := hz.cell 0
  have z1 : w1.cell? ⟨w.heap.size, 1, none⟩ = some (.string { data := #[] }) := hz.cell 1
  have z2 : w1.cell? ⟨w.heap.size, 2, none⟩ = some (.int .i64 0) := hz.cell 2
  have z3 : w1.cell? ⟨w.heap.size, 3, none⟩ = some (.int .i64 0) := hz.cell 3
  have f0 := hz.frozen 0
  have f1 := hz.frozen 1
  have f2 := hz.frozen 2
  have f3 := hz.frozen 3
  have HZ := Lib.hid hz
  clear hz
  go_wp2_with fail
  refine bodyPost_ret (res_c rfl _ w.heap.size 72 (tokCells endTok) rfl (by exact (((HZ.out.set_ 0 _).set_ 1 _).set_ 2 _).set_ 3 _) _ Tryz.underlying72 rfl hdTok') rfl ⟨rfl, ?_⟩
  exact (((hB1.setCell (Nat.le_refl _) _).setCell (Nat.le_refl _) _).setCell (Nat.le_refl _) _).setCell (Nat.le_refl _) _
def tokAt (ts : List Lx.Tok) (i : Nat) : Lx.Tok := (ts[i]?).getD endTok
theorem peek_any (g : Nat) (A : Option Addr) (n c i : Nat) (ts : List Lx.Tok) (w : World) (hb : Blk w g 100 [.slice A n c, .int .i64 i]) (hr : RdS 4 w A n (toksCells ts)) (hn : ts.length = n) (hn8 : n ≤ 100000) :
    Calls Tryz.prog 53 #[.pointer (some ⟨g, 0, none⟩)] w fun e w' => e = .returned (.agg (tokCells (tokAt ts i)).toArray) ∧ Below w.heap.size w w' := by
  unfold tokAt
  by_cases h : i < n
  · have ht : ts[i]? = some ts[i] := List.getElem?_eq_getElem (by omega)
    rw [ht]
    exact peek_in g A n c i ts _ w hb hr hn hn8 ht
  · rw [List.getElem?_eq_none (by omega)]
    exact peek_out g A n c i w hb (by omega)
set_option maxHeartbeats 2000000 in
theorem next_any (g : Nat) (A : Option Addr) (n c i : Nat) (ts : List Lx.Tok) (t : Lx.Tok) (w : World) (hb : Blk w g 100 [.slice A n c, .int .i64 i]) (hr : RdS 4 w A n (toksCells ts)) (hn : ts.length = n) (hn8 : n ≤ 100000) (hi : i ≤ 100000) (ht : tokAt ts i = t) :
    Calls Tryz.prog 47 #[.pointer (some ⟨g, 0, none⟩)] w fun e w' => e = .returned (.agg (tokCells t).toArray) ∧ Blk w' g 100 [.slice A n c, .int .i64 ((if t.kind = 6 then i else i + 1 : Nat) : Int)] ∧ Wrote g w w' := by
  have hgl := hb.lt
  have HP := Lib.hid (fun W (h1 : Blk W g 100 [.slice A n c, .int .i64 i]) (h2 : RdS 4 W A n (toksCells ts)) => ht ▸ peek_any g A n c i ts W h1 h2 hn hn8)
  have HR := Lib.hid hr
  have HB := Lib.hid hb
  clear hr hb ht hn
  have HZ : Hid (∀ W, Below (w.alloc (.cells #[.int .i64 0, .string { data := #[] }, .int .i64 0, .int .i64 0] 72)).heap.size (w.alloc (.cells #[.int .i64 0, .string { data := #[] }, .int .i64 0, .int .i64 0] 72)) W → Blk W w.heap.size 72 [.int .i64 0, .string { data := #[] }, .int .i64 0, .int .i64 0]) := fun W hW => (Blk.new w _ _).below hW (by simp)
  have HG : Hid (∀ W, Below (w.alloc (.cells #[.int .i64 0, .string { data := #[] }, .int .i64 0, .int .i64 0] 72)).heap.size (w.alloc (.cells #[.int .i64 0, .string { data := #[] }, .int .i64 0, .int .i64 0] 72)) W → Blk W g 100 [.slice A n c, .int .i64 i]) := fun W hW => (HB.out.alloc _).below hW (by simp; omega)
  by_cases hk : t.kind = 6
  · have e1 : ((t.kind : Int) != 6) = false := by rw [hk]; rfl
    rw [if_pos hk]
    clear hk
    unfold tokCells at *
    go_enter Tryz.func47, Tryz.ntmps47
    go_wp2_with (go_at_call 53; refine (HP.out _ (HB.out.alloc _) (HR.out.alloc _)).mono ?_; rintro e w2 ⟨rfl, hB2⟩; have hz2 := HZ.out w2 hB2; obtain ⟨z0, z1, z2, z3, f0, f1, f2, f3⟩ := hz2.four; have hzl := hz2.lt; have hg2 := HG.out w2 hB2; have hgl2 := hg2.lt; have hne : ¬ g = w.heap.size := Nat.ne_of_lt hgl; obtain ⟨c0, c1, g0, g1⟩ := hg2.two)
    refine bodyPost_ret (res_c rfl _ w.heap.size 72 (tokCells t) rfl (by exact ((((hz2.set_ 0 _).set_ 1 _).set_ 2 _).set_ 3 _).alloc _) _ Tryz.underlying72 rfl hdTok') rfl ⟨rfl, ?_, ?_⟩
    · exact ((((hg2.far hne _).far hne _).far hne _).far hne _).alloc _
    · have h0 : Wrote g w w2 := Wrote.of_below (((Below.refl _ _).alloc (Nat.le_refl _) _).trans (hB2.mono (by simp)))
      exact ((((h0.setNew (Nat.le_refl _) _).setNew (Nat.le_refl _) _).setNew (Nat.le_refl _) _).setNew (Nat.le_refl _) _).alloc _
  · have e1 : ((t.kind : Int) != 6) = true := by rw [bne_iff_ne]; omega
    rw [if_neg hk]
    clear hk
    unfold tokCells at *
    go_enter Tryz.func47, Tryz.ntmps47
    go_wp2_with (go_at_call 53; refine (HP.out _ (HB.out.alloc _) (HR.out.alloc _)).mono ?_; rintro e w2 ⟨rfl, hB2⟩; have hz2 := HZ.out w2 hB2; obtain ⟨z0, z1, z2, z3, f0, f1, f2, f3⟩ := hz2.four; have hzl := hz2.lt; have hg2 := HG.out w2 hB2; have hgl2 := hg2.lt; have hne : ¬ g = w.heap.size := Nat.ne_of_lt hgl; obtain ⟨c0, c1, g0, g1⟩ := hg2.two)
    refine bodyPost_ret (res_c rfl _ w.heap.size 72 (tokCells t) rfl (by exact (((((hz2.far (p := ⟨g, 1, none⟩) (fun e => hne e.symm) _).set_ 0 _).set_ 1 _).set_ 2 _).set_ 3 _).alloc _) _ Tryz.underlying72 rfl hdTok') rfl ⟨rfl, ?_, ?_⟩
    · exact (((((hg2.set_ 1 _).far hne _).far hne _).far hne _).far hne _).alloc _
    · have h0 : Wrote g w w2 := Wrote.of_below (((Below.refl _ _).alloc (Nat.le_refl _) _).trans (hB2.mono (by simp)))
      exact (((((h0.setCell 1 _).setNew (Nat.le_refl _) _).setNew (Nat.le_refl _) _).setNew (Nat.le_refl _) _).setNew (Nat.le_refl _) _).alloc _
def isOf (t : Lx.Tok) (l : List ByteArray) : Bool := (decide (t.kind = 2) || decide (t.kind = 5)) && bmem (bytesOf t.text) l
set_option maxHeartbeats 2000000 in
theorem is_any (g : Nat) (A : Option Addr) (n c i : Nat) (ts : List Lx.Tok) (t : Lx.Tok) (A1 : Option Addr) (n1 c1 : Nat) (l : List ByteArray) (w : World) (hb : Blk w g 100 [.slice A n c, .int .i64 i]) (hr : RdS 4 w A n (toksCells ts)) (hn : ts.length = n) (hn8 : n ≤ 100000) (ht : tokAt ts i = t)
    (hl : Rd w A1 n1 (strs l)) (hn1 : n1 ≤ 140737488355328) :
    Calls Tryz.prog 46 #[.pointer (some ⟨g, 0, none⟩), .slice A1 n1 c1] w fun e w' => e = .returned (.bool (isOf t l)) ∧ Below w.heap.size w w' := by
  have HP := Lib.hid (ht ▸ peek_any g A n c i ts w hb hr hn hn8)
  have HC := Lib.hid (fun W (h : Rd W A1 n1 (strs l)) => contains_any A1 n1 c1 l (bytesOf t.text) W h hn1)
  have HL := Lib.hid hl
  clear hr hb ht hn hl
  have hcase : (((t.kind : Int) == 2) = true ∧ Hid (isOf t l = bmem (bytesOf t.text) l)) ∨ (((t.kind : Int) == 2) = false ∧ ((t.kind : Int) == 5) = true ∧ Hid (isOf t l = bmem (bytesOf t.text) l)) ∨ (((t.kind : Int) == 2) = false ∧ ((t.kind : Int) == 5) = false ∧ Hid (isOf t l = false)) := by
    unfold isOf
    by_cases h2 : t.kind = 2
    · exact .inl ⟨by rw [h2]; rfl, by show _ = _; simp [h2]⟩
    · have e2 : ((t.kind : Int) == 2) = false := by simpa using fun h => h2 (by omega)
      by_cases h5 : t.kind = 5
      · exact .inr (.inl ⟨e2, by rw [h5]; rfl, by show _ = _; simp [h5]⟩)
      · exact .inr (.inr ⟨e2, by simpa using fun h => h5 (by omega), by show _ = _; simp [h2, h5]⟩)
  generalize isOf t l = R at *
  generalize bmem (bytesOf t.text) l = R1 at *
  unfold tokCells at *
  rcases hcase with ⟨a1, HR⟩ | ⟨a1, a2, HR⟩ | ⟨a1, a2, HR⟩
  all_goals
    go_enter Tryz.func46, Tryz.ntmps46
    go_wp2_with (first
      | (go_at_call 53; refine HP.out.mono ?_; rintro e w2 ⟨rfl, hB2⟩)
      | (go_at_call 81; refine (HC.out _ ((HL.out.below hB2).alloc _)).mono ?_; rintro e w3 ⟨rfl, rfl⟩))
    go_ret
    exact ⟨by rw [HR.out]; rfl, hB2.alloc hB2.size _⟩
end Go.Proofs.YtafjkbbiaopemaaGreatDoor
