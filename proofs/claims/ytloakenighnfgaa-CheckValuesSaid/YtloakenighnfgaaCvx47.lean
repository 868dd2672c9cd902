/- Part of the proof: Ko. -/
import Derived.Test.YtloakenighnfgaaCvx46
set_option linter.unusedVariables false
namespace Go.Proofs.Ytloakenighnfgaa.Tr
open Go.RowKit
attribute [local go_sem ↓] ldq_St ldq_Ac
structure Fr5 (G : Nat) (cells sc : List Value) (W : World) : Prop where
  st : Blk W G 105 cells
  sc : Blk W (G + 1) 78 sc
  res : Blk W (G + 2) 92 acZ
theorem Fr5.wr {G : Nat} {cells sc : List Value} {W W' : World} {L : List Nat} (h : Fr5 G cells sc W) (hW : Wr L W W') (hL : ∀ g ∈ L, g < G ∨ g > G + 2) : Fr5 G cells sc W' :=
  ⟨(hW.block _ h.st.lt (fun hm => by have := hL _ hm; omega)).trans h.st, (hW.block _ h.sc.lt (fun hm => by have := hL _ hm; omega)).trans h.sc, (hW.block _ h.res.lt (fun hm => by have := hL _ hm; omega)).trans h.res⟩
theorem Wr.newL {L L' : List Nat} {w w1 w2 : World} (h1 : Wr L w w1) (h2 : Wr L' w1 w2) (h : ∀ g ∈ L', g ∈ L ∨ w.heap.size ≤ g) : Wr L w w2 :=
  ⟨h2.os.trans h1.os, h2.tape.trans h1.tape, h2.output.trans h1.output, Nat.le_trans h1.size h2.size, fun k hk hne =>
    (h2.block k (Nat.lt_of_lt_of_le hk h1.size) (fun hm => (h k hm).elim hne (fun h => by omega))).trans (h1.block k hk hne)⟩
theorem acC_one (a b c : Int) (A : Option Addr) (n m : Nat) (d e : Int) (B : Option Addr) (k j : Nat) : ∀ v ∈ acC a b c A n m d e B k j, v.oneCell' = true := by
  intro v hv
  simp only [acC, List.mem_cons, List.not_mem_nil, or_false] at hv
  rcases hv with rfl | rfl | rfl | rfl | rfl | rfl | rfl | rfl | rfl | rfl | rfl | rfl <;> rfl
section
variable {w w' : World} {cp mp ap : Nat} {l : List (ByteArray × List Value)} {st sk vr cd ls : Int}
set_option maxRecDepth 100000 in
set_option maxHeartbeats 4000000 in
theorem stmt_w (b off cA : Nat) (p : StA) (B1 : Option Addr) (c1 : Nat) (B2 : Option Addr) (c2 : Nat) (h : CkS cp mp [(sI, enI)] 34 2 2 12 2 w) (hb : b < w.heap.size) (hA : w.rangeAt b off (arM B1 c1 B2 c2)) :
    Calls Try.prog 39 #[.pointer (some ⟨cp, 0, none⟩), .agg (stW b off cA p).toArray, .agg (scC 3 2).toArray] w fun e w' => ∃ cs : List Value, e = .returned (.agg cs.toArray) ∧ cs.length = 12 ∧ (∀ v ∈ cs, v.oneCell' = true) ∧ CkS cp mp [(sI, enI)] 46 2 2 16 2 w' ∧ Wr [cp, mp] w w' := by
  have HP := Lib.hid (fun W ap (h : CkS cp mp [(sI, enI)] 34 2 2 12 2 W) (ha : Blk W ap 92 (acC 0 0 0 none 0 0 0 0 none 0 0)) (h1 : ap ≠ cp) (h2 : ap ≠ mp) (hA : b < W.heap.size ∧ W.rangeAt b off (arM B1 c1 B2 c2)) => pause_c p b off cA B1 c1 B2 c2 3 2 h ha h1 h2 hA.1 hA.2)
  have HAr : Hid (∀ W, Below w.heap.size w W → b < W.heap.size ∧ W.rangeAt b off (arM B1 c1 B2 c2)) := fun W hW => ⟨Nat.lt_of_lt_of_le hb hW.size, range_below hA hW hb⟩
  have HBO := Lib.hid (fun W apv => bodies_w (w := W) (cp := cp) b off cA p 3 2 apv)
  clear hA
  have HAD := Lib.hid (fun W (h : CkS cp mp [(sI, enI)] 34 2 2 12 2 W) => add_w 13 2 h)
  have HOK := Lib.hid (fun W (h : CkS cp mp [(sI, enI)] 46 2 2 16 2 W) => ok_k h)
  have HH := Lib.hid h
  have hl1 := h.b.lt
  have hl2 := h.m.lt
  have hne := h.ne
  clear h
  go_enter Try.func39, Try.ntmps39
  go_upto_region 18 with fail
  have HC5 : Hid (CkS cp mp [(sI, enI)] 34 2 2 12 2 (((((w.alloc (.cells (stW b off cA p).toArray 105)).alloc (.cells (scC 3 2).toArray 78)).alloc (.cells acZ.toArray 92)).alloc (.cells (acC 0 0 0 none 0 0 0 0 none 0 0).toArray 92)).alloc (.cells (coC 0 0).toArray 143))) := ((((HH.out.alloc _).alloc _).alloc _).alloc _).alloc _
  have HA5 : Hid (Blk (((((w.alloc (.cells (stW b off cA p).toArray 105)).alloc (.cells (scC 3 2).toArray 78)).alloc (.cells acZ.toArray 92)).alloc (.cells (acC 0 0 0 none 0 0 0 0 none 0 0).toArray 92)).alloc (.cells (coC 0 0).toArray 143)) (w.heap.size + 3) 92 (acC 0 0 0 none 0 0 0 0 none 0 0)) := (Blk.new' (by simp) rfl).alloc _
  have HF5 : Hid (Fr5 w.heap.size (stW b off cA p) (scC 3 2) (((((w.alloc (.cells (stW b off cA p).toArray 105)).alloc (.cells (scC 3 2).toArray 78)).alloc (.cells acZ.toArray 92)).alloc (.cells (acC 0 0 0 none 0 0 0 0 none 0 0).toArray 92)).alloc (.cells (coC 0 0).toArray 143))) := ⟨((((Blk.new _ _ _).alloc _).alloc _).alloc _).alloc _, (((Blk.new' (by simp) rfl).alloc _).alloc _).alloc _, ((Blk.new' (by simp) rfl).alloc _).alloc _⟩
  have HK5 : Hid (Blk (((((w.alloc (.cells (stW b off cA p).toArray 105)).alloc (.cells (scC 3 2).toArray 78)).alloc (.cells acZ.toArray 92)).alloc (.cells (acC 0 0 0 none 0 0 0 0 none 0 0).toArray 92)).alloc (.cells (coC 0 0).toArray 143)) (w.heap.size + 4) 143 (coC 0 0) ∧ Below w.heap.size w (((((w.alloc (.cells (stW b off cA p).toArray 105)).alloc (.cells (scC 3 2).toArray 78)).alloc (.cells acZ.toArray 92)).alloc (.cells (acC 0 0 0 none 0 0 0 0 none 0 0).toArray 92)).alloc (.cells (coC 0 0).toArray 143))) := ⟨Blk.new' (by simp) rfl, (((((Below.refl w.heap.size w).alloc (Nat.le_refl _) _).alloc (by simp) _).alloc (by simp <;> omega) _).alloc (by simp <;> omega) _).alloc (by simp <;> omega) _⟩
  generalize (((((w.alloc (.cells (stW b off cA p).toArray 105)).alloc (.cells (scC 3 2).toArray 78)).alloc (.cells acZ.toArray 92)).alloc (.cells (acC 0 0 0 none 0 0 0 0 none 0 0).toArray 92)).alloc (.cells (coC 0 0).toArray 143)) = w5 at *
  clear HH
  have hld5 := ldAt_run HF5.out.st 105 0 (stW b off cA p) rfl _ Try.underlying105 rfl hdSt
  have t0 : w5.cell? ⟨w.heap.size + 1, 0, none⟩ = some (.int .i64 3) := HF5.out.sc.cell 0
  have t1 : w5.cell? ⟨w.heap.size + 1, 1, none⟩ = some (.int .i64 0) := HF5.out.sc.cell 1
  have t2 : w5.cell? ⟨w.heap.size + 1, 2, none⟩ = some (.int .i64 2) := HF5.out.sc.cell 2
  go_upto_region 30 with (first
    | (go_at_call 64; (refine (HP.out _ _ (by exact HC5.out) (by exact HA5.out) (by omega) (by omega) (by exact HAr.out _ HK5.out.2)).mono ?_); rintro e w6 ⟨rfl, hc6, ⟨g6, ha6⟩, hW6⟩
       have HC6 := Lib.hid hc6
       have HA6 : Hid (Blk w6 (w.heap.size + 3) 92 (acC 3 4 0 (some ⟨g6, 0, none⟩) 2 2 0 0 none 0 0)) := ha6
       have HF6 := Lib.hid (HF5.out.wr hW6 (by simp <;> omega))
       have HK6 : Hid (Blk w6 (w.heap.size + 4) 143 (coC 0 0) ∧ Wr [cp, mp] w w6) := ⟨(hW6.block _ HK5.out.1.lt (by simp <;> omega)).trans HK5.out.1, Wr.newL (Wr.of_below HK5.out.2) hW6 (by simp <;> omega)⟩
       clear hc6 ha6 hW6 hld5 t0 t1 t2)
    | (refine wpList_store_all rfl 143 (.tmp 8) (.tmp 68) rfl (w.heap.size + 4) (coC 4 4) (by rfl) (by rfl) 143 (coC 0 0) (by exact HK6.out.1) hdCo (coC_one _ _) rfl ?_
       intro w7 hb7 ho7
       have HK7 := Lib.hid hb7
       have hs6 := HK6.out.2.size
       have HC7 := Lib.hid (HC6.out.only ho7 (by omega) (by omega))
       have HA7 := Lib.hid (ho7.blk HA6.out (by omega))
       have HF7 : Hid (Fr5 w.heap.size (stW b off cA p) (scC 3 2) w7) := HF6.out.wr (L := [w.heap.size + 4]) (Wr.onlyg ho7 (by simp)) (by simp <;> omega)
       have HW7 : Hid (Wr [cp, mp] w w7) := Wr.newL HK6.out.2 (Wr.onlyg (L := [w.heap.size + 4]) ho7 (by simp)) (by simp <;> omega)
       clear hb7 ho7 hs6))
  clear HC5 HA5 HF5 HK5 HC6 HA6 HF6 HK6 HP
  have k0 : w7.cell? ⟨w.heap.size + 4, 0, none⟩ = some (.int .i64 0) := HK7.out.cell 0
  have k1 : w7.cell? ⟨w.heap.size + 4, 1, none⟩ = some (.int .i64 0) := HK7.out.cell 1
  have k2 : w7.cell? ⟨w.heap.size + 4, 2, none⟩ = some (.int .i64 0) := HK7.out.cell 2
  have k3 : w7.cell? ⟨w.heap.size + 4, 3, none⟩ = some (.int .i64 4) := HK7.out.cell 3
  have k4 : w7.cell? ⟨w.heap.size + 4, 4, none⟩ = some (.int .i64 4) := HK7.out.cell 4
  have t0 : w7.cell? ⟨w.heap.size + 1, 0, none⟩ = some (.int .i64 3) := HF7.out.sc.cell 0
  have t1 : w7.cell? ⟨w.heap.size + 1, 1, none⟩ = some (.int .i64 0) := HF7.out.sc.cell 1
  have t2 : w7.cell? ⟨w.heap.size + 1, 2, none⟩ = some (.int .i64 2) := HF7.out.sc.cell 2
  have s1 : w7.cell? ⟨w.heap.size, 1, none⟩ = some (.int .i64 13) := HF7.out.st.cell 1
  go_upto_region 33 with (first
    | (go_at_call 67; (refine (HAD.out _ (by exact HC7.out)).mono ?_); rintro e w8 ⟨rfl, hc8, hW8⟩
       have HC8 := Lib.hid hc8
       have HA8 : Hid (Blk w8 (w.heap.size + 3) 92 (acC 3 4 0 (some ⟨g6, 0, none⟩) 2 2 0 0 none 0 0)) := (hW8.block _ HA7.out.lt (by simp <;> omega)).trans HA7.out
       have HF8 := Lib.hid (HF7.out.wr hW8 (by simp <;> omega))
       have HW8 : Hid (Wr [cp, mp] w w8) := HW7.out.trans (hW8.mono (by simp))
       have hld8 := ldAt_run HF8.out.st 105 0 (stW b off cA p) rfl _ Try.underlying105 rfl hdSt
       have t0 : w8.cell? ⟨w.heap.size + 1, 0, none⟩ = some (.int .i64 3) := HF8.out.sc.cell 0
       have t1 : w8.cell? ⟨w.heap.size + 1, 1, none⟩ = some (.int .i64 0) := HF8.out.sc.cell 1
       have t2 : w8.cell? ⟨w.heap.size + 1, 2, none⟩ = some (.int .i64 2) := HF8.out.sc.cell 2
       clear hc8 hW8 k0 k1 k2 k3 k4 s1)
    | (go_at_call 21; (refine (HOK.out _ (by exact HC8.out)).mono ?_); rintro e w9 ⟨rfl, rfl⟩)
    | (go_at_call 68; (refine (HBO.out _ _).mono ?_); rintro e w10 ⟨rfl, hB10⟩
       have HC9 := Lib.hid (HC8.out.belo hB10)
       have HA9 := qbl HA8 hB10
       have HF9 := Lib.hid (HF8.out.wr (L := []) (Wr.of_below hB10) (by simp))
       have HW9 : Hid (Wr [cp, mp] w w10) := HW8.out.trans (Wr.of_below hB10)
       clear hB10
       have hlA := ldAt_run HA9.out 92 0 (acC 3 4 0 (some ⟨g6, 0, none⟩) 2 2 0 0 none 0 0) rfl _ Try.underlying92 rfl hdAc
       clear hld8 t0 t1 t2))
  go_wp2_with (refine wpList_store_all rfl 92 (.tmp 6) (.tmp 123) rfl (w.heap.size + 2) (acC 3 4 0 (some ⟨g6, 0, none⟩) 2 2 0 0 none 0 0) (by rfl) (by rfl) 92 acZ (by exact HF9.out.res) hdAc (acC_one _ _ _ _ _ _ _ _ _ _ _) rfl ?_; intro w11 hb11 ho11)
  have hs9 := HW9.out.size
  exact bodyPost_ret (res_c rfl _ (w.heap.size + 2) 92 (acC 3 4 0 (some ⟨g6, 0, none⟩) 2 2 0 0 none 0 0) rfl hb11 _ Try.underlying92 rfl hdAc) rfl ⟨acC 3 4 0 (some ⟨g6, 0, none⟩) 2 2 0 0 none 0 0, rfl, rfl, acC_one _ _ _ _ _ _ _ _ _ _ _, HC9.out.only ho11 (by omega) (by omega), Wr.newL HW9.out (Wr.onlyg (L := [w.heap.size + 2]) ho11 (by simp)) (by simp <;> omega)⟩
set_option maxRecDepth 100000 in
set_option maxHeartbeats 4000000 in
theorem stmt_r (p : StA) (h : CkS cp mp [] 1 1 1 1 1 w) (K : ∀ W, Wr [cp, mp] w W → CkS cp mp [(sI, enI)] 34 2 2 12 1 W → Calls Try.prog 22 #[.pointer (some ⟨cp, 0, none⟩), .slice p.y.1 1 p.y.2, .agg (scC 3 1).toArray] W fun e w' => ∃ A c, e = .returned (.slice A 1 c) ∧ CkS cp mp [(sI, enI)] 46 2 2 16 2 w' ∧ Wr [cp, mp] W w') :
    Calls Try.prog 39 #[.pointer (some ⟨cp, 0, none⟩), .agg (stR p).toArray, .agg (scC 1 1).toArray] w fun e w' => ∃ cs : List Value, e = .returned (.agg cs.toArray) ∧ cs.length = 12 ∧ (∀ v ∈ cs, v.oneCell' = true) ∧ CkS cp mp [] 46 2 2 16 2 w' ∧ Wr [cp, mp] w w' := by
  have HP := Lib.hid (fun W ap (h : CkS cp mp [] 1 1 1 1 1 W) (ha : Blk W ap 92 (acC 0 0 0 none 0 0 0 0 none 0 0)) (h1 : ap ≠ cp) (h2 : ap ≠ mp) => repeat_c p 1 1 h ha h1 h2)
  have HBO := Lib.hid K
  clear K
  have HAD := Lib.hid (fun W (h : CkS cp mp [] 1 2 2 1 1 W) => add_r 0 1 h)
  have HOK := Lib.hid (fun W (h : CkS cp mp [] 34 2 2 12 1 W) => ok_k h)
  have HH := Lib.hid h
  have hl1 := h.b.lt
  have hl2 := h.m.lt
  have hne := h.ne
  clear h
  go_enter Try.func39, Try.ntmps39
  go_upto_region 20 with fail
  have HC5 : Hid (CkS cp mp [] 1 1 1 1 1 (((((w.alloc (.cells (stR p).toArray 105)).alloc (.cells (scC 1 1).toArray 78)).alloc (.cells acZ.toArray 92)).alloc (.cells (acC 0 0 0 none 0 0 0 0 none 0 0).toArray 92)).alloc (.cells (coC 0 0).toArray 143))) := ((((HH.out.alloc _).alloc _).alloc _).alloc _).alloc _
  have HA5 : Hid (Blk (((((w.alloc (.cells (stR p).toArray 105)).alloc (.cells (scC 1 1).toArray 78)).alloc (.cells acZ.toArray 92)).alloc (.cells (acC 0 0 0 none 0 0 0 0 none 0 0).toArray 92)).alloc (.cells (coC 0 0).toArray 143)) (w.heap.size + 3) 92 (acC 0 0 0 none 0 0 0 0 none 0 0)) := (Blk.new' (by simp) rfl).alloc _
  have HF5 : Hid (Fr5 w.heap.size (stR p) (scC 1 1) (((((w.alloc (.cells (stR p).toArray 105)).alloc (.cells (scC 1 1).toArray 78)).alloc (.cells acZ.toArray 92)).alloc (.cells (acC 0 0 0 none 0 0 0 0 none 0 0).toArray 92)).alloc (.cells (coC 0 0).toArray 143))) := ⟨((((Blk.new _ _ _).alloc _).alloc _).alloc _).alloc _, (((Blk.new' (by simp) rfl).alloc _).alloc _).alloc _, ((Blk.new' (by simp) rfl).alloc _).alloc _⟩
  have HK5 : Hid (Blk (((((w.alloc (.cells (stR p).toArray 105)).alloc (.cells (scC 1 1).toArray 78)).alloc (.cells acZ.toArray 92)).alloc (.cells (acC 0 0 0 none 0 0 0 0 none 0 0).toArray 92)).alloc (.cells (coC 0 0).toArray 143)) (w.heap.size + 4) 143 (coC 0 0) ∧ Below w.heap.size w (((((w.alloc (.cells (stR p).toArray 105)).alloc (.cells (scC 1 1).toArray 78)).alloc (.cells acZ.toArray 92)).alloc (.cells (acC 0 0 0 none 0 0 0 0 none 0 0).toArray 92)).alloc (.cells (coC 0 0).toArray 143))) := ⟨Blk.new' (by simp) rfl, (((((Below.refl w.heap.size w).alloc (Nat.le_refl _) _).alloc (by simp) _).alloc (by simp <;> omega) _).alloc (by simp <;> omega) _).alloc (by simp <;> omega) _⟩
  generalize (((((w.alloc (.cells (stR p).toArray 105)).alloc (.cells (scC 1 1).toArray 78)).alloc (.cells acZ.toArray 92)).alloc (.cells (acC 0 0 0 none 0 0 0 0 none 0 0).toArray 92)).alloc (.cells (coC 0 0).toArray 143)) = w5 at *
  clear HH
  have hld5 := ldAt_run HF5.out.st 105 0 (stR p) rfl _ Try.underlying105 rfl hdSt
  have t0 : w5.cell? ⟨w.heap.size + 1, 0, none⟩ = some (.int .i64 1) := HF5.out.sc.cell 0
  have t1 : w5.cell? ⟨w.heap.size + 1, 1, none⟩ = some (.int .i64 0) := HF5.out.sc.cell 1
  have t2 : w5.cell? ⟨w.heap.size + 1, 2, none⟩ = some (.int .i64 1) := HF5.out.sc.cell 2
  go_upto_region 30 with (first
    | (go_at_call 65; (refine (HP.out _ _ (by exact HC5.out) (by exact HA5.out) (by omega) (by omega)).mono ?_); rintro e w6 ⟨rfl, hc6, ha6, hW6⟩
       have HC6 := Lib.hid hc6
       have HA6 : Hid (Blk w6 (w.heap.size + 3) 92 (acC 5 0 0 none 0 0 3 1 none 0 0)) := ha6
       have HF6 := Lib.hid (HF5.out.wr hW6 (by simp <;> omega))
       have HK6 : Hid (Blk w6 (w.heap.size + 4) 143 (coC 0 0) ∧ Wr [cp, mp] w w6) := ⟨(hW6.block _ HK5.out.1.lt (by simp <;> omega)).trans HK5.out.1, Wr.newL (Wr.of_below HK5.out.2) hW6 (by simp <;> omega)⟩
       clear hc6 ha6 hW6 hld5 t0 t1 t2)
    | (refine wpList_store_all rfl 143 (.tmp 8) (.tmp 74) rfl (w.heap.size + 4) (coC 33 11) (by rfl) (by rfl) 143 (coC 0 0) (by exact HK6.out.1) hdCo (coC_one _ _) rfl ?_
       intro w7 hb7 ho7
       have HK7 := Lib.hid hb7
       have hs6 := HK6.out.2.size
       have HC7 := Lib.hid (HC6.out.only ho7 (by omega) (by omega))
       have HA7 := Lib.hid (ho7.blk HA6.out (by omega))
       have HF7 : Hid (Fr5 w.heap.size (stR p) (scC 1 1) w7) := HF6.out.wr (L := [w.heap.size + 4]) (Wr.onlyg ho7 (by simp)) (by simp <;> omega)
       have HW7 : Hid (Wr [cp, mp] w w7) := Wr.newL HK6.out.2 (Wr.onlyg (L := [w.heap.size + 4]) ho7 (by simp)) (by simp <;> omega)
       clear hb7 ho7 hs6))
  clear HC5 HA5 HF5 HK5 HC6 HA6 HF6 HK6 HP
  have k0 : w7.cell? ⟨w.heap.size + 4, 0, none⟩ = some (.int .i64 0) := HK7.out.cell 0
  have k1 : w7.cell? ⟨w.heap.size + 4, 1, none⟩ = some (.int .i64 0) := HK7.out.cell 1
  have k2 : w7.cell? ⟨w.heap.size + 4, 2, none⟩ = some (.int .i64 0) := HK7.out.cell 2
  have k3 : w7.cell? ⟨w.heap.size + 4, 3, none⟩ = some (.int .i64 33) := HK7.out.cell 3
  have k4 : w7.cell? ⟨w.heap.size + 4, 4, none⟩ = some (.int .i64 11) := HK7.out.cell 4
  have t0 : w7.cell? ⟨w.heap.size + 1, 0, none⟩ = some (.int .i64 1) := HF7.out.sc.cell 0
  have t1 : w7.cell? ⟨w.heap.size + 1, 1, none⟩ = some (.int .i64 0) := HF7.out.sc.cell 1
  have t2 : w7.cell? ⟨w.heap.size + 1, 2, none⟩ = some (.int .i64 1) := HF7.out.sc.cell 2
  have s1 : w7.cell? ⟨w.heap.size, 1, none⟩ = some (.int .i64 0) := HF7.out.st.cell 1
  go_upto_region 33 with (first
    | (go_at_call 67; (refine (HAD.out _ (by exact HC7.out)).mono ?_); rintro e w8 ⟨rfl, hc8, hW8⟩
       have HC8 := Lib.hid hc8
       have HA8 : Hid (Blk w8 (w.heap.size + 3) 92 (acC 5 0 0 none 0 0 3 1 none 0 0)) := (hW8.block _ HA7.out.lt (by simp <;> omega)).trans HA7.out
       have HF8 := Lib.hid (HF7.out.wr hW8 (by simp <;> omega))
       have HW8 : Hid (Wr [cp, mp] w w8) := HW7.out.trans (hW8.mono (by simp))
       have hld8 := ldAt_run HF8.out.st 105 0 (stR p) rfl _ Try.underlying105 rfl hdSt
       have t0 : w8.cell? ⟨w.heap.size + 1, 0, none⟩ = some (.int .i64 1) := HF8.out.sc.cell 0
       have t1 : w8.cell? ⟨w.heap.size + 1, 1, none⟩ = some (.int .i64 0) := HF8.out.sc.cell 1
       have t2 : w8.cell? ⟨w.heap.size + 1, 2, none⟩ = some (.int .i64 1) := HF8.out.sc.cell 2
       clear hc8 hW8 k0 k1 k2 k3 k4 s1)
    | (go_at_call 21; (refine (HOK.out _ (by exact HC8.out)).mono ?_); rintro e w9 ⟨rfl, rfl⟩)
    | (go_at_call 68; (refine (bodies_r p (by exact HC8.out) (by exact HA8.out) (by omega) (by omega) (fun W hW hc => HBO.out W (Wr.newL HW8.out hW (by simp <;> omega)) hc)).mono ?_); rintro e w10 ⟨rfl, hc10, ⟨A10, c10, ha10⟩, hW10⟩
       have HC9 := Lib.hid hc10
       have HA9 : Hid (Blk w10 (w.heap.size + 3) 92 (acC 5 0 0 none 0 0 3 1 A10 1 c10)) := ha10
       have HF9 := Lib.hid (HF8.out.wr hW10 (by simp <;> omega))
       have HW9 : Hid (Wr [cp, mp] w w10) := Wr.newL HW8.out hW10 (by simp <;> omega)
       clear hc10 ha10 hW10
       have hlA := ldAt_run HA9.out 92 0 (acC 5 0 0 none 0 0 3 1 A10 1 c10) rfl _ Try.underlying92 rfl hdAc
       clear hld8 t0 t1 t2))
  go_wp2_with (refine wpList_store_all rfl 92 (.tmp 6) (.tmp 123) rfl (w.heap.size + 2) (acC 5 0 0 none 0 0 3 1 A10 1 c10) (by rfl) (by rfl) 92 acZ (by exact HF9.out.res) hdAc (acC_one _ _ _ _ _ _ _ _ _ _ _) rfl ?_; intro w11 hb11 ho11)
  have hs9 := HW9.out.size
  exact bodyPost_ret (res_c rfl _ (w.heap.size + 2) 92 (acC 5 0 0 none 0 0 3 1 A10 1 c10) rfl hb11 _ Try.underlying92 rfl hdAc) rfl ⟨acC 5 0 0 none 0 0 3 1 A10 1 c10, rfl, rfl, acC_one _ _ _ _ _ _ _ _ _ _ _, HC9.out.only ho11 (by omega) (by omega), Wr.newL HW9.out (Wr.onlyg (L := [w.heap.size + 2]) ho11 (by simp)) (by simp <;> omega)⟩
end
end Go.Proofs.Ytloakenighnfgaa.Tr
