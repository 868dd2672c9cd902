/- Part of the proof: Tno, TreeOnceW. -/
import Derived.Test.YtafjkbbiaopemaaGreatDoorTox50
set_option linter.unusedVariables false
namespace Go.Proofs.YtafjkbbiaopemaaGreatDoor.Tr
open Go.RowKit
def SW (L H : Nat) (w : World) (b o : Nat) : Prop := L ≤ b ∧ b < H ∧ w.frozen? ⟨b, o, none⟩ = false ∧ ∃ s, w.cell? ⟨b, o, none⟩ = some (.string s)
structure StrW (L H : Nat) (w0 w : World) : Prop where
  os : w.os = w0.os
  tape : w.tape = w0.tape
  output : w.output = w0.output
  size : w.heap.size = w0.heap.size
  block : ∀ k, k < L ∨ H ≤ k → w.heap[k]? = w0.heap[k]?
  cell : ∀ a, w.cell? a = w0.cell? a ∨ ∃ s s', w0.cell? a = some (.string s) ∧ w.cell? a = some (.string s')
  fro : ∀ a, w.frozen? a = w0.frozen? a
section
variable {L H : Nat} {w0 w w' : World} {b o : Nat}
theorem StrW.refl (L H : Nat) (w : World) : StrW L H w w := ⟨rfl, rfl, rfl, rfl, fun _ _ => rfl, fun _ => .inl rfl, fun _ => rfl⟩
theorem SW.mv (h : SW L H w0 b o) (hs : StrW L H w0 w) : SW L H w b o := by
  obtain ⟨h1, h2, h3, s, h4⟩ := h
  refine ⟨h1, h2, (hs.fro _).trans h3, ?_⟩
  rcases hs.cell ⟨b, o, none⟩ with h5 | ⟨_, s', _, h6⟩
  · exact ⟨s, h5.trans h4⟩
  · exact ⟨s', h6⟩
theorem StrW.oth (hs : StrW L H w0 w) {a : Addr} {v : Value} (h : w0.cell? a = some v) (hv : ∀ s, v ≠ .string s) : w.cell? a = some v := by
  rcases hs.cell a with h5 | ⟨s, _, h6, _⟩
  · exact h5.trans h
  · rw [h] at h6
    injection h6 with h6
    exact absurd h6 (hv s)
theorem StrW.set (h : StrW L H w0 w) (hb : SW L H w b o) (s' : ByteArray) : StrW L H w0 (w.setCell ⟨b, o, none⟩ (.string s')) := by
  obtain ⟨h1, h2, _, s, h4⟩ := hb
  refine ⟨h.os, h.tape, h.output, by simp [World.setCell, h.size], fun k hk => ?_, fun a => ?_, fun a => ?_⟩
  · rw [Below.heap_setCell w ⟨b, o, none⟩ _ k (by show k ≠ b; omega)]
    exact h.block k hk
  · by_cases ha : a = ⟨b, o, none⟩
    · subst ha
      right
      rcases h.cell ⟨b, o, none⟩ with h5 | ⟨t, t', h6, h7⟩
      · exact ⟨s, s', h5.symm.trans h4, World.cell?_setCell_same _ _ _ h4⟩
      · exact ⟨t, s', h6, World.cell?_setCell_same _ _ _ h7⟩
    · rw [World.cell?_setCell_other _ _ _ _ (fun e => ha e.symm)]
      exact h.cell a
  · rw [World.frozen?_setCell]
    exact h.fro a
theorem StrW.below {B : Nat} {wi : World} (h : StrW L H w0 w) (hB : Below B wi w0) (hL : B ≤ L) : Below B wi w :=
  ⟨h.os.trans hB.os, h.tape.trans hB.tape, h.output.trans hB.output, by rw [h.size]; exact hB.size, fun k hk => (h.block k (.inl (by omega))).trans (hB.block k hk)⟩
theorem StrW.keep (h : StrW L H w0 w) (F : Nat → Prop) (hF : ∀ k, F k → H ≤ k) : Keep F F w0 w := ⟨by rw [h.size]; exact Nat.le_refl _, fun k hk _ => h.block k (.inr (hF k hk)), fun _ h _ => h⟩
theorem StrW.hi (h : StrW L H w0 w) {t : TypeId} {cs : List Value} (hb : Blk w0 b t cs) (hH : H ≤ b) : Blk w b t cs := (h.block b (.inr hH)).trans hb
theorem SW.up (h : SW L H w b o) (hB : Below H w w') : SW L H w' b o := by
  obtain ⟨h1, h2, h3, s, h4⟩ := h
  refine ⟨h1, h2, ?_, s, (World.cell?_of_block (a := ⟨b, o, none⟩) (hB.block b h2)).trans h4⟩
  unfold World.frozen? at h3 ⊢
  rw [hB.block b h2]
  exact h3
def BW (L H : Nat) (w : World) (A : Option Addr) (n : Nat) : Prop := ∀ i, i < n → ∃ b off R m c, A = some ⟨b, off, none⟩ ∧ SW L H w b (off + i * 26) ∧ SW L H w b (off + i * 26 + 6) ∧ w.cell? ⟨b, off + i * 26 + 19, none⟩ = some (.slice R m c) ∧ b < H ∧ m ≤ 140737488355328 ∧ ∀ j, j < m → ∃ rb ro, R = some ⟨rb, ro, none⟩ ∧ SW L H w rb (ro + j * 2)
def DW (L H : Nat) (w : World) (A : Option Addr) (n : Nat) : Prop := ∀ i, i < n → ∃ b off, A = some ⟨b, off, none⟩ ∧ SW L H w b (off + i * 9 + 1)
theorem BW.up {A : Option Addr} {n : Nat} (h : BW L H w A n) (hB : Below H w w') : BW L H w' A n := fun i hi => by
  obtain ⟨b, off, R, m, c, h1, h2, h3, h4, h5, h6, h7⟩ := h i hi
  refine ⟨b, off, R, m, c, h1, h2.up hB, h3.up hB, (World.cell?_of_block (a := ⟨b, off + i * 26 + 19, none⟩) (hB.block b h5)).trans h4, h5, h6, fun j hj => ?_⟩
  obtain ⟨rb, ro, h8, h9⟩ := h7 j hj
  exact ⟨rb, ro, h8, h9.up hB⟩
theorem DW.up {A : Option Addr} {n : Nat} (h : DW L H w A n) (hB : Below H w w') : DW L H w' A n := fun i hi => by
  obtain ⟨b, off, h1, h2⟩ := h i hi
  exact ⟨b, off, h1, h2.up hB⟩
theorem rfs_get : ∀ (l : List Rf) (j : Nat) (hj : j < l.length), (l.flatMap rfC)[j * 2]? = some (.string l[j].name)
  | [], _, hj => by simp at hj
  | r :: l, 0, _ => rfl
  | r :: l, j + 1, hj => by
    have h := rfs_get l j (by simpa using hj)
    rw [List.flatMap_cons, List.getElem?_append_right (by rw [rfC_len]; omega), rfC_len, show (j + 1) * 2 - 2 = j * 2 by omega]
    simpa using h
theorem body_sw {F : Nat → Prop} {A : Option Addr} {ss : List St} (h : BodyIn F w A ss) (hs : ∀ s ∈ ss, s.routes.length ≤ 140737488355328) (hF : ∀ k, F k → L ≤ k) : BW L w.heap.size w A ss.length := fun i hi => by
  cases h with
  | mk _ _ sl hl hr he hy hz =>
    obtain ⟨b, off, rfl, hb, hc⟩ := hr.1.2 (by omega)
    obtain ⟨hf1, hf2⟩ := hr.2 (by omega) _ rfl
    have h1 : ss[i]? = some ss[i] := List.getElem?_eq_getElem hi
    have h2 : sl[i]? = some (sl[i]'(by omega)) := List.getElem?_eq_getElem _
    have hg := fun j v hv => hc _ v (zipC_get stC 26 (fun _ _ => rfl) ss sl i _ _ j v h1 h2 hv)
    obtain ⟨_, _, _, hR⟩ := he i _ _ h1 h2
    refine ⟨b, off, (sl[i]'(by omega)).r.1, ss[i].routes.length, (sl[i]'(by omega)).r.2, rfl, ⟨hF _ hf1, hb, hf2 _, _, by have := hg 0 _ rfl; exact this⟩, ⟨hF _ hf1, hb, hf2 _, _, by have := hg 6 _ rfl; rw [Nat.add_assoc]; exact this⟩, by have := hg 19 _ rfl; rw [Nat.add_assoc]; exact this, hb, hs _ (List.getElem_mem hi), fun j hj => ?_⟩
    obtain ⟨rb, ro, e, hrb, hrc⟩ := hR.1.2 (by omega)
    obtain ⟨hr1, hr2⟩ := hR.2 (by omega) _ e
    refine ⟨rb, ro, e, hF _ hr1, hrb, hr2 _, ss[i].routes[j].name, hrc _ _ ?_⟩
    exact rfs_get ss[i].routes j hj
theorem decl_sw {F : Nat → Prop} {A : Option Addr} {ss : List Dc} (h : DcsIn F w A ss) (hF : ∀ k, F k → L ≤ k) : DW L w.heap.size w A ss.length := fun i hi => by
  obtain ⟨sl, hl, hr, he⟩ := h
  obtain ⟨b, off, rfl, hb, hc⟩ := hr.1.2 (by omega)
  obtain ⟨hf1, hf2⟩ := hr.2 (by omega) _ rfl
  have h1 : ss[i]? = some ss[i] := List.getElem?_eq_getElem hi
  have h2 : sl[i]? = some (sl[i]'(by omega)) := List.getElem?_eq_getElem _
  exact ⟨b, off, rfl, hF _ hf1, hb, hf2 _, _, by have := hc _ _ (zipC_get dcC 9 (fun _ _ => rfl) ss sl i _ _ 1 _ h1 h2 rfl); rw [Nat.add_assoc]; exact this⟩
end
end Go.Proofs.YtafjkbbiaopemaaGreatDoor.Tr
namespace Go.Proofs.YtafjkbbiaopemaaGreatDoor.Tr
open Go.RowKit
section
variable {w w' : World}
theorem StSm.rts {ss : List St} (h : StSm ss) : ss.length ≤ 140737488355328 ∧ ∀ s ∈ ss, s.routes.length ≤ 140737488355328 := by
  cases h with
  | mk _ hl he _ _ => exact ⟨hl, fun s hs => (he s hs).2.2.2⟩
set_option maxRecDepth 100000 in
set_option maxHeartbeats 8000000 in
theorem treeOnce_w (s o : ByteArray) (w : World) : Calls Tryz.prog 5 #[.string s, .string o] w fun e w' => e = .returned (.bool true) ∧ Below w.heap.size w w' := by
  have HA := Lib.hid awake22
  have HP := Lib.hid (fun W => parse_any s W)
  have HO : Hid (∀ W, Calls Tryz.prog 9 #[.string o] W fun e w' => ∃ v, e = .returned v ∧ Below W.heap.size W w') := fun W => (parse_any o W).mono fun e w' ⟨B, d, A, c, e1, _, _, hB⟩ => ⟨_, e1, hB⟩
  have HQ := Lib.hid (fun W => rparse_any s W)
  obtain ⟨hd, hb⟩ := parse_sm s.data.toList
  generalize parse s.data.toList = R at *
  obtain ⟨T, F1, F2⟩ := R
  have HS := Lib.hid (fun (F G : Nat → Prop) (A B C D : Option Addr) (a b c d : Nat) (W : World) hA hB hC hD => same_c (F := F) (G := G) T hd hb A B C D a b c d W hA hB hC hD)
  have HRT := Lib.hid hb.rts
  have HDN : Hid (T.decls.length ≤ 140737488355328) := hd.1
  clear hd hb
  unfold PaK at HP
  unfold RPaK at HQ
  dsimp only at HP HQ HRT
  go_enter Tryz.func5, Tryz.ntmps5
  go_upto_region 8 with (first
    | (go_at_call 11; (refine (HS.out _ _ B A B' A' d c d' c' _ (H4.out.1.keep (Keep.of_below (below_two (Below.refl _ _) (Nat.le_refl _)) _)) (H4.out.2.1.keep (Keep.of_below (below_two (Below.refl _ _) (Nat.le_refl _)) _)) (H4.out.2.2.1.keep (Keep.of_below (below_two (Below.refl _ _) (Nat.le_refl _)) _)) (H4.out.2.2.2.1.keep (Keep.of_below (below_two (Below.refl _ _) (Nat.le_refl _)) _))).mono ?_); rintro e w5 ⟨rfl, hB5⟩
       have hB45 : Below w4.heap.size w4 w5 := (below_two (Below.refl _ _) (Nat.le_refl _)).trans (hB5.mono (by simp; omega))
       have h25 : Below w2.heap.size w2 w5 := H4.out.2.2.2.2.2.trans (hB45.mono H4.out.2.2.2.2.2.size)
       have H5 : Hid (DcsIn (Fr w3.heap.size) w5 B' T.decls ∧ BodyIn (Fr w3.heap.size) w5 A' T.body ∧ Below w.heap.size w w5 ∧ Blk w5 w2.heap.size 26 [.slice B T.decls.length d, .slice A T.body.length c] ∧ Blk w5 w4.heap.size 26 [.slice B' T.decls.length d', .slice A' T.body.length c'] ∧ BW w1.heap.size w2.heap.size w5 A T.body.length ∧ DW w1.heap.size w2.heap.size w5 B T.decls.length ∧ w.heap.size ≤ w1.heap.size ∧ w1.heap.size ≤ w2.heap.size ∧ w2.heap.size + 2 ≤ w3.heap.size ∧ w3.heap.size ≤ w4.heap.size ∧ w4.heap.size < w5.heap.size) :=
         ⟨H4.out.2.2.1.keep (Keep.of_below hB45 _), H4.out.2.2.2.1.keep (Keep.of_below hB45 _), H4.out.2.2.2.2.1.trans (hB45.mono H4.out.2.2.2.2.1.size), HB4.out.1.below hB45 HB4.out.1.lt, ((Blk.new w4 _ _).alloc _).below hB5 (by simp <;> omega), H2.out.2.2.2.1.up h25, H2.out.2.2.2.2.1.up h25, H1.out.size, H2.out.2.2.2.2.2, HS3.out, HS4.out, by have := hB5.size; simp at this; omega⟩
       clear hB5 hB45 h25)
    | (go_at_call 9; (with_reducible refine (HP.out _).mono ?_); rintro e w4 ⟨B', d', A', c', rfl, hD4, hY4, hB4⟩
       have h34 : Below w3.heap.size w3 w4 := hB4
       have h24 : Below w2.heap.size w2 w4 := H3.out.trans (h34.mono H3.out.size)
       have H4 := Lib.hid (And.intro (H2.out.1.keep (Keep.of_below h24 _)) (And.intro (H2.out.2.1.keep (Keep.of_below h24 _)) (And.intro hD4 (And.intro hY4 (And.intro (H2.out.2.2.1.trans (h24.mono H2.out.2.2.1.size)) h24)))))
       have HB4 : Hid (Blk w4 w2.heap.size 26 [.slice B T.decls.length d, .slice A T.body.length c] ∧ Blk w4 (w2.heap.size + 1) 29 [.int .i64 F1, .int .i64 F2]) := ⟨HB3.out.1.below h34 HB3.out.1.lt, HB3.out.2.below h34 HB3.out.2.lt⟩
       have HS4 : Hid (w3.heap.size ≤ w4.heap.size) := h34.size
       obtain ⟨n0, n1, _, _⟩ := Blk.two HB4.out.1
       obtain ⟨m0, m1, _, _⟩ := Blk.two HB4.out.2
       have l3 := HB4.out.1.lt
       have l4 := HB4.out.2.lt
       clear hD4 hY4 hB4 h34 h24)
    | (go_at_call 9; (with_reducible refine (HO.out _).mono ?_); rintro e w3 ⟨v3, rfl, hB3⟩
       have HB3 : Hid (Blk w3 w2.heap.size 26 [.slice B T.decls.length d, .slice A T.body.length c] ∧ Blk w3 (w2.heap.size + 1) 29 [.int .i64 F1, .int .i64 F2]) := ⟨((Blk.new w2 _ _).alloc _).below hB3 (by simp <;> omega), (Blk.new' (by simp) rfl).below hB3 (by simp)⟩
       have H3 : Hid (Below w2.heap.size w2 w3) := (below_two (Below.refl _ _) (Nat.le_refl _)).trans (hB3.mono (by simp; omega))
       have HS3 : Hid (w2.heap.size + 2 ≤ w3.heap.size) := by have := hB3.size; simp at this; exact this
       clear hB3)
    | (go_at_call 9; (with_reducible refine (HP.out _).mono ?_); rintro e w2 ⟨B, d, A, c, rfl, hD2, hY2, hB2⟩; have H2 := Lib.hid (And.intro hD2 (And.intro hY2 (And.intro (H1.out.trans (hB2.mono H1.out.size)) (And.intro (body_sw hY2 HRT.out.2 (fun k h => h)) (And.intro (decl_sw hD2 (fun k h => h)) hB2.size))))); clear hD2 hY2 hB2)
    | (go_at_call 8; (refine (HA.out _).mono ?_); rintro e w1 ⟨rfl, hB1⟩; have H1 := Lib.hid hB1; clear hB1))
  have hlen8 : T.body.length ≤ 140737488355328 := HRT.out.1
  have hdl8 : T.decls.length ≤ 140737488355328 := HDN.out
  clear H1 H2 H3 H4 HB3 HB4 HS3 HS4 n0 n1 m0 m1 l3 l4 HA HP HO HRT HDN
  have HX : Hid (∀ L H G, L = w1.heap.size → H = w2.heap.size → G = w4.heap.size → w.heap.size ≤ L ∧ L ≤ H ∧ H + 2 ≤ w3.heap.size ∧ w3.heap.size ≤ G ∧ G < w5.heap.size ∧ H ≠ G) := by
    rintro _ _ _ rfl rfl rfl
    obtain ⟨_, _, _, _, _, _, _, q1, q2, q3, q4, q5⟩ := H5.out
    exact ⟨q1, q2, q3, q4, q5, by omega⟩
  obtain ⟨L, hL⟩ : ∃ L, L = w1.heap.size := ⟨_, rfl⟩
  obtain ⟨H, hH⟩ : ∃ H, H = w2.heap.size := ⟨_, rfl⟩
  obtain ⟨G, hG⟩ : ∃ G, G = w4.heap.size := ⟨_, rfl⟩
  have HQ5 := Lib.hid (HX.out L H G hL hH hG)
  rw [← hL, ← hH, ← hG] at H5
  rw [← hH, ← hG]
  clear HX hL hH hG
  have HC : Hid (∀ W, StrW L H w5 W → W.cell? ⟨H, 0, none⟩ = some (.slice B T.decls.length d) ∧ W.cell? ⟨H, 1, none⟩ = some (.slice A T.body.length c) ∧ W.cell? ⟨G, 0, none⟩ = some (.slice B' T.decls.length d') ∧ W.cell? ⟨G, 1, none⟩ = some (.slice A' T.body.length c') ∧ H < W.heap.size ∧ G < W.heap.size ∧ W.heap.size = w5.heap.size) := fun W hW => by
    have h1 := hW.hi H5.out.2.2.2.1 (Nat.le_refl _)
    have h2 := hW.hi H5.out.2.2.2.2.1 (by have := HQ5.out; omega)
    exact ⟨h1.cell 0, h1.cell 1, h2.cell 0, h2.cell 1, h1.lt, h2.lt, hW.size⟩
  obtain ⟨e0, e1, _, _, e4, e5, _⟩ := HC.out w5 (StrW.refl _ _ _)
  go_wp2
  clear e0 e1 e4 e5
  go_loopg [9, 10, 40, 61] T.body.length (fun kk v9 v10 v40 v61 wr => ∃ i : Nat, v40 = .int .i64 i ∧ kk + i = T.body.length ∧ StrW L H w5 wr)
  case atStart => exact ⟨0, rfl, rfl, StrW.refl _ _ _⟩
  case round =>
    obtain ⟨i, rfl, hk, hStr⟩ := hrel
    by_cases hi : i < T.body.length
    · obtain ⟨b, off, R, m, cR, rfl, s1, s2, hr, hbH, hm8, hj⟩ := H5.out.2.2.2.2.2.1 i hi
      have HJ := Lib.hid hj
      have HR0 := Lib.hid hr
      have HS1 := Lib.hid s1
      have HS2 := Lib.hid s2
      have HST0 := Lib.hid hStr
      clear hj hr s2 hStr
      have hii : (i : Int) < (T.body.length : Int) := by omega
      obtain ⟨_, e1, _, _, e4, _, e6⟩ := HC.out _ HST0.out
      obtain ⟨_, _, f1, x1, t1⟩ := s1.mv HST0.out
      have hbl : b < wr.heap.size := by omega
      have hbh : b ≠ H := by omega
      clear s1
      go_upto_region 12 with fail
      have HST1 := Lib.hid (HST0.out.set (HS1.out.mv HST0.out) { data := #[120] })
      generalize wr.setCell ⟨b, off + i * 26, none⟩ (.string { data := #[120] }) = wa at *
      clear e1 e4 e6 f1 t1 hbl
      obtain ⟨_, e1, _, _, e4, _, e6⟩ := HC.out _ HST1.out
      obtain ⟨_, _, f2, x2, t2⟩ := HS2.out.mv HST1.out
      have hbl : b < wa.heap.size := by omega
      go_upto_region 13 with fail
      have HST2 := Lib.hid (HST1.out.set (HS2.out.mv HST1.out) { data := #[121] })
      generalize wa.setCell ⟨b, off + i * 26 + 6, none⟩ (.string { data := #[121] }) = wb at *
      clear e1 e4 e6 f2 t2 hbl
      obtain ⟨_, e1, _, _, e4, _, e6⟩ := HC.out _ HST2.out
      have hr2 := HST2.out.oth HR0.out (fun _ h => by cases h)
      have hbl : b < wb.heap.size := by omega
      go_wp2
      clear e1 e4 e6 hr2 hbl
      go_loopg [10, 61] m (fun kk v10 v61 wr => ∃ j : Nat, v61 = .int .i64 j ∧ kk + j = m ∧ StrW L H w5 wr)
      case atStart => exact ⟨0, rfl, rfl, HST2.out⟩
      case round =>
        obtain ⟨j, rfl, hk2, hStr⟩ := hrel
        by_cases hj : j < m
        · obtain ⟨rb, ro, rfl, s3⟩ := HJ.out j hj
          have hjj : (j : Int) < (m : Int) := by omega
          have HST3 := Lib.hid hStr
          have HS3 := Lib.hid s3
          obtain ⟨_, e1, _, _, e4, _, e6⟩ := HC.out _ hStr
          have hr3 := hStr.oth HR0.out (fun _ h => by cases h)
          obtain ⟨y1, y2, f3, x3, t3⟩ := s3.mv hStr
          have hbl := hStr.size
          have hbl2 : b < w5.heap.size := by have := HQ5.out; omega
          clear hStr s3
          go_upto_region 17 with fail
          have HST4 := Lib.hid (HST3.out.set (HS3.out.mv HST3.out) { data := #[122] })
          generalize wr.setCell ⟨rb, ro + j * 2, none⟩ (.string { data := #[122] }) = wc at *
          clear e1 e4 e6 hr3 f3 t3 hbl
          go_wp2
          go_roundg (m - (j + 1))
          case measure => omega
          case rel => exact ⟨j + 1, by simp, by omega, HST4.out⟩
        · have hjj : ¬ (j : Int) < (m : Int) := by omega
          have HST3 := Lib.hid hStr
          clear hStr
          go_wp2
          go_roundg (T.body.length - (i + 1))
          case measure => omega
          case rel => exact ⟨i + 1, by simp, by omega, HST3.out⟩
    · have hii : ¬ (i : Int) < (T.body.length : Int) := by omega
      have HST0 := Lib.hid hStr
      obtain ⟨e0, _, _, _, e4, _, e6⟩ := HC.out _ hStr
      clear hStr
      go_wp2
      clear e0 e4 e6
      go_loopg [11, 78] T.decls.length (fun kk v11 v78 wr => ∃ i : Nat, v78 = .int .i64 i ∧ kk + i = T.decls.length ∧ StrW L H w5 wr)
      case atStart => exact ⟨0, rfl, rfl, HST0.out⟩
      case round =>
        obtain ⟨k, rfl, hk3, hStr⟩ := hrel
        by_cases hk4 : k < T.decls.length
        · obtain ⟨b, off, rfl, s1⟩ := H5.out.2.2.2.2.2.2.1 k hk4
          have hkk : (k : Int) < (T.decls.length : Int) := by omega
          have HST1 := Lib.hid hStr
          have HS1 := Lib.hid s1
          obtain ⟨e0, _, _, _, e4, _, e6⟩ := HC.out _ hStr
          obtain ⟨y1, y2, f1, x1, t1⟩ := s1.mv hStr
          have hbl := hStr.size
          have hbl2 : b < w5.heap.size := by have := HQ5.out; omega
          clear hStr s1
          go_upto_region 23 with fail
          have HST4 := Lib.hid (HST1.out.set (HS1.out.mv HST1.out) { data := #[120] })
          generalize wr.setCell ⟨b, off + k * 9 + 1, none⟩ (.string { data := #[120] }) = wc at *
          clear e0 e4 e6 f1 t1 hbl
          go_wp2
          go_roundg (T.decls.length - (k + 1))
          case measure => omega
          case rel => exact ⟨k + 1, by simp, by omega, HST4.out⟩
        · have hkk : ¬ (k : Int) < (T.decls.length : Int) := by omega
          obtain ⟨_, _, e2, e3, _, e5, e6⟩ := HC.out _ hStr
          have HT5 : Hid (DcsIn (Fr w3.heap.size) wr B' T.decls ∧ BodyIn (Fr w3.heap.size) wr A' T.body ∧ Below w.heap.size w wr ∧ Blk wr G 26 [.slice B' T.decls.length d', .slice A' T.body.length c']) :=
            ⟨H5.out.1.keep (hStr.keep _ (fun k hk => by have := HQ5.out; unfold Fr at hk; omega)), H5.out.2.1.keep (hStr.keep _ (fun k hk => by have := HQ5.out; unfold Fr at hk; omega)), hStr.below H5.out.2.2.1 HQ5.out.1, hStr.hi H5.out.2.2.2.2.1 (by have := HQ5.out; omega)⟩
          clear hStr e2 e3 e5 e6
          go_wp2_with (first
            | (go_at_call 11; (refine (HS.out _ _ B' A' B6 A6 d' c' d6 c6 _ (H6.out.1.keep (Keep.of_below (below_two (Below.refl _ _) (Nat.le_refl _)) _)) (H6.out.2.1.keep (Keep.of_below (below_two (Below.refl _ _) (Nat.le_refl _)) _)) (H6.out.2.2.1.keep (Keep.of_below (below_two (Below.refl _ _) (Nat.le_refl _)) _)) (H6.out.2.2.2.1.keep (Keep.of_below (below_two (Below.refl _ _) (Nat.le_refl _)) _))).mono ?_); rintro e w7 ⟨rfl, hB7⟩
               have H7 : Hid (Below w.heap.size w w7) := (below_two H6.out.2.2.2.2.1 H6.out.2.2.2.2.1.size).trans (hB7.mono (by have := H6.out.2.2.2.2.1.size; simp; omega))
               clear hB7)
            | (go_at_call 10; (refine (HQ.out _).mono ?_); rintro e w6 ⟨B6, d6, A6, c6, rfl, hD6, hY6, hB6⟩
               have H6 : Hid (DcsIn (Fr w3.heap.size) w6 B' T.decls ∧ BodyIn (Fr w3.heap.size) w6 A' T.body ∧ DcsIn (Fr wr.heap.size) w6 B6 T.decls ∧ BodyIn (Fr wr.heap.size) w6 A6 T.body ∧ Below w.heap.size w w6 ∧ Blk w6 G 26 [.slice B' T.decls.length d', .slice A' T.body.length c']) :=
                 ⟨HT5.out.1.keep (Keep.of_below hB6 _), HT5.out.2.1.keep (Keep.of_below hB6 _), hD6, hY6, HT5.out.2.2.1.trans (hB6.mono HT5.out.2.2.1.size), HT5.out.2.2.2.below hB6 HT5.out.2.2.2.lt⟩
               obtain ⟨n0, n1, _, _⟩ := Blk.two H6.out.2.2.2.2.2
               have l3 := H6.out.2.2.2.2.2.lt
               clear hD6 hY6 hB6))
          go_ret
          exact ⟨rfl, H7.out⟩
end
end Go.Proofs.YtafjkbbiaopemaaGreatDoor.Tr
