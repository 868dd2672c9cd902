/- Part of the proof: Cmd, Enc. -/
import Derived.Test.YtlbnibmcflmohaaGreatPlx23
import Derived.Test.YtlbnibmcflmohaaGreatPlx24
namespace Go.Proofs.YtlbnibmcflmohaaGreat
open Go.RowKit
structure Cm where
  k : UInt8
  f : UInt8
  d : Nat
  n : Nat
  m : List UInt8
namespace Cm
def cells (c : Cm) : List Value := .int .u8 c.k.toNat :: .int .u8 c.f.toNat :: .int .u32 (c.d : Int) :: .int .u64 (c.n : Int) :: u8s c.m
def ok (c : Cm) : Prop := c.d < 4294967296 ∧ c.n < 18446744073709551616 ∧ c.m.length = 16
def zero : Cm := ⟨0, 0, 0, 0, List.replicate 16 0⟩
theorem zero_ok : zero.ok := ⟨by decide, by decide, rfl⟩
def shaped (c : Cm) : Bool := if (decide (c.k = 1) != decide (c.n ≠ 0)) = true then false else (decide (c.k = 4) || decide (c.m = List.replicate 16 0))
def check (c : Cm) : Nat := if c.k.toNat < 1 ∨ 4 < c.k.toNat then 1 else if c.shaped = false then 3 else if 1000000 < c.d then 11 else 0
theorem cells_len {c : Cm} (h : c.ok) : c.cells.length = 20 := by simp [cells, u8s_length, h.2.2]
theorem cells_one (c : Cm) : ∀ v ∈ c.cells, v.oneCell' = true := by
  intro v hv
  simp only [cells, List.mem_cons] at hv
  rcases hv with rfl | rfl | rfl | rfl | hv
  · rfl
  · rfl
  · rfl
  · rfl
  · exact u8s_one _ v hv
theorem cells_mark (c : Cm) : (c.cells.drop 4) = u8s c.m := rfl
end Cm
theorem hd76c : (Tryz.prog.info? 50).map (·.size) = some 20 := by kernel_rfl
theorem hd16c : (Tryz.prog.info? 34).map (·.size) = some 16 := by kernel_rfl
theorem ldq_16c (v : Value) : Instr.loadAt 34 v = ldAt 34 v := rfl
theorem ldq_cm (v : Value) : Instr.loadAt 50 v = ldAt 50 v := rfl
theorem eqq_16c (x y : Value) : binOp .eql 34 x y = eqAt 34 x y := rfl
def bld16 : Sem Value := Instr.build 34 #[]
theorem bldq_16c : Instr.build 34 #[] = bld16 := rfl
attribute [local go_sem ↓] ldq_16c eqq_16c bldq_16c ldq_cm
theorem cm_mark_ld {w : World} {g : Nat} {t : TypeId} {c : Cm} (hb : Blk w g t c.cells) (hc : c.ok) : (ldAt 34 (.pointer (some ⟨g, 4, none⟩))).run Tryz.prog w = .ok (.agg (u8s c.m).toArray) w :=
  ldAt_run hb _ 4 (u8s c.m) (by rw [Cm.cells_mark, List.take_of_length_le (Nat.le_refl _)]) _ Tryz.underlying34 rfl (by rw [u8s_length, hc.2.2]; exact hd16c)
theorem k_eq (a b : UInt8) : ((a.toNat : Int) == (b.toNat : Int)) = decide (a = b) := by
  rw [Bool.eq_iff_iff, beq_iff_eq, decide_eq_true_iff]
  exact ⟨fun h => UInt8.toNat_inj.1 (by omega), fun h => by rw [h]⟩
theorem n_ne (n : Nat) : ((n : Int) != 0) = decide (n ≠ 0) := by
  rw [Bool.eq_iff_iff, bne_iff_ne, decide_eq_true_iff]
  omega
set_option maxRecDepth 100000 in
set_option maxHeartbeats 1000000 in
theorem shaped_any (c : Cm) (hc : c.ok) (w : World) :
    Calls Tryz.prog 60 #[.agg c.cells.toArray] w fun e w' => e = .returned (.bool c.shaped) ∧ Below w.heap.size w w' := by
  obtain ⟨C, hC⟩ : ∃ C, C = c.cells := ⟨_, rfl⟩
  have hb : Blk (w.alloc (.cells C.toArray 50)) w.heap.size 50 C := Blk.new w _ _
  have c0 : (w.alloc (.cells C.toArray 50)).cell? ⟨w.heap.size, 0, none⟩ = some (.int .u8 c.k.toNat) := by rw [hb.cell, hC]; rfl
  have c3 : (w.alloc (.cells C.toArray 50)).cell? ⟨w.heap.size, 3, none⟩ = some (.int .u64 (c.n : Int)) := by rw [hb.cell, hC]; rfl
  have hld : (ldAt 34 (.pointer (some ⟨w.heap.size, 4, none⟩))).run Tryz.prog (w.alloc (.cells C.toArray 50)) = .ok (.agg (u8s c.m).toArray) (w.alloc (.cells C.toArray 50)) := by
    subst hC
    exact cm_mark_ld hb hc
  have heq : ∀ W, (eqAt 34 (.agg (u8s c.m).toArray) (.agg #[.int .u8 0, .int .u8 0, .int .u8 0, .int .u8 0, .int .u8 0, .int .u8 0, .int .u8 0, .int .u8 0, .int .u8 0, .int .u8 0, .int .u8 0, .int .u8 0, .int .u8 0, .int .u8 0, .int .u8 0, .int .u8 0])).run Tryz.prog W = .ok (.bool (decide (c.m = List.replicate 16 0))) W := fun W => eq16 c.m (List.replicate 16 0) hc.2.2 rfl W
  have e1 : ((c.k.toNat : Int) == 1) = decide (c.k = 1) := k_eq c.k 1
  have e2 : ((c.n : Int) != 0) = decide (c.n ≠ 0) := n_ne c.n
  have e3 : ((c.k.toNat : Int) == 4) = decide (c.k = 4) := k_eq c.k 4
  have HS : Hid (c.shaped = if (decide (c.k = 1) != decide (c.n ≠ 0)) = true then false else (decide (c.k = 4) || decide (c.m = List.replicate 16 0))) := rfl
  rw [← hC]
  obtain ⟨S, hSS⟩ : ∃ S, S = c.shaped := ⟨_, rfl⟩
  rw [← hSS] at HS ⊢
  generalize u8s c.m = M at *
  generalize decide (c.m = List.replicate 16 0) = pm at *
  generalize decide (c.k = 1) = p1 at *
  generalize decide (c.k = 4) = p4 at *
  generalize decide (c.n ≠ 0) = pn at *
  generalize (c.k.toNat : Int) = K at *
  generalize (c.n : Int) = NN at *
  have HE := Lib.hid ((Below.refl w.heap.size w).alloc (Nat.le_refl _) (.cells C.toArray 50))
  clear hC hb hc hSS
  cases hx : (p1 == pn) with
  | false =>
    rw [show (p1 != pn) = true by rw [bne, hx]; rfl, if_pos rfl] at HS
    go_enter Tryz.func60, Tryz.ntmps60
    go_wp2_with fail
    go_ret
    exact ⟨by rw [HS.out]; rfl, HE.out⟩
  | true =>
    rw [show (p1 != pn) = false by rw [bne, hx]; rfl, if_neg (by decide)] at HS
    cases p4 with
    | true =>
      go_enter Tryz.func60, Tryz.ntmps60
      go_wp2_with fail
      go_ret
      exact ⟨by rw [HS.out]; rfl, HE.out⟩
    | false =>
      go_enter Tryz.func60, Tryz.ntmps60
      go_wp2_with fail
      go_ret
      exact ⟨by rw [HS.out]; rfl, HE.out⟩
theorem cm_ld {w : World} {g : Nat} {t : TypeId} {C : List Value} (hb : Blk w g t C) (hl : C.length = 20) : (ldAt 50 (.pointer (some ⟨g, 0, none⟩))).run Tryz.prog w = .ok (.agg C.toArray) w :=
  ldAt_run hb _ 0 C (by rw [List.drop_zero, List.take_of_length_le (Nat.le_refl _)]) _ Tryz.underlying50 rfl (by rw [hl]; exact hd76c)
set_option maxRecDepth 100000 in
set_option maxHeartbeats 1000000 in
theorem check_cm (c : Cm) (hc : c.ok) (w : World) :
    Calls Tryz.prog 39 #[.agg c.cells.toArray] w fun e w' => e = .returned (.int .i64 (c.check : Int)) ∧ Below w.heap.size w w' := by
  have HSH := Lib.hid (fun W => shaped_any c hc W)
  have hl := Cm.cells_len hc
  obtain ⟨C, hC⟩ : ∃ C, C = c.cells := ⟨_, rfl⟩
  have hb : Blk (w.alloc (.cells C.toArray 50)) w.heap.size 50 C := Blk.new w _ _
  have c0 : (w.alloc (.cells C.toArray 50)).cell? ⟨w.heap.size, 0, none⟩ = some (.int .u8 c.k.toNat) := by rw [hb.cell, hC]; rfl
  rw [← hC] at hl HSH ⊢
  have hld : (ldAt 50 (.pointer (some ⟨w.heap.size, 0, none⟩))).run Tryz.prog (w.alloc (.cells C.toArray 50)) = .ok (.agg C.toArray) (w.alloc (.cells C.toArray 50)) := cm_ld hb hl
  have HC2 : Hid (C[2]? = some (.int .u32 (c.d : Int))) := by rw [hC]; rfl
  have HE := Lib.hid ((Below.refl w.heap.size w).alloc (Nat.le_refl _) (.cells C.toArray 50))
  have HB := Lib.hid hb
  have HCK : Hid (c.check = if c.k.toNat < 1 ∨ 4 < c.k.toNat then 1 else if c.shaped = false then 3 else if 1000000 < c.d then 11 else 0) := rfl
  obtain ⟨R, hR⟩ : ∃ R, R = c.check := ⟨_, rfl⟩
  rw [← hR] at HCK ⊢
  generalize c.shaped = S at *
  generalize c.k.toNat = K at *
  generalize c.d = D at *
  clear hb hl hC hR hc
  by_cases h1 : K < 1
  · rw [if_pos (.inl h1)] at HCK
    have i1 : (K : Int) < 1 := by omega
    go_enter Tryz.func39, Tryz.ntmps39
    go_wp2_with fail
    go_ret
    exact ⟨by rw [HCK.out]; rfl, HE.out⟩
  · have i1 : ¬ (K : Int) < 1 := by omega
    by_cases h4 : 4 < K
    · rw [if_pos (.inr h4)] at HCK
      have i4 : (4 : Int) < (K : Int) := by omega
      go_enter Tryz.func39, Tryz.ntmps39
      go_wp2_with fail
      go_ret
      exact ⟨by rw [HCK.out]; rfl, HE.out⟩
    · have i4 : ¬ (4 : Int) < (K : Int) := by omega
      rw [if_neg (by omega)] at HCK
      cases S with
      | false =>
        rw [if_pos rfl] at HCK
        go_enter Tryz.func39, Tryz.ntmps39
        go_wp2_with (go_at_call 60; (with_reducible refine (HSH.out _).mono ?_); rintro e w1 ⟨rfl, hB1⟩
                     have HE1 := Lib.hid (HE.out.trans (hB1.mono (by simp)))
                     clear hB1)
        go_ret
        exact ⟨by rw [HCK.out]; rfl, HE1.out⟩
      | true =>
        rw [if_neg (by decide)] at HCK
        by_cases hd : 1000000 < D
        · have i5 : (1000000 : Int) < (D : Int) := by omega
          rw [if_pos hd] at HCK
          go_enter Tryz.func39, Tryz.ntmps39
          go_wp2_with (go_at_call 60; (with_reducible refine (HSH.out _).mono ?_); rintro e w1 ⟨rfl, hB1⟩
                       have HE1 := Lib.hid (HE.out.trans (hB1.mono (by simp)))
                       have c2 : w1.cell? ⟨w.heap.size, 2, none⟩ = some (.int .u32 (D : Int)) := by rw [(HB.out.below hB1 HB.out.lt).cell]; exact HC2.out
                       clear hB1)
          go_ret
          exact ⟨by rw [HCK.out]; rfl, HE1.out⟩
        · have i5 : ¬ (1000000 : Int) < (D : Int) := by omega
          rw [if_neg hd] at HCK
          go_enter Tryz.func39, Tryz.ntmps39
          go_wp2_with (go_at_call 60; (with_reducible refine (HSH.out _).mono ?_); rintro e w1 ⟨rfl, hB1⟩
                       have HE1 := Lib.hid (HE.out.trans (hB1.mono (by simp)))
                       have c2 : w1.cell? ⟨w.heap.size, 2, none⟩ = some (.int .u32 (D : Int)) := by rw [(HB.out.below hB1 HB.out.lt).cell]; exact HC2.out
                       clear hB1)
          go_ret
          exact ⟨by rw [HCK.out]; rfl, HE1.out⟩
end Go.Proofs.YtlbnibmcflmohaaGreat
namespace Go.Proofs.YtlbnibmcflmohaaGreat
open Go.RowKit
def Cm.enc (c : Cm) : List UInt8 := [c.k, c.f] ++ (Sh.beBytes c.d 4 ++ (Sh.beBytes c.n 8 ++ (c.m ++ [0, 0])))
theorem Cm.enc_len {c : Cm} (h : c.ok) : c.enc.length = 32 := by simp [Cm.enc, beBytes_len, h.2.2]
attribute [local go_sem ↓] ldq_16c eqq_16c bldq_16c ldq_cm
theorem Below.al {w w' : World} (h : Below w.heap.size w w') (o : Obj) : Below w.heap.size w (w'.alloc o) := h.alloc h.size o
set_option maxRecDepth 100000 in
set_option maxHeartbeats 4000000 in
theorem enc_any (c : Cm) (hc : c.ok) (h0 : c.check = 0) (w : World) :
    Calls Tryz.prog 20 #[.agg c.cells.toArray] w fun e w' => ∃ A' c', e = .returned (.tuple #[.slice A' 32 c', .int .i64 0]) ∧ 32 ≤ c' ∧ w'.ownsRow w.heap.size 5 1 (.slice A' 32 c') 32 (u8s c.enc) ∧ Below w.heap.size w w' := by
  have HCK := Lib.hid (fun W => check_cm c hc W)
  have hl := Cm.cells_len hc
  have HEL := Lib.hid (Cm.enc_len hc)
  have HEN : Hid ([[c.k, c.f], Sh.beBytes c.d 4, Sh.beBytes c.n 8, c.m, [0, 0]].flatten = c.enc) := by show _ = _; simp [Cm.enc]
  have HP4 := Lib.hid (fun W => put_4 c.d W (by have := hc.1; omega) hc.1)
  have HP8 := Lib.hid (fun W => put_8 c.n W hc.2.1)
  have hd1 : (0 : Int) ≤ (c.d : Int) := by omega
  have hd2 : (c.d : Int) < 4294967296 := by have := hc.1; omega
  have HML := Lib.hid hc.2.2
  obtain ⟨C, hC⟩ : ∃ C, C = c.cells := ⟨_, rfl⟩
  have hb : Blk (w.alloc (.cells C.toArray 50)) w.heap.size 50 C := Blk.new w _ _
  rw [← hC] at hl HCK ⊢
  have hld : (ldAt 50 (.pointer (some ⟨w.heap.size, 0, none⟩))).run Tryz.prog (w.alloc (.cells C.toArray 50)) = .ok (.agg C.toArray) (w.alloc (.cells C.toArray 50)) := cm_ld hb hl
  have HC0 : Hid (C[0]? = some (.int .u8 c.k.toNat)) := by rw [hC]; rfl
  have HC1 : Hid (C[1]? = some (.int .u8 c.f.toNat)) := by rw [hC]; rfl
  have HC2 : Hid (C[2]? = some (.int .u32 (c.d : Int))) := by rw [hC]; rfl
  have HC3 : Hid (C[3]? = some (.int .u64 (c.n : Int))) := by rw [hC]; rfl
  have HC4 : Hid (C.drop 4 = u8s c.m) := by rw [hC]; rfl
  have HCL := Lib.hid hl
  have HE := Lib.hid ((Below.refl w.heap.size w).alloc (Nat.le_refl _) (.cells C.toArray 50))
  have HB := Lib.hid hb
  rw [h0] at HCK
  clear hb hl hC h0 hc
  go_enter Tryz.func20, Tryz.ntmps20
  go_wp2_with (first
    | (go_at_call 39; (with_reducible refine (HCK.out _).mono ?_); rintro e w1 ⟨rfl, hB1⟩
       have HE1 := Lib.hid (HE.out.trans (hB1.mono (by simp)))
       have HB1 := qbl HB hB1
       have c2 : w1.cell? ⟨w.heap.size, 2, none⟩ = some (.int .u32 (c.d : Int)) := by rw [HB1.out.cell]; exact HC2.out
       clear hB1)
    | (go_at_call 42; (with_reducible refine (HP4.out w1).mono ?_); rintro e w2 ⟨rfl, hb2, hB2⟩
       have HE2 := qtr HE1 hB2
       have HB2 := qbl HB1 hB2
       have HF2 := Lib.hid hb2
       have c3 : w2.cell? ⟨w.heap.size, 3, none⟩ = some (.int .u64 (c.n : Int)) := by rw [HB2.out.cell]; exact HC3.out
       clear hb2 hB2)
    | (go_at_call 42; (with_reducible refine (HP8.out w2).mono ?_); rintro e w3 ⟨rfl, hb3, hB3⟩
       have HE3 := qtr HE2 hB3
       have HB3 := qbl HB2 hB3
       have HF3 := qbl HF2 hB3
       have HG3 := Lib.hid hb3
       clear hb3 hB3))
  have HQ : Hid (∀ (W : World) (gk gz gl : Nat),
      Blk W gl 23 [.slice (some ⟨gk, 0, none⟩) 2 2, .slice (some ⟨w1.heap.size, 0, none⟩) 4 4, .slice (some ⟨w2.heap.size, 0, none⟩) 8 8, .slice (some ⟨w.heap.size, 4, none⟩) 16 16, .slice (some ⟨gz, 0, none⟩) 2 2] →
      Blk W w.heap.size 50 C → Blk W w1.heap.size 5 (u8s (Sh.beBytes c.d 4)) → Blk W w2.heap.size 5 (u8s (Sh.beBytes c.n 8)) →
      Blk W gk 5 [.int .u8 c.k.toNat, .int .u8 c.f.toNat] → Blk W gz 5 [.int .u8 0, .int .u8 0] →
      Calls Tryz.prog 22 #[.slice (some ⟨gl, 0, none⟩) 5 5] W fun e w' => ∃ A' c', e = .returned (.slice A' 32 c') ∧ 32 ≤ c' ∧ w'.ownsRow W.heap.size 5 1 (.slice A' 32 c') 32 (u8s c.enc) ∧ Below W.heap.size W w') := fun W gk gz gl h6 h1 h2 h3 h4 h5 =>
    join_to _ 5 5 [[c.k, c.f], Sh.beBytes c.d 4, Sh.beBytes c.n 8, c.m, [0, 0]] W (RdB.of_blk h6 ⟨.of_blk h4 0 2 2 [c.k, c.f] (by simp) (by omega) rfl, .of_blk h2 0 4 4 (Sh.beBytes c.d 4) (by simp [u8s_length, beBytes_len]) (by omega) (by rw [List.drop_zero, List.take_of_length_le (by simp [u8s_length, beBytes_len])]),
      .of_blk h3 0 8 8 (Sh.beBytes c.n 8) (by simp [u8s_length, beBytes_len]) (by omega) (by rw [List.drop_zero, List.take_of_length_le (by simp [u8s_length, beBytes_len])]), .of_blk h1 4 16 16 c.m (by rw [HCL.out]; omega) (by omega) (by rw [HC4.out, List.take_of_length_le (by rw [u8s_length, HML.out]; omega)]), .of_blk h5 0 2 2 [0, 0] (by simp) (by omega) rfl, trivial⟩) (by omega) c.enc 32 HEN.out HEL.out (by omega)
  have hmk : ∀ W, (Instr.makeSlice 23 (.int .i64 2) (.int .i64 2)).run Tryz.prog W = .ok (.slice (some ⟨W.heap.size, 0, none⟩) 2 2) (W.alloc (.cells #[.int .u8 0, .int .u8 0] 5)) := fun W => by kernel_rfl
  have HKP : Hid (∀ W, Below w3.heap.size w3 W → W.cell? ⟨w.heap.size, 0, none⟩ = some (.int .u8 c.k.toNat) ∧ W.cell? ⟨w.heap.size, 1, none⟩ = some (.int .u8 c.f.toNat)) := fun W h => by
    have h5 := HB3.out.below h HB3.out.lt
    exact ⟨(h5.cell 0).trans HC0.out, (h5.cell 1).trans HC1.out⟩
  go_region_held3 (fun W' => W'.cell? ⟨w.heap.size, 0, none⟩ = some (.int .u8 c.k.toNat) ∧ W'.cell? ⟨w.heap.size, 1, none⟩ = some (.int .u8 c.f.toNat)) (exact HKP.out _ (by repeat (first | exact HS4 | exact Below.refl _ _ | apply Below.drew | apply Below.al))) ((go_at_call 22; (refine (HQ.out _ _ _ _ (by repeat (first | exact Blk.new' (by simp) rfl | apply Blk.drew | apply Blk.alloc)) (by repeat (first | exact HB3.out | apply Blk.drew | apply Blk.alloc)) (by repeat (first | exact HF3.out | apply Blk.drew | apply Blk.alloc)) (by repeat (first | exact HG3.out | apply Blk.drew | apply Blk.alloc)) (by repeat (first | exact Blk.new' (by simp) rfl | apply Blk.drew | apply Blk.alloc)) (by repeat (first | exact Blk.new' (by simp) rfl | apply Blk.drew | apply Blk.alloc))).mono ?_); rintro e w4 ⟨A4, c4, rfl, hc4, hown4, hB4⟩; have HS4 : Below w3.heap.size w3 w4 := Below.trans (by repeat (first | exact Below.refl _ _ | apply Below.drew | apply Below.al)) (hB4.mono (by simp; omega)); have HO4 := Lib.hid (own_mono hown4 (base' := w.heap.size) (by have := HE3.out.size; simp; omega)); clear hown4 hB4))
  all_goals (go_wp2_with fail)
  all_goals go_ret2
  all_goals exact ⟨A4, c4, rfl, hc4, HO4.out, HE3.out.trans (HS4.mono HE3.out.size)⟩
end Go.Proofs.YtlbnibmcflmohaaGreat
