/- Part of the proof: Cmd, Enc. -/
import Derived.Test.YtpgpaenloaphaaaGreatPpx03
import Derived.Test.YtpgpaenloaphaaaGreatPpx17
import Derived.Test.YtpgpaenloaphaaaGreatPpx21
import Derived.Test.YtpgpaenloaphaaaGreatPpx22
namespace Go.Proofs.YtpgpaenloaphaaaGreat
open Go.RowKit
structure Cm where
 k : UInt8
 f : UInt8
 d : Nat
 n : Nat
 m : List UInt8
namespace Cm
def cells (c : Cm) : List Value := .int .u8 c.k.toNat :: .int .u8 c.f.toNat :: .int .u32 (c.d : Int) :: .int .u64 (c.n : Int) :: u8s c.m
def ok (c : Cm) : Prop := c.d < 4294967296 ∧ c.n < 18446744073709551616 ∧ c.m.length = 16
def zero : Cm := ⟨0, 0, 0, 0, List.replicate 16 0⟩
theorem zero_ok : zero.ok := ⟨by decide, by decide, rfl⟩
def shaped (c : Cm) : Bool := if (decide (c.k = 1) != decide (c.n ≠ 0)) = true then false else (decide (c.k = 4) || decide (c.m = List.replicate 16 0))
def check (c : Cm) : Nat := if c.k.toNat < 1 ∨ 4 < c.k.toNat then 1 else if c.shaped = false then 3 else if 1000000 < c.d then 11 else 0
theorem cells_len {c : Cm} (h : c.ok) : c.cells.length = 20 := by simp [cells, u8s_length, h.2.2]
theorem cells_one (c : Cm) : ∀ v ∈ c.cells, v.oneCell' = true := by
 intro v hv
 simp only [cells, List.mem_cons] at hv
 rcases hv with rfl | rfl | rfl | rfl | hv
 · rfl
 · rfl
 · rfl
 · rfl
 · exact u8s_one _ v hv
theorem cells_mark (c : Cm) : (c.cells.drop 4) = u8s c.m := rfl
end Cm
theorem hd76c : (Tryz.prog.info? 47).map (·.size) = some 20 := by kernel_rfl
theorem hd16c : (Tryz.prog.info? 29).map (·.size) = some 16 := by kernel_rfl
theorem ldq_16c (v : Value) : Instr.loadAt 29 v = ldAt 29 v := rfl
theorem ldq_cm (v : Value) : Instr.loadAt 47 v = ldAt 47 v := rfl
theorem eqq_16c (x y : Value) : binOp .eql 29 x y = eqAt 29 x y := rfl
def bld16 : Sem Value := Instr.build 29 #[]
theorem bldq_16c : Instr.build 29 #[] = bld16 := rfl
attribute [local go_sem ↓] ldq_16c eqq_16c bldq_16c ldq_cm
theorem cm_mark_ld {w : World} {g : Nat} {t : TypeId} {c : Cm} (hb : Blk w g t c.cells) (hc : c.ok) : (ldAt 29 (.pointer (some ⟨g, 4, none⟩))).run Tryz.prog w = .ok (.agg (u8s c.m).toArray) w :=
 ldAt_run hb _ 4 (u8s c.m) (by rw [Cm.cells_mark, List.take_of_length_le (Nat.le_refl _)]) _ Tryz.underlying29 rfl (by rw [u8s_length, hc.2.2]; exact hd16c)
theorem k_eq (a b : UInt8) : ((a.toNat : Int) == (b.toNat : Int)) = decide (a = b) := by
 rw [Bool.eq_iff_iff, beq_iff_eq, decide_eq_true_iff]
 exact ⟨fun h => UInt8.toNat_inj.1 (by omega), fun h => by rw [h]⟩
theorem n_ne (n : Nat) : ((n : Int) != 0) = decide (n ≠ 0) := by
 rw [Bool.eq_iff_iff, bne_iff_ne, decide_eq_true_iff]
 omega
set_option maxRecDepth 100000 in
set_option maxHeartbeats 1000000 in
theorem shaped_any (c : Cm) (hc : c.ok) (w : World) :
   Calls Tryz.prog 109 #[.agg c.cells.toArray] w fun e w' => e = .returned (.bool c.shaped) ∧ Below w.heap.size w w' := by
 obtain ⟨C, hC⟩ : ∃ C, C = c.cells := ⟨_, rfl⟩
 have hb : Blk (w.alloc (.cells C.toArray 47)) w.heap.size 47 C := Blk.new w _ _
 have c0 : (w.alloc (.cells C.toArray 47)).cell? ⟨w.heap.size, 0, none⟩ = some (.int .u8 c.k.toNat) := by rw [hb.cell, hC]; rfl
 have c3 : (w.alloc (.cells C.toArray 47)).cell? ⟨w.heap.size, 3, none⟩ = some (.int .u64 (c.n : Int)) := by rw [hb.cell, hC]; rfl
 have hld : (ldAt 29 (.pointer (some ⟨w.heap.size, 4, none⟩))).run Tryz.prog (w.alloc (.cells C.toArray 47)) = .ok (.agg (u8s c.m).toArray) (w.alloc (.cells C.toArray 47)) := by
   subst hC
   exact cm_mark_ld hb hc
 have heq : ∀ W, (eqAt 29 (.agg (u8s c.m).toArray) (.agg #[.int .u8 0, .int .u8 0, .int .u8 0, .int .u8 0, .int .u8 0, .int .u8 0, .int .u8 0, .int .u8 0, .int .u8 0, .int .u8 0, .int .u8 0, .int .u8 0, .int .u8 0, .int .u8 0, .int .u8 0, .int .u8 0])).run Tryz.prog W = .ok (.bool (decide (c.m = List.replicate 16 0))) W := fun W => eq16 c.m (List.replicate 16 0) hc.2.2 rfl W
 have e1 : ((c.k.toNat : Int) == 1) = decide (c.k = 1) := k_eq c.k 1
 have e2 : ((c.n : Int) != 0) = decide (c.n ≠ 0) := n_ne c.n
 have e3 : ((c.k.toNat : Int) == 4) = decide (c.k = 4) := k_eq c.k 4
 have HS : Hid (c.shaped = if (decide (c.k = 1) != decide (c.n ≠ 0)) = true then false else (decide (c.k = 4) || decide (c.m = List.replicate 16 0))) := rfl
 rw [← hC]
 obtain ⟨S, hSS⟩ : ∃ S, S = c.shaped := ⟨_, rfl⟩
 rw [← hSS] at HS ⊢
 generalize u8s c.m = M at *
 generalize decide (c.m = List.replicate 16 0) = pm at *
 generalize decide (c.k = 1) = p1 at *
 generalize decide (c.k = 4) = p4 at *
 generalize decide (c.n ≠ 0) = pn at *
 generalize (c.k.toNat : Int) = K at *
 generalize (c.n : Int) = NN at *
 have HE := qh ((Below.refl w.heap.size w).alloc (Nat.le_refl _) (.cells C.toArray 47))
 clear hC hb hc hSS
 cases hx : (p1 == pn) with
 | false =>
   rw [show (p1 != pn) = true by rw [bne, hx]; rfl, if_pos rfl] at HS
   go_enter Tryz.func109, Tryz.ntmps109
   go_wp2_with fail
   go_ret
   exact ⟨by rw [HS.out]; rfl, HE.out⟩
 | true =>
   rw [show (p1 != pn) = false by rw [bne, hx]; rfl, if_neg (by decide)] at HS
   cases p4 with
   | true =>
     go_enter Tryz.func109, Tryz.ntmps109
     go_wp2_with fail
     go_ret
     exact ⟨by rw [HS.out]; rfl, HE.out⟩
   | false =>
     go_enter Tryz.func109, Tryz.ntmps109
     go_wp2_with fail
     go_ret
     exact ⟨by rw [HS.out]; rfl, HE.out⟩
theorem cm_ld {w : World} {g : Nat} {t : TypeId} {C : List Value} (hb : Blk w g t C) (hl : C.length = 20) : (ldAt 47 (.pointer (some ⟨g, 0, none⟩))).run Tryz.prog w = .ok (.agg C.toArray) w :=
 ldAt_run hb _ 0 C (by rw [List.drop_zero, List.take_of_length_le (Nat.le_refl _)]) _ Tryz.underlying47 rfl (by rw [hl]; exact hd76c)
set_option maxRecDepth 100000 in
set_option maxHeartbeats 1000000 in
theorem check_cm (c : Cm) (hc : c.ok) (w : World) :
   Calls Tryz.prog 75 #[.agg c.cells.toArray] w fun e w' => e = .returned (.int .i64 (c.check : Int)) ∧ Below w.heap.size w w' := by
 have HSH := qh (fun W => shaped_any c hc W)
 have hl := Cm.cells_len hc
 obtain ⟨C, hC⟩ : ∃ C, C = c.cells := ⟨_, rfl⟩
 have hb : Blk (w.alloc (.cells C.toArray 47)) w.heap.size 47 C := Blk.new w _ _
 have c0 : (w.alloc (.cells C.toArray 47)).cell? ⟨w.heap.size, 0, none⟩ = some (.int .u8 c.k.toNat) := by rw [hb.cell, hC]; rfl
 rw [← hC] at hl HSH ⊢
 have hld : (ldAt 47 (.pointer (some ⟨w.heap.size, 0, none⟩))).run Tryz.prog (w.alloc (.cells C.toArray 47)) = .ok (.agg C.toArray) (w.alloc (.cells C.toArray 47)) := cm_ld hb hl
 have HC2 : Hid (C[2]? = some (.int .u32 (c.d : Int))) := by rw [hC]; rfl
 have HE := qh ((Below.refl w.heap.size w).alloc (Nat.le_refl _) (.cells C.toArray 47))
 have HB := qh hb
 have HCK : Hid (c.check = if c.k.toNat < 1 ∨ 4 < c.k.toNat then 1 else if c.shaped = false then 3 else if 1000000 < c.d then 11 else 0) := rfl
 obtain ⟨R, hR⟩ : ∃ R, R = c.check := ⟨_, rfl⟩
 rw [← hR] at HCK ⊢
 generalize c.shaped = S at *
 generalize c.k.toNat = K at *
 generalize c.d = D at *
 clear hb hl hC hR hc
 by_cases h1 : K < 1
 · rw [if_pos (.inl h1)] at HCK
   have i1 : (K : Int) < 1 := by omega
   go_enter Tryz.func75, Tryz.ntmps75
   go_wp2_with fail
   go_ret
   exact ⟨by rw [HCK.out]; rfl, HE.out⟩
 · have i1 : ¬ (K : Int) < 1 := by omega
   by_cases h4 : 4 < K
   · rw [if_pos (.inr h4)] at HCK
     have i4 : (4 : Int) < (K : Int) := by omega
     go_enter Tryz.func75, Tryz.ntmps75
     go_wp2_with fail
     go_ret
     exact ⟨by rw [HCK.out]; rfl, HE.out⟩
   · have i4 : ¬ (4 : Int) < (K : Int) := by omega
     rw [if_neg (by omega)] at HCK
     cases S with
     | false =>
       rw [if_pos rfl] at HCK
       go_enter Tryz.func75, Tryz.ntmps75
       go_wp2_with (go_at_call 109; (with_reducible refine (HSH.out _).mono ?_); rintro e w1 ⟨rfl, hB1⟩
                    have HE1 := qh (HE.out.trans (hB1.mono (by simp)))
                    clear hB1)
       go_ret
       exact ⟨by rw [HCK.out]; rfl, HE1.out⟩
     | true =>
       rw [if_neg (by decide)] at HCK
       by_cases hd : 1000000 < D
       · have i5 : (1000000 : Int) < (D : Int) := by omega
         rw [if_pos hd] at HCK
         go_enter Tryz.func75, Tryz.ntmps75
         go_wp2_with (go_at_call 109; (with_reducible refine (HSH.out _).mono ?_); rintro e w1 ⟨rfl, hB1⟩
                      have HE1 := qh (HE.out.trans (hB1.mono (by simp)))
                      have c2 : w1.cell? ⟨w.heap.size, 2, none⟩ = some (.int .u32 (D : Int)) := by rw [(HB.out.below hB1 HB.out.lt).cell]; exact HC2.out
                      clear hB1)
         go_ret
         exact ⟨by rw [HCK.out]; rfl, HE1.out⟩
       · have i5 : ¬ (1000000 : Int) < (D : Int) := by omega
         rw [if_neg hd] at HCK
         go_enter Tryz.func75, Tryz.ntmps75
         go_wp2_with (go_at_call 109; (with_reducible refine (HSH.out _).mono ?_); rintro e w1 ⟨rfl, hB1⟩
                      have HE1 := qh (HE.out.trans (hB1.mono (by simp)))
                      have c2 : w1.cell? ⟨w.heap.size, 2, none⟩ = some (.int .u32 (D : Int)) := by rw [(HB.out.below hB1 HB.out.lt).cell]; exact HC2.out
                      clear hB1)
         go_ret
         exact ⟨by rw [HCK.out]; rfl, HE1.out⟩
end Go.Proofs.YtpgpaenloaphaaaGreat
namespace Go.Proofs.YtpgpaenloaphaaaGreat
open Go.RowKit
def Cm.enc (c : Cm) : List UInt8 := [c.k, c.f] ++ (Sh.beBytes c.d 4 ++ (Sh.beBytes c.n 8 ++ (c.m ++ [0, 0])))
attribute [local go_sem ↓] ldq_16c eqq_16c bldq_16c ldq_cm
end Go.Proofs.YtpgpaenloaphaaaGreat
