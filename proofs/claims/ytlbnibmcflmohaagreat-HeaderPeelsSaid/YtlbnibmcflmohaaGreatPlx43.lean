/- Part of the proof: R6m. -/
import Derived.Test.YtlbnibmcflmohaaGreatPlx35
import Derived.Test.YtlbnibmcflmohaaGreatPlx40
namespace Go.Proofs.YtlbnibmcflmohaaGreat
open Go.RowKit
theorem eqq_n8 (x y : Value) : binOp .eql 56 x y = eqAt 56 x y := rfl
theorem four_all {f1 f2 f3 f4 : Flt} {F : List (Flt × Option Nat)} (h : F.map (·.1) = [f1, f2, f3, f4]) (h0 : leftN F = 0) : ∃ g1 g2 g3 g4, F = [(f1, some g1), (f2, some g2), (f3, some g3), (f4, some g4)] := by
  rcases F with _ | ⟨⟨a, s1⟩, _ | ⟨⟨b, s2⟩, _ | ⟨⟨c, s3⟩, _ | ⟨⟨d, s4⟩, _ | ⟨e, r⟩⟩⟩⟩⟩
  · cases h
  · cases h
  · cases h
  · cases h
  · simp only [List.map_cons, List.map_nil, List.cons.injEq] at h
    obtain ⟨rfl, rfl, rfl, rfl, _⟩ := h
    rcases s1 with _ | g1
    · simp [leftN] at h0
    rcases s2 with _ | g2
    · simp [leftN] at h0
    rcases s3 with _ | g3
    · simp [leftN] at h0
    rcases s4 with _ | g4
    · simp [leftN] at h0
    exact ⟨g1, g2, g3, g4, rfl⟩
  · simp at h
theorem eqItems_n8 (d : Nat) (e : TypeId) (he : Tryz.prog.plainKey e = true) (hu : Tryz.prog.underlying e = some (.int .u32)) (a b : List Nat) (hl : a.length = b.length) (w : World) :
    ∀ (k i : Nat), i + k = a.length → (Op.eqItems (d + 1) e 1 (u32d a).toArray (u32d b).toArray (List.range' i k)).run Tryz.prog w = .ok (decide (a.drop i = b.drop i)) w := by
  intro k
  induction k with
  | zero =>
    intro i hi
    rw [List.drop_eq_nil_of_le (by omega), List.drop_eq_nil_of_le (by omega)]
    simp [Op.eqItems]
  | succ k ih =>
    intro i hi
    have hia : i < a.length := by omega
    have hib : i < b.length := by omega
    have ha : (u32d a).toArray[i * 1]? = some (.int .u32 (a[i] : Int)) := by
      rw [Nat.mul_one, List.getElem?_toArray, u32d_get hia, List.getD_eq_getElem?_getD, List.getElem?_eq_getElem hia]
      rfl
    have hb : (u32d b).toArray[i * 1]? = some (.int .u32 (b[i] : Int)) := by
      rw [Nat.mul_one, List.getElem?_toArray, u32d_get hib, List.getD_eq_getElem?_getD, List.getElem?_eq_getElem hib]
      rfl
    have e1 : a.drop i = a[i] :: a.drop (i + 1) := List.drop_eq_getElem_cons hia
    have e2 : b.drop i = b[i] :: b.drop (i + 1) := List.drop_eq_getElem_cons hib
    rw [e1, e2, List.range'_succ]
    simp only [Op.eqItems, Sem.run_bind, run_part_plain w he ha, run_part_plain w he hb, Result.andThen_ok, run_equalIn_int w d e .u32 .u32 _ _ hu]
    by_cases hx : a[i] = b[i]
    · rw [hx]
      simp only [beq_self_eq_true, Bool.not_true, Bool.false_eq_true, if_false]
      rw [ih (i + 1) (by omega)]
      have h2 : (a.drop (i + 1) = b.drop (i + 1)) ↔ (b[i] :: a.drop (i + 1) = b[i] :: b.drop (i + 1)) := by simp only [List.cons.injEq, true_and]
      exact congrArg (fun x => Result.ok x w) (decide_eq_decide.2 h2)
    · have : (((a[i] : Nat) : Int) == ((b[i] : Nat) : Int)) = false := by
        rw [beq_eq_false_iff_ne]
        intro h
        exact hx (by omega)
      rw [this, decide_eq_false (fun h => hx (List.cons.inj h).1)]
      simp
theorem eq_n8 (Z : Nat) (hZ : Z < 115792089237316195423570985008687907853269984665640564039457584007913129639936) (w : World) : (eqAt 56 (.agg (n8 Z).toArray) (.agg #[.int .u32 0, .int .u32 0, .int .u32 0, .int .u32 0, .int .u32 0, .int .u32 0, .int .u32 0, .int .u32 0])).run Tryz.prog w = .ok (.bool (decide (Z = 0))) w := by
  obtain ⟨i, hi⟩ : ∃ i, Tryz.prog.info? 47 = some i := by
    have h : (Tryz.prog.info? 47).isSome = true := by kernel_rfl
    exact Option.isSome_iff_exists.1 h
  have h0 : (.agg #[.int .u32 0, .int .u32 0, .int .u32 0, .int .u32 0, .int .u32 0, .int .u32 0, .int .u32 0, .int .u32 0] : Value) = .agg (u32d (dig 8 0)).toArray := rfl
  rw [h0]
  show (eqAt 56 (.agg (u32d (dig 8 Z)).toArray) (.agg (u32d (dig 8 0)).toArray)).run Tryz.prog w = _
  unfold eqAt
  rw [run_eql_struct, run_equalIn_array w 9999 _ _ Tryz.underlying56 hi, show Tryz.prog.cellsOf 47 = 1 by kernel_rfl, List.range_eq_range', eqItems_n8 9998 47 (by kernel_rfl) Tryz.underlying47 (dig 8 Z) (dig 8 0) (by rw [dig_len, dig_len]) w 8 0 (by rw [dig_len])]
  have h2 : (dig 8 Z = dig 8 0) ↔ Z = 0 := by
    constructor
    · intro h
      have := congrArg (numL 4294967296) h
      rwa [n8_num Z hZ, n8_num 0 (by omega)] at this
    · rintro rfl; rfl
  simp [h2]
theorem p256 {n : Nat} (h : n < pr) : n < 115792089237316195423570985008687907853269984665640564039457584007913129639936 := by simp only [pr] at h; omega
theorem n8_alloc (W : World) (b : Act) (o : Oper) (ho : o.op = .alloc 56) : (execOp b.eval o).run Tryz.prog W = .ok (.value (.pointer (some ⟨W.heap.size, 0, none⟩))) (W.alloc (.cells o8.toArray 56)) := by
  unfold execOp
  rw [ho]
  kernel_rfl
theorem cAdd {x y : Nat} (hx : x < pr) (hy : y < pr) (W : World) : Calls Tryz.prog 30 #[.agg (n8 x).toArray, .agg (n8 y).toArray] W fun e w' => e = .returned (.agg (n8 (fadd x y)).toArray) ∧ Below W.heap.size W w' := radd_n x y W (p256 hx) (p256 hy)
theorem cSub {x y : Nat} (hx : x < pr) (hy : y < pr) (W : World) : Calls Tryz.prog 31 #[.agg (n8 x).toArray, .agg (n8 y).toArray] W fun e w' => e = .returned (.agg (n8 (fsub x y)).toArray) ∧ Below W.heap.size W w' := rsub_n x y W (p256 hx) (p256 hy)
theorem cMul {x y : Nat} (hx : x < pr) (hy : y < pr) (W : World) : Calls Tryz.prog 32 #[.agg (n8 x).toArray, .agg (n8 y).toArray] W fun e w' => e = .returned (.agg (n8 (fmul x y)).toArray) ∧ Below W.heap.size W w' := rmul_n x y W (p256 hx) (p256 hy)
attribute [local go_sem ↓] ldq_b32 ldq_n8 eqq_n8
set_option maxRecDepth 100000 in
set_option maxHeartbeats 8000000 in
theorem rmult_yes (A B : Option Addr) (c d : Nat) (ks us : List UInt8) (w : World) (hk : Rd w A 32 (u8s ks)) (hu : Rd w B 32 (u8s us)) :
    Calls Tryz.prog 13 #[.slice A 32 c, .slice B 32 d] w fun e w' => e = .returned (.tuple #[.agg (u8s (mB ks us)).toArray, .int .i64 (mE ks us : Int)]) ∧ Below w.heap.size w w' := by
  have HK := Lib.hid hk
  have HU := Lib.hid hu
  have HKL := Lib.hid hk.len
  have HZ0 : Hid (Blk (w.alloc (.cells o32.toArray 26)) w.heap.size 26 o32) := Blk.new w _ _
  have HE0 : Hid (Below w.heap.size w (w.alloc (.cells o32.toArray 26))) := (Below.refl _ w).alloc (Nat.le_refl _) _
  have HC := Lib.hid (fun W (h : Rd W A 32 (u8s ks)) => rclamp_n A 32 c ks W h rfl)
  have HRD := Lib.hid (fun W (h : Rd W B 32 (u8s us)) => rread_n B d us W h)
  have hcl : (clampB ks).length = 32 := by rw [clampB_len, HKL.out]
  obtain ⟨N, hN⟩ : ∃ N, N = clampB ks := ⟨_, rfl⟩
  obtain ⟨X, hX⟩ : ∃ X, X = readN us := ⟨_, rfl⟩
  have HXP : Hid (X < pr) := (by show X < pr; rw [hX]; exact pr_lt' _)
  have HMN : Hid (multN ks us = fmul (ladT X (kbit N) 255).x2 ((ladT X (kbit N) 255).z2 ^ pE % pr)) := (by show _ = _; rw [hN, hX]; rfl)
  rw [← hN] at HC hcl
  rw [← hX] at HRD
  have HNL := Lib.hid hcl
  clear hk hu hcl hN hX
  go_enter Tryz.func13, Tryz.ntmps13
  go_wp2_with (first
    | (go_at_call 28; (with_reducible refine (HC.out _ (by first | exact HK.out.alloc _ | exact HK.out)).mono ?_); rintro e w1 ⟨rfl, hB⟩; have HZ1 := qbl HZ0 hB; have HE1 := qtr HE0 hB; clear hB)
    | (refine wpList_store_all rfl 26 (.tmp 6) (.tmp 28) rfl w1.heap.size (u8s N) (by rfl) (by rfl) 26 o32 (by exact Blk.new' rfl rfl) (by rw [u8s_length, HNL.out]; exact hd32) (u8s_one _) (by rw [u8s_length, HNL.out]; rfl) ?_; intro w2 hb2 ho2; have HN2 := Lib.hid hb2; have HZ2 := qal ho2 HZ1 (by have := HZ1.out.lt; omega); have HE2 := Lib.hid (ho2.below (HE1.out.alloc HE1.out.size _) HE1.out.size (by have := HE1.out.size; simp; omega)); clear hb2 ho2)
    | (go_at_call 29; (with_reducible refine (HRD.out _ (by exact HU.out.below HE2.out)).mono ?_); rintro e w3 ⟨rfl, hB⟩; have HZ3 := qbl HZ2 hB; have HN3 := qbl HN2 hB; have HE3 := qtr HE2 hB; clear hB)
    | (refine wpList_store_all rfl 56 (.tmp 8) (.tmp 37) rfl w3.heap.size (n8 X) (by rfl) (by rfl) 56 o8 (by exact Blk.new' rfl rfl) (by exact hdN8' _) (n8_one _) (by rw [n8_len]; rfl) ?_; intro w4 hb4 ho4; have HX4 := Lib.hid hb4; have HZ4 := qal ho4 HZ3 (by have := HZ3.out.lt; omega); have HN4 := qal ho4 HN3 (by have := HN3.out.lt; omega); have HE4 := Lib.hid (ho4.below (HE3.out.alloc HE3.out.size _) HE3.out.size (by have := HE3.out.size; simp; omega)); have HQ46 := Lib.hid HZ1.out.lt; have HQ68 := Lib.hid HN3.out.lt; have HQ48 := Lib.hid HZ3.out.lt; clear hb4 ho4))
  have HR0 : Hid (Below w4.heap.size w4 { w4 with drawn := w4.drawn + 1 }) := (Below.refl _ w4).drew
  refine region_K (by kernel_rfl) 10 (fun w' => Below w4.heap.size w4 w') ?_
  refine AnyK.pure 0 (v := .agg (n8 1).toArray) rfl (by kernel_rfl) (fun _ _ _ h => h) rfl (fun _ => by kernel_rfl) (fun _ => HR0.out) ?_
  refine AnyK.pure 1 (v := .agg (n8 0).toArray) rfl (by kernel_rfl) (fun _ _ _ h => h) rfl (fun _ => by kernel_rfl) (fun _ => HR0.out) ?_
  refine AnyK.load 2 (v := .agg (n8 X).toArray) rfl (by kernel_rfl) (by kernel_rfl) (by kernel_rfl) (fun _ _ _ h => h) rfl (fun w' hw' => ey_loadR (x := .tmp 8) (by rfl) (by kernel_rfl) (n8_run (HX4.out.below hw' HX4.out.lt))) HR0.out ?_
  refine AnyK.pure 3 (v := .agg (n8 1).toArray) rfl (by kernel_rfl) (fun _ _ _ h => h) rfl (fun _ => by kernel_rfl) (fun _ => HR0.out) ?_
  refine AnyG.start w4.heap.size [⟨4, 9, 56, o8, fun g => .pointer (some ⟨g, 0, none⟩)⟩, ⟨5, 10, 56, o8, fun g => .pointer (some ⟨g, 0, none⟩)⟩, ⟨6, 11, 56, o8, fun g => .pointer (some ⟨g, 0, none⟩)⟩, ⟨7, 12, 56, o8, fun g => .pointer (some ⟨g, 0, none⟩)⟩] (fun W => Below w4.heap.size w4 W) 4 rfl HR0.out ?_
  refine AnyG.fin (by simp) (by kernel_rfl) ?_ (fun W o h => h.alloc h.size o) (fun W h => h.size) (fun W h => h) ?_
  · intro f hf
    simp only [List.mem_cons, List.not_mem_nil, or_false] at hf
    rcases hf with rfl | rfl | rfl | rfl <;> exact ⟨_, rfl, rfl, rfl, fun F W _ => n8_alloc _ _ _ rfl⟩
  intro F W hF h0 hR hok
  obtain ⟨g9, g10, g11, g12, rfl⟩ := four_all hF h0
  obtain ⟨⟨hg9, hb9, hn9⟩, ⟨hg10, hb10, hn10⟩, ⟨hg11, hb11, hn11⟩, ⟨hg12, hb12, _⟩, _⟩ := hok
  have N9x10 : Hid (g9 ≠ g10) := fun e => hn9 _ (List.mem_cons_self) (by rw [e])
  have N9x11 : Hid (g9 ≠ g11) := fun e => hn9 _ (List.mem_cons_of_mem _ (List.mem_cons_self)) (by rw [e])
  have N9x12 : Hid (g9 ≠ g12) := fun e => hn9 _ (List.mem_cons_of_mem _ (List.mem_cons_of_mem _ (List.mem_cons_self))) (by rw [e])
  have N10x11 : Hid (g10 ≠ g11) := fun e => hn10 _ (List.mem_cons_self) (by rw [e])
  have N10x12 : Hid (g10 ≠ g12) := fun e => hn10 _ (List.mem_cons_of_mem _ (List.mem_cons_self)) (by rw [e])
  have N11x12 : Hid (g11 ≠ g12) := fun e => hn11 _ (List.mem_cons_self) (by rw [e])
  have N10x9 : Hid (g10 ≠ g9) := fun e => N9x10.out e.symm
  have N11x9 : Hid (g11 ≠ g9) := fun e => N9x11.out e.symm
  have N12x9 : Hid (g12 ≠ g9) := fun e => N9x12.out e.symm
  have N11x10 : Hid (g11 ≠ g10) := fun e => N10x11.out e.symm
  have N12x10 : Hid (g12 ≠ g10) := fun e => N10x12.out e.symm
  have N12x11 : Hid (g12 ≠ g11) := fun e => N11x12.out e.symm
  refine AnyK.storeAll 8 g9 (n8 1) 56 _ (by rfl) rfl rfl (by rfl) (by kernel_rfl) (by kernel_rfl) (by kernel_rfl) hb9 (by exact hdN8' _) (n8_one _) (by rw [n8_len]; rfl) (fun _ _ ho _ => ho.below hR hg9 hR.size) ?_
  intro W9 hs9 ho9
  have hR9 := ho9.below hR hg9 hR.size
  have hb10a9 := ho9.blk hb10 N10x9.out
  have hb11a9 := ho9.blk hb11 N11x9.out
  have hb12a9 := ho9.blk hb12 N12x9.out
  refine AnyK.storeAll 9 g10 (n8 0) 56 _ (by rfl) rfl rfl (by rfl) (by kernel_rfl) (by kernel_rfl) (by kernel_rfl) hb10a9 (by exact hdN8' _) (n8_one _) (by rw [n8_len]; rfl) (fun _ _ ho _ => ho.below hR9 hg10 hR9.size) ?_
  intro W10 hs10 ho10
  have hR10 := ho10.below hR9 hg10 hR9.size
  have hb9a10 := ho10.blk hs9 N9x10.out
  have hb11a10 := ho10.blk hb11a9 N11x10.out
  have hb12a10 := ho10.blk hb12a9 N12x10.out
  refine AnyK.storeAll 10 g11 (n8 X) 56 _ (by rfl) rfl rfl (by rfl) (by kernel_rfl) (by kernel_rfl) (by kernel_rfl) hb11a10 (by exact hdN8' _) (n8_one _) (by rw [n8_len]; rfl) (fun _ _ _ h => (by cases h)) ?_
  intro W11 hs11 ho11
  have hR11 := ho11.below hR10 hg11 hR10.size
  have hb9a11 := ho11.blk hb9a10 N9x11.out
  have hb10a11 := ho11.blk hs10 N10x11.out
  have hb12a11 := ho11.blk hb12a10 N12x11.out
  refine AnyK.storeAll 11 g12 (n8 1) 56 _ (by rfl) rfl rfl (by rfl) (by kernel_rfl) (by kernel_rfl) (by kernel_rfl) hb12a11 (by exact hdN8' _) (n8_one _) (by rw [n8_len]; rfl) (fun _ _ _ h => (by cases h)) ?_
  intro W12 hs12 ho12
  have hR12 := ho12.below hR11 hg12 hR11.size
  have hb9a12 := ho12.blk hb9a11 N9x12.out
  have hb10a12 := ho12.blk hb10a11 N10x12.out
  have hb11a12 := ho12.blk hs11 N11x12.out
  refine AnyK.done (by kernel_rfl) ?_
  have HL4 := qbl HZ4 hR12
  have HL6 := qbl HN4 hR12
  have HL8 := qbl HX4 hR12
  have HLE := qtr HE4 hR12
  have HL9 := Lib.hid hb9a12
  have HL10 := Lib.hid hb10a12
  have HL11 := Lib.hid hb11a12
  have HL12 := Lib.hid hs12
  have N4x9 : Hid (w.heap.size ≠ g9) := (by have := HZ4.out.lt; show _ ≠ _; omega)
  have N6x9 : Hid (w1.heap.size ≠ g9) := (by have := HN4.out.lt; show _ ≠ _; omega)
  have N8x9 : Hid (w3.heap.size ≠ g9) := (by have := HX4.out.lt; show _ ≠ _; omega)
  have HG9 : Hid (w.heap.size ≤ g9) := (by have := HZ4.out.lt; show _ ≤ _; omega)
  have N4x10 : Hid (w.heap.size ≠ g10) := (by have := HZ4.out.lt; show _ ≠ _; omega)
  have N6x10 : Hid (w1.heap.size ≠ g10) := (by have := HN4.out.lt; show _ ≠ _; omega)
  have N8x10 : Hid (w3.heap.size ≠ g10) := (by have := HX4.out.lt; show _ ≠ _; omega)
  have HG10 : Hid (w.heap.size ≤ g10) := (by have := HZ4.out.lt; show _ ≤ _; omega)
  have N4x11 : Hid (w.heap.size ≠ g11) := (by have := HZ4.out.lt; show _ ≠ _; omega)
  have N6x11 : Hid (w1.heap.size ≠ g11) := (by have := HN4.out.lt; show _ ≠ _; omega)
  have N8x11 : Hid (w3.heap.size ≠ g11) := (by have := HX4.out.lt; show _ ≠ _; omega)
  have HG11 : Hid (w.heap.size ≤ g11) := (by have := HZ4.out.lt; show _ ≤ _; omega)
  have N4x12 : Hid (w.heap.size ≠ g12) := (by have := HZ4.out.lt; show _ ≠ _; omega)
  have N6x12 : Hid (w1.heap.size ≠ g12) := (by have := HN4.out.lt; show _ ≠ _; omega)
  have N8x12 : Hid (w3.heap.size ≠ g12) := (by have := HX4.out.lt; show _ ≠ _; omega)
  have HG12 : Hid (w.heap.size ≤ g12) := (by have := HZ4.out.lt; show _ ≤ _; omega)
  clear hR hR9 hR10 hR11 hR12 hg9 hg10 hg11 hg12 hn9 hn10 hn11 hF h0 HR0 HX4 HN4 HZ4 HE4 HC HRD HK HU HZ0 HE0 HQ46 HQ68 HQ48 hb10 hb10a11 hb10a12 hb10a9 hb11 hb11a10 hb11a12 hb11a9 hb12 hb12a10 hb12a11 hb12a9 hb9 hb9a10 hb9a11 hb9a12 ho10 ho11 ho12 ho9 hs10 hs11 hs12 hs9
  simp only [putF]
  go_wp2
  go_loopg [13] 255 (fun kk q wr => ∃ (k : Nat) (z : Int), kk = 255 - k ∧ q = .int .i64 z ∧ z = 254 - (k : Int) ∧ k ≤ 255 ∧ Blk wr w.heap.size 26 o32 ∧ Blk wr w1.heap.size 26 (u8s N) ∧ Blk wr w3.heap.size 56 (n8 X) ∧ Blk wr g9 56 (n8 (ladT X (kbit N) k).x2) ∧ Blk wr g10 56 (n8 (ladT X (kbit N) k).z2) ∧ Blk wr g11 56 (n8 (ladT X (kbit N) k).x3) ∧ Blk wr g12 56 (n8 (ladT X (kbit N) k).z3) ∧ Below w.heap.size w wr)
  case atStart => exact ⟨0, 254, rfl, rfl, by omega, by omega, HL4.out, HL6.out, HL8.out, HL9.out, HL10.out, HL11.out, HL12.out, HLE.out⟩
  case round =>
    clear HL4 HL6 HL8 HL9 HL10 HL11 HL12 HLE
    obtain ⟨k, z, hgk, rfl, hz, hk, h4, h6, h8, h9, h10, h11, h12, hE⟩ := hrel
    rcases Nat.lt_or_ge k 255 with hlt | hge
    · obtain ⟨t, ht⟩ : ∃ t, t = 254 - k := ⟨_, rfl⟩
      obtain rfl : z = (t : Int) := by omega
      have hge : (0 : Int) ≤ (t : Int) := by omega
      obtain ⟨q, hq⟩ : ∃ q, q = t / 8 := ⟨_, rfl⟩
      obtain ⟨r, hr⟩ : ∃ r, r = t % 8 := ⟨_, rfl⟩
      obtain ⟨b, hb⟩ : ∃ b, b = (N.getD q 0).toNat := ⟨_, rfl⟩
      have hb8 : b < 256 := by rw [hb]; exact (N.getD q 0).toNat_lt
      have hq32 : q < 32 := by omega
      have cN : wr.cell? ⟨w1.heap.size, q, none⟩ = some (.int .u8 (b : Int)) := by
        refine (h6.cell q).trans ?_
        rw [hb, u8s_getElem?, List.getD_eq_getElem?_getD, List.getElem?_eq_getElem (by rw [HNL.out]; exact hq32)]
        rfl
      have hqi : (t : Int) / 8 = (q : Int) := by omega
      have hri : (t : Int) % 8 = (r : Int) := by omega
      have hq4 : (q : Int) < 32 := by omega
      have hr8 : (r : Int) < 8 := by omega
      have hr0 : (0 : Int) ≤ (r : Int) := by omega
      obtain ⟨y, hyd⟩ : ∃ y, y = b / 2 ^ r := ⟨_, rfl⟩
      have hy : (b : Int) / 2 ^ r = (y : Int) := by rw [hyd]; push_cast; rfl
      have hy8 : y < 256 := by rw [hyd]; exact Nat.lt_of_le_of_lt (Nat.div_le_self _ _) hb8
      have HKB : Hid (kbit N (254 - k) = (y % 2 == 1)) := (by show _ = _; rw [← ht, kbit, ← hq, ← hr, ← hb, ← hyd])
      have HOK := Lib.hid (ladT_ok X HXP.out (kbit N) k)
      have HLT : Hid (ladT X (kbit N) (k + 1) = (ladT X (kbit N) k).round X (kbit N (254 - k))) := rfl
      have HT : Hid ((t : Int) - 1 = 254 - ((k + 1 : Nat) : Int)) := (by show _ = _; omega)
      obtain ⟨x2, hx2⟩ : ∃ x, x = (ladT X (kbit N) k).x2 := ⟨_, rfl⟩
      obtain ⟨z2, hz2⟩ : ∃ x, x = (ladT X (kbit N) k).z2 := ⟨_, rfl⟩
      obtain ⟨x3, hx3⟩ : ∃ x, x = (ladT X (kbit N) k).x3 := ⟨_, rfl⟩
      obtain ⟨z3, hz3⟩ : ∃ x, x = (ladT X (kbit N) k).z3 := ⟨_, rfl⟩
      have HLS : Hid (ladT X (kbit N) k = ⟨x2, z2, x3, z3⟩) := (by show _ = _; rw [hx2, hz2, hx3, hz3])
      rw [HLS.out] at HOK
      rw [← hx2] at h9
      rw [← hz2] at h10
      rw [← hx3] at h11
      rw [← hz3] at h12
      have P9 : Hid (x2 < pr) := HOK.out.1
      have P10 : Hid (z2 < pr) := HOK.out.2.1
      have P11 : Hid (x3 < pr) := HOK.out.2.2.1
      have P12 : Hid (z3 < pr) := HOK.out.2.2.2
      have H4 := Lib.hid h4
      have H6 := Lib.hid h6
      have H8 := Lib.hid h8
      have H9 := Lib.hid h9
      have H10 := Lib.hid h10
      have H11 := Lib.hid h11
      have H12 := Lib.hid h12
      have HE := Lib.hid hE
      have HGK := Lib.hid hgk
      have HKL2 := Lib.hid hlt
      clear h4 h6 h8 h9 h10 h11 h12 hE hgk hx2 hz2 hx3 hz3 hz ht hq hr hb hyd hlt hk HOK
      have hyc : (y : Int) % 2 = 0 ∨ (y : Int) % 2 = 1 := by omega
      go_upto_region 12 with fail
      go_cut [60] (fun v wx => v = .bool (decide ((y : Int) % 2 = 1)) ∧ wx = wr)
      case first =>
        rcases hyc with hyi | hyi
        · go_wp2
          go_meet
          exact ⟨by rw [decide_eq_false (by omega)], rfl⟩
        · go_wp2
          go_meet
          exact ⟨by rw [decide_eq_true hyi], rfl⟩
      case rest =>
      obtain ⟨rfl, rfl⟩ := hcut
      go_step
      go_cut [] (fun wx => ∃ p2 q2 p3 q3 : Nat, (((y : Int) % 2 = 0 ∧ p2 = x2 ∧ q2 = z2 ∧ p3 = x3 ∧ q3 = z3) ∨ ((y : Int) % 2 = 1 ∧ p2 = x3 ∧ q2 = z3 ∧ p3 = x2 ∧ q3 = z2)) ∧ Blk wx w.heap.size 26 o32 ∧ Blk wx w1.heap.size 26 (u8s N) ∧ Blk wx w3.heap.size 56 (n8 X) ∧ Blk wx g9 56 (n8 p2) ∧ Blk wx g10 56 (n8 q2) ∧ Blk wx g11 56 (n8 p3) ∧ Blk wx g12 56 (n8 q3) ∧ Below w.heap.size w wx)
      case first =>
        rcases hyc with hyi | hyi
        · rw [decide_eq_false (by omega)]
          go_wp2
          go_meet
          exact ⟨x2, z2, x3, z3, .inl ⟨hyi, rfl, rfl, rfl, rfl⟩, H4.out, H6.out, H8.out, H9.out, H10.out, H11.out, H12.out, HE.out⟩
        · rw [decide_eq_true hyi]
          go_wp2
          refine region_K (by kernel_rfl) 5 (fun w' => Blk w' g11 56 (n8 (x3)) ∧ Blk w' g12 56 (n8 (z3)) ∧ Blk w' g10 56 (n8 (z2))) ?_
          refine AnyK.load 0 (v := .agg (n8 (x3)).toArray) rfl (by kernel_rfl) (by kernel_rfl) (by kernel_rfl) (fun _ _ _ h => h) rfl (fun w' hw' => ey_loadR (x := .tmp 11) (by rfl) (by kernel_rfl) (n8_run hw'.1)) ⟨H11.out.drew, H12.out.drew, H10.out.drew⟩ ?_
          refine AnyK.load 1 (v := .agg (n8 (z3)).toArray) rfl (by kernel_rfl) (by kernel_rfl) (by kernel_rfl) (fun _ _ _ h => h) rfl (fun w' hw' => ey_loadR (x := .tmp 12) (by rfl) (by kernel_rfl) (n8_run hw'.2.1)) ⟨H11.out.drew, H12.out.drew, H10.out.drew⟩ ?_
          refine AnyK.load 3 (v := .agg (n8 (z2)).toArray) rfl (by kernel_rfl) (by kernel_rfl) (by kernel_rfl) (fun _ _ _ h => h) rfl (fun w' hw' => ey_loadR (x := .tmp 10) (by rfl) (by kernel_rfl) (n8_run hw'.2.2)) ⟨H11.out.drew, H12.out.drew, H10.out.drew⟩ ?_
          refine AnyK.val 2 (v := .agg (n8 (x2)).toArray) (by rfl) (by kernel_rfl) rfl (ey_loadR (x := .tmp 9) (by rfl) (by kernel_rfl) (n8_run H9.out.drew)) (fun _ => ⟨H11.out.drew, H12.out.drew, H10.out.drew⟩) ?_
          refine AnyK.storeAll 4 g9 (n8 (x3)) 56 _ (by rfl) rfl rfl (by rfl) (by kernel_rfl) (by kernel_rfl) (by kernel_rfl) (H9.out.drew) (by exact hdN8' _) (n8_one _) (by rw [n8_len, n8_len]) (fun _ _ ho _ => ⟨ho.blk H11.out.drew N11x9.out, ho.blk H12.out.drew N12x9.out, ho.blk H10.out.drew N10x9.out⟩) ?_
          intro Vq0 hv0 hw0
          have f4q0 := hw0.blk (H4.out.drew) N4x9.out
          have f6q0 := hw0.blk (H6.out.drew) N6x9.out
          have f8q0 := hw0.blk (H8.out.drew) N8x9.out
          have f10q0 := hw0.blk (H10.out.drew) N10x9.out
          have f11q0 := hw0.blk (H11.out.drew) N11x9.out
          have f12q0 := hw0.blk (H12.out.drew) N12x9.out
          have fEq0 := hw0.below (HE.out.drew) HG9.out (HE.out.drew).size
          refine AnyK.storeAll 5 g10 (n8 (z3)) 56 _ (by rfl) rfl rfl (by rfl) (by kernel_rfl) (by kernel_rfl) (by kernel_rfl) (f10q0) (by exact hdN8' _) (n8_one _) (by rw [n8_len, n8_len]) (fun _ _ _ h => (by cases h)) ?_
          intro Vq1 hv1 hw1
          have f4q1 := hw1.blk (f4q0) N4x10.out
          have f6q1 := hw1.blk (f6q0) N6x10.out
          have f8q1 := hw1.blk (f8q0) N8x10.out
          have f9q1 := hw1.blk (hv0) N9x10.out
          have f11q1 := hw1.blk (f11q0) N11x10.out
          have f12q1 := hw1.blk (f12q0) N12x10.out
          have fEq1 := hw1.below (fEq0) HG10.out (fEq0).size
          refine AnyK.storeAll 6 g11 (n8 (x2)) 56 _ (by rfl) rfl rfl (by rfl) (by kernel_rfl) (by kernel_rfl) (by kernel_rfl) (f11q1) (by exact hdN8' _) (n8_one _) (by rw [n8_len, n8_len]) (fun _ _ _ h => (by cases h)) ?_
          intro Vq2 hv2 hw2
          have f4q2 := hw2.blk (f4q1) N4x11.out
          have f6q2 := hw2.blk (f6q1) N6x11.out
          have f8q2 := hw2.blk (f8q1) N8x11.out
          have f9q2 := hw2.blk (f9q1) N9x11.out
          have f10q2 := hw2.blk (hv1) N10x11.out
          have f12q2 := hw2.blk (f12q1) N12x11.out
          have fEq2 := hw2.below (fEq1) HG11.out (fEq1).size
          refine AnyK.storeAll 7 g12 (n8 (z2)) 56 _ (by rfl) rfl rfl (by rfl) (by kernel_rfl) (by kernel_rfl) (by kernel_rfl) (f12q2) (by exact hdN8' _) (n8_one _) (by rw [n8_len, n8_len]) (fun _ _ _ h => (by cases h)) ?_
          intro Vq3 hv3 hw3
          have f4q3 := hw3.blk (f4q2) N4x12.out
          have f6q3 := hw3.blk (f6q2) N6x12.out
          have f8q3 := hw3.blk (f8q2) N8x12.out
          have f9q3 := hw3.blk (f9q2) N9x12.out
          have f10q3 := hw3.blk (f10q2) N10x12.out
          have f11q3 := hw3.blk (hv2) N11x12.out
          have fEq3 := hw3.below (fEq2) HG12.out (fEq2).size
          refine AnyK.done (by kernel_rfl) ?_
          have J4 := Lib.hid (f4q3)
          have J6 := Lib.hid (f6q3)
          have J8 := Lib.hid (f8q3)
          have J9 := Lib.hid (f9q3)
          have J10 := Lib.hid (f10q3)
          have J11 := Lib.hid (f11q3)
          have J12 := Lib.hid (hv3)
          have JE := Lib.hid fEq3
          clear H4 H6 H8 H9 H10 H11 H12 HE f4q0 f6q0 f8q0 f10q0 f11q0 f12q0 f4q1 f6q1 f8q1 f9q1 f11q1 f12q1 f4q2 f6q2 f8q2 f9q2 f10q2 f12q2 f4q3 f6q3 f8q3 f9q3 f10q3 f11q3 hv0 hw0 fEq0 hv1 hw1 fEq1 hv2 hw2 fEq2 hv3 hw3 fEq3
          have H4 := J4
          have H6 := J6
          have H8 := J8
          have H9 := J9
          have H10 := J10
          have H11 := J11
          have H12 := J12
          have HE := JE
          clear JE J4 J6 J8 J9 J10 J11 J12
          go_wp2
          go_meet
          exact ⟨x3, z3, x2, z2, .inr ⟨hyi, rfl, rfl, rfl, rfl⟩, H4.out, H6.out, H8.out, H9.out, H10.out, H11.out, H12.out, HE.out⟩
      case rest =>
        obtain ⟨p2, q2, p3, q3, hpp, j4, j6, j8, j9, j10, j11, j12, jE⟩ := hcut
        have HPP := Lib.hid hpp
        have Q9 : Hid (p2 < pr) := Lib.hid (HPP.out.elim (fun h => by rw [h.2.1]; exact P9.out) (fun h => by rw [h.2.1]; exact P11.out))
        have Q10 : Hid (q2 < pr) := Lib.hid (HPP.out.elim (fun h => by rw [h.2.2.1]; exact P10.out) (fun h => by rw [h.2.2.1]; exact P12.out))
        have Q11 : Hid (p3 < pr) := Lib.hid (HPP.out.elim (fun h => by rw [h.2.2.2.1]; exact P11.out) (fun h => by rw [h.2.2.2.1]; exact P9.out))
        have Q12 : Hid (q3 < pr) := Lib.hid (HPP.out.elim (fun h => by rw [h.2.2.2.2]; exact P12.out) (fun h => by rw [h.2.2.2.2]; exact P10.out))
        clear H4 H6 H8 H9 H10 H11 H12 HE P9 P10 P11 P12 hpp hyc
        have H4 := Lib.hid j4
        have H6 := Lib.hid j6
        have H8 := Lib.hid j8
        have H9 := Lib.hid j9
        have H10 := Lib.hid j10
        have H11 := Lib.hid j11
        have H12 := Lib.hid j12
        have HE := Lib.hid jE
        clear jE j4 j6 j8 j9 j10 j11 j12
        have hl9 := n8_run H9.out
        have hl10 := n8_run H10.out
        have HC0p := Lib.hid (fun W => cAdd (x := p2) (y := q2) Q9.out Q10.out W)
        have HC1p := Lib.hid (fun W => cSub (x := p2) (y := q2) Q9.out Q10.out W)
        go_wp2_with (first
          | (refine wpList_store_all rfl 56 (.tmp 16) (.tmp 70) rfl c1p.heap.size (n8 (fsub p2 q2)) (by rfl) (by rfl) 56 o8 (by exact Blk.new' rfl rfl) (by exact hdN8' _) (n8_one _) (by rw [n8_len]; rfl) ?_; intro s1p hb ho; have K4s1 := qal ho K4c1 (by have := K4c1.out.lt; omega); have K6s1 := qal ho K6c1 (by have := K6c1.out.lt; omega); have K8s1 := qal ho K8c1 (by have := K8c1.out.lt; omega); have K9s1 := qal ho K9c1 (by have := K9c1.out.lt; omega); have K10s1 := qal ho K10c1 (by have := K10c1.out.lt; omega); have K11s1 := qal ho K11c1 (by have := K11c1.out.lt; omega); have K12s1 := qal ho K12c1 (by have := K12c1.out.lt; omega); have K15s1 := qal ho K15c1 (by have := K15c1.out.lt; omega); have KEs1 := Lib.hid (ho.below (KEc1.out.alloc KEc1.out.size _) KEc1.out.size (by have := KEc1.out.size; simp; omega)); have N16x9 : Hid (c1p.heap.size ≠ g9) := Lib.hid (by have := K9c1.out.lt; omega); have N16x10 : Hid (c1p.heap.size ≠ g10) := Lib.hid (by have := K10c1.out.lt; omega); have N16x11 : Hid (c1p.heap.size ≠ g11) := Lib.hid (by have := K11c1.out.lt; omega); have N16x12 : Hid (c1p.heap.size ≠ g12) := Lib.hid (by have := K12c1.out.lt; omega); have K16s1 := Lib.hid hb; clear hb ho)
          | ((go_at_call 31); (with_reducible refine (HC1p.out _).mono ?_); rintro e c1p ⟨rfl, hB⟩; have K4c1 := qbl K4s0 hB; have K6c1 := qbl K6s0 hB; have K8c1 := qbl K8s0 hB; have K9c1 := qbl K9s0 hB; have K10c1 := qbl K10s0 hB; have K11c1 := qbl K11s0 hB; have K12c1 := qbl K12s0 hB; have K15c1 := qbl K15s0 hB; have KEc1 := qtr KEs0 hB; clear hB)
          | (refine wpList_store_all rfl 56 (.tmp 15) (.tmp 67) rfl c0p.heap.size (n8 (fadd p2 q2)) (by rfl) (by rfl) 56 o8 (by exact Blk.new' rfl rfl) (by exact hdN8' _) (n8_one _) (by rw [n8_len]; rfl) ?_; intro s0p hb ho; have K4s0 := qal ho K4c0 (by have := K4c0.out.lt; omega); have K6s0 := qal ho K6c0 (by have := K6c0.out.lt; omega); have K8s0 := qal ho K8c0 (by have := K8c0.out.lt; omega); have K9s0 := qal ho K9c0 (by have := K9c0.out.lt; omega); have K10s0 := qal ho K10c0 (by have := K10c0.out.lt; omega); have K11s0 := qal ho K11c0 (by have := K11c0.out.lt; omega); have K12s0 := qal ho K12c0 (by have := K12c0.out.lt; omega); have KEs0 := Lib.hid (ho.below (KEc0.out.alloc KEc0.out.size _) KEc0.out.size (by have := KEc0.out.size; simp; omega)); have N15x9 : Hid (c0p.heap.size ≠ g9) := Lib.hid (by have := K9c0.out.lt; omega); have N15x10 : Hid (c0p.heap.size ≠ g10) := Lib.hid (by have := K10c0.out.lt; omega); have N15x11 : Hid (c0p.heap.size ≠ g11) := Lib.hid (by have := K11c0.out.lt; omega); have N15x12 : Hid (c0p.heap.size ≠ g12) := Lib.hid (by have := K12c0.out.lt; omega); have K15s0 := Lib.hid hb; have hl9n0 := n8_run K9s0.out; have hl10n0 := n8_run K10s0.out; clear hb ho)
          | ((go_at_call 30); (with_reducible refine (HC0p.out _).mono ?_); rintro e c0p ⟨rfl, hB⟩; have K4c0 := qbl H4 hB; have K6c0 := qbl H6 hB; have K8c0 := qbl H8 hB; have K9c0 := qbl H9 hB; have K10c0 := qbl H10 hB; have K11c0 := qbl H11 hB; have K12c0 := qbl H12 hB; have KEc0 := qtr HE hB; clear hB)
          )
        have J4 := K4s1
        have J6 := K6s1
        have J8 := K8s1
        have J9 := K9s1
        have J10 := K10s1
        have J11 := K11s1
        have J12 := K12s1
        have J15 := K15s1
        have J16 := K16s1
        have JE := KEs1
        clear HC0p KEc0 KEs0 HC1p KEc1 KEs1 K10c0 K10c1 K10s0 K10s1 K11c0 K11c1 K11s0 K11s1 K12c0 K12c1 K12s0 K12s1 K15c1 K15s0 K15s1 K16s1 K4c0 K4c1 K4s0 K4s1 K6c0 K6c1 K6s0 K6s1 K8c0 K8c1 K8s0 K8s1 K9c0 K9c1 K9s0 K9s1 hl10n0 hl9n0 hl9 hl10 HE H4 H6 H8 H9 H10 H11 H12
        have H4 := J4
        have H6 := J6
        have H8 := J8
        have H9 := J9
        have H10 := J10
        have H11 := J11
        have H12 := J12
        have H15 := J15
        have H16 := J16
        have HE := JE
        clear JE J4 J6 J8 J9 J10 J11 J12 J15 J16
        have HV0 : Hid (Below s1p.heap.size s1p { s1p with drawn := s1p.drawn + 1 }) := (Below.refl _ s1p).drew
        refine region_K (by kernel_rfl) 6 (fun w' => Below s1p.heap.size s1p w') ?_
        refine AnyK.load 0 (v := .agg (n8 (p3)).toArray) rfl (by kernel_rfl) (by kernel_rfl) (by kernel_rfl) (fun _ _ _ h => h) rfl (fun w' hw' => ey_loadR (x := .tmp 11) (by rfl) (by kernel_rfl) (n8_run (H11.out.below hw' H11.out.lt))) HV0.out ?_
        refine AnyK.load 1 (v := .agg (n8 (q3)).toArray) rfl (by kernel_rfl) (by kernel_rfl) (by kernel_rfl) (fun _ _ _ h => h) rfl (fun w' hw' => ey_loadR (x := .tmp 12) (by rfl) (by kernel_rfl) (n8_run (H12.out.below hw' H12.out.lt))) HV0.out ?_
        refine AnyK.load 3 (v := .agg (n8 (fadd p2 q2)).toArray) rfl (by kernel_rfl) (by kernel_rfl) (by kernel_rfl) (fun _ _ _ h => h) rfl (fun w' hw' => ey_loadR (x := .tmp 15) (by rfl) (by kernel_rfl) (n8_run (H15.out.below hw' H15.out.lt))) HV0.out ?_
        refine AnyG.start s1p.heap.size [⟨5, 17, 56, o8, fun g => .pointer (some ⟨g, 0, none⟩)⟩] (fun W => Below s1p.heap.size s1p W) 3 rfl HV0.out ?_
        refine AnyG.step 2 (di := 73) [] (fun _ : Unit => .agg (n8 (fsub p3 q3)).toArray) (fun _ W => Below s1p.heap.size s1p W) (by rfl) rfl (by simp) (by simp) (by kernel_rfl) ?_ ?_ (fun W o h => h.alloc h.size o) (fun W h => h.size) (fun W h => h) (fun _ W h => h) ?_
        · intro F W hF hR hok hrd K hK
          obtain ⟨s1, rfl⟩ := flt_of hF
          rcases s1 with _ | k1 <;>
            (refine wp_enter (f := 31) (args := #[.agg (n8 (p3)).toArray, .agg (n8 (q3)).toArray]) (by kernel_rfl) ?_; refine (cSub (x := p3) (y := q3) Q11.out Q12.out W).mono ?_; rintro e w' ⟨rfl, hB⟩; exact ⟨_, rfl, hK () _ (hR.trans (hB.mono hR.size)) hB⟩)
        · intro f hf
          simp only [List.mem_cons, List.not_mem_nil, or_false] at hf
          subst hf
          exact ⟨_, rfl, rfl, rfl, fun F W _ => n8_alloc _ _ _ rfl⟩
        intro _
        refine AnyG.step 4 (di := 75) [] (fun _ : Unit => .agg (n8 (fmul (fsub p3 q3) (fadd p2 q2))).toArray) (fun _ W => Below s1p.heap.size s1p W) (by rfl) rfl (by simp) (by simp) (by kernel_rfl) ?_ ?_ (fun W o h => h.alloc h.size o) (fun W h => h.size) (fun W h => h) (fun _ W h => h) ?_
        · intro F W hF hR hok hrd K hK
          obtain ⟨s1, rfl⟩ := flt_of hF
          rcases s1 with _ | k1 <;>
            (refine wp_enter (f := 32) (args := #[.agg (n8 (fsub p3 q3)).toArray, .agg (n8 (fadd p2 q2)).toArray]) (by kernel_rfl) ?_; refine (cMul (x := fsub p3 q3) (y := fadd p2 q2) (fsub_lt _ _) (fadd_lt _ _) W).mono ?_; rintro e w' ⟨rfl, hB⟩; exact ⟨_, rfl, hK () _ (hR.trans (hB.mono hR.size)) hB⟩)
        · intro f hf
          simp only [List.mem_cons, List.not_mem_nil, or_false] at hf
          subst hf
          exact ⟨_, rfl, rfl, rfl, fun F W _ => n8_alloc _ _ _ rfl⟩
        intro _
        refine AnyG.fin (by simp) (by kernel_rfl) ?_ (fun W o h => h.alloc h.size o) (fun W h => h.size) (fun W h => h) ?_
        · intro f hf
          simp only [List.mem_cons, List.not_mem_nil, or_false] at hf
          subst hf
          exact ⟨_, rfl, rfl, rfl, fun F W _ => n8_alloc _ _ _ rfl⟩
        intro F W hF h0 hR hok
        obtain ⟨b17, rfl⟩ := flt_all hF h0
        obtain ⟨⟨hga, hba, _⟩, _⟩ := hok
        refine AnyK.storeAll 6 b17 (n8 (fmul (fsub p3 q3) (fadd p2 q2))) 56 o8 (by rfl) rfl rfl (by rfl) (by kernel_rfl) (by kernel_rfl) (by kernel_rfl) hba (by exact hdN8' _) (n8_one _) (by rw [n8_len]; rfl) (fun _ _ _ h => (by cases h)) ?_
        intro a0v hb5 ho5
        have hB5 := ho5.below hR hga hR.size
        refine AnyK.done (by kernel_rfl) ?_
        have J4 := qbl H4 hB5
        have J6 := qbl H6 hB5
        have J8 := qbl H8 hB5
        have J9 := qbl H9 hB5
        have J10 := qbl H10 hB5
        have J11 := qbl H11 hB5
        have J12 := qbl H12 hB5
        have J15 := qbl H15 hB5
        have J16 := qbl H16 hB5
        have J17 := Lib.hid hb5
        have JE := qtr HE hB5
        have N17x9 : Hid (b17 ≠ g9) := (by have := H9.out.lt; show _ ≠ _; omega)
        have N17x10 : Hid (b17 ≠ g10) := (by have := H10.out.lt; show _ ≠ _; omega)
        have N17x11 : Hid (b17 ≠ g11) := (by have := H11.out.lt; show _ ≠ _; omega)
        have N17x12 : Hid (b17 ≠ g12) := (by have := H12.out.lt; show _ ≠ _; omega)
        clear hb5 ho5 hB5 hR hga hba hF h0 HV0 HE H4 H6 H8 H9 H10 H11 H12 H15 H16
        simp only [putF]
        have H4 := J4
        have H6 := J6
        have H8 := J8
        have H9 := J9
        have H10 := J10
        have H11 := J11
        have H12 := J12
        have H15 := J15
        have H16 := J16
        have H17 := J17
        have HE := JE
        clear JE J4 J6 J8 J9 J10 J11 J12 J15 J16 J17
        go_wp2
        have HV0 : Hid (Below a0v.heap.size a0v { a0v with drawn := a0v.drawn + 1 }) := (Below.refl _ a0v).drew
        refine region_K (by kernel_rfl) 6 (fun w' => Below a0v.heap.size a0v w') ?_
        refine AnyK.load 0 (v := .agg (n8 (p3)).toArray) rfl (by kernel_rfl) (by kernel_rfl) (by kernel_rfl) (fun _ _ _ h => h) rfl (fun w' hw' => ey_loadR (x := .tmp 11) (by rfl) (by kernel_rfl) (n8_run (H11.out.below hw' H11.out.lt))) HV0.out ?_
        refine AnyK.load 1 (v := .agg (n8 (q3)).toArray) rfl (by kernel_rfl) (by kernel_rfl) (by kernel_rfl) (fun _ _ _ h => h) rfl (fun w' hw' => ey_loadR (x := .tmp 12) (by rfl) (by kernel_rfl) (n8_run (H12.out.below hw' H12.out.lt))) HV0.out ?_
        refine AnyK.load 3 (v := .agg (n8 (fsub p2 q2)).toArray) rfl (by kernel_rfl) (by kernel_rfl) (by kernel_rfl) (fun _ _ _ h => h) rfl (fun w' hw' => ey_loadR (x := .tmp 16) (by rfl) (by kernel_rfl) (n8_run (H16.out.below hw' H16.out.lt))) HV0.out ?_
        refine AnyG.start a0v.heap.size [⟨5, 18, 56, o8, fun g => .pointer (some ⟨g, 0, none⟩)⟩] (fun W => Below a0v.heap.size a0v W) 3 rfl HV0.out ?_
        refine AnyG.step 2 (di := 78) [] (fun _ : Unit => .agg (n8 (fadd p3 q3)).toArray) (fun _ W => Below a0v.heap.size a0v W) (by rfl) rfl (by simp) (by simp) (by kernel_rfl) ?_ ?_ (fun W o h => h.alloc h.size o) (fun W h => h.size) (fun W h => h) (fun _ W h => h) ?_
        · intro F W hF hR hok hrd K hK
          obtain ⟨s1, rfl⟩ := flt_of hF
          rcases s1 with _ | k1 <;>
            (refine wp_enter (f := 30) (args := #[.agg (n8 (p3)).toArray, .agg (n8 (q3)).toArray]) (by kernel_rfl) ?_; refine (cAdd (x := p3) (y := q3) Q11.out Q12.out W).mono ?_; rintro e w' ⟨rfl, hB⟩; exact ⟨_, rfl, hK () _ (hR.trans (hB.mono hR.size)) hB⟩)
        · intro f hf
          simp only [List.mem_cons, List.not_mem_nil, or_false] at hf
          subst hf
          exact ⟨_, rfl, rfl, rfl, fun F W _ => n8_alloc _ _ _ rfl⟩
        intro _
        refine AnyG.step 4 (di := 80) [] (fun _ : Unit => .agg (n8 (fmul (fadd p3 q3) (fsub p2 q2))).toArray) (fun _ W => Below a0v.heap.size a0v W) (by rfl) rfl (by simp) (by simp) (by kernel_rfl) ?_ ?_ (fun W o h => h.alloc h.size o) (fun W h => h.size) (fun W h => h) (fun _ W h => h) ?_
        · intro F W hF hR hok hrd K hK
          obtain ⟨s1, rfl⟩ := flt_of hF
          rcases s1 with _ | k1 <;>
            (refine wp_enter (f := 32) (args := #[.agg (n8 (fadd p3 q3)).toArray, .agg (n8 (fsub p2 q2)).toArray]) (by kernel_rfl) ?_; refine (cMul (x := fadd p3 q3) (y := fsub p2 q2) (fadd_lt _ _) (fsub_lt _ _) W).mono ?_; rintro e w' ⟨rfl, hB⟩; exact ⟨_, rfl, hK () _ (hR.trans (hB.mono hR.size)) hB⟩)
        · intro f hf
          simp only [List.mem_cons, List.not_mem_nil, or_false] at hf
          subst hf
          exact ⟨_, rfl, rfl, rfl, fun F W _ => n8_alloc _ _ _ rfl⟩
        intro _
        refine AnyG.fin (by simp) (by kernel_rfl) ?_ (fun W o h => h.alloc h.size o) (fun W h => h.size) (fun W h => h) ?_
        · intro f hf
          simp only [List.mem_cons, List.not_mem_nil, or_false] at hf
          subst hf
          exact ⟨_, rfl, rfl, rfl, fun F W _ => n8_alloc _ _ _ rfl⟩
        intro F W hF h0 hR hok
        obtain ⟨b18, rfl⟩ := flt_all hF h0
        obtain ⟨⟨hga, hba, _⟩, _⟩ := hok
        refine AnyK.storeAll 6 b18 (n8 (fmul (fadd p3 q3) (fsub p2 q2))) 56 o8 (by rfl) rfl rfl (by rfl) (by kernel_rfl) (by kernel_rfl) (by kernel_rfl) hba (by exact hdN8' _) (n8_one _) (by rw [n8_len]; rfl) (fun _ _ _ h => (by cases h)) ?_
        intro b0v hb5 ho5
        have hB5 := ho5.below hR hga hR.size
        refine AnyK.done (by kernel_rfl) ?_
        have J4 := qbl H4 hB5
        have J6 := qbl H6 hB5
        have J8 := qbl H8 hB5
        have J9 := qbl H9 hB5
        have J10 := qbl H10 hB5
        have J11 := qbl H11 hB5
        have J12 := qbl H12 hB5
        have J15 := qbl H15 hB5
        have J16 := qbl H16 hB5
        have J17 := qbl H17 hB5
        have J18 := Lib.hid hb5
        have JE := qtr HE hB5
        have N18x9 : Hid (b18 ≠ g9) := (by have := H9.out.lt; show _ ≠ _; omega)
        have N18x10 : Hid (b18 ≠ g10) := (by have := H10.out.lt; show _ ≠ _; omega)
        have N18x11 : Hid (b18 ≠ g11) := (by have := H11.out.lt; show _ ≠ _; omega)
        have N18x12 : Hid (b18 ≠ g12) := (by have := H12.out.lt; show _ ≠ _; omega)
        clear hb5 ho5 hB5 hR hga hba hF h0 HV0 HE H4 H6 H8 H9 H10 H11 H12 H15 H16 H17
        simp only [putF]
        have H4 := J4
        have H6 := J6
        have H8 := J8
        have H9 := J9
        have H10 := J10
        have H11 := J11
        have H12 := J12
        have H15 := J15
        have H16 := J16
        have H17 := J17
        have H18 := J18
        have HE := JE
        clear JE J4 J6 J8 J9 J10 J11 J12 J15 J16 J17 J18
        have hl15 := n8_run H15.out
        have HC0p := Lib.hid (fun W => cMul (x := fadd p2 q2) (y := fadd p2 q2) (fadd_lt _ _) (fadd_lt _ _) W)
        have HC1p := Lib.hid (fun W => cMul (x := fsub p2 q2) (y := fsub p2 q2) (fsub_lt _ _) (fsub_lt _ _) W)
        have HC2p := Lib.hid (fun W => cSub (x := fmul (fadd p2 q2) (fadd p2 q2)) (y := fmul (fsub p2 q2) (fsub p2 q2)) (fmul_lt _ _) (fmul_lt _ _) W)
        have HC3p := Lib.hid (fun W => cAdd (x := fmul (fsub p3 q3) (fadd p2 q2)) (y := fmul (fadd p3 q3) (fsub p2 q2)) (fmul_lt _ _) (fmul_lt _ _) W)
        have HC4p := Lib.hid (fun W => cSub (x := fmul (fsub p3 q3) (fadd p2 q2)) (y := fmul (fadd p3 q3) (fsub p2 q2)) (fmul_lt _ _) (fmul_lt _ _) W)
        have HC5p := Lib.hid (fun W => cMul (x := fadd (fmul (fsub p3 q3) (fadd p2 q2)) (fmul (fadd p3 q3) (fsub p2 q2))) (y := fadd (fmul (fsub p3 q3) (fadd p2 q2)) (fmul (fadd p3 q3) (fsub p2 q2))) (fadd_lt _ _) (fadd_lt _ _) W)
        repeat (first | go_values | go_skip | go_guarded | go_step | go_upon | go_back)
        (go_at_call 32); (with_reducible refine (HC0p.out _).mono ?_); rintro e c0p ⟨rfl, hB⟩; have K4c0 := qbl H4 hB; have K6c0 := qbl H6 hB; have K8c0 := qbl H8 hB; have K9c0 := qbl H9 hB; have K10c0 := qbl H10 hB; have K11c0 := qbl H11 hB; have K12c0 := qbl H12 hB; have K15c0 := qbl H15 hB; have K16c0 := qbl H16 hB; have K17c0 := qbl H17 hB; have K18c0 := qbl H18 hB; have KEc0 := qtr HE hB; clear hB
        dsimp only
        repeat (first | (refine wpList_store_all rfl 56 (.tmp 19) (.tmp 83) rfl c0p.heap.size (n8 (fmul (fadd p2 q2) (fadd p2 q2))) (by rfl) (by rfl) 56 o8 (by exact Blk.new' rfl rfl) (by exact hdN8' _) (n8_one _) (by rw [n8_len]; rfl) ?_; intro s0p hb ho; have K4s0 := qal ho K4c0 (by have := K4c0.out.lt; omega); have K6s0 := qal ho K6c0 (by have := K6c0.out.lt; omega); have K8s0 := qal ho K8c0 (by have := K8c0.out.lt; omega); have K9s0 := qal ho K9c0 (by have := K9c0.out.lt; omega); have K10s0 := qal ho K10c0 (by have := K10c0.out.lt; omega); have K11s0 := qal ho K11c0 (by have := K11c0.out.lt; omega); have K12s0 := qal ho K12c0 (by have := K12c0.out.lt; omega); have K15s0 := qal ho K15c0 (by have := K15c0.out.lt; omega); have K16s0 := qal ho K16c0 (by have := K16c0.out.lt; omega); have K17s0 := qal ho K17c0 (by have := K17c0.out.lt; omega); have K18s0 := qal ho K18c0 (by have := K18c0.out.lt; omega); have KEs0 := Lib.hid (ho.below (KEc0.out.alloc KEc0.out.size _) KEc0.out.size (by have := KEc0.out.size; simp; omega)); have N19x9 : Hid (c0p.heap.size ≠ g9) := Lib.hid (by have := K9c0.out.lt; omega); have N19x10 : Hid (c0p.heap.size ≠ g10) := Lib.hid (by have := K10c0.out.lt; omega); have N19x11 : Hid (c0p.heap.size ≠ g11) := Lib.hid (by have := K11c0.out.lt; omega); have N19x12 : Hid (c0p.heap.size ≠ g12) := Lib.hid (by have := K12c0.out.lt; omega); have K19s0 := Lib.hid hb; have hl16n0 := n8_run K16s0.out; clear hb ho) | go_values | go_skip | go_guarded | go_step | go_upon | go_back)
        (go_at_call 32); (with_reducible refine (HC1p.out _).mono ?_); rintro e c1p ⟨rfl, hB⟩; have K4c1 := qbl K4s0 hB; have K6c1 := qbl K6s0 hB; have K8c1 := qbl K8s0 hB; have K9c1 := qbl K9s0 hB; have K10c1 := qbl K10s0 hB; have K11c1 := qbl K11s0 hB; have K12c1 := qbl K12s0 hB; have K15c1 := qbl K15s0 hB; have K16c1 := qbl K16s0 hB; have K17c1 := qbl K17s0 hB; have K18c1 := qbl K18s0 hB; have K19c1 := qbl K19s0 hB; have KEc1 := qtr KEs0 hB; clear hB
        dsimp only
        repeat (first | (refine wpList_store_all rfl 56 (.tmp 20) (.tmp 86) rfl c1p.heap.size (n8 (fmul (fsub p2 q2) (fsub p2 q2))) (by rfl) (by rfl) 56 o8 (by exact Blk.new' rfl rfl) (by exact hdN8' _) (n8_one _) (by rw [n8_len]; rfl) ?_; intro s1p hb ho; have K4s1 := qal ho K4c1 (by have := K4c1.out.lt; omega); have K6s1 := qal ho K6c1 (by have := K6c1.out.lt; omega); have K8s1 := qal ho K8c1 (by have := K8c1.out.lt; omega); have K9s1 := qal ho K9c1 (by have := K9c1.out.lt; omega); have K10s1 := qal ho K10c1 (by have := K10c1.out.lt; omega); have K11s1 := qal ho K11c1 (by have := K11c1.out.lt; omega); have K12s1 := qal ho K12c1 (by have := K12c1.out.lt; omega); have K15s1 := qal ho K15c1 (by have := K15c1.out.lt; omega); have K16s1 := qal ho K16c1 (by have := K16c1.out.lt; omega); have K17s1 := qal ho K17c1 (by have := K17c1.out.lt; omega); have K18s1 := qal ho K18c1 (by have := K18c1.out.lt; omega); have K19s1 := qal ho K19c1 (by have := K19c1.out.lt; omega); have KEs1 := Lib.hid (ho.below (KEc1.out.alloc KEc1.out.size _) KEc1.out.size (by have := KEc1.out.size; simp; omega)); have N20x9 : Hid (c1p.heap.size ≠ g9) := Lib.hid (by have := K9c1.out.lt; omega); have N20x10 : Hid (c1p.heap.size ≠ g10) := Lib.hid (by have := K10c1.out.lt; omega); have N20x11 : Hid (c1p.heap.size ≠ g11) := Lib.hid (by have := K11c1.out.lt; omega); have N20x12 : Hid (c1p.heap.size ≠ g12) := Lib.hid (by have := K12c1.out.lt; omega); have K20s1 := Lib.hid hb; have hl19n1 := n8_run K19s1.out; have hl20n1 := n8_run K20s1.out; clear hb ho) | go_values | go_skip | go_guarded | go_step | go_upon | go_back)
        (go_at_call 31); (with_reducible refine (HC2p.out _).mono ?_); rintro e c2p ⟨rfl, hB⟩; have K4c2 := qbl K4s1 hB; have K6c2 := qbl K6s1 hB; have K8c2 := qbl K8s1 hB; have K9c2 := qbl K9s1 hB; have K10c2 := qbl K10s1 hB; have K11c2 := qbl K11s1 hB; have K12c2 := qbl K12s1 hB; have K15c2 := qbl K15s1 hB; have K16c2 := qbl K16s1 hB; have K17c2 := qbl K17s1 hB; have K18c2 := qbl K18s1 hB; have K19c2 := qbl K19s1 hB; have K20c2 := qbl K20s1 hB; have KEc2 := qtr KEs1 hB; clear hB
        dsimp only
        repeat (first | (refine wpList_store_all rfl 56 (.tmp 21) (.tmp 89) rfl c2p.heap.size (n8 (fsub (fmul (fadd p2 q2) (fadd p2 q2)) (fmul (fsub p2 q2) (fsub p2 q2)))) (by rfl) (by rfl) 56 o8 (by exact Blk.new' rfl rfl) (by exact hdN8' _) (n8_one _) (by rw [n8_len]; rfl) ?_; intro s2p hb ho; have K4s2 := qal ho K4c2 (by have := K4c2.out.lt; omega); have K6s2 := qal ho K6c2 (by have := K6c2.out.lt; omega); have K8s2 := qal ho K8c2 (by have := K8c2.out.lt; omega); have K9s2 := qal ho K9c2 (by have := K9c2.out.lt; omega); have K10s2 := qal ho K10c2 (by have := K10c2.out.lt; omega); have K11s2 := qal ho K11c2 (by have := K11c2.out.lt; omega); have K12s2 := qal ho K12c2 (by have := K12c2.out.lt; omega); have K15s2 := qal ho K15c2 (by have := K15c2.out.lt; omega); have K16s2 := qal ho K16c2 (by have := K16c2.out.lt; omega); have K17s2 := qal ho K17c2 (by have := K17c2.out.lt; omega); have K18s2 := qal ho K18c2 (by have := K18c2.out.lt; omega); have K19s2 := qal ho K19c2 (by have := K19c2.out.lt; omega); have K20s2 := qal ho K20c2 (by have := K20c2.out.lt; omega); have KEs2 := Lib.hid (ho.below (KEc2.out.alloc KEc2.out.size _) KEc2.out.size (by have := KEc2.out.size; simp; omega)); have N21x9 : Hid (c2p.heap.size ≠ g9) := Lib.hid (by have := K9c2.out.lt; omega); have N21x10 : Hid (c2p.heap.size ≠ g10) := Lib.hid (by have := K10c2.out.lt; omega); have N21x11 : Hid (c2p.heap.size ≠ g11) := Lib.hid (by have := K11c2.out.lt; omega); have N21x12 : Hid (c2p.heap.size ≠ g12) := Lib.hid (by have := K12c2.out.lt; omega); have K21s2 := Lib.hid hb; have hl17n2 := n8_run K17s2.out; have hl18n2 := n8_run K18s2.out; clear hb ho) | go_values | go_skip | go_guarded | go_step | go_upon | go_back)
        (go_at_call 30); (with_reducible refine (HC3p.out _).mono ?_); rintro e c3p ⟨rfl, hB⟩; have K4c3 := qbl K4s2 hB; have K6c3 := qbl K6s2 hB; have K8c3 := qbl K8s2 hB; have K9c3 := qbl K9s2 hB; have K10c3 := qbl K10s2 hB; have K11c3 := qbl K11s2 hB; have K12c3 := qbl K12s2 hB; have K15c3 := qbl K15s2 hB; have K16c3 := qbl K16s2 hB; have K17c3 := qbl K17s2 hB; have K18c3 := qbl K18s2 hB; have K19c3 := qbl K19s2 hB; have K20c3 := qbl K20s2 hB; have K21c3 := qbl K21s2 hB; have KEc3 := qtr KEs2 hB; clear hB
        dsimp only
        repeat (first | (refine wpList_store_all rfl 56 (.tmp 22) (.tmp 92) rfl c3p.heap.size (n8 (fadd (fmul (fsub p3 q3) (fadd p2 q2)) (fmul (fadd p3 q3) (fsub p2 q2)))) (by rfl) (by rfl) 56 o8 (by exact Blk.new' rfl rfl) (by exact hdN8' _) (n8_one _) (by rw [n8_len]; rfl) ?_; intro s3p hb ho; have K4s3 := qal ho K4c3 (by have := K4c3.out.lt; omega); have K6s3 := qal ho K6c3 (by have := K6c3.out.lt; omega); have K8s3 := qal ho K8c3 (by have := K8c3.out.lt; omega); have K9s3 := qal ho K9c3 (by have := K9c3.out.lt; omega); have K10s3 := qal ho K10c3 (by have := K10c3.out.lt; omega); have K11s3 := qal ho K11c3 (by have := K11c3.out.lt; omega); have K12s3 := qal ho K12c3 (by have := K12c3.out.lt; omega); have K15s3 := qal ho K15c3 (by have := K15c3.out.lt; omega); have K16s3 := qal ho K16c3 (by have := K16c3.out.lt; omega); have K17s3 := qal ho K17c3 (by have := K17c3.out.lt; omega); have K18s3 := qal ho K18c3 (by have := K18c3.out.lt; omega); have K19s3 := qal ho K19c3 (by have := K19c3.out.lt; omega); have K20s3 := qal ho K20c3 (by have := K20c3.out.lt; omega); have K21s3 := qal ho K21c3 (by have := K21c3.out.lt; omega); have KEs3 := Lib.hid (ho.below (KEc3.out.alloc KEc3.out.size _) KEc3.out.size (by have := KEc3.out.size; simp; omega)); have N22x9 : Hid (c3p.heap.size ≠ g9) := Lib.hid (by have := K9c3.out.lt; omega); have N22x10 : Hid (c3p.heap.size ≠ g10) := Lib.hid (by have := K10c3.out.lt; omega); have N22x11 : Hid (c3p.heap.size ≠ g11) := Lib.hid (by have := K11c3.out.lt; omega); have N22x12 : Hid (c3p.heap.size ≠ g12) := Lib.hid (by have := K12c3.out.lt; omega); have K22s3 := Lib.hid hb; have hl17n3 := n8_run K17s3.out; have hl18n3 := n8_run K18s3.out; clear hb ho) | go_values | go_skip | go_guarded | go_step | go_upon | go_back)
        (go_at_call 31); (with_reducible refine (HC4p.out _).mono ?_); rintro e c4p ⟨rfl, hB⟩; have K4c4 := qbl K4s3 hB; have K6c4 := qbl K6s3 hB; have K8c4 := qbl K8s3 hB; have K9c4 := qbl K9s3 hB; have K10c4 := qbl K10s3 hB; have K11c4 := qbl K11s3 hB; have K12c4 := qbl K12s3 hB; have K15c4 := qbl K15s3 hB; have K16c4 := qbl K16s3 hB; have K17c4 := qbl K17s3 hB; have K18c4 := qbl K18s3 hB; have K19c4 := qbl K19s3 hB; have K20c4 := qbl K20s3 hB; have K21c4 := qbl K21s3 hB; have K22c4 := qbl K22s3 hB; have KEc4 := qtr KEs3 hB; clear hB
        dsimp only
        repeat (first | (refine wpList_store_all rfl 56 (.tmp 23) (.tmp 95) rfl c4p.heap.size (n8 (fsub (fmul (fsub p3 q3) (fadd p2 q2)) (fmul (fadd p3 q3) (fsub p2 q2)))) (by rfl) (by rfl) 56 o8 (by exact Blk.new' rfl rfl) (by exact hdN8' _) (n8_one _) (by rw [n8_len]; rfl) ?_; intro s4p hb ho; have K4s4 := qal ho K4c4 (by have := K4c4.out.lt; omega); have K6s4 := qal ho K6c4 (by have := K6c4.out.lt; omega); have K8s4 := qal ho K8c4 (by have := K8c4.out.lt; omega); have K9s4 := qal ho K9c4 (by have := K9c4.out.lt; omega); have K10s4 := qal ho K10c4 (by have := K10c4.out.lt; omega); have K11s4 := qal ho K11c4 (by have := K11c4.out.lt; omega); have K12s4 := qal ho K12c4 (by have := K12c4.out.lt; omega); have K15s4 := qal ho K15c4 (by have := K15c4.out.lt; omega); have K16s4 := qal ho K16c4 (by have := K16c4.out.lt; omega); have K17s4 := qal ho K17c4 (by have := K17c4.out.lt; omega); have K18s4 := qal ho K18c4 (by have := K18c4.out.lt; omega); have K19s4 := qal ho K19c4 (by have := K19c4.out.lt; omega); have K20s4 := qal ho K20c4 (by have := K20c4.out.lt; omega); have K21s4 := qal ho K21c4 (by have := K21c4.out.lt; omega); have K22s4 := qal ho K22c4 (by have := K22c4.out.lt; omega); have KEs4 := Lib.hid (ho.below (KEc4.out.alloc KEc4.out.size _) KEc4.out.size (by have := KEc4.out.size; simp; omega)); have N23x9 : Hid (c4p.heap.size ≠ g9) := Lib.hid (by have := K9c4.out.lt; omega); have N23x10 : Hid (c4p.heap.size ≠ g10) := Lib.hid (by have := K10c4.out.lt; omega); have N23x11 : Hid (c4p.heap.size ≠ g11) := Lib.hid (by have := K11c4.out.lt; omega); have N23x12 : Hid (c4p.heap.size ≠ g12) := Lib.hid (by have := K12c4.out.lt; omega); have K23s4 := Lib.hid hb; have hl22n4 := n8_run K22s4.out; clear hb ho) | go_values | go_skip | go_guarded | go_step | go_upon | go_back)
        (go_at_call 32); (with_reducible refine (HC5p.out _).mono ?_); rintro e c5p ⟨rfl, hB⟩; have K4c5 := qbl K4s4 hB; have K6c5 := qbl K6s4 hB; have K8c5 := qbl K8s4 hB; have K9c5 := qbl K9s4 hB; have K10c5 := qbl K10s4 hB; have K11c5 := qbl K11s4 hB; have K12c5 := qbl K12s4 hB; have K15c5 := qbl K15s4 hB; have K16c5 := qbl K16s4 hB; have K17c5 := qbl K17s4 hB; have K18c5 := qbl K18s4 hB; have K19c5 := qbl K19s4 hB; have K20c5 := qbl K20s4 hB; have K21c5 := qbl K21s4 hB; have K22c5 := qbl K22s4 hB; have K23c5 := qbl K23s4 hB; have KEc5 := qtr KEs4 hB; clear hB
        dsimp only
        repeat (first | (refine wpList_store_all rfl 56 (.tmp 11) (.tmp 98) rfl g11 (n8 (fmul (fadd (fmul (fsub p3 q3) (fadd p2 q2)) (fmul (fadd p3 q3) (fsub p2 q2))) (fadd (fmul (fsub p3 q3) (fadd p2 q2)) (fmul (fadd p3 q3) (fsub p2 q2))))) (by rfl) (by rfl) 56 _ K11c5.out (by exact hdN8' _) (n8_one _) (by rw [n8_len, n8_len]) ?_; intro s5p hb ho; have K4s5 := qon ho K4c5 N4x11; have K6s5 := qon ho K6c5 N6x11; have K8s5 := qon ho K8c5 N8x11; have K9s5 := qon ho K9c5 N9x11; have K10s5 := qon ho K10c5 N10x11; have K12s5 := qon ho K12c5 N12x11; have K15s5 := qon ho K15c5 N15x11; have K16s5 := qon ho K16c5 N16x11; have K17s5 := qon ho K17c5 N17x11; have K18s5 := qon ho K18c5 N18x11; have K19s5 := qon ho K19c5 N19x11; have K20s5 := qon ho K20c5 N20x11; have K21s5 := qon ho K21c5 N21x11; have K22s5 := qon ho K22c5 N22x11; have K23s5 := qon ho K23c5 N23x11; have KEs5 := Lib.hid (ho.below KEc5.out HG11.out KEc5.out.size); have K11s5 := Lib.hid hb; clear hb ho) | go_values | go_skip | go_guarded | go_step | go_upon | go_back)
        have J4 := K4s5
        have J6 := K6s5
        have J8 := K8s5
        have J9 := K9s5
        have J10 := K10s5
        have J11 := K11s5
        have J12 := K12s5
        have J15 := K15s5
        have J16 := K16s5
        have J17 := K17s5
        have J18 := K18s5
        have J19 := K19s5
        have J20 := K20s5
        have J21 := K21s5
        have J22 := K22s5
        have J23 := K23s5
        have JE := KEs5
        clear HC0p KEc0 KEs0 HC1p KEc1 KEs1 HC2p KEc2 KEs2 HC3p KEc3 KEs3 HC4p KEc4 KEs4 HC5p KEc5 KEs5 K10c0 K10c1 K10c2 K10c3 K10c4 K10c5 K10s0 K10s1 K10s2 K10s3 K10s4 K10s5 K11c0 K11c1 K11c2 K11c3 K11c4 K11c5 K11s0 K11s1 K11s2 K11s3 K11s4 K11s5 K12c0 K12c1 K12c2 K12c3 K12c4 K12c5 K12s0 K12s1 K12s2 K12s3 K12s4 K12s5 K15c0 K15c1 K15c2 K15c3 K15c4 K15c5 K15s0 K15s1 K15s2 K15s3 K15s4 K15s5 K16c0 K16c1 K16c2 K16c3 K16c4 K16c5 K16s0 K16s1 K16s2 K16s3 K16s4 K16s5 K17c0 K17c1 K17c2 K17c3 K17c4 K17c5 K17s0 K17s1 K17s2 K17s3 K17s4 K17s5 K18c0 K18c1 K18c2 K18c3 K18c4 K18c5 K18s0 K18s1 K18s2 K18s3 K18s4 K18s5 K19c1 K19c2 K19c3 K19c4 K19c5 K19s0 K19s1 K19s2 K19s3 K19s4 K19s5 K20c2 K20c3 K20c4 K20c5 K20s1 K20s2 K20s3 K20s4 K20s5 K21c3 K21c4 K21c5 K21s2 K21s3 K21s4 K21s5 K22c4 K22c5 K22s3 K22s4 K22s5 K23c5 K23s4 K23s5 K4c0 K4c1 K4c2 K4c3 K4c4 K4c5 K4s0 K4s1 K4s2 K4s3 K4s4 K4s5 K6c0 K6c1 K6c2 K6c3 K6c4 K6c5 K6s0 K6s1 K6s2 K6s3 K6s4 K6s5 K8c0 K8c1 K8c2 K8c3 K8c4 K8c5 K8s0 K8s1 K8s2 K8s3 K8s4 K8s5 K9c0 K9c1 K9c2 K9c3 K9c4 K9c5 K9s0 K9s1 K9s2 K9s3 K9s4 K9s5 hl16n0 hl17n2 hl17n3 hl18n2 hl18n3 hl19n1 hl20n1 hl22n4 hl15 HE H4 H6 H8 H9 H10 H11 H12 H15 H16 H17 H18
        have H4 := J4
        have H6 := J6
        have H8 := J8
        have H9 := J9
        have H10 := J10
        have H11 := J11
        have H12 := J12
        have H15 := J15
        have H16 := J16
        have H17 := J17
        have H18 := J18
        have H19 := J19
        have H20 := J20
        have H21 := J21
        have H22 := J22
        have H23 := J23
        have HE := JE
        clear JE J4 J6 J8 J9 J10 J11 J12 J15 J16 J17 J18 J19 J20 J21 J22 J23
        have HV0 : Hid (Below s5p.heap.size s5p { s5p with drawn := s5p.drawn + 1 }) := (Below.refl _ s5p).drew
        refine region_K (by kernel_rfl) 5 (fun w' => Below s5p.heap.size s5p w') ?_
        refine AnyK.load 0 (v := .agg (n8 (X)).toArray) rfl (by kernel_rfl) (by kernel_rfl) (by kernel_rfl) (fun _ _ _ h => h) rfl (fun w' hw' => ey_loadR (x := .tmp 8) (by rfl) (by kernel_rfl) (n8_run (H8.out.below hw' H8.out.lt))) HV0.out ?_
        refine AnyK.load 1 (v := .agg (n8 (fsub (fmul (fsub p3 q3) (fadd p2 q2)) (fmul (fadd p3 q3) (fsub p2 q2)))).toArray) rfl (by kernel_rfl) (by kernel_rfl) (by kernel_rfl) (fun _ _ _ h => h) rfl (fun w' hw' => ey_loadR (x := .tmp 23) (by rfl) (by kernel_rfl) (n8_run (H23.out.below hw' H23.out.lt))) HV0.out ?_
        refine AnyK.load 2 (v := .agg (n8 (fsub (fmul (fsub p3 q3) (fadd p2 q2)) (fmul (fadd p3 q3) (fsub p2 q2)))).toArray) rfl (by kernel_rfl) (by kernel_rfl) (by kernel_rfl) (fun _ _ _ h => h) rfl (fun w' hw' => ey_loadR (x := .tmp 23) (by rfl) (by kernel_rfl) (n8_run (H23.out.below hw' H23.out.lt))) HV0.out ?_
        refine AnyK.enter 3 (d := some 102) (f := 32) (args := #[.agg (n8 (fsub (fmul (fsub p3 q3) (fadd p2 q2)) (fmul (fadd p3 q3) (fsub p2 q2)))).toArray, .agg (n8 (fsub (fmul (fsub p3 q3) (fadd p2 q2)) (fmul (fadd p3 q3) (fsub p2 q2)))).toArray]) (by rfl) (by kernel_rfl) (by kernel_rfl) ?_
        refine (cMul (x := fsub (fmul (fsub p3 q3) (fadd p2 q2)) (fmul (fadd p3 q3) (fsub p2 q2))) (y := fsub (fmul (fsub p3 q3) (fadd p2 q2)) (fmul (fadd p3 q3) (fsub p2 q2))) (fsub_lt _ _) (fsub_lt _ _) _).mono ?_
        rintro e d0c1 ⟨rfl, hB⟩
        have hR1 := (HV0.out).trans (hB.mono (HV0.out).size)
        clear hB
        refine ⟨_, rfl, fun _ => hR1, ?_⟩
        refine AnyK.enter 4 (d := some 103) (f := 32) (args := #[.agg (n8 (X)).toArray, .agg (n8 (fmul (fsub (fmul (fsub p3 q3) (fadd p2 q2)) (fmul (fadd p3 q3) (fsub p2 q2))) (fsub (fmul (fsub p3 q3) (fadd p2 q2)) (fmul (fadd p3 q3) (fsub p2 q2))))).toArray]) (by rfl) (by kernel_rfl) (by kernel_rfl) ?_
        refine (cMul (x := X) (y := fmul (fsub (fmul (fsub p3 q3) (fadd p2 q2)) (fmul (fadd p3 q3) (fsub p2 q2))) (fsub (fmul (fsub p3 q3) (fadd p2 q2)) (fmul (fadd p3 q3) (fsub p2 q2)))) HXP.out (fmul_lt _ _) _).mono ?_
        rintro e d0c2 ⟨rfl, hB⟩
        have hR2 := (hR1).trans (hB.mono (hR1).size)
        clear hB
        refine ⟨_, rfl, fun _ => hR2, ?_⟩
        refine AnyK.storeAll 5 g12 (n8 (fmul X (fmul (fsub (fmul (fsub p3 q3) (fadd p2 q2)) (fmul (fadd p3 q3) (fsub p2 q2))) (fsub (fmul (fsub p3 q3) (fadd p2 q2)) (fmul (fadd p3 q3) (fsub p2 q2)))))) 56 _ (by rfl) rfl rfl (by rfl) (by kernel_rfl) (by kernel_rfl) (by kernel_rfl) (H12.out.below hR2 H12.out.lt) (by exact hdN8' _) (n8_one _) (by rw [n8_len, n8_len]) (fun _ _ _ h => (by cases h)) ?_
        intro d0v hb5 ho5
        refine AnyK.done (by kernel_rfl) ?_
        have J4 := Lib.hid (ho5.blk (H4.out.below hR2 H4.out.lt) N4x12.out)
        have J6 := Lib.hid (ho5.blk (H6.out.below hR2 H6.out.lt) N6x12.out)
        have J8 := Lib.hid (ho5.blk (H8.out.below hR2 H8.out.lt) N8x12.out)
        have J9 := Lib.hid (ho5.blk (H9.out.below hR2 H9.out.lt) N9x12.out)
        have J10 := Lib.hid (ho5.blk (H10.out.below hR2 H10.out.lt) N10x12.out)
        have J11 := Lib.hid (ho5.blk (H11.out.below hR2 H11.out.lt) N11x12.out)
        have J12 := Lib.hid hb5
        have J15 := Lib.hid (ho5.blk (H15.out.below hR2 H15.out.lt) N15x12.out)
        have J16 := Lib.hid (ho5.blk (H16.out.below hR2 H16.out.lt) N16x12.out)
        have J17 := Lib.hid (ho5.blk (H17.out.below hR2 H17.out.lt) N17x12.out)
        have J18 := Lib.hid (ho5.blk (H18.out.below hR2 H18.out.lt) N18x12.out)
        have J19 := Lib.hid (ho5.blk (H19.out.below hR2 H19.out.lt) N19x12.out)
        have J20 := Lib.hid (ho5.blk (H20.out.below hR2 H20.out.lt) N20x12.out)
        have J21 := Lib.hid (ho5.blk (H21.out.below hR2 H21.out.lt) N21x12.out)
        have J22 := Lib.hid (ho5.blk (H22.out.below hR2 H22.out.lt) N22x12.out)
        have J23 := Lib.hid (ho5.blk (H23.out.below hR2 H23.out.lt) N23x12.out)
        have JE := Lib.hid (ho5.below (HE.out.trans (hR2.mono HE.out.size)) HG12.out (HE.out.trans (hR2.mono HE.out.size)).size)
        clear hb5 ho5 HV0 HE hR1 hR2 H4 H6 H8 H9 H10 H11 H12 H15 H16 H17 H18 H19 H20 H21 H22 H23
        have H4 := J4
        have H6 := J6
        have H8 := J8
        have H9 := J9
        have H10 := J10
        have H11 := J11
        have H12 := J12
        have H15 := J15
        have H16 := J16
        have H17 := J17
        have H18 := J18
        have H19 := J19
        have H20 := J20
        have H21 := J21
        have H22 := J22
        have H23 := J23
        have HE := JE
        clear JE J4 J6 J8 J9 J10 J11 J12 J15 J16 J17 J18 J19 J20 J21 J22 J23
        have hl19 := n8_run H19.out
        have hl20 := n8_run H20.out
        have HC0p := Lib.hid (fun W => cMul (x := fmul (fadd p2 q2) (fadd p2 q2)) (y := fmul (fsub p2 q2) (fsub p2 q2)) (fmul_lt _ _) (fmul_lt _ _) W)
        repeat (first | go_values | go_skip | go_guarded | go_step | go_upon | go_back)
        (go_at_call 32); (with_reducible refine (HC0p.out _).mono ?_); rintro e c0p ⟨rfl, hB⟩; have K4c0 := qbl H4 hB; have K6c0 := qbl H6 hB; have K8c0 := qbl H8 hB; have K9c0 := qbl H9 hB; have K10c0 := qbl H10 hB; have K11c0 := qbl H11 hB; have K12c0 := qbl H12 hB; have K15c0 := qbl H15 hB; have K16c0 := qbl H16 hB; have K17c0 := qbl H17 hB; have K18c0 := qbl H18 hB; have K19c0 := qbl H19 hB; have K20c0 := qbl H20 hB; have K21c0 := qbl H21 hB; have K22c0 := qbl H22 hB; have K23c0 := qbl H23 hB; have KEc0 := qtr HE hB; clear hB
        dsimp only
        repeat (first | (refine wpList_store_all rfl 56 (.tmp 9) (.tmp 106) rfl g9 (n8 (fmul (fmul (fadd p2 q2) (fadd p2 q2)) (fmul (fsub p2 q2) (fsub p2 q2)))) (by rfl) (by rfl) 56 _ K9c0.out (by exact hdN8' _) (n8_one _) (by rw [n8_len, n8_len]) ?_; intro s0p hb ho; have K4s0 := qon ho K4c0 N4x9; have K6s0 := qon ho K6c0 N6x9; have K8s0 := qon ho K8c0 N8x9; have K10s0 := qon ho K10c0 N10x9; have K11s0 := qon ho K11c0 N11x9; have K12s0 := qon ho K12c0 N12x9; have K15s0 := qon ho K15c0 N15x9; have K16s0 := qon ho K16c0 N16x9; have K17s0 := qon ho K17c0 N17x9; have K18s0 := qon ho K18c0 N18x9; have K19s0 := qon ho K19c0 N19x9; have K20s0 := qon ho K20c0 N20x9; have K21s0 := qon ho K21c0 N21x9; have K22s0 := qon ho K22c0 N22x9; have K23s0 := qon ho K23c0 N23x9; have KEs0 := Lib.hid (ho.below KEc0.out HG9.out KEc0.out.size); have K9s0 := Lib.hid hb; clear hb ho) | go_values | go_skip | go_guarded | go_step | go_upon | go_back)
        have J4 := K4s0
        have J6 := K6s0
        have J8 := K8s0
        have J9 := K9s0
        have J10 := K10s0
        have J11 := K11s0
        have J12 := K12s0
        have J15 := K15s0
        have J16 := K16s0
        have J17 := K17s0
        have J18 := K18s0
        have J19 := K19s0
        have J20 := K20s0
        have J21 := K21s0
        have J22 := K22s0
        have J23 := K23s0
        have JE := KEs0
        clear HC0p KEc0 KEs0 K10c0 K10s0 K11c0 K11s0 K12c0 K12s0 K15c0 K15s0 K16c0 K16s0 K17c0 K17s0 K18c0 K18s0 K19c0 K19s0 K20c0 K20s0 K21c0 K21s0 K22c0 K22s0 K23c0 K23s0 K4c0 K4s0 K6c0 K6s0 K8c0 K8s0 K9c0 K9s0 hl19 hl20 HE H4 H6 H8 H9 H10 H11 H12 H15 H16 H17 H18 H19 H20 H21 H22 H23
        have H4 := J4
        have H6 := J6
        have H8 := J8
        have H9 := J9
        have H10 := J10
        have H11 := J11
        have H12 := J12
        have H15 := J15
        have H16 := J16
        have H17 := J17
        have H18 := J18
        have H19 := J19
        have H20 := J20
        have H21 := J21
        have H22 := J22
        have H23 := J23
        have HE := JE
        clear JE J4 J6 J8 J9 J10 J11 J12 J15 J16 J17 J18 J19 J20 J21 J22 J23
        have HV0 : Hid (Below s0p.heap.size s0p { s0p with drawn := s0p.drawn + 1 }) := (Below.refl _ s0p).drew
        refine region_K (by kernel_rfl) 7 (fun w' => Below s0p.heap.size s0p w') ?_
        refine AnyK.load 0 (v := .agg (n8 (fsub (fmul (fadd p2 q2) (fadd p2 q2)) (fmul (fsub p2 q2) (fsub p2 q2)))).toArray) rfl (by kernel_rfl) (by kernel_rfl) (by kernel_rfl) (fun _ _ _ h => h) rfl (fun w' hw' => ey_loadR (x := .tmp 21) (by rfl) (by kernel_rfl) (n8_run (H21.out.below hw' H21.out.lt))) HV0.out ?_
        refine AnyK.load 1 (v := .agg (n8 (fmul (fadd p2 q2) (fadd p2 q2))).toArray) rfl (by kernel_rfl) (by kernel_rfl) (by kernel_rfl) (fun _ _ _ h => h) rfl (fun w' hw' => ey_loadR (x := .tmp 19) (by rfl) (by kernel_rfl) (n8_run (H19.out.below hw' H19.out.lt))) HV0.out ?_
        refine AnyK.load 3 (v := .agg (n8 (fsub (fmul (fadd p2 q2) (fadd p2 q2)) (fmul (fsub p2 q2) (fsub p2 q2)))).toArray) rfl (by kernel_rfl) (by kernel_rfl) (by kernel_rfl) (fun _ _ _ h => h) rfl (fun w' hw' => ey_loadR (x := .tmp 21) (by rfl) (by kernel_rfl) (n8_run (H21.out.below hw' H21.out.lt))) HV0.out ?_
        refine AnyK.pure 2 (v := .agg (n8 121665).toArray) rfl (by kernel_rfl) (fun _ _ _ h => h) rfl (fun _ => by kernel_rfl) (fun _ => HV0.out) ?_
        refine AnyK.enter 4 (d := some 111) (f := 32) (args := #[.agg (n8 (121665)).toArray, .agg (n8 (fsub (fmul (fadd p2 q2) (fadd p2 q2)) (fmul (fsub p2 q2) (fsub p2 q2)))).toArray]) (by rfl) (by kernel_rfl) (by kernel_rfl) ?_
        refine (cMul (x := 121665) (y := fsub (fmul (fadd p2 q2) (fadd p2 q2)) (fmul (fsub p2 q2) (fsub p2 q2))) (by simp [pr]) (fsub_lt _ _) _).mono ?_
        rintro e e0c1 ⟨rfl, hB⟩
        have hR1 := (HV0.out).trans (hB.mono (HV0.out).size)
        clear hB
        refine ⟨_, rfl, fun _ => hR1, ?_⟩
        refine AnyK.enter 5 (d := some 112) (f := 30) (args := #[.agg (n8 (fmul (fadd p2 q2) (fadd p2 q2))).toArray, .agg (n8 (fmul 121665 (fsub (fmul (fadd p2 q2) (fadd p2 q2)) (fmul (fsub p2 q2) (fsub p2 q2))))).toArray]) (by rfl) (by kernel_rfl) (by kernel_rfl) ?_
        refine (cAdd (x := fmul (fadd p2 q2) (fadd p2 q2)) (y := fmul 121665 (fsub (fmul (fadd p2 q2) (fadd p2 q2)) (fmul (fsub p2 q2) (fsub p2 q2)))) (fmul_lt _ _) (fmul_lt _ _) _).mono ?_
        rintro e e0c2 ⟨rfl, hB⟩
        have hR2 := (hR1).trans (hB.mono (hR1).size)
        clear hB
        refine ⟨_, rfl, fun _ => hR2, ?_⟩
        refine AnyK.enter 6 (d := some 113) (f := 32) (args := #[.agg (n8 (fsub (fmul (fadd p2 q2) (fadd p2 q2)) (fmul (fsub p2 q2) (fsub p2 q2)))).toArray, .agg (n8 (fadd (fmul (fadd p2 q2) (fadd p2 q2)) (fmul 121665 (fsub (fmul (fadd p2 q2) (fadd p2 q2)) (fmul (fsub p2 q2) (fsub p2 q2)))))).toArray]) (by rfl) (by kernel_rfl) (by kernel_rfl) ?_
        refine (cMul (x := fsub (fmul (fadd p2 q2) (fadd p2 q2)) (fmul (fsub p2 q2) (fsub p2 q2))) (y := fadd (fmul (fadd p2 q2) (fadd p2 q2)) (fmul 121665 (fsub (fmul (fadd p2 q2) (fadd p2 q2)) (fmul (fsub p2 q2) (fsub p2 q2))))) (fsub_lt _ _) (fadd_lt _ _) _).mono ?_
        rintro e e0c3 ⟨rfl, hB⟩
        have hR3 := (hR2).trans (hB.mono (hR2).size)
        clear hB
        refine ⟨_, rfl, fun _ => hR3, ?_⟩
        refine AnyK.storeAll 7 g10 (n8 (fmul (fsub (fmul (fadd p2 q2) (fadd p2 q2)) (fmul (fsub p2 q2) (fsub p2 q2))) (fadd (fmul (fadd p2 q2) (fadd p2 q2)) (fmul 121665 (fsub (fmul (fadd p2 q2) (fadd p2 q2)) (fmul (fsub p2 q2) (fsub p2 q2))))))) 56 _ (by rfl) rfl rfl (by rfl) (by kernel_rfl) (by kernel_rfl) (by kernel_rfl) (H10.out.below hR3 H10.out.lt) (by exact hdN8' _) (n8_one _) (by rw [n8_len, n8_len]) (fun _ _ _ h => (by cases h)) ?_
        intro e0v hb5 ho5
        refine AnyK.done (by kernel_rfl) ?_
        have J4 := Lib.hid (ho5.blk (H4.out.below hR3 H4.out.lt) N4x10.out)
        have J6 := Lib.hid (ho5.blk (H6.out.below hR3 H6.out.lt) N6x10.out)
        have J8 := Lib.hid (ho5.blk (H8.out.below hR3 H8.out.lt) N8x10.out)
        have J9 := Lib.hid (ho5.blk (H9.out.below hR3 H9.out.lt) N9x10.out)
        have J10 := Lib.hid hb5
        have J11 := Lib.hid (ho5.blk (H11.out.below hR3 H11.out.lt) N11x10.out)
        have J12 := Lib.hid (ho5.blk (H12.out.below hR3 H12.out.lt) N12x10.out)
        have J15 := Lib.hid (ho5.blk (H15.out.below hR3 H15.out.lt) N15x10.out)
        have J16 := Lib.hid (ho5.blk (H16.out.below hR3 H16.out.lt) N16x10.out)
        have J17 := Lib.hid (ho5.blk (H17.out.below hR3 H17.out.lt) N17x10.out)
        have J18 := Lib.hid (ho5.blk (H18.out.below hR3 H18.out.lt) N18x10.out)
        have J19 := Lib.hid (ho5.blk (H19.out.below hR3 H19.out.lt) N19x10.out)
        have J20 := Lib.hid (ho5.blk (H20.out.below hR3 H20.out.lt) N20x10.out)
        have J21 := Lib.hid (ho5.blk (H21.out.below hR3 H21.out.lt) N21x10.out)
        have J22 := Lib.hid (ho5.blk (H22.out.below hR3 H22.out.lt) N22x10.out)
        have J23 := Lib.hid (ho5.blk (H23.out.below hR3 H23.out.lt) N23x10.out)
        have JE := Lib.hid (ho5.below (HE.out.trans (hR3.mono HE.out.size)) HG10.out (HE.out.trans (hR3.mono HE.out.size)).size)
        clear hb5 ho5 HV0 HE hR1 hR2 hR3 H4 H6 H8 H9 H10 H11 H12 H15 H16 H17 H18 H19 H20 H21 H22 H23
        have H4 := J4
        have H6 := J6
        have H8 := J8
        have H9 := J9
        have H10 := J10
        have H11 := J11
        have H12 := J12
        have H15 := J15
        have H16 := J16
        have H17 := J17
        have H18 := J18
        have H19 := J19
        have H20 := J20
        have H21 := J21
        have H22 := J22
        have H23 := J23
        have HE := JE
        clear JE J4 J6 J8 J9 J10 J11 J12 J15 J16 J17 J18 J19 J20 J21 J22 J23
        rcases HPP.out with ⟨hyi, e1, e2, e3, e4⟩ | ⟨hyi, e1, e2, e3, e4⟩
        · have HBT : Hid (kbit N (254 - k) = false) := (by show _ = _; rw [HKB.out]; rw [show y % 2 = 0 by omega]; rfl)
          have E1 := Lib.hid e1
          have E2 := Lib.hid e2
          have E3 := Lib.hid e3
          have E4 := Lib.hid e4
          clear HKB HPP e1 e2 e3 e4
          go_wp2
          go_roundg (255 - (k + 1))
          case measure => have := HGK.out; have := HKL2.out; omega
          case rel => exact ⟨k + 1, _, rfl, rfl, by have := HT.out; go_num, by have := HKL2.out; omega, H4.out, H6.out, H8.out, by rw [HLT.out, HBT.out, HLS.out, ← E1.out, ← E2.out, ← E3.out, ← E4.out]; exact H9.out, by rw [HLT.out, HBT.out, HLS.out, ← E1.out, ← E2.out, ← E3.out, ← E4.out]; exact H10.out, by rw [HLT.out, HBT.out, HLS.out, ← E1.out, ← E2.out, ← E3.out, ← E4.out]; exact H11.out, by rw [HLT.out, HBT.out, HLS.out, ← E1.out, ← E2.out, ← E3.out, ← E4.out]; exact H12.out, HE.out⟩
        · have HBT : Hid (kbit N (254 - k) = true) := (by show _ = _; rw [HKB.out]; rw [show y % 2 = 1 by omega]; rfl)
          have E1 := Lib.hid e1
          have E2 := Lib.hid e2
          have E3 := Lib.hid e3
          have E4 := Lib.hid e4
          clear HKB HPP e1 e2 e3 e4
          go_wp2
          refine region_K (by kernel_rfl) 5 (fun w' => Blk w' g11 56 (n8 (fmul (fadd (fmul (fsub p3 q3) (fadd p2 q2)) (fmul (fadd p3 q3) (fsub p2 q2))) (fadd (fmul (fsub p3 q3) (fadd p2 q2)) (fmul (fadd p3 q3) (fsub p2 q2))))) ∧ Blk w' g12 56 (n8 (fmul X (fmul (fsub (fmul (fsub p3 q3) (fadd p2 q2)) (fmul (fadd p3 q3) (fsub p2 q2))) (fsub (fmul (fsub p3 q3) (fadd p2 q2)) (fmul (fadd p3 q3) (fsub p2 q2)))))) ∧ Blk w' g10 56 (n8 (fmul (fsub (fmul (fadd p2 q2) (fadd p2 q2)) (fmul (fsub p2 q2) (fsub p2 q2))) (fadd (fmul (fadd p2 q2) (fadd p2 q2)) (fmul 121665 (fsub (fmul (fadd p2 q2) (fadd p2 q2)) (fmul (fsub p2 q2) (fsub p2 q2)))))))) ?_
          refine AnyK.load 0 (v := .agg (n8 (fmul (fadd (fmul (fsub p3 q3) (fadd p2 q2)) (fmul (fadd p3 q3) (fsub p2 q2))) (fadd (fmul (fsub p3 q3) (fadd p2 q2)) (fmul (fadd p3 q3) (fsub p2 q2))))).toArray) rfl (by kernel_rfl) (by kernel_rfl) (by kernel_rfl) (fun _ _ _ h => h) rfl (fun w' hw' => ey_loadR (x := .tmp 11) (by rfl) (by kernel_rfl) (n8_run hw'.1)) ⟨H11.out.drew, H12.out.drew, H10.out.drew⟩ ?_
          refine AnyK.load 1 (v := .agg (n8 (fmul X (fmul (fsub (fmul (fsub p3 q3) (fadd p2 q2)) (fmul (fadd p3 q3) (fsub p2 q2))) (fsub (fmul (fsub p3 q3) (fadd p2 q2)) (fmul (fadd p3 q3) (fsub p2 q2)))))).toArray) rfl (by kernel_rfl) (by kernel_rfl) (by kernel_rfl) (fun _ _ _ h => h) rfl (fun w' hw' => ey_loadR (x := .tmp 12) (by rfl) (by kernel_rfl) (n8_run hw'.2.1)) ⟨H11.out.drew, H12.out.drew, H10.out.drew⟩ ?_
          refine AnyK.load 3 (v := .agg (n8 (fmul (fsub (fmul (fadd p2 q2) (fadd p2 q2)) (fmul (fsub p2 q2) (fsub p2 q2))) (fadd (fmul (fadd p2 q2) (fadd p2 q2)) (fmul 121665 (fsub (fmul (fadd p2 q2) (fadd p2 q2)) (fmul (fsub p2 q2) (fsub p2 q2))))))).toArray) rfl (by kernel_rfl) (by kernel_rfl) (by kernel_rfl) (fun _ _ _ h => h) rfl (fun w' hw' => ey_loadR (x := .tmp 10) (by rfl) (by kernel_rfl) (n8_run hw'.2.2)) ⟨H11.out.drew, H12.out.drew, H10.out.drew⟩ ?_
          refine AnyK.val 2 (v := .agg (n8 (fmul (fmul (fadd p2 q2) (fadd p2 q2)) (fmul (fsub p2 q2) (fsub p2 q2)))).toArray) (by rfl) (by kernel_rfl) rfl (ey_loadR (x := .tmp 9) (by rfl) (by kernel_rfl) (n8_run H9.out.drew)) (fun _ => ⟨H11.out.drew, H12.out.drew, H10.out.drew⟩) ?_
          refine AnyK.storeAll 4 g9 (n8 (fmul (fadd (fmul (fsub p3 q3) (fadd p2 q2)) (fmul (fadd p3 q3) (fsub p2 q2))) (fadd (fmul (fsub p3 q3) (fadd p2 q2)) (fmul (fadd p3 q3) (fsub p2 q2))))) 56 _ (by rfl) rfl rfl (by rfl) (by kernel_rfl) (by kernel_rfl) (by kernel_rfl) (H9.out.drew) (by exact hdN8' _) (n8_one _) (by rw [n8_len, n8_len]) (fun _ _ ho _ => ⟨ho.blk H11.out.drew N11x9.out, ho.blk H12.out.drew N12x9.out, ho.blk H10.out.drew N10x9.out⟩) ?_
          intro Vr0 hv0 hw0
          have f4q0 := hw0.blk (H4.out.drew) N4x9.out
          have f6q0 := hw0.blk (H6.out.drew) N6x9.out
          have f8q0 := hw0.blk (H8.out.drew) N8x9.out
          have f10q0 := hw0.blk (H10.out.drew) N10x9.out
          have f11q0 := hw0.blk (H11.out.drew) N11x9.out
          have f12q0 := hw0.blk (H12.out.drew) N12x9.out
          have fEq0 := hw0.below (HE.out.drew) HG9.out (HE.out.drew).size
          refine AnyK.storeAll 5 g10 (n8 (fmul X (fmul (fsub (fmul (fsub p3 q3) (fadd p2 q2)) (fmul (fadd p3 q3) (fsub p2 q2))) (fsub (fmul (fsub p3 q3) (fadd p2 q2)) (fmul (fadd p3 q3) (fsub p2 q2)))))) 56 _ (by rfl) rfl rfl (by rfl) (by kernel_rfl) (by kernel_rfl) (by kernel_rfl) (f10q0) (by exact hdN8' _) (n8_one _) (by rw [n8_len, n8_len]) (fun _ _ _ h => (by cases h)) ?_
          intro Vr1 hv1 hw1
          have f4q1 := hw1.blk (f4q0) N4x10.out
          have f6q1 := hw1.blk (f6q0) N6x10.out
          have f8q1 := hw1.blk (f8q0) N8x10.out
          have f9q1 := hw1.blk (hv0) N9x10.out
          have f11q1 := hw1.blk (f11q0) N11x10.out
          have f12q1 := hw1.blk (f12q0) N12x10.out
          have fEq1 := hw1.below (fEq0) HG10.out (fEq0).size
          refine AnyK.storeAll 6 g11 (n8 (fmul (fmul (fadd p2 q2) (fadd p2 q2)) (fmul (fsub p2 q2) (fsub p2 q2)))) 56 _ (by rfl) rfl rfl (by rfl) (by kernel_rfl) (by kernel_rfl) (by kernel_rfl) (f11q1) (by exact hdN8' _) (n8_one _) (by rw [n8_len, n8_len]) (fun _ _ _ h => (by cases h)) ?_
          intro Vr2 hv2 hw2
          have f4q2 := hw2.blk (f4q1) N4x11.out
          have f6q2 := hw2.blk (f6q1) N6x11.out
          have f8q2 := hw2.blk (f8q1) N8x11.out
          have f9q2 := hw2.blk (f9q1) N9x11.out
          have f10q2 := hw2.blk (hv1) N10x11.out
          have f12q2 := hw2.blk (f12q1) N12x11.out
          have fEq2 := hw2.below (fEq1) HG11.out (fEq1).size
          refine AnyK.storeAll 7 g12 (n8 (fmul (fsub (fmul (fadd p2 q2) (fadd p2 q2)) (fmul (fsub p2 q2) (fsub p2 q2))) (fadd (fmul (fadd p2 q2) (fadd p2 q2)) (fmul 121665 (fsub (fmul (fadd p2 q2) (fadd p2 q2)) (fmul (fsub p2 q2) (fsub p2 q2))))))) 56 _ (by rfl) rfl rfl (by rfl) (by kernel_rfl) (by kernel_rfl) (by kernel_rfl) (f12q2) (by exact hdN8' _) (n8_one _) (by rw [n8_len, n8_len]) (fun _ _ _ h => (by cases h)) ?_
          intro Vr3 hv3 hw3
          have f4q3 := hw3.blk (f4q2) N4x12.out
          have f6q3 := hw3.blk (f6q2) N6x12.out
          have f8q3 := hw3.blk (f8q2) N8x12.out
          have f9q3 := hw3.blk (f9q2) N9x12.out
          have f10q3 := hw3.blk (f10q2) N10x12.out
          have f11q3 := hw3.blk (hv2) N11x12.out
          have fEq3 := hw3.below (fEq2) HG12.out (fEq2).size
          refine AnyK.done (by kernel_rfl) ?_
          have J4 := Lib.hid (f4q3)
          have J6 := Lib.hid (f6q3)
          have J8 := Lib.hid (f8q3)
          have J9 := Lib.hid (f9q3)
          have J10 := Lib.hid (f10q3)
          have J11 := Lib.hid (f11q3)
          have J12 := Lib.hid (hv3)
          have JE := Lib.hid fEq3
          clear H4 H6 H8 H9 H10 H11 H12 HE f4q0 f6q0 f8q0 f10q0 f11q0 f12q0 f4q1 f6q1 f8q1 f9q1 f11q1 f12q1 f4q2 f6q2 f8q2 f9q2 f10q2 f12q2 f4q3 f6q3 f8q3 f9q3 f10q3 f11q3 hv0 hw0 fEq0 hv1 hw1 fEq1 hv2 hw2 fEq2 hv3 hw3 fEq3
          have H4 := J4
          have H6 := J6
          have H8 := J8
          have H9 := J9
          have H10 := J10
          have H11 := J11
          have H12 := J12
          have HE := JE
          clear JE J4 J6 J8 J9 J10 J11 J12
          go_wp2
          go_roundg (255 - (k + 1))
          case measure => have := HGK.out; have := HKL2.out; omega
          case rel => exact ⟨k + 1, _, rfl, rfl, by have := HT.out; go_num, by have := HKL2.out; omega, H4.out, H6.out, H8.out, by rw [HLT.out, HBT.out, HLS.out, ← E1.out, ← E2.out, ← E3.out, ← E4.out]; exact H9.out, by rw [HLT.out, HBT.out, HLS.out, ← E1.out, ← E2.out, ← E3.out, ← E4.out]; exact H10.out, by rw [HLT.out, HBT.out, HLS.out, ← E1.out, ← E2.out, ← E3.out, ← E4.out]; exact H11.out, by rw [HLT.out, HBT.out, HLS.out, ← E1.out, ← E2.out, ← E3.out, ← E4.out]; exact H12.out, HE.out⟩
    · obtain rfl : k = 255 := by omega
      obtain rfl : z = -1 := by omega
      have HOK := Lib.hid (ladT_ok X HXP.out (kbit N) 255)
      obtain ⟨s, hs⟩ : ∃ s, s = ladT X (kbit N) 255 := ⟨_, rfl⟩
      rw [← hs] at h9 h10 h11 h12 HOK HMN
      obtain ⟨Z, hZd⟩ : ∃ Z, Z = fmul s.x2 (s.z2 ^ pE % pr) := ⟨_, rfl⟩
      have hZp : Z < pr := by rw [hZd]; exact fmul_lt _ _
      have hZl := p256 hZp
      have HIV : Hid (∀ W, Calls Tryz.prog 33 #[.agg (n8 s.z2).toArray] W fun e w' => e = .returned (.agg (n8 (s.z2 ^ pE % pr)).toArray) ∧ Below W.heap.size W w') := fun W => rinv_n s.z2 W (p256 HOK.out.2.1)
      have HMU : Hid (∀ W, Calls Tryz.prog 32 #[.agg (n8 s.x2).toArray, .agg (n8 (s.z2 ^ pE % pr)).toArray] W fun e w' => e = .returned (.agg (n8 Z).toArray) ∧ Below W.heap.size W w') := fun W => hZd ▸ cMul HOK.out.1 (pr_lt' _) W
      have HBL : Hid (∀ W, Calls Tryz.prog 12 #[.agg (n8 Z).toArray] W fun e w' => e = .returned (.agg (u8s (leB Z)).toArray) ∧ Below W.heap.size W w') := fun W => (rbytes_n Z W hZl).mono fun e w' h => ⟨by rw [h.1, Nat.mod_eq_of_lt hZp], h.2⟩
      have HMZ : Hid (multN ks us = Z) := (by show _ = _; rw [HMN.out, hZd])
      have HLB := Lib.hid (leB_len Z)
      have HZL := Lib.hid hZl
      have H4 := Lib.hid h4
      have H9 := Lib.hid h9
      have H10 := Lib.hid h10
      have HE := Lib.hid hE
      clear h4 h6 h8 h9 h10 h11 h12 hE hgk hs hz hk hge hZd hZp hZl
      go_wp2
      have HV0 : Hid (Below wr.heap.size wr { wr with drawn := wr.drawn + 1 }) := (Below.refl _ wr).drew
      refine region_K (by kernel_rfl) 5 (fun w' => Below wr.heap.size wr w') ?_
      refine AnyK.load 0 (v := .agg (n8 s.x2).toArray) rfl (by kernel_rfl) (by kernel_rfl) (by kernel_rfl) (fun _ _ _ h => h) rfl (fun w' hw' => ey_loadR (x := .tmp 9) (by rfl) (by kernel_rfl) (n8_run (H9.out.below hw' H9.out.lt))) HV0.out ?_
      refine AnyK.load 1 (v := .agg (n8 s.z2).toArray) rfl (by kernel_rfl) (by kernel_rfl) (by kernel_rfl) (fun _ _ _ h => h) rfl (fun w' hw' => ey_loadR (x := .tmp 10) (by rfl) (by kernel_rfl) (n8_run (H10.out.below hw' H10.out.lt))) HV0.out ?_
      refine AnyG.start wr.heap.size [⟨4, 24, 56, o8, fun g => .pointer (some ⟨g, 0, none⟩)⟩] (fun W => Below wr.heap.size wr W) 3 rfl HV0.out ?_
      refine AnyG.step 2 (di := 122) [] (fun _ : Unit => .agg (n8 (s.z2 ^ pE % pr)).toArray) (fun _ W => Below wr.heap.size wr W) (by rfl) rfl (by simp) (by simp) (by kernel_rfl) ?_ ?_ (fun W o h => h.alloc h.size o) (fun W h => h.size) (fun W h => h) (fun _ W h => h) ?_
      · intro F W hF hR hok hrd K hK
        obtain ⟨s1, rfl⟩ := flt_of hF
        rcases s1 with _ | k1 <;>
          (refine wp_enter (f := 33) (args := #[.agg (n8 s.z2).toArray]) (by kernel_rfl) ?_; refine (HIV.out W).mono ?_; rintro e w' ⟨rfl, hB⟩; exact ⟨_, rfl, hK () _ (hR.trans (hB.mono hR.size)) hB⟩)
      · intro f hf
        simp only [List.mem_cons, List.not_mem_nil, or_false] at hf
        subst hf
        exact ⟨_, rfl, rfl, rfl, fun F W _ => n8_alloc _ _ _ rfl⟩
      intro _
      refine AnyG.step 3 (di := 123) [] (fun _ : Unit => .agg (n8 (Z)).toArray) (fun _ W => Below wr.heap.size wr W) (by rfl) rfl (by simp) (by simp) (by kernel_rfl) ?_ ?_ (fun W o h => h.alloc h.size o) (fun W h => h.size) (fun W h => h) (fun _ W h => h) ?_
      · intro F W hF hR hok hrd K hK
        obtain ⟨s1, rfl⟩ := flt_of hF
        rcases s1 with _ | k1 <;>
          (refine wp_enter (f := 32) (args := #[.agg (n8 s.x2).toArray, .agg (n8 (s.z2 ^ pE % pr)).toArray]) (by kernel_rfl) ?_; refine (HMU.out W).mono ?_; rintro e w' ⟨rfl, hB⟩; exact ⟨_, rfl, hK () _ (hR.trans (hB.mono hR.size)) hB⟩)
      · intro f hf
        simp only [List.mem_cons, List.not_mem_nil, or_false] at hf
        subst hf
        exact ⟨_, rfl, rfl, rfl, fun F W _ => n8_alloc _ _ _ rfl⟩
      intro _
      refine AnyG.fin (by simp) (by kernel_rfl) ?_ (fun W o h => h.alloc h.size o) (fun W h => h.size) (fun W h => h) ?_
      · intro f hf
        simp only [List.mem_cons, List.not_mem_nil, or_false] at hf
        subst hf
        exact ⟨_, rfl, rfl, rfl, fun F W _ => n8_alloc _ _ _ rfl⟩
      intro F W hF h0 hR hok
      obtain ⟨b24, rfl⟩ := flt_all hF h0
      obtain ⟨⟨hga, hba, _⟩, _⟩ := hok
      refine AnyK.storeAll 5 b24 (n8 Z) 56 o8 (by rfl) rfl rfl (by rfl) (by kernel_rfl) (by kernel_rfl) (by kernel_rfl) hba (by exact hdN8' _) (n8_one _) (by rw [n8_len]; rfl) (fun _ _ _ h => (by cases h)) ?_
      intro w8 hb5 ho5
      have hB5 := ho5.below hR hga hR.size
      refine AnyK.done (by kernel_rfl) ?_
      have HZ8 := qbl H4 hB5
      have HE8 := qtr HE hB5
      have hld := n8_run hb5
      clear hb5 ho5 hB5 hR hga hba hF h0 HV0 HE H4 H9 H10 HIV HMU
      simp only [putF]
      have heq : ∀ W, (eqAt 56 (.agg (n8 Z).toArray) (.agg #[.int .u32 0, .int .u32 0, .int .u32 0, .int .u32 0, .int .u32 0, .int .u32 0, .int .u32 0, .int .u32 0])).run Tryz.prog W = .ok (.bool (decide (Z = 0))) W := fun W => eq_n8 Z HZL.out W
      by_cases hq0 : Z = 0
      · have HQ := Lib.hid hq0
        rw [decide_eq_true hq0] at heq
        clear hq0
        go_wp2_with (refine wpList_store_all rfl 26 (.tmp 4) (.tmp 127) rfl w.heap.size o32 (by rfl) (by rfl) 26 o32 HZ8.out (by exact hd32) (u8s_one _) rfl ?_; intro w9 hb9 ho9; have HB9 := Lib.hid hb9; have HE9 := Lib.hid (ho9.below HE8.out (Nat.le_refl _) HE8.out.size); clear hb9 ho9)
        exact bodyPost_ret (res_cell_tmp rfl _ _ _ _ rfl HB9.out _ Tryz.underlying26 rfl (by exact hd32)) rfl ⟨by rw [mB, mE, HMZ.out, if_pos HQ.out, if_pos HQ.out]; rfl, HE9.out⟩
      · have HQ := Lib.hid hq0
        rw [decide_eq_false hq0] at heq
        clear hq0
        go_wp2_with (first
          | (go_at_call 12; (with_reducible refine (HBL.out _).mono ?_); rintro e w7 ⟨rfl, hB⟩; have HZ9 := qbl HZ8 hB; have HE9 := qtr HE8 hB; clear hB)
          | (refine wpList_store_all rfl 26 (.tmp 4) (.tmp 129) rfl w.heap.size (u8s (leB Z)) (by rfl) (by rfl) 26 o32 HZ9.out (by rw [u8s_length, HLB.out]; exact hd32) (u8s_one _) (by rw [u8s_length, HLB.out]; rfl) ?_; intro w9 hb9 ho9; have HB10 := Lib.hid hb9; have HE10 := Lib.hid (ho9.below HE9.out (Nat.le_refl _) HE9.out.size); clear hb9 ho9))
        exact bodyPost_ret (res_cell_tmp rfl _ _ _ _ rfl HB10.out _ Tryz.underlying26 rfl (by rw [u8s_length, HLB.out]; exact hd32)) rfl ⟨by rw [mB, mE, HMZ.out, if_neg HQ.out, if_neg HQ.out]; rfl, HE10.out⟩
end Go.Proofs.YtlbnibmcflmohaaGreat
