/- Part of the proof: Bit, Fld, Nrm, StA. -/
import Derived.Laws.Externs
import Derived.Shelf.Spec.BitsCarry
import Derived.Deep.DeepCutAuto
import Derived.Test.YtlbnibmcflmohaaGreatPlx03
namespace Go.Proofs.YtlbnibmcflmohaaGreat
open Go.RowKit
theorem c_add64 (x y c : Nat) (hc : c ≤ 1) (w : World) : (callFunc 89 #[.int .u64 (x : Int), .int .u64 (y : Int), .int .u64 (c : Int)]).run Tryz.prog w =
    .ok (.value (.tuple #[.int .u64 (((x + y + c) % 18446744073709551616 : Nat) : Int), .int .u64 (((x + y + c) / 18446744073709551616 : Nat) : Int)])) w := by
  rw [run_callFunc_extern (fn := Tryz.f89) (by kernel_rfl) (by kernel_rfl) (by kernel_rfl) (by kernel_rfl) (e := add64Entry) (by kernel_rfl), run_add64 x y c (by omega) (by omega) (by omega) (by omega)]
  simp only [Result.andThen]
  congr 5 <;> omega
theorem c_sub64 (x y b : Nat) (hb : b ≤ 1) (w : World) : (callFunc 86 #[.int .u64 (x : Int), .int .u64 (y : Int), .int .u64 (b : Int)]).run Tryz.prog w =
    .ok (.value (.tuple #[.int .u64 (((x + 18446744073709551616 - y - b) % 18446744073709551616 : Nat) : Int), .int .u64 ((if x < y + b then 1 else 0 : Nat) : Int)])) w := by
  rw [run_callFunc_extern (fn := Tryz.f86) (by kernel_rfl) (by kernel_rfl) (by kernel_rfl) (by kernel_rfl) (e := Go.Proofs.sub64Entry) (by kernel_rfl), Go.Proofs.run_sub64 x y b hb]
  rfl
theorem and32 (x : Nat) (hx : x < 18446744073709551616) : bits .and .u64 (x : Int) 4294967295 = ((x % 4294967296 : Nat) : Int) := by
  refine (u64_and_nat x 4294967295 (by omega) (by omega)).trans ?_
  rw [show (4294967295 : Nat) = 2 ^ 32 - 1 by rfl, Nat.and_two_pow_sub_one_eq_mod]
set_option maxHeartbeats 1000000 in
theorem mul64_any (x y : Nat) (hx : x < 18446744073709551616) (hy : y < 18446744073709551616) (w : World) :
    Calls Tryz.prog 95 #[.int .u64 (x : Int), .int .u64 (y : Int)] w fun e w' => e = .returned (.tuple #[.int .u64 ((x * y / 18446744073709551616 : Nat) : Int), .int .u64 ((x * y % 18446744073709551616 : Nat) : Int)]) ∧ w = w' := by
  obtain ⟨x0, hx0⟩ : ∃ x0, x0 = x % 4294967296 := ⟨_, rfl⟩
  obtain ⟨x1, hx1⟩ : ∃ x1, x1 = x / 4294967296 := ⟨_, rfl⟩
  obtain ⟨y0, hy0⟩ : ∃ y0, y0 = y % 4294967296 := ⟨_, rfl⟩
  obtain ⟨y1, hy1⟩ : ∃ y1, y1 = y / 4294967296 := ⟨_, rfl⟩
  have a1 : bits .and .u64 (x : Int) 4294967295 = (x0 : Int) := by rw [and32 x hx, hx0]
  have a2 : bits .and .u64 (y : Int) 4294967295 = (y0 : Int) := by rw [and32 y hy, hy0]
  have d1 : (x : Int) / 4294967296 = (x1 : Int) := by omega
  have d2 : (y : Int) / 4294967296 = (y1 : Int) := by omega
  have b0 : x0 ≤ 4294967295 := by omega
  have b1 : x1 ≤ 4294967295 := by omega
  have b2 : y0 ≤ 4294967295 := by omega
  have b3 : y1 ≤ 4294967295 := by omega
  have ex : x = x1 * 4294967296 + x0 := by omega
  have ey : y = y1 * 4294967296 + y0 := by omega
  obtain ⟨p00, h00⟩ : ∃ p, p = x0 * y0 := ⟨_, rfl⟩
  obtain ⟨p10, h10⟩ : ∃ p, p = x1 * y0 := ⟨_, rfl⟩
  obtain ⟨p01, h01⟩ : ∃ p, p = x0 * y1 := ⟨_, rfl⟩
  obtain ⟨p11, h11⟩ : ∃ p, p = x1 * y1 := ⟨_, rfl⟩
  have q00 : p00 ≤ 4294967295 * 4294967295 := by rw [h00]; exact Nat.mul_le_mul b0 b2
  have q10 : p10 ≤ 4294967295 * 4294967295 := by rw [h10]; exact Nat.mul_le_mul b1 b2
  have q01 : p01 ≤ 4294967295 * 4294967295 := by rw [h01]; exact Nat.mul_le_mul b0 b3
  have q11 : p11 ≤ 4294967295 * 4294967295 := by rw [h11]; exact Nat.mul_le_mul b1 b3
  have exy : x * y = p11 * 18446744073709551616 + (p10 + p01) * 4294967296 + p00 := by
    rw [h00, h10, h01, h11, ex, ey]
    simp only [Nat.add_mul, Nat.mul_add]
    have e1 : x1 * 4294967296 * (y1 * 4294967296) = x1 * y1 * 18446744073709551616 := by rw [Nat.mul_mul_mul_comm]
    have e2 : x1 * 4294967296 * y0 = x1 * y0 * 4294967296 := by rw [Nat.mul_right_comm]
    have e3 : x0 * (y1 * 4294967296) = x0 * y1 * 4294967296 := by rw [Nat.mul_assoc]
    omega
  have m00 : (x0 : Int) * (y0 : Int) = (p00 : Int) := by rw [h00]; exact (Int.natCast_mul _ _).symm
  have m10 : (x1 : Int) * (y0 : Int) = (p10 : Int) := by rw [h10]; exact (Int.natCast_mul _ _).symm
  have m01 : (x0 : Int) * (y1 : Int) = (p01 : Int) := by rw [h01]; exact (Int.natCast_mul _ _).symm
  have m11 : (x1 : Int) * (y1 : Int) = (p11 : Int) := by rw [h11]; exact (Int.natCast_mul _ _).symm
  obtain ⟨M, hM⟩ : ∃ M, M = x * y := ⟨_, rfl⟩
  have mM : (x : Int) * (y : Int) = (M : Int) := by rw [hM]; exact (Int.natCast_mul _ _).symm
  rw [← hM] at exy ⊢
  obtain ⟨t, ht⟩ : ∃ t, t = p10 + p00 / 4294967296 := ⟨_, rfl⟩
  obtain ⟨v, hv⟩ : ∃ v, v = t % 4294967296 + p01 := ⟨_, rfl⟩
  have ht2 : (p10 : Int) + (p00 : Int) / 4294967296 = (t : Int) := by omega
  have at_ : bits .and .u64 (t : Int) 4294967295 = ((t % 4294967296 : Nat) : Int) := and32 t (by omega)
  have HR : Hid ((((M / 18446744073709551616 : Nat) : Int) = (p11 : Int) + (t : Int) / 4294967296 + (v : Int) / 4294967296) ∧ v < 18446744073709551616) := by
    constructor <;> omega
  have HM2 : Hid (((M % 18446744073709551616 : Nat) : Int) = (M : Int) % 18446744073709551616) := by show _ = _; omega
  have t1 : (0 : Int) ≤ (t : Int) := by omega
  have t2 : (t : Int) < 18446744073709551616 := by omega
  have t3 : (0 : Int) ≤ (p01 : Int) := by omega
  have t4 : (p01 : Int) ≤ 18446744065119617025 := by omega
  have t5 : (p00 : Int) ≤ 18446744065119617025 := by omega
  have t6 : (p10 : Int) ≤ 18446744065119617025 := by omega
  have t7 : (p11 : Int) ≤ 18446744065119617025 := by omega
  have hv2 : (t : Int) % 4294967296 + (p01 : Int) = (v : Int) := by omega
  have v1 : (v : Int) < 18446744073709551616 := by omega
  have s1 : (p11 : Int) + (t : Int) / 4294967296 < 18446744073709551616 := by omega
  have s2 : (p11 : Int) + (t : Int) / 4294967296 + (v : Int) / 4294967296 < 18446744073709551616 := by omega
  clear hx0 hx1 hy0 hy1 h00 h10 h01 h11 hM ht hv exy ex ey q00 q10 q01 q11 b0 b1 b2 b3 hx hy
  go_enter Tryz.func95, Tryz.ntmps95
  go_wp2_with fail
  go_ret2
  exact ⟨by rw [HR.out.1, HM2.out, ← IntKind.wrap_u64]; rfl, rfl⟩
end Go.Proofs.YtlbnibmcflmohaaGreat
namespace Go.Proofs.YtlbnibmcflmohaaGreat
open Go.RowKit
def l4 (a b c d : Nat) : List Value := [.int .u64 (a : Int), .int .u64 (b : Int), .int .u64 (c : Int), .int .u64 (d : Int)]
theorem hdEl : (Tryz.prog.info? 80).map (·.size) = some 4 := by kernel_rfl
theorem ldq_el (v : Value) : Instr.loadAt 80 v = ldAt 80 v := rfl
attribute [local go_sem ↓] ldq_el
theorem el_ld {w : World} {g : Nat} {t : TypeId} {a b c d : Nat} (hb : Blk w g t (l4 a b c d)) : (ldAt 80 (.pointer (some ⟨g, 0, none⟩))).run Tryz.prog w = .ok (.agg (l4 a b c d).toArray) w :=
  ldAt_run hb _ 0 (l4 a b c d) rfl _ Tryz.underlying80 rfl hdEl
theorem l4_one (a b c d : Nat) : ∀ v ∈ l4 a b c d, v.oneCell' = true := by
  intro v hv
  simp only [l4, List.mem_cons, List.not_mem_nil, or_false] at hv
  rcases hv with rfl | rfl | rfl | rfl <;> rfl
set_option maxRecDepth 100000 in
set_option maxHeartbeats 1000000 in
theorem plus_any (a0 a1 a2 a3 n : Nat) (h0 : a0 < 18446744073709551616) (h1 : a1 < 18446744073709551616) (h2 : a2 < 18446744073709551616) (h3 : a3 < 18446744073709551616) (hn : n < 18446744073709551616) (w : World) :
    Calls Tryz.prog 76 #[.agg (l4 a0 a1 a2 a3).toArray, .int .u64 (n : Int)] w fun e w' => ∃ s0 s1 s2 s3 k : Nat, e = .returned (.tuple #[.agg (l4 s0 s1 s2 s3).toArray, .int .u64 (k : Int)]) ∧ (s0 < 18446744073709551616 ∧ s1 < 18446744073709551616 ∧ s2 < 18446744073709551616 ∧ s3 < 18446744073709551616 ∧ k ≤ 1 ∧
      s0 + s1 * 18446744073709551616 + s2 * 340282366920938463463374607431768211456 + s3 * 6277101735386680763835789423207666416102355444464034512896 + k * 115792089237316195423570985008687907853269984665640564039457584007913129639936 = a0 + a1 * 18446744073709551616 + a2 * 340282366920938463463374607431768211456 + a3 * 6277101735386680763835789423207666416102355444464034512896 + n) ∧ Below w.heap.size w w' := by
  obtain ⟨s0, hs0⟩ : ∃ s, s = (a0 + n + 0) % 18446744073709551616 := ⟨_, rfl⟩
  obtain ⟨k1, hk1⟩ : ∃ k, k = (a0 + n + 0) / 18446744073709551616 := ⟨_, rfl⟩
  have e0 := fun W => c_add64 a0 n 0 (by omega) W
  rw [← hs0, ← hk1] at e0
  obtain ⟨s1, hs1⟩ : ∃ s, s = (a1 + 0 + k1) % 18446744073709551616 := ⟨_, rfl⟩
  obtain ⟨k2, hk2⟩ : ∃ k, k = (a1 + 0 + k1) / 18446744073709551616 := ⟨_, rfl⟩
  have e1 := fun W => c_add64 a1 0 k1 (by omega) W
  rw [← hs1, ← hk2] at e1
  obtain ⟨s2, hs2⟩ : ∃ s, s = (a2 + 0 + k2) % 18446744073709551616 := ⟨_, rfl⟩
  obtain ⟨k3, hk3⟩ : ∃ k, k = (a2 + 0 + k2) / 18446744073709551616 := ⟨_, rfl⟩
  have e2 := fun W => c_add64 a2 0 k2 (by omega) W
  rw [← hs2, ← hk3] at e2
  obtain ⟨s3, hs3⟩ : ∃ s, s = (a3 + 0 + k3) % 18446744073709551616 := ⟨_, rfl⟩
  obtain ⟨k4, hk4⟩ : ∃ k, k = (a3 + 0 + k3) / 18446744073709551616 := ⟨_, rfl⟩
  have e3 := fun W => c_add64 a3 0 k3 (by omega) W
  rw [← hs3, ← hk4] at e3
  have HFIN : Hid (s0 < 18446744073709551616 ∧ s1 < 18446744073709551616 ∧ s2 < 18446744073709551616 ∧ s3 < 18446744073709551616 ∧ k4 ≤ 1 ∧
      s0 + s1 * 18446744073709551616 + s2 * 340282366920938463463374607431768211456 + s3 * 6277101735386680763835789423207666416102355444464034512896 + k4 * 115792089237316195423570985008687907853269984665640564039457584007913129639936 = a0 + a1 * 18446744073709551616 + a2 * 340282366920938463463374607431768211456 + a3 * 6277101735386680763835789423207666416102355444464034512896 + n) := by
    refine ⟨by omega, by omega, by omega, by omega, by omega, by omega⟩
  have HE0 : Hid (∀ W, (callFunc 89 #[.int .u64 (a0 : Int), .int .u64 (n : Int), .int .u64 0]).run Tryz.prog W = .ok (.value (.tuple #[.int .u64 (s0 : Int), .int .u64 (k1 : Int)])) W) := e0
  have HE1 : Hid (∀ W, (callFunc 89 #[.int .u64 (a1 : Int), .int .u64 0, .int .u64 (k1 : Int)]).run Tryz.prog W = .ok (.value (.tuple #[.int .u64 (s1 : Int), .int .u64 (k2 : Int)])) W) := e1
  have HE2 : Hid (∀ W, (callFunc 89 #[.int .u64 (a2 : Int), .int .u64 0, .int .u64 (k2 : Int)]).run Tryz.prog W = .ok (.value (.tuple #[.int .u64 (s2 : Int), .int .u64 (k3 : Int)])) W) := e2
  have HE3 : Hid (∀ W, (callFunc 89 #[.int .u64 (a3 : Int), .int .u64 0, .int .u64 (k3 : Int)]).run Tryz.prog W = .ok (.value (.tuple #[.int .u64 (s3 : Int), .int .u64 (k4 : Int)])) W) := e3
  clear e0 e1 e2 e3 hs0 hk1 hs1 hk2 hs2 hk3 hs3 hk4 h0 h1 h2 h3 hn
  go_enter Tryz.func76, Tryz.ntmps76
  have c0 : ∀ o, ((w.alloc (.cells (l4 a0 a1 a2 a3).toArray 80)).alloc o).cell? ⟨w.heap.size, 0, none⟩ = some (.int .u64 (a0 : Int)) := fun o => (((Blk.new w _ _).alloc o).cell 0).trans rfl
  have f0 : ∀ o, ((w.alloc (.cells (l4 a0 a1 a2 a3).toArray 80)).alloc o).frozen? ⟨w.heap.size, 0, none⟩ = false := fun o => ((Blk.new w _ _).alloc o).frozen 0
  go_wp2_with (simp only [HE0.out])
  clear c0 f0
  go_loopg [6, 7] 3 (fun kk q6 q7 wr => ∃ (i c : Nat) (C : List Value), kk = 4 - i ∧ q7 = .int .i64 (i : Int) ∧ q6 = .int .u64 (c : Int) ∧ Blk wr w.heap.size 80 C ∧ Blk wr (w.heap.size + 1) 80 (l4 0 0 0 0) ∧ Below w.heap.size w wr ∧
    ((i = 1 ∧ c = k1 ∧ C = l4 s0 a1 a2 a3) ∨ (i = 2 ∧ c = k2 ∧ C = l4 s0 s1 a2 a3) ∨ (i = 3 ∧ c = k3 ∧ C = l4 s0 s1 s2 a3) ∨ (i = 4 ∧ c = k4 ∧ C = l4 s0 s1 s2 s3)))
  case atStart => exact ⟨1, k1, l4 s0 a1 a2 a3, rfl, rfl, rfl, (Blk.new' rfl rfl).alloc _, Blk.new' (by simp) rfl, ((Below.refl _ w).alloc (Nat.le_refl _) _).alloc (by simp) _, .inl ⟨rfl, rfl, rfl⟩⟩
  case round =>
    obtain ⟨i, cy, C, hgk, rfl, rfl, hb, hz, hB, hcase⟩ := hrel
    rcases hcase with ⟨rfl, rfl, rfl⟩ | ⟨rfl, rfl, rfl⟩ | ⟨rfl, rfl, rfl⟩ | ⟨rfl, rfl, rfl⟩
    · have cc : wr.cell? ⟨w.heap.size, 1, none⟩ = some (.int .u64 (a1 : Int)) := (hb.cell 1).trans rfl
      have ff := hb.frozen 1
      have HB2 : Hid (Blk (wr.setCell ⟨w.heap.size, 1, none⟩ (.int .u64 (s1 : Int))) w.heap.size 80 (l4 s0 s1 a2 a3)) := hb.set_ 1 (.int .u64 (s1 : Int))
      have HZ2 := Lib.hid (hz.far (p := ⟨w.heap.size, 1, none⟩) (Nat.succ_ne_self _) (.int .u64 (s1 : Int)))
      have HE2b := Lib.hid (hB.setCell (p := ⟨w.heap.size, 1, none⟩) (Nat.le_refl _) (.int .u64 (s1 : Int)))
      clear hb hz hB
      go_wp2_with (simp only [HE1.out])
      go_roundg 2
      case measure => omega
      case rel => exact ⟨2, k2, l4 s0 s1 a2 a3, rfl, by go_num, rfl, HB2.out, HZ2.out, HE2b.out, .inr (.inl ⟨rfl, rfl, rfl⟩)⟩
    · have cc : wr.cell? ⟨w.heap.size, 2, none⟩ = some (.int .u64 (a2 : Int)) := (hb.cell 2).trans rfl
      have ff := hb.frozen 2
      have HB2 : Hid (Blk (wr.setCell ⟨w.heap.size, 2, none⟩ (.int .u64 (s2 : Int))) w.heap.size 80 (l4 s0 s1 s2 a3)) := hb.set_ 2 (.int .u64 (s2 : Int))
      have HZ2 := Lib.hid (hz.far (p := ⟨w.heap.size, 2, none⟩) (Nat.succ_ne_self _) (.int .u64 (s2 : Int)))
      have HE2b := Lib.hid (hB.setCell (p := ⟨w.heap.size, 2, none⟩) (Nat.le_refl _) (.int .u64 (s2 : Int)))
      clear hb hz hB
      go_wp2_with (simp only [HE2.out])
      go_roundg 1
      case measure => omega
      case rel => exact ⟨3, k3, l4 s0 s1 s2 a3, rfl, by go_num, rfl, HB2.out, HZ2.out, HE2b.out, .inr (.inr (.inl ⟨rfl, rfl, rfl⟩))⟩
    · have cc : wr.cell? ⟨w.heap.size, 3, none⟩ = some (.int .u64 (a3 : Int)) := (hb.cell 3).trans rfl
      have ff := hb.frozen 3
      have HB2 : Hid (Blk (wr.setCell ⟨w.heap.size, 3, none⟩ (.int .u64 (s3 : Int))) w.heap.size 80 (l4 s0 s1 s2 s3)) := hb.set_ 3 (.int .u64 (s3 : Int))
      have HZ2 := Lib.hid (hz.far (p := ⟨w.heap.size, 3, none⟩) (Nat.succ_ne_self _) (.int .u64 (s3 : Int)))
      have HE2b := Lib.hid (hB.setCell (p := ⟨w.heap.size, 3, none⟩) (Nat.le_refl _) (.int .u64 (s3 : Int)))
      clear hb hz hB
      go_wp2_with (simp only [HE3.out])
      go_roundg 0
      case measure => omega
      case rel => exact ⟨4, k4, l4 s0 s1 s2 s3, rfl, by go_num, rfl, HB2.out, HZ2.out, HE2b.out, .inr (.inr (.inr ⟨rfl, rfl, rfl⟩))⟩
    · have hld := el_ld hb
      have HZ := Lib.hid hz
      have HBB := Lib.hid hB
      clear hb hz hB
      go_wp2_with ((refine wpList_store_all rfl 80 (.tmp 4) (.tmp 30) rfl (w.heap.size + 1) (l4 s0 s1 s2 s3) (by rfl) (by rfl) 80 _ HZ.out (by exact hdEl) (l4_one _ _ _ _) rfl ?_; intro w5 hb5 ho5; have HB5 := Lib.hid hb5; have HE5 := Lib.hid (ho5.below HBB.out (Nat.le_succ _) HBB.out.size); clear hb5 ho5))
      exact bodyPost_ret (res_cell_tmp rfl _ _ _ _ rfl HB5.out _ Tryz.underlying80 rfl (by exact hdEl)) rfl ⟨s0, s1, s2, s3, _, rfl, HFIN.out, HE5.out⟩
theorem and63 (x : Nat) (hx : x < 18446744073709551616) : bits .and .u64 (x : Int) 9223372036854775807 = ((x % 9223372036854775808 : Nat) : Int) := by
  refine (u64_and_nat x 9223372036854775807 (by omega) (by omega)).trans ?_
  rw [show (9223372036854775807 : Nat) = 2 ^ 63 - 1 by rfl, Nat.and_two_pow_sub_one_eq_mod]
def v4 (a b c d : Nat) : Nat := a + b * 18446744073709551616 + c * 340282366920938463463374607431768211456 + d * 6277101735386680763835789423207666416102355444464034512896
def pr : Nat := 57896044618658097711785492504343953926634992332820282019728792003956564819949
end Go.Proofs.YtlbnibmcflmohaaGreat
namespace Go.Proofs.YtlbnibmcflmohaaGreat
open Go.RowKit
attribute [local go_sem ↓] ldq_el
set_option maxRecDepth 100000 in
set_option maxHeartbeats 2000000 in
theorem norm_any (a0 a1 a2 a3 : Nat) (h0 : a0 < 18446744073709551616) (h1 : a1 < 18446744073709551616) (h2 : a2 < 18446744073709551616) (h3 : a3 < 18446744073709551616) (w : World) :
    Calls Tryz.prog 58 #[.agg (l4 a0 a1 a2 a3).toArray] w fun e w' => ∃ s0 s1 s2 s3 q : Nat, e = .returned (.agg (l4 s0 s1 s2 s3).toArray) ∧ (s0 < 18446744073709551616 ∧ s1 < 18446744073709551616 ∧ s2 < 18446744073709551616 ∧ s3 < 18446744073709551616 ∧ v4 s0 s1 s2 s3 < pr ∧ v4 a0 a1 a2 a3 = v4 s0 s1 s2 s3 + q * pr) ∧ Below w.heap.size w w' := by
  obtain ⟨t, ht⟩ : ∃ t, t = a3 / 9223372036854775808 := ⟨_, rfl⟩
  obtain ⟨b3, hb3⟩ : ∃ b, b = a3 % 9223372036854775808 := ⟨_, rfl⟩
  have e1 : (a3 : Int) / 9223372036854775808 = (t : Int) := by omega
  have e2 : bits .and .u64 (a3 : Int) 9223372036854775807 = (b3 : Int) := by rw [and63 a3 h3, hb3]
  have t0 : (0 : Int) ≤ (t : Int) := by omega
  have t1 : (t : Int) ≤ 1 := by omega
  obtain ⟨n, hn⟩ : ∃ n, n = 19 * t := ⟨_, rfl⟩
  have e3 : (19 : Int) * (t : Int) = (n : Int) := by omega
  have HP1 := Lib.hid (fun W => plus_any a0 a1 a2 b3 n h0 h1 h2 (by omega) (by omega) W)
  have HAV : Hid (b3 < 9223372036854775808 ∧ n = 19 * t ∧ t ≤ 1 ∧ a3 = t * 9223372036854775808 + b3 ∧ a0 < 18446744073709551616 ∧ a1 < 18446744073709551616 ∧ a2 < 18446744073709551616) := ⟨by omega, hn, by omega, by omega, h0, h1, h2⟩
  have c3 : ∀ o, ((w.alloc (.cells (l4 a0 a1 a2 a3).toArray 80)).alloc o).cell? ⟨w.heap.size, 3, none⟩ = some (.int .u64 (a3 : Int)) := fun o => (((Blk.new w _ _).alloc o).cell 3).trans rfl
  have f3 : ∀ o, ((w.alloc (.cells (l4 a0 a1 a2 a3).toArray 80)).alloc o).frozen? ⟨w.heap.size, 3, none⟩ = false := fun o => ((Blk.new w _ _).alloc o).frozen 3
  have hld : ∀ o, (ldAt 80 (.pointer (some ⟨w.heap.size, 0, none⟩))).run Tryz.prog ((w.alloc (.cells ((l4 a0 a1 a2 a3).set 3 (.int .u64 (b3 : Int))).toArray 80)).alloc o) = .ok (.agg (l4 a0 a1 a2 b3).toArray) ((w.alloc (.cells ((l4 a0 a1 a2 a3).set 3 (.int .u64 (b3 : Int))).toArray 80)).alloc o) := fun o => el_ld ((Blk.new w 80 (l4 a0 a1 a2 b3)).alloc o)
  have HB1 : Hid (∀ o, Blk ((w.alloc (.cells ((l4 a0 a1 a2 a3).set 3 (.int .u64 (b3 : Int))).toArray 80)).alloc o) w.heap.size 80 (l4 a0 a1 a2 b3)) := fun o => (Blk.new w 80 (l4 a0 a1 a2 b3)).alloc o
  have HE1 : Hid (∀ o, Below w.heap.size w ((w.alloc (.cells ((l4 a0 a1 a2 a3).set 3 (.int .u64 (b3 : Int))).toArray 80)).alloc o)) := fun o => ((Below.refl _ w).alloc (Nat.le_refl _) _).alloc (by simp) _
  clear ht hb3 hn h0 h1 h2 h3
  go_enter Tryz.func58, Tryz.ntmps58
  have HR1 : Hid (∀ W, W = (w.alloc (.cells ((l4 a0 a1 a2 a3).set 3 (.int .u64 (b3 : Int))).toArray 80)).alloc (.cells (l4 0 0 0 0).toArray 80) → Blk W (w.heap.size + 1) 80 (l4 0 0 0 0)) := fun W hW => hW ▸ Blk.new' (by simp) rfl
  go_upto_region 4 with (first
    | (go_at_call 76; (with_reducible refine (HP1.out _).mono ?_); rintro e w1 ⟨s0, s1, s2, s3, k, rfl, hv, hB1⟩; have HZ1 := Lib.hid ((HB1.out _).below hB1 (by simp <;> omega)); have HQ1 := Lib.hid ((HR1.out _ rfl).below hB1 (by simp <;> omega)); have HE2 := Lib.hid ((HE1.out _).trans (hB1.mono (by simp <;> omega))); have HV1 := Lib.hid hv; clear hB1 hv)
    | (refine wpList_store_all rfl 80 (.tmp 1) (.tmp 18) rfl w.heap.size (l4 s0 s1 s2 s3) (by rfl) (by rfl) 80 _ HZ1.out (by exact hdEl) (l4_one _ _ _ _) rfl ?_; intro w2 hb2 ho2; have HB2 := Lib.hid hb2; have HE3 := Lib.hid (ho2.below HE2.out (Nat.le_refl _) HE2.out.size); have HQ2 := Lib.hid (ho2.blk HQ1.out (by omega)); clear hb2 ho2))
  have HP2 : Hid (∀ W, Calls Tryz.prog 76 #[.agg (l4 s0 s1 s2 s3).toArray, .int .u64 19] W fun e w' => ∃ r0 r1 r2 r3 k : Nat, e = .returned (.tuple #[.agg (l4 r0 r1 r2 r3).toArray, .int .u64 (k : Int)]) ∧ (r0 < 18446744073709551616 ∧ r1 < 18446744073709551616 ∧ r2 < 18446744073709551616 ∧ r3 < 18446744073709551616 ∧ k ≤ 1 ∧
      r0 + r1 * 18446744073709551616 + r2 * 340282366920938463463374607431768211456 + r3 * 6277101735386680763835789423207666416102355444464034512896 + k * 115792089237316195423570985008687907853269984665640564039457584007913129639936 = s0 + s1 * 18446744073709551616 + s2 * 340282366920938463463374607431768211456 + s3 * 6277101735386680763835789423207666416102355444464034512896 + 19) ∧ Below W.heap.size W w') :=
    fun W => plus_any s0 s1 s2 s3 19 HV1.out.1 HV1.out.2.1 HV1.out.2.2.1 HV1.out.2.2.2.1 (by omega) W
  have hl2 := el_ld HB2.out
  go_upto_region 5 with (first
    | (go_at_call 76; (with_reducible refine (HP2.out _).mono ?_); rintro e w3 ⟨r0, r1, r2, r3, k2, rfl, hv, hB1⟩; have HB3 := qbl HB2 hB1; have HQ3 := qbl HQ2 hB1; have HE4 := qtr HE3 hB1; have HV2 := Lib.hid hv; clear hB1 hv)
    | (refine wpList_store_all rfl 80 (.tmp 4) (.tmp 23) rfl w3.heap.size (l4 r0 r1 r2 r3) (by rfl) (by rfl) 80 (l4 0 0 0 0) (by exact Blk.new' rfl rfl) (by exact hdEl) (l4_one _ _ _ _) rfl ?_; intro w4 hb4 ho4; have HT4 := Lib.hid hb4; have HE5 := Lib.hid (ho4.below (HE4.out.alloc HE4.out.size _) HE4.out.size (by have := HE4.out.size; simp; omega)); have HB4 := qal ho4 HB3 (by have := HB3.out.lt; omega); have HQ4 := qal ho4 HQ3 (by have := HQ3.out.lt; omega); clear hb4 ho4))
  clear hl2
  have cc : w4.cell? ⟨w3.heap.size, 3, none⟩ = some (.int .u64 (r3 : Int)) := (HT4.out.cell 3).trans rfl
  have ff := HT4.out.frozen 3
  have hr3 := HV2.out.2.2.2.1
  rcases Nat.lt_or_ge r3 9223372036854775808 with hu | hu
  · have ee : (r3 : Int) / 9223372036854775808 = 0 := by omega
    have hl4 := el_ld HB4.out
    have HU := Lib.hid hu
    clear hu hr3 c3 f3 hld t0 t1
    go_wp2_with ((refine wpList_store_all rfl 80 (.tmp 2) (.tmp 29) rfl (w.heap.size + 1) (l4 s0 s1 s2 s3) (by rfl) (by rfl) 80 _ HQ4.out (by exact hdEl) (l4_one _ _ _ _) rfl ?_; intro w5 hb5 ho5; have HB5 := Lib.hid hb5; have HE6 := Lib.hid (ho5.below HE5.out (Nat.le_succ _) HE5.out.size); clear hb5 ho5))
    refine bodyPost_ret (res_cell rfl _ _ _ _ rfl HB5.out _ Tryz.underlying80 rfl (by exact hdEl)) rfl ⟨s0, s1, s2, s3, t, rfl, ?_, HE6.out⟩
    have h1 := HV1.out; have h2 := HV2.out; have h3 := HAV.out; have h4 := HU.out
    simp only [v4, pr]
    refine ⟨h1.1, h1.2.1, h1.2.2.1, h1.2.2.2.1, ?_, ?_⟩ <;> omega
  · have ee : (r3 : Int) / 9223372036854775808 = 1 := by omega
    obtain ⟨q3, hq3⟩ : ∃ q, q = r3 % 9223372036854775808 := ⟨_, rfl⟩
    have eb : bits .and .u64 (r3 : Int) 9223372036854775807 = (q3 : Int) := by rw [and63 r3 hr3, hq3]
    have HU : Hid (r3 = q3 + 9223372036854775808 ∧ q3 < 9223372036854775808) := ⟨by omega, by omega⟩
    have HT5 : Hid (Blk (w4.setCell ⟨w3.heap.size, 3, none⟩ (.int .u64 (q3 : Int))) w3.heap.size 80 (l4 r0 r1 r2 q3)) := HT4.out.set_ 3 (.int .u64 (q3 : Int))
    have hl5 := el_ld HT5.out
    have HQ5 := Lib.hid (HQ4.out.far (p := ⟨w3.heap.size, 3, none⟩) (by have := HQ3.out.lt; simp; omega) (.int .u64 (q3 : Int)))
    have HE6 := Lib.hid (HE5.out.setCell (p := ⟨w3.heap.size, 3, none⟩) HE4.out.size (.int .u64 (q3 : Int)))
    clear hu hr3 hq3 c3 f3 hld t0 t1
    go_wp2_with ((refine wpList_store_all rfl 80 (.tmp 2) (.tmp 34) rfl (w.heap.size + 1) (l4 r0 r1 r2 q3) (by rfl) (by rfl) 80 _ HQ5.out (by exact hdEl) (l4_one _ _ _ _) rfl ?_; intro w5 hb5 ho5; have HB5 := Lib.hid hb5; have HE7 := Lib.hid (ho5.below HE6.out (Nat.le_succ _) HE6.out.size); clear hb5 ho5))
    refine bodyPost_ret (res_cell rfl _ _ _ _ rfl HB5.out _ Tryz.underlying80 rfl (by exact hdEl)) rfl ⟨r0, r1, r2, q3, t + 1, rfl, ?_, HE7.out⟩
    have h1 := HV1.out; have h2 := HV2.out; have h3 := HAV.out; have h4 := HU.out
    simp only [v4, pr]
    refine ⟨h2.1, h2.2.1, h2.2.2.1, by omega, ?_, ?_⟩ <;> omega
end Go.Proofs.YtlbnibmcflmohaaGreat
namespace Go.Proofs.YtlbnibmcflmohaaGreat
open Go.RowKit
theorem mul_lt (x y : Nat) (hx : x < 18446744073709551616) (hy : y < 18446744073709551616) : x * y ≤ (18446744073709551616 - 1) * (18446744073709551616 - 1) := Nat.mul_le_mul (by omega) (by omega)
set_option maxRecDepth 100000 in
set_option maxHeartbeats 2000000 in
theorem step_any (x y c d : Nat) (hx : x < 18446744073709551616) (hy : y < 18446744073709551616) (hc : c < 18446744073709551616) (hd : d < 18446744073709551616) (w : World) :
    Calls Tryz.prog 87 #[.int .u64 (x : Int), .int .u64 (y : Int), .int .u64 (c : Int), .int .u64 (d : Int)] w fun e w' => ∃ lo hi : Nat, e = .returned (.tuple #[.int .u64 (lo : Int), .int .u64 (hi : Int)]) ∧ lo < 18446744073709551616 ∧ hi < 18446744073709551616 ∧ hi * 18446744073709551616 + lo = x * y + c + d ∧ w = w' := by
  have hm := mul_lt x y hx hy
  obtain ⟨p, hp⟩ : ∃ p, p = x * y := ⟨_, rfl⟩
  rw [← hp] at hm
  have HM : Hid (∀ W, Calls Tryz.prog 95 #[.int .u64 (x : Int), .int .u64 (y : Int)] W fun e w' => e = .returned (.tuple #[.int .u64 ((p / 18446744073709551616 : Nat) : Int), .int .u64 ((p % 18446744073709551616 : Nat) : Int)]) ∧ W = w') := hp ▸ fun W => mul64_any x y hx hy W
  obtain ⟨h, hh⟩ : ∃ h, h = p / 18446744073709551616 := ⟨_, rfl⟩
  obtain ⟨l, hl⟩ : ∃ l, l = p % 18446744073709551616 := ⟨_, rfl⟩
  rw [← hh, ← hl] at HM
  obtain ⟨l1, hl1⟩ : ∃ s, s = (l + c + 0) % 18446744073709551616 := ⟨_, rfl⟩
  obtain ⟨k1, hk1⟩ : ∃ k, k = (l + c + 0) / 18446744073709551616 := ⟨_, rfl⟩
  obtain ⟨l2, hl2⟩ : ∃ s, s = (l1 + d + 0) % 18446744073709551616 := ⟨_, rfl⟩
  obtain ⟨k2, hk2⟩ : ∃ k, k = (l1 + d + 0) / 18446744073709551616 := ⟨_, rfl⟩
  have e1 := fun W => c_add64 l c 0 (by omega) W
  rw [← hl1, ← hk1] at e1
  have e2 := fun W => c_add64 l1 d 0 (by omega) W
  rw [← hl2, ← hk2] at e2
  have HE1 : Hid (∀ W, (callFunc 89 #[.int .u64 (l : Int), .int .u64 (c : Int), .int .u64 0]).run Tryz.prog W = .ok (.value (.tuple #[.int .u64 (l1 : Int), .int .u64 (k1 : Int)])) W) := e1
  have HE2 : Hid (∀ W, (callFunc 89 #[.int .u64 (l1 : Int), .int .u64 (d : Int), .int .u64 0]).run Tryz.prog W = .ok (.value (.tuple #[.int .u64 (l2 : Int), .int .u64 (k2 : Int)])) W) := e2
  obtain ⟨h1, hh1⟩ : ∃ s, s = h + k1 := ⟨_, rfl⟩
  obtain ⟨h2, hh2⟩ : ∃ s, s = h1 + k2 := ⟨_, rfl⟩
  have b1 : h1 < 18446744073709551616 := by omega
  have b2 : h2 < 18446744073709551616 := by omega
  have w1 : IntKind.u64.wrap ((h : Int) + (k1 : Int)) = (h1 : Int) := by rw [show (h : Int) + (k1 : Int) = (h1 : Int) by omega]; rw [IntKind.wrap_u64]; omega
  have w2 : IntKind.u64.wrap ((h1 : Int) + (k2 : Int)) = (h2 : Int) := by rw [show (h1 : Int) + (k2 : Int) = (h2 : Int) by omega]; rw [IntKind.wrap_u64]; omega
  have HF : Hid (l2 < 18446744073709551616 ∧ h2 < 18446744073709551616 ∧ h2 * 18446744073709551616 + l2 = x * y + c + d) := ⟨by omega, b2, by omega⟩
  clear e1 e2 hm hp hh hl hl1 hk1 hl2 hk2 hh1 hh2 b1 b2 hx hy hc hd
  go_enter Tryz.func87, Tryz.ntmps87
  go_wp2_with (first | (go_at_call 95; (with_reducible refine (HM.out _).mono ?_); rintro e w3 ⟨rfl, rfl⟩) | (simp only [HE1.out]) | (simp only [HE2.out]))
  refine bodyPost_ret (results_tmp2 rfl _ _ _) rfl ⟨l2, h2, rfl, HF.out.1, HF.out.2.1, HF.out.2.2, rfl⟩
end Go.Proofs.YtlbnibmcflmohaaGreat
