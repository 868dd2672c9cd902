/- codec.Get and the reference's Get: the number that bytes are, big end first. -/
import Derived.Test.YtgkhglnfbhdkeaaCodec
namespace Go.Proofs.Ytgkhglnfbhdkeaa
open Go.RowKit

def beNat (l : List UInt8) : Nat := l.foldl (fun n c => n * 256 + c.toNat) 0
theorem beNat_snoc (l : List UInt8) (c : UInt8) : beNat (l ++ [c]) = beNat l * 256 + c.toNat := by simp [beNat]
theorem beNat_from (l : List UInt8) : ∀ n, l.foldl (fun n c => n * 256 + c.toNat) n = n * 256 ^ l.length + beNat l := by
  induction l with
  | nil => intro n; simp [beNat]
  | cons c l ih =>
    intro n
    have h1 := ih (n * 256 + c.toNat)
    have h2 := ih (0 * 256 + c.toNat)
    simp only [List.foldl_cons, List.length_cons, beNat] at h1 h2 ⊢
    rw [h1, h2, Nat.pow_succ, Nat.add_mul, Nat.zero_mul, Nat.zero_add, Nat.mul_assoc, Nat.mul_comm 256, Nat.add_assoc]
theorem beNat_cons (c : UInt8) (l : List UInt8) : beNat (c :: l) = c.toNat * 256 ^ l.length + beNat l := by
  have := beNat_from l (0 * 256 + c.toNat)
  rw [Nat.zero_mul, Nat.zero_add] at this
  rw [← this]
  simp [beNat]
theorem beNat_lt (l : List UInt8) : beNat l < 256 ^ l.length := by
  induction l with
  | nil => simp [beNat]
  | cons c l ih =>
    rw [beNat_cons, List.length_cons, Nat.pow_succ]
    have h := c.toNat_lt
    have : c.toNat * 256 ^ l.length ≤ 255 * 256 ^ l.length := Nat.mul_le_mul_right _ (by omega)
    omega

theorem or_byte (m : Nat) (x : UInt8) (h : m < 72057594037927936) : bits .or .u64 (IntKind.u64.wrap ((m : Int) * 256)) (IntKind.u64.wrap (x.toNat : Int)) = ((m * 256 + x.toNat : Nat) : Int) := by
  have hx := x.toNat_lt
  rw [show IntKind.u64.wrap ((m : Int) * 256) = ((m * 256 : Nat) : Int) from by rw [IntKind.wrap_u64]; omega, show IntKind.u64.wrap (x.toNat : Int) = ((x.toNat : Nat) : Int) from by rw [IntKind.wrap_u64]; omega,
    bits_or_u64_nat _ _ (by omega) (by omega)]
  have := Nat.two_pow_add_eq_or_of_lt (b := x.toNat) (i := 8) (by omega) m
  rw [Nat.mul_comm m 256]
  exact congrArg Int.ofNat (by simpa using this.symm)

theorem pow_le_56 {j k : Nat} (h : j < k) (h2 : k ≤ 8) : 256 ^ j ≤ 72057594037927936 := by
  have : 256 ^ j ≤ 256 ^ 7 := Nat.pow_le_pow_right (by omega) (by omega)
  simpa using this

set_option maxHeartbeats 400000 in
theorem valid_2 (n : Int) (h1 : 1 ≤ n) (h2 : n ≤ 8) (w : World) : Calls Try.prog 56 #[.int .i64 2, .int .i64 n] w fun e w' => e = .returned (.bool true) ∧ w = w' := by
  have e1 : decide (1 ≤ n) = true := by simpa using h1
  have e2 : decide (n ≤ 8) = true := by simpa using h2
  go_enter Try.func56, Try.ntmps56
  go_wp2
  go_ret
  exact ⟨by simp, rfl⟩
set_option maxHeartbeats 400000 in
theorem shape_2 (n : Int) (h1 : 1 ≤ n) (h2 : n ≤ 8) (w : World) : Calls Try.prog 139 #[.int .i64 2, .int .i64 n] w fun e w' => e = .returned (.bool true) ∧ w = w' := by
  have e1 : decide (1 ≤ n) = true := by simpa using h1
  have e2 : decide (n ≤ 8) = true := by simpa using h2
  go_enter Try.func139, Try.ntmps139
  go_wp2
  go_ret
  exact ⟨by simp, rfl⟩

set_option maxHeartbeats 400000 in
theorem get_2 (A : Option Addr) (n c at_ k : Nat) (l : List UInt8) (w : World) (h : Rd w A n (u8s l)) (hn : n ≤ 140737488355328) (h1 : 1 ≤ k) (h2 : k ≤ 8) (h3 : at_ + k ≤ n) :
    Calls Try.prog 34 #[.int .i64 2, .slice A n c, .int .i64 at_, .int .i64 k] w fun e w' => e = .returned (.tuple #[.int .u64 (beNat ((l.drop at_).take k)), .int .i64 0]) ∧ w = w' := by
  have hl := h.len
  have HL := Lib.hid hl
  clear hl
  have e1 : decide ((at_ : Int) < 0) = false := by simp
  have e2 : decide ((n : Int) < (at_ : Int)) = false := by simp; omega
  have e3 : decide ((n : Int) - (at_ : Int) < (k : Int)) = false := by simp; omega
  go_enter Try.func34, Try.ntmps34
  go_wp2_with (go_at_call 56; refine (valid_2 _ (by omega) (by omega) _).mono ?_; rintro e w' ⟨rfl, rfl⟩)
  go_loop [10, 11] (fun m i => ∃ j : Nat, j ≤ k ∧ i = .int .i64 j ∧ m = .int .u64 (beNat ((l.drop at_).take j))) (fun _ i => k - (intOf i).toNat)
  case atStart => exact ⟨0, Nat.zero_le _, rfl, rfl⟩
  case round =>
    obtain ⟨j, hj, rfl, rfl⟩ := hrel
    by_cases hlt : j < k
    · obtain ⟨b, off, x, rfl, hb, HX, hc⟩ := h.u8 (k := at_ + j) (by omega)
      have hbd := beNat_lt ((l.drop at_).take j)
      have hs : beNat ((l.drop at_).take (j + 1)) = beNat ((l.drop at_).take j) * 256 + x.toNat := by
        rw [List.take_add_one, List.getElem?_drop, HX.out]; exact beNat_snoc _ _
      have HS := Lib.hid hs
      have HBD := Lib.hid hbd
      have i0 : (0 : Int) ≤ (at_ : Int) + (j : Int) := by omega
      have i1 : (at_ : Int) + (j : Int) < (n : Int) := by omega
      clear hs hbd
      generalize beNat ((l.drop at_).take j) = m at *
      have hm : m < 72057594037927936 := Nat.lt_of_lt_of_le HBD.out (Nat.le_trans (Nat.pow_le_pow_right (by omega) (List.length_take_le _ _)) (pow_le_56 hlt h2))
      have hor := or_byte m x hm
      have HO := Lib.hid hor
      clear hor HBD hm
      go_wp2
      go_round
      case rel => exact ⟨j + 1, by omega, by go_num, by rw [HO.out, HS.out]⟩
      case measure => simp [intOf]; omega
    · have : j = k := by omega
      subst this
      go_wp2
      go_ret2
      exact ⟨rfl, rfl⟩


theorem beNat_rev (l : List UInt8) (at_ k j : Nat) (x : UInt8) (hj : j < k) (h : at_ + k ≤ l.length) (hx : l[at_ + k - 1 - j]? = some x) :
    beNat ((l.drop (at_ + k - (j + 1))).take (j + 1)) = beNat ((l.drop (at_ + k - j)).take j) + 256 ^ j * x.toNat := by
  have e : (l.drop (at_ + k - (j + 1))).take (j + 1) = x :: (l.drop (at_ + k - j)).take j := by
    have hlt : at_ + k - (j + 1) < l.length := by omega
    rw [List.drop_eq_getElem_cons hlt, List.take_succ_cons]
    rw [show at_ + k - 1 - j = at_ + k - (j + 1) from by omega, List.getElem?_eq_getElem hlt] at hx
    injection hx with hx
    rw [hx, show at_ + k - (j + 1) + 1 = at_ + k - j from by omega]
  rw [e, beNat_cons, List.length_take, List.length_drop, Nat.min_eq_left (by omega), Nat.mul_comm, Nat.add_comm]

theorem rget_step (j m : Nat) (x : UInt8) (hj : j ≤ 7) (hm : m < 256 ^ j) :
    IntKind.u64.wrap (((256 ^ j % 18446744073709551616 : Nat) : Int) * 256) = ((256 ^ (j + 1) % 18446744073709551616 : Nat) : Int) ∧
    IntKind.u64.wrap ((m : Int) + IntKind.u64.wrap (((256 ^ j % 18446744073709551616 : Nat) : Int) * IntKind.u64.wrap (x.toNat : Int))) = ((m + 256 ^ j * x.toNat : Nat) : Int) := by
  have hp : 256 ^ j ≤ 72057594037927936 := pow_le_56 (k := 8) (by omega) (by omega)
  have hx := x.toNat_lt
  rw [Nat.pow_succ]
  generalize 256 ^ j = P at *
  have hmul : P * x.toNat ≤ P * 255 := Nat.mul_le_mul_left _ (by omega)
  have e1 : P % 18446744073709551616 = P := Nat.mod_eq_of_lt (by omega)
  rw [e1]
  have e2 : IntKind.u64.wrap (x.toNat : Int) = (x.toNat : Int) := by rw [IntKind.wrap_u64]; omega
  rw [e2]
  have e3 : (P : Int) * (x.toNat : Int) = ((P * x.toNat : Nat) : Int) := by simp
  rw [e3]
  generalize P * x.toNat = Y at *
  constructor
  · rw [IntKind.wrap_u64]; omega
  · rw [IntKind.wrap_u64, IntKind.wrap_u64]; omega

set_option maxHeartbeats 400000 in
theorem rget_2 (A : Option Addr) (n c at_ k : Nat) (l : List UInt8) (w : World) (h : Rd w A n (u8s l)) (hn : n ≤ 140737488355328) (h1 : 1 ≤ k) (h2 : k ≤ 8) (h3 : at_ + k ≤ n) :
    Calls Try.prog 137 #[.int .i64 2, .slice A n c, .int .i64 at_, .int .i64 k] w fun e w' => e = .returned (.tuple #[.int .u64 (beNat ((l.drop at_).take k)), .int .i64 0]) ∧ w = w' := by
  have hl := h.len
  have HL := Lib.hid hl
  clear hl
  have e1 : decide ((at_ : Int) < 0) = false := by simp
  have e2 : decide ((n : Int) < (k : Int)) = false := by simp; omega
  have e3 : decide ((n : Int) - (k : Int) < (at_ : Int)) = false := by simp; omega
  go_enter Try.func137, Try.ntmps137
  go_wp2_with (go_at_call 139; refine (shape_2 _ (by omega) (by omega) _).mono ?_; rintro e w' ⟨rfl, rfl⟩)
  go_loop [10, 11, 12] (fun m p i => ∃ j : Nat, j ≤ k ∧ i = .int .i64 j ∧ p = .int .u64 ((256 ^ j % 18446744073709551616 : Nat) : Int) ∧ m = .int .u64 (beNat ((l.drop (at_ + k - j)).take j))) (fun _ _ i => k - (intOf i).toNat)
  case atStart => exact ⟨0, Nat.zero_le _, rfl, rfl, rfl⟩
  case round =>
    obtain ⟨j, hj, rfl, rfl, rfl⟩ := hrel
    by_cases hlt : j < k
    · obtain ⟨b, off, x, rfl, hb, HX, hc⟩ := h.u8 (k := at_ + k - 1 - j) (by omega)
      have hbd := beNat_lt ((l.drop (at_ + k - j)).take j)
      have hs := beNat_rev l at_ k j x hlt (by rw [HL.out]; exact h3) HX.out
      have HS := Lib.hid hs
      have HBD := Lib.hid hbd
      have i0 : (0 : Int) ≤ (at_ : Int) + (k : Int) - 1 - (j : Int) := by omega
      have i1 : (at_ : Int) + (k : Int) - 1 - (j : Int) < (n : Int) := by omega
      clear hs hbd
      generalize beNat ((l.drop (at_ + k - j)).take j) = m at *
      have hm : m < 256 ^ j := Nat.lt_of_lt_of_le HBD.out (Nat.pow_le_pow_right (by omega) (List.length_take_le _ _))
      have hst := rget_step j m x (by omega) hm
      have HST := Lib.hid hst
      clear hst hm HBD
      generalize hp : 256 ^ j % 18446744073709551616 = p at *
      have HP := Lib.hid hp
      clear hp
      go_wp2
      go_round
      case rel => exact ⟨j + 1, by omega, by go_num, by rw [HST.out.1], by rw [HST.out.2, HS.out]⟩
      case measure => simp [intOf]; omega
    · have : j = k := by omega
      subst this
      go_wp2
      go_ret2
      exact ⟨rfl, rfl⟩

end Go.Proofs.Ytgkhglnfbhdkeaa
