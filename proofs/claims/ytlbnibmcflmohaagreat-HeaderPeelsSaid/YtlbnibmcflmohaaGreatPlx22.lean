/- Part of the proof: RfD. -/
import Derived.Test.YtlbnibmcflmohaaGreatPlx18
namespace Go.Proofs.YtlbnibmcflmohaaGreat
open Go.RowKit
end Go.Proofs.YtlbnibmcflmohaaGreat
/- shallotref01.Get and Put, the least first. -/
namespace Go.Proofs.YtlbnibmcflmohaaGreat
open Go.RowKit
def leNat (l : List UInt8) : Nat := beNat l.reverse
theorem leNat_snoc (l : List UInt8) (c : UInt8) : leNat (l ++ [c]) = leNat l + 256 ^ l.length * c.toNat := by
  unfold leNat
  rw [List.reverse_append]
  show beNat (c :: l.reverse) = _
  rw [beNat_cons, List.length_reverse, Nat.mul_comm, Nat.add_comm]
theorem leNat_lt (l : List UInt8) : leNat l < 256 ^ l.length := by
  have := beNat_lt l.reverse
  rwa [List.length_reverse] at this
theorem shape_1 (n : Int) (h1 : 1 ≤ n) (h2 : n ≤ 8) (w : World) : Calls Tryz.prog 74 #[.int .i64 1, .int .i64 n] w fun e w' => e = .returned (.bool true) ∧ w = w' := by
  have e1 : decide (1 ≤ n) = true := by simpa using h1
  have e2 : decide (n ≤ 8) = true := by simpa using h2
  go_enter Tryz.func74, Tryz.ntmps74
  go_wp2
  go_ret
  exact ⟨by simp, rfl⟩
set_option maxHeartbeats 400000 in
theorem rget_1 (A : Option Addr) (n c at_ k : Nat) (l : List UInt8) (w : World) (h : Rd w A n (u8s l)) (hn : n ≤ 140737488355328) (h1 : 1 ≤ k) (h2 : k ≤ 8) (h3 : at_ + k ≤ n) :
    Calls Tryz.prog 55 #[.int .i64 1, .slice A n c, .int .i64 at_, .int .i64 k] w fun e w' => e = .returned (.tuple #[.int .u64 (leNat ((l.drop at_).take k)), .int .i64 0]) ∧ w = w' := by
  have hl := h.len
  have HL := Lib.hid hl
  clear hl
  have e1 : decide ((at_ : Int) < 0) = false := by simp
  have e2 : decide ((n : Int) < (k : Int)) = false := by simp; omega
  have e3 : decide ((n : Int) - (k : Int) < (at_ : Int)) = false := by simp; omega
  go_enter Tryz.func55, Tryz.ntmps55
  go_wp2_with (go_at_call 74; refine (shape_1 _ (by omega) (by omega) _).mono ?_; rintro e w' ⟨rfl, rfl⟩)
  go_loop [10, 11, 12] (fun m p i => ∃ j : Nat, j ≤ k ∧ i = .int .i64 j ∧ p = .int .u64 ((256 ^ j % 18446744073709551616 : Nat) : Int) ∧ m = .int .u64 (leNat ((l.drop at_).take j))) (fun _ _ i => k - (intOf i).toNat)
  case atStart => exact ⟨0, Nat.zero_le _, rfl, rfl, rfl⟩
  case round =>
    obtain ⟨j, hj, rfl, rfl, rfl⟩ := hrel
    by_cases hlt : j < k
    · obtain ⟨b, off, x, rfl, hb, HX, hc⟩ := h.u8 (k := at_ + j) (by omega)
      have hbd := leNat_lt ((l.drop at_).take j)
      have hs : leNat ((l.drop at_).take (j + 1)) = leNat ((l.drop at_).take j) + 256 ^ j * x.toNat := by
        rw [List.take_add_one, List.getElem?_drop, HX.out]
        show leNat (_ ++ [x]) = _
        rw [leNat_snoc, List.length_take, List.length_drop, HL.out, Nat.min_eq_left (by omega)]
      have HS := Lib.hid hs
      have HBD := Lib.hid hbd
      have i0 : (0 : Int) ≤ (at_ : Int) + (j : Int) := by omega
      have i1 : (at_ : Int) + (j : Int) < (n : Int) := by omega
      clear hs hbd
      generalize leNat ((l.drop at_).take j) = m at *
      have hm : m < 256 ^ j := Nat.lt_of_lt_of_le HBD.out (Nat.pow_le_pow_right (by omega) (List.length_take_le _ _))
      have hst := rget_step j m x (by omega) hm
      have HST := Lib.hid hst
      clear hst hm HBD
      generalize hp : 256 ^ j % 18446744073709551616 = p at *
      have HP := Lib.hid hp
      clear hp
      go_wp2
      go_round
      case rel => exact ⟨j + 1, by omega, by go_num, by rw [HST.out.1], by rw [HST.out.2, HS.out]⟩
      case measure => simp [intOf]; omega
    · have : j = k := by omega
      subst this
      go_wp2
      go_ret2
      exact ⟨rfl, rfl⟩
end Go.Proofs.YtlbnibmcflmohaaGreat
/- shallotref04.Quarter. -/
namespace Go.Proofs.YtlbnibmcflmohaaGreat
open Go.RowKit
attribute [local go_sem] n32_addm n32_add
end Go.Proofs.YtlbnibmcflmohaaGreat
/- shallotref04.words: bytes as words, the least first. -/
namespace Go.Proofs.YtlbnibmcflmohaaGreat
open Go.RowKit
end Go.Proofs.YtlbnibmcflmohaaGreat
