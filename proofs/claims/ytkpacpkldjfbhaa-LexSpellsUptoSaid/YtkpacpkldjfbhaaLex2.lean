/- The scanner's run, skip and add. -/
import Derived.Test.YtkpacpkldjfbhaaLex1
namespace Go.Proofs.Ytkpacpkldjfbhaa
open Go.RowKit

set_option maxHeartbeats 2000000 in
theorem run_any (g : Nat) (s : ByteArray) (i : Nat) (letters : Bool) (w : World) (hc : w.cell? ⟨g, 0, none⟩ = some (.string s)) (hi : i ≤ s.size) (hs : s.size ≤ 8000) :
    Calls Try.prog 65 #[.pointer (some ⟨g, 0, none⟩), .int .i64 i, .bool letters] w fun e w' => e = .returned (.int .i64 ((i + ((s.data.toList.drop i).takeWhile (runP letters)).length : Nat) : Int)) ∧ w' = w := by
  go_enter Try.func65, Try.ntmps65
  go_wp2_with fail
  go_loop [1] (fun v => ∃ k : Nat, k ≤ s.size ∧ v = .int .i64 k ∧ Hid (k + ((s.data.toList.drop k).takeWhile (runP letters)).length = i + ((s.data.toList.drop i).takeWhile (runP letters)).length)) (fun v => s.size - (intOf v).toNat)
  case atStart => exact ⟨i, hi, rfl, rfl⟩
  case round =>
    obtain ⟨k, hk, rfl, HK⟩ := hrel
    by_cases hlt : k < s.size
    · have hx := str_at s k hlt
      have i0 : (0 : Int) ≤ (k : Int) := by omega
      have i1 : (k : Int) < (s.size : Int) := by omega
      generalize hxx : s[k] = x at hx
      by_cases hp : runP letters x = true
      · have HST := Lib.hid (run_step hx hp)
        have hcase : Lx.digit x = true ∨ (Lx.digit x = false ∧ letters = true ∧ Lx.letter x = true) := by
          cases letters <;> simp [runP, Lx.alnum] at hp <;> cases hd : Lx.digit x <;> simp_all
        clear hx hp
        rcases hcase with hd | ⟨hd, rfl, hl⟩
        all_goals
          go_wp2_with (first
            | (go_at_call 55; refine (digit_any _ _).mono ?_; rintro e w' ⟨rfl, rfl⟩)
            | (go_at_call 53; refine (letter_any _ _).mono ?_; rintro e w' ⟨rfl, rfl⟩))
          go_round
          case rel => exact ⟨k + 1, by omega, by go_num, by show _ = _; rw [← HK.out, HST.out]; omega⟩
          case measure => simp [intOf]; omega
      · have hp' : runP letters x = false := by simpa using hp
        have HST := Lib.hid (run_stop hx hp')
        have hcase : Lx.digit x = false ∧ (letters = false ∨ (letters = true ∧ Lx.letter x = false)) := by
          cases letters <;> simp [runP, Lx.alnum] at hp' <;> simp_all
        clear hx hp hp'
        obtain ⟨hd, rfl | ⟨rfl, hl⟩⟩ := hcase
        all_goals
          go_wp2_with (first
            | (go_at_call 55; refine (digit_any _ _).mono ?_; rintro e w' ⟨rfl, rfl⟩)
            | (go_at_call 53; refine (letter_any _ _).mono ?_; rintro e w' ⟨rfl, rfl⟩))
          go_ret
          refine ⟨ret_int ?_, rfl⟩
          rw [← HK.out, HST.out]
          simp
    · have HST := Lib.hid (run_end (p := runP letters) (l := s.data.toList) (i := k) (by simp; omega))
      have hge : decide ((k : Int) < (s.size : Int)) = false := by simp; omega
      go_wp2_with fail
      go_ret
      refine ⟨ret_int ?_, rfl⟩
      have h1 := HK.out
      have h2 := HST.out
      omega

end Go.Proofs.Ytkpacpkldjfbhaa
