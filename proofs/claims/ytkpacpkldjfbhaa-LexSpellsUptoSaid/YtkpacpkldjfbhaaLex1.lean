/- Small functions of the scanner: letter, digit, reserved, mark, hex, IndexByte at constant strings, run. -/
import Derived.Test.YtkpacpkldjfbhaaBaseb
import Derived.Test.YtkpacpkldjfbhaaLexSpec
import Derived.Shelf.Strings.Search1
import Derived.Shelf.Small.Strs
namespace Go.Proofs.Ytkpacpkldjfbhaa
open Go.RowKit

def Try.lays137_ren : Go.Shelf.Ren := ⟨fun | 137 => 52 | 217 => 64 | 266 => 70 | n => n, fun | 9 => 9 | 5 => 5 | 3 => 3 | n => n, fun | n => n⟩
theorem Try.lays137 : Go.Proofs.Lays.n137 Try.prog Try.lays137_ren := {
  mixed := by kernel_rfl
  f137 := Try.func52.trans (congrArg some (by kernel_rfl))
  f217 := Try.func64.trans (congrArg some (by kernel_rfl))
  f266 := Try.func70.trans (congrArg some (by kernel_rfl))
  t3 := Try.underlying3
  a3 := Try.isAgg3
  z3 := Try.sizeOf3
  v3 := Try.zeroValue3
  t5 := Try.underlying5
  a5 := Try.isAgg5
  z5 := Try.sizeOf5
  v5 := Try.zeroValue5
  t9 := Try.underlying9
  a9 := Try.isAgg9
  z9 := Try.sizeOf9
  v9 := Try.zeroValue9 }
theorem indexByte_any (s : ByteArray) (x : UInt8) (w : World) :
    Calls Try.prog 52 #[.string s, .int .u8 x.toNat] w fun e w' => e = .returned (.int .i64 (Lib.indexByte s.data.toList x)) ∧ w' = w := by
  have := Any.strings_IndexByte Try.lays137 s (x.toNat : Int) w
  simp only [Int.toNat_natCast, Nat.toUInt8_eq, UInt8.ofNat_toNat] at this
  exact this

theorem ret_bool {a b : Bool} (h : a = b) : Ending.returned (.bool a) = .returned (.bool b) := by rw [h]
theorem letter_eq (x : UInt8) : Lx.letter x = (decide (97 ≤ (x.toNat : Int)) && decide ((x.toNat : Int) ≤ 122)) := by
  rw [Bool.eq_iff_iff]; simp [Lx.letter, UInt8.le_iff_toNat_le]; omega
theorem digit_eq (x : UInt8) : Lx.digit x = (decide (48 ≤ (x.toNat : Int)) && decide ((x.toNat : Int) ≤ 57)) := by
  rw [Bool.eq_iff_iff]; simp [Lx.digit, UInt8.le_iff_toNat_le]; omega

set_option maxHeartbeats 400000 in
theorem letter_any (x : UInt8) (w : World) : Calls Try.prog 53 #[.int .u8 x.toNat] w fun e w' => e = .returned (.bool (Lx.letter x)) ∧ w' = w := by
  go_enter Try.func53, Try.ntmps53
  go_wp2
  all_goals
    go_ret
    refine ⟨ret_bool ?_, rfl⟩
    rw [letter_eq]
    simp [*]
    try omega
set_option maxHeartbeats 400000 in
theorem digit_any (x : UInt8) (w : World) : Calls Try.prog 55 #[.int .u8 x.toNat] w fun e w' => e = .returned (.bool (Lx.digit x)) ∧ w' = w := by
  go_enter Try.func55, Try.ntmps55
  go_wp2
  all_goals
    go_ret
    refine ⟨ret_bool ?_, rfl⟩
    rw [digit_eq]
    simp [*]
    try omega
set_option maxHeartbeats 400000 in
theorem rletter_any (x : UInt8) (w : World) : Calls Try.prog 43 #[.int .u8 x.toNat] w fun e w' => e = .returned (.bool (Lx.letter x)) ∧ w' = w := by
  go_enter Try.func43, Try.ntmps43
  go_wp2
  all_goals
    go_ret
    refine ⟨ret_bool ?_, rfl⟩
    rw [letter_eq]
    simp [*]
    try omega
set_option maxHeartbeats 400000 in
theorem rdigit_any (x : UInt8) (w : World) : Calls Try.prog 44 #[.int .u8 x.toNat] w fun e w' => e = .returned (.bool (Lx.digit x)) ∧ w' = w := by
  go_enter Try.func44, Try.ntmps44
  go_wp2
  all_goals
    go_ret
    refine ⟨ret_bool ?_, rfl⟩
    rw [digit_eq]
    simp [*]
    try omega

set_option maxRecDepth 100000 in
set_option maxHeartbeats 2000000 in
theorem reserved_any (s : ByteArray) (w : World) : Calls Try.prog 66 #[.string s] w fun e w' => e = .returned (.bool (Lx.reserved s.data.toList)) ∧ w' = w := by
  rw [← ByteArray.toList_eq]
  go_enter Try.func66, Try.ntmps66
  go_wp2
  all_goals first
    | (exfalso; simp_all; done)
    | (go_ret
       refine ⟨ret_bool ?_, rfl⟩
       generalize s.toList = t at *
       unfold Lx.reserved Lx.words
       simp only [List.contains_cons, List.contains_nil, Bool.or_false]
       simp [*])
set_option maxRecDepth 100000 in
set_option maxHeartbeats 2000000 in
theorem rreserved_any (s : ByteArray) (w : World) : Calls Try.prog 45 #[.string s] w fun e w' => e = .returned (.bool (Lx.reserved s.data.toList)) ∧ w' = w := by
  rw [← ByteArray.toList_eq]
  go_enter Try.func45, Try.ntmps45
  go_wp2
  all_goals first
    | (exfalso; simp_all; done)
    | (go_ret
       refine ⟨ret_bool ?_, rfl⟩
       generalize s.toList = t at *
       unfold Lx.reserved Lx.words
       simp only [List.contains_cons, List.contains_nil, Bool.or_false]
       simp [*])

theorem byte_beq (x : UInt8) (k : Nat) (h : k < 256) : (x == UInt8.ofNat k) = ((x.toNat : Int) == (k : Int)) := by
  rw [Bool.eq_iff_iff]
  simp only [beq_iff_eq]
  constructor
  · rintro rfl; simp; omega
  · intro e
    have : x.toNat = k := by omega
    rw [← this]; simp
theorem mark_eq (x : UInt8) : Lx.mark x = (((x.toNat : Int) == 59) || ((x.toNat : Int) == 44) || ((x.toNat : Int) == 123) || ((x.toNat : Int) == 125) || ((x.toNat : Int) == 40) || ((x.toNat : Int) == 41) || ((x.toNat : Int) == 61) || ((x.toNat : Int) == 62) || ((x.toNat : Int) == 64) || ((x.toNat : Int) == 33) || ((x.toNat : Int) == 43) || ((x.toNat : Int) == 45) || ((x.toNat : Int) == 42)) := by
  unfold Lx.mark Lx.marks
  simp only [List.contains_cons, List.contains_nil, Bool.or_false, Bool.or_assoc]
  rw [show (x == 59) = ((x.toNat : Int) == 59) from byte_beq x 59 (by omega), show (x == 44) = ((x.toNat : Int) == 44) from byte_beq x 44 (by omega), show (x == 123) = ((x.toNat : Int) == 123) from byte_beq x 123 (by omega), show (x == 125) = ((x.toNat : Int) == 125) from byte_beq x 125 (by omega), show (x == 40) = ((x.toNat : Int) == 40) from byte_beq x 40 (by omega), show (x == 41) = ((x.toNat : Int) == 41) from byte_beq x 41 (by omega), show (x == 61) = ((x.toNat : Int) == 61) from byte_beq x 61 (by omega), show (x == 62) = ((x.toNat : Int) == 62) from byte_beq x 62 (by omega), show (x == 64) = ((x.toNat : Int) == 64) from byte_beq x 64 (by omega), show (x == 33) = ((x.toNat : Int) == 33) from byte_beq x 33 (by omega), show (x == 43) = ((x.toNat : Int) == 43) from byte_beq x 43 (by omega), show (x == 45) = ((x.toNat : Int) == 45) from byte_beq x 45 (by omega), show (x == 42) = ((x.toNat : Int) == 42) from byte_beq x 42 (by omega)]

set_option maxHeartbeats 2000000 in
theorem rmark_any (x : UInt8) (w : World) : Calls Try.prog 47 #[.int .u8 x.toNat] w fun e w' => e = .returned (.bool (Lx.mark x)) ∧ w' = w := by
  rw [mark_eq]
  generalize (x.toNat : Int) = y
  go_enter Try.func47, Try.ntmps47
  go_wp2
  all_goals first
    | (exfalso; simp_all; done)
    | (go_ret
       refine ⟨ret_bool ?_, rfl⟩
       simp [*])

/-- the worth of a hex digit, -1: none -/
def hexI (x : UInt8) : Int := match Lx.hexV x with | some v => v | none => -1
theorem hexI_eq (x : UInt8) : hexI x = if 48 ≤ (x.toNat : Int) ∧ (x.toNat : Int) ≤ 57 then (x.toNat : Int) - 48 else if 97 ≤ (x.toNat : Int) ∧ (x.toNat : Int) ≤ 102 then (x.toNat : Int) - 87 else -1 := by
  have h1 : Lx.digit x = true ↔ 48 ≤ (x.toNat : Int) ∧ (x.toNat : Int) ≤ 57 := by rw [digit_eq]; simp
  have h2 : (97 ≤ x && x ≤ 102) = true ↔ 97 ≤ (x.toNat : Int) ∧ (x.toNat : Int) ≤ 102 := by simp [UInt8.le_iff_toNat_le]; omega
  unfold hexI Lx.hexV
  by_cases a : Lx.digit x = true
  · have a' := h1.1 a
    simp only [a, if_true, if_pos a']
    omega
  · have a' : ¬ (48 ≤ (x.toNat : Int) ∧ (x.toNat : Int) ≤ 57) := fun h => a (h1.2 h)
    rw [if_neg a, if_neg a']
    by_cases b : (97 ≤ x && x ≤ 102) = true
    · have b' := h2.1 b
      rw [if_pos b, if_pos b']
      simp only
      omega
    · have b' : ¬ (97 ≤ (x.toNat : Int) ∧ (x.toNat : Int) ≤ 102) := fun h => b (h2.2 h)
      rw [if_neg b, if_neg b']

theorem ret_int {k : IntKind} {a b : Int} (h : a = b) : Ending.returned (.int k a) = .returned (.int k b) := by rw [h]
set_option maxHeartbeats 2000000 in
theorem rhex_any (x : UInt8) (w : World) : Calls Try.prog 58 #[.int .u8 x.toNat] w fun e w' => e = .returned (.int .i64 (hexI x)) ∧ w' = w := by
  have hx := x.toNat_lt
  have hd := digit_eq x
  by_cases a : 48 ≤ (x.toNat : Int) ∧ (x.toNat : Int) ≤ 57
  · have hd' : Lx.digit x = true := by rw [hd]; simp [a]
    have he : hexI x = (x.toNat : Int) - 48 := by rw [hexI_eq, if_pos a]
    have HE := Lib.hid he
    clear hd he
    go_enter Try.func58, Try.ntmps58
    go_wp2_with (go_at_call 44; refine (rdigit_any _ _).mono ?_; rintro e w' ⟨rfl, rfl⟩)
    go_ret
    refine ⟨ret_int ?_, rfl⟩
    rw [HE.out]
  · have hd' : Lx.digit x = false := by rw [hd]; simp; omega
    have he : hexI x = if 97 ≤ (x.toNat : Int) ∧ (x.toNat : Int) ≤ 102 then (x.toNat : Int) - 87 else -1 := by rw [hexI_eq, if_neg a]
    have HE := Lib.hid he
    clear hd he a
    go_enter Try.func58, Try.ntmps58
    go_wp2_with (go_at_call 44; refine (rdigit_any _ _).mono ?_; rintro e w' ⟨rfl, rfl⟩)
    all_goals
      go_ret
      refine ⟨ret_int ?_, rfl⟩
      rw [HE.out]
      first | (rw [if_pos (by omega)]; omega) | (rw [if_neg (by omega)])

/-- what the bytes from a place on are -/
theorem run_step {p : UInt8 → Bool} {l : List UInt8} {i : Nat} {x : UInt8} (hx : l[i]? = some x) (hp : p x = true) : ((l.drop i).takeWhile p).length = ((l.drop (i + 1)).takeWhile p).length + 1 := by
  have hi : i < l.length := (List.getElem?_eq_some_iff.1 hx).1
  rw [List.drop_eq_getElem_cons hi]
  have : l[i] = x := (List.getElem?_eq_some_iff.1 hx).2
  simp [this, hp]
theorem run_stop {p : UInt8 → Bool} {l : List UInt8} {i : Nat} {x : UInt8} (hx : l[i]? = some x) (hp : p x = false) : ((l.drop i).takeWhile p).length = 0 := by
  have hi : i < l.length := (List.getElem?_eq_some_iff.1 hx).1
  rw [List.drop_eq_getElem_cons hi]
  have : l[i] = x := (List.getElem?_eq_some_iff.1 hx).2
  simp [this, hp]
theorem run_end {p : UInt8 → Bool} {l : List UInt8} {i : Nat} (hi : l.length ≤ i) : ((l.drop i).takeWhile p).length = 0 := by
  rw [List.drop_eq_nil_of_le hi]; simp
theorem run_le {p : UInt8 → Bool} {l : List UInt8} {i : Nat} (hi : i ≤ l.length) : i + ((l.drop i).takeWhile p).length ≤ l.length := by
  have := (List.takeWhile_prefix p (l := l.drop i)).length_le
  simp at this
  omega

def runP (letters : Bool) : UInt8 → Bool := if letters then Lx.alnum else Lx.digit
theorem str_at (s : ByteArray) (i : Nat) (h : i < s.size) : s.data.toList[i]? = some s[i] := by
  rw [List.getElem?_eq_getElem (by simpa using h)]
  rfl

end Go.Proofs.Ytkpacpkldjfbhaa
