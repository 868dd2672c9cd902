/- Part of the proof: LexSpec, Lex1. -/
import Derived.Shelf.Strings.Search1
import Derived.Shelf.Small.Strs
import Derived.Test.YtafjkbbiaopemaaGreatDoorTox02
set_option linter.unusedVariables false
namespace Go.Proofs.YtafjkbbiaopemaaGreatDoor.Lx
structure Tok where
  kind : Nat
  text : List UInt8
  num : Nat
  at_ : Nat
def letter (c : UInt8) : Bool := 97 ≤ c && c ≤ 122
def digit (c : UInt8) : Bool := 48 ≤ c && c ≤ 57
def alnum (c : UInt8) : Bool := digit c || letter c
def blank (c : UInt8) : Bool := c == 32 || c == 9 || c == 10
def marks : List UInt8 := [59, 44, 123, 125, 40, 41, 61, 62, 64, 33, 43, 45, 42]
def mark (c : UInt8) : Bool := marks.contains c
def words : List (List UInt8) :=
  [[97, 99, 107, 101, 100], [97, 102, 116, 101, 114], [97, 115], [98, 108, 111, 99, 107], [99, 111, 118, 101, 114], [101, 108, 115, 101], [101, 118, 101, 114, 121], [105, 102], [106, 111, 105, 110], [108, 101, 116],
   [114, 101, 112, 101, 97, 116], [114, 101, 116, 114, 121], [114, 111, 117, 116, 101], [115, 101, 110, 100], [115, 112, 108, 105, 116], [116, 105, 109, 101, 115], [118, 105, 97], [119, 97, 105, 116], [119, 105, 116, 104]]
def reserved (t : List UInt8) : Bool := words.contains t
def hexDigits : List UInt8 := [48, 49, 50, 51, 52, 53, 54, 55, 56, 57, 97, 98, 99, 100, 101, 102]
def hexV (c : UInt8) : Option Nat := if digit c then some (c.toNat - 48) else if 97 ≤ c && c ≤ 102 then some (c.toNat - 87) else none
def skip (com : Bool) : List UInt8 → List UInt8
  | [] => []
  | c :: r => if com then (if c == 10 then skip false r else skip true r) else if blank c then skip false r else if c == 35 then skip true r else c :: r
def esc : List UInt8 → Option (UInt8 × Nat)
  | [] => none
  | c :: r =>
    if c == 34 || c == 92 then some (c, 2)
    else if c == 110 then some (10, 2)
    else if c == 120 then
      match r with
      | h :: l :: _ => match hexV h, hexV l with
        | some a, some b => some (UInt8.ofNat (16 * a + b), 4)
        | _, _ => none
      | _ => none
    else none
def text : Nat → List UInt8 → List UInt8 → Sum (List UInt8) (List UInt8 × List UInt8)
  | 0, r, _ => .inl r
  | f + 1, r, acc =>
    match r with
    | [] => .inl []
    | c :: r' =>
      if c == 34 then .inr (acc, r')
      else if c == 92 then
        match esc r' with
        | none => .inl r
        | some (m, k) => text f (r.drop k) (acc ++ [m])
      else if c < 32 || c > 126 then .inl r
      else text f r' (acc ++ [c])
def numOf (t : List UInt8) : Nat := t.foldl (fun n c => 10 * n + (c.toNat - 48)) 0
def token (r : List UInt8) : Sum (List UInt8) (Nat × List UInt8 × Nat × List UInt8) :=
  match r with
  | [] => .inl []
  | c :: r' =>
    if letter c then
      let t := r.takeWhile alnum
      if t.length > 16 then .inl r else .inr (if reserved t then 2 else 1, t, 0, r.drop t.length)
    else if digit c then
      let t := r.takeWhile digit
      if t.length > 9 || (t.length > 1 && c == 48) then .inl r
      else if (r.drop t.length).head?.any letter then .inl (r.drop t.length)
      else .inr (3, t, numOf t, r.drop t.length)
    else if c == 34 then
      match text r'.length.succ r' [] with
      | .inl x => .inl x
      | .inr (b, x) => .inr (4, b, 0, x)
    else if mark c then .inr (5, [c], 0, r')
    else .inl r
def scanF (n : Nat) : Nat → List UInt8 → List Tok → Sum (List UInt8) (List Tok)
  | 0, r, _ => .inl r
  | f + 1, r, acc =>
    match skip false r with
    | [] => .inr (acc ++ [⟨6, [], 0, n⟩])
    | c :: r1 =>
      match token (c :: r1) with
      | .inl x => .inl x
      | .inr (k, t, m, x) => scanF n f x (acc ++ [⟨k, t, m, n - (c :: r1).length⟩])
def scan (s : List UInt8) : (Nat × Nat) × List Tok :=
  if s.length > 8000 then ((2, 0), [])
  else match scanF s.length (s.length + 1) s [] with
    | .inl x => ((9, s.length - x.length), [])
    | .inr ts => ((0, 0), ts)
end Go.Proofs.YtafjkbbiaopemaaGreatDoor.Lx
namespace Go.Proofs.YtafjkbbiaopemaaGreatDoor
open Go.RowKit
def Tryz.lays137_ren : Go.Shelf.Ren := ⟨fun | 137 => 104 | 217 => 125 | 266 => 135 | n => n, fun | 9 => 9 | 5 => 5 | 3 => 3 | n => n, fun | n => n⟩
theorem Tryz.lays137 : Go.Proofs.Lays.n137 Tryz.prog Tryz.lays137_ren := {
  mixed := by kernel_rfl
  f137 := Tryz.func104.trans (congrArg some (by kernel_rfl))
  f217 := Tryz.func125.trans (congrArg some (by kernel_rfl))
  f266 := Tryz.func135.trans (congrArg some (by kernel_rfl))
  t3 := Tryz.underlying3
  a3 := Tryz.isAgg3
  z3 := Tryz.sizeOf3
  v3 := Tryz.zeroValue3
  t5 := Tryz.underlying5
  a5 := Tryz.isAgg5
  z5 := Tryz.sizeOf5
  v5 := Tryz.zeroValue5
  t9 := Tryz.underlying9
  a9 := Tryz.isAgg9
  z9 := Tryz.sizeOf9
  v9 := Tryz.zeroValue9 }
theorem indexByte_any (s : ByteArray) (x : UInt8) (w : World) :
    Calls Tryz.prog 104 #[.string s, .int .u8 x.toNat] w fun e w' => e = .returned (.int .i64 (Lib.indexByte s.data.toList x)) ∧ w' = w := by
  have := Any.strings_IndexByte Tryz.lays137 s (x.toNat : Int) w
  simp only [Int.toNat_natCast, Nat.toUInt8_eq, UInt8.ofNat_toNat] at this
  exact this
theorem ret_bool {a b : Bool} (h : a = b) : Ending.returned (.bool a) = .returned (.bool b) := by rw [h]
theorem letter_eq (x : UInt8) : Lx.letter x = (decide (97 ≤ (x.toNat : Int)) && decide ((x.toNat : Int) ≤ 122)) := by
  rw [Bool.eq_iff_iff]; simp [Lx.letter, UInt8.le_iff_toNat_le]; omega
theorem digit_eq (x : UInt8) : Lx.digit x = (decide (48 ≤ (x.toNat : Int)) && decide ((x.toNat : Int) ≤ 57)) := by
  rw [Bool.eq_iff_iff]; simp [Lx.digit, UInt8.le_iff_toNat_le]; omega
set_option maxHeartbeats 400000 in
theorem letter_any (x : UInt8) (w : World) : Calls Tryz.prog 105 #[.int .u8 x.toNat] w fun e w' => e = .returned (.bool (Lx.letter x)) ∧ w' = w := by
  go_enter Tryz.func105, Tryz.ntmps105
  go_wp2
  all_goals
    go_ret
    refine ⟨ret_bool ?_, rfl⟩
    rw [letter_eq]
    simp [*]
    try omega
set_option maxHeartbeats 400000 in
theorem digit_any (x : UInt8) (w : World) : Calls Tryz.prog 107 #[.int .u8 x.toNat] w fun e w' => e = .returned (.bool (Lx.digit x)) ∧ w' = w := by
  go_enter Tryz.func107, Tryz.ntmps107
  go_wp2
  all_goals
    go_ret
    refine ⟨ret_bool ?_, rfl⟩
    rw [digit_eq]
    simp [*]
    try omega
set_option maxRecDepth 100000 in
set_option maxHeartbeats 2000000 in
theorem reserved_any (s : ByteArray) (w : World) : Calls Tryz.prog 127 #[.string s] w fun e w' => e = .returned (.bool (Lx.reserved s.data.toList)) ∧ w' = w := by
  rw [← ByteArray.toList_eq]
  go_enter Tryz.func127, Tryz.ntmps127
  go_wp2
  all_goals first
    | (exfalso; simp_all; done)
    | (go_ret
       refine ⟨ret_bool ?_, rfl⟩
       generalize s.toList = t at *
       unfold Lx.reserved Lx.words
       simp only [List.contains_cons, List.contains_nil, Bool.or_false]
       simp [*])
theorem byte_beq (x : UInt8) (k : Nat) (h : k < 256) : (x == UInt8.ofNat k) = ((x.toNat : Int) == (k : Int)) := by
  rw [Bool.eq_iff_iff]
  simp only [beq_iff_eq]
  constructor
  · rintro rfl; simp; omega
  · intro e
    have : x.toNat = k := by omega
    rw [← this]; simp
theorem mark_eq (x : UInt8) : Lx.mark x = (((x.toNat : Int) == 59) || ((x.toNat : Int) == 44) || ((x.toNat : Int) == 123) || ((x.toNat : Int) == 125) || ((x.toNat : Int) == 40) || ((x.toNat : Int) == 41) || ((x.toNat : Int) == 61) || ((x.toNat : Int) == 62) || ((x.toNat : Int) == 64) || ((x.toNat : Int) == 33) || ((x.toNat : Int) == 43) || ((x.toNat : Int) == 45) || ((x.toNat : Int) == 42)) := by
  unfold Lx.mark Lx.marks
  simp only [List.contains_cons, List.contains_nil, Bool.or_false, Bool.or_assoc]
  rw [show (x == 59) = ((x.toNat : Int) == 59) from byte_beq x 59 (by omega), show (x == 44) = ((x.toNat : Int) == 44) from byte_beq x 44 (by omega), show (x == 123) = ((x.toNat : Int) == 123) from byte_beq x 123 (by omega), show (x == 125) = ((x.toNat : Int) == 125) from byte_beq x 125 (by omega), show (x == 40) = ((x.toNat : Int) == 40) from byte_beq x 40 (by omega), show (x == 41) = ((x.toNat : Int) == 41) from byte_beq x 41 (by omega), show (x == 61) = ((x.toNat : Int) == 61) from byte_beq x 61 (by omega), show (x == 62) = ((x.toNat : Int) == 62) from byte_beq x 62 (by omega), show (x == 64) = ((x.toNat : Int) == 64) from byte_beq x 64 (by omega), show (x == 33) = ((x.toNat : Int) == 33) from byte_beq x 33 (by omega), show (x == 43) = ((x.toNat : Int) == 43) from byte_beq x 43 (by omega), show (x == 45) = ((x.toNat : Int) == 45) from byte_beq x 45 (by omega), show (x == 42) = ((x.toNat : Int) == 42) from byte_beq x 42 (by omega)]
def hexI (x : UInt8) : Int := match Lx.hexV x with | some v => v | none => -1
theorem hexI_eq (x : UInt8) : hexI x = if 48 ≤ (x.toNat : Int) ∧ (x.toNat : Int) ≤ 57 then (x.toNat : Int) - 48 else if 97 ≤ (x.toNat : Int) ∧ (x.toNat : Int) ≤ 102 then (x.toNat : Int) - 87 else -1 := by
  have h1 : Lx.digit x = true ↔ 48 ≤ (x.toNat : Int) ∧ (x.toNat : Int) ≤ 57 := by rw [digit_eq]; simp
  have h2 : (97 ≤ x && x ≤ 102) = true ↔ 97 ≤ (x.toNat : Int) ∧ (x.toNat : Int) ≤ 102 := by simp [UInt8.le_iff_toNat_le]; omega
  unfold hexI Lx.hexV
  by_cases a : Lx.digit x = true
  · have a' := h1.1 a
    simp only [a, if_true, if_pos a']
    omega
  · have a' : ¬ (48 ≤ (x.toNat : Int) ∧ (x.toNat : Int) ≤ 57) := fun h => a (h1.2 h)
    rw [if_neg a, if_neg a']
    by_cases b : (97 ≤ x && x ≤ 102) = true
    · have b' := h2.1 b
      rw [if_pos b, if_pos b']
      simp only
      omega
    · have b' : ¬ (97 ≤ (x.toNat : Int) ∧ (x.toNat : Int) ≤ 102) := fun h => b (h2.2 h)
      rw [if_neg b, if_neg b']
theorem ret_int {k : IntKind} {a b : Int} (h : a = b) : Ending.returned (.int k a) = .returned (.int k b) := by rw [h]
theorem run_step {p : UInt8 → Bool} {l : List UInt8} {i : Nat} {x : UInt8} (hx : l[i]? = some x) (hp : p x = true) : ((l.drop i).takeWhile p).length = ((l.drop (i + 1)).takeWhile p).length + 1 := by
  have hi : i < l.length := (List.getElem?_eq_some_iff.1 hx).1
  rw [List.drop_eq_getElem_cons hi]
  have : l[i] = x := (List.getElem?_eq_some_iff.1 hx).2
  simp [this, hp]
theorem run_stop {p : UInt8 → Bool} {l : List UInt8} {i : Nat} {x : UInt8} (hx : l[i]? = some x) (hp : p x = false) : ((l.drop i).takeWhile p).length = 0 := by
  have hi : i < l.length := (List.getElem?_eq_some_iff.1 hx).1
  rw [List.drop_eq_getElem_cons hi]
  have : l[i] = x := (List.getElem?_eq_some_iff.1 hx).2
  simp [this, hp]
theorem run_end {p : UInt8 → Bool} {l : List UInt8} {i : Nat} (hi : l.length ≤ i) : ((l.drop i).takeWhile p).length = 0 := by
  rw [List.drop_eq_nil_of_le hi]; simp
theorem run_le {p : UInt8 → Bool} {l : List UInt8} {i : Nat} (hi : i ≤ l.length) : i + ((l.drop i).takeWhile p).length ≤ l.length := by
  have := (List.takeWhile_prefix p (l := l.drop i)).length_le
  simp at this
  omega
def runP (letters : Bool) : UInt8 → Bool := if letters then Lx.alnum else Lx.digit
theorem str_at (s : ByteArray) (i : Nat) (h : i < s.size) : s.data.toList[i]? = some s[i] := by
  rw [List.getElem?_eq_getElem (by simpa using h)]
  rfl
end Go.Proofs.YtafjkbbiaopemaaGreatDoor
