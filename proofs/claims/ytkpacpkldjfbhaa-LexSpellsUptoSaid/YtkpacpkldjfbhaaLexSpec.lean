/- What the scanner computes, in plain terms: bytes in, tokens or the place of a fault out. No program in sight. -/
namespace Go.Proofs.Ytkpacpkldjfbhaa.Lx

structure Tok where
  kind : Nat
  text : List UInt8
  num : Nat
  at_ : Nat

def letter (c : UInt8) : Bool := 97 ≤ c && c ≤ 122
def digit (c : UInt8) : Bool := 48 ≤ c && c ≤ 57
def alnum (c : UInt8) : Bool := digit c || letter c
def blank (c : UInt8) : Bool := c == 32 || c == 9 || c == 10
def marks : List UInt8 := [59, 44, 123, 125, 40, 41, 61, 62, 64, 33, 43, 45, 42]
def mark (c : UInt8) : Bool := marks.contains c
def words : List (List UInt8) :=
  [[97, 99, 107, 101, 100], [97, 102, 116, 101, 114], [97, 115], [98, 108, 111, 99, 107], [99, 111, 118, 101, 114], [101, 108, 115, 101], [101, 118, 101, 114, 121], [105, 102], [106, 111, 105, 110], [108, 101, 116],
   [114, 101, 112, 101, 97, 116], [114, 101, 116, 114, 121], [114, 111, 117, 116, 101], [115, 101, 110, 100], [115, 112, 108, 105, 116], [116, 105, 109, 101, 115], [118, 105, 97], [119, 97, 105, 116], [119, 105, 116, 104]]
def reserved (t : List UInt8) : Bool := words.contains t
def hexDigits : List UInt8 := [48, 49, 50, 51, 52, 53, 54, 55, 56, 57, 97, 98, 99, 100, 101, 102]
/-- what a hex digit is worth -/
def hexV (c : UInt8) : Option Nat := if digit c then some (c.toNat - 48) else if 97 ≤ c && c ≤ 102 then some (c.toNat - 87) else none

/-- spaces and comments passed over -/
def skip (com : Bool) : List UInt8 → List UInt8
  | [] => []
  | c :: r => if com then (if c == 10 then skip false r else skip true r) else if blank c then skip false r else if c == 35 then skip true r else c :: r

/-- what an escape means, by what stands behind the backslash, and how long it is -/
def esc : List UInt8 → Option (UInt8 × Nat)
  | [] => none
  | c :: r =>
    if c == 34 || c == 92 then some (c, 2)
    else if c == 110 then some (10, 2)
    else if c == 120 then
      match r with
      | h :: l :: _ => match hexV h, hexV l with
        | some a, some b => some (UInt8.ofNat (16 * a + b), 4)
        | _, _ => none
      | _ => none
    else none

/-- the rest at a fault, or the bytes and the rest behind the quote -/
def text : Nat → List UInt8 → List UInt8 → Sum (List UInt8) (List UInt8 × List UInt8)
  | 0, r, _ => .inl r
  | f + 1, r, acc =>
    match r with
    | [] => .inl []
    | c :: r' =>
      if c == 34 then .inr (acc, r')
      else if c == 92 then
        match esc r' with
        | none => .inl r
        | some (m, k) => text f (r.drop k) (acc ++ [m])
      else if c < 32 || c > 126 then .inl r
      else text f r' (acc ++ [c])

def numOf (t : List UInt8) : Nat := t.foldl (fun n c => 10 * n + (c.toNat - 48)) 0

/-- one token (the list is not empty and begins with no blank): the rest at a fault, or kind, text, number and the rest behind it -/
def token (r : List UInt8) : Sum (List UInt8) (Nat × List UInt8 × Nat × List UInt8) :=
  match r with
  | [] => .inl []
  | c :: r' =>
    if letter c then
      let t := r.takeWhile alnum
      if t.length > 16 then .inl r else .inr (if reserved t then 2 else 1, t, 0, r.drop t.length)
    else if digit c then
      let t := r.takeWhile digit
      if t.length > 9 || (t.length > 1 && c == 48) then .inl r
      else if (r.drop t.length).head?.any letter then .inl (r.drop t.length)
      else .inr (3, t, numOf t, r.drop t.length)
    else if c == 34 then
      match text r'.length.succ r' [] with
      | .inl x => .inl x
      | .inr (b, x) => .inr (4, b, 0, x)
    else if mark c then .inr (5, [c], 0, r')
    else .inl r

def scanF (n : Nat) : Nat → List UInt8 → List Tok → Sum (List UInt8) (List Tok)
  | 0, r, _ => .inl r
  | f + 1, r, acc =>
    match skip false r with
    | [] => .inr (acc ++ [⟨6, [], 0, n⟩])
    | c :: r1 =>
      match token (c :: r1) with
      | .inl x => .inl x
      | .inr (k, t, m, x) => scanF n f x (acc ++ [⟨k, t, m, n - (c :: r1).length⟩])

/-- the whole: the error's number and place, and the tokens -/
def scan (s : List UInt8) : (Nat × Nat) × List Tok :=
  if s.length > 8000 then ((2, 0), [])
  else match scanF s.length (s.length + 1) s [] with
    | .inl x => ((9, s.length - x.length), [])
    | .inr ts => ((0, 0), ts)

end Go.Proofs.Ytkpacpkldjfbhaa.Lx
