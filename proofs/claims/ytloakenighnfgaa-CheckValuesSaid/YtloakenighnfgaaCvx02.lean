/- Part of the proof: LexSpec, LexSpecB. -/

set_option linter.unusedVariables false
namespace Go.Proofs.Ytloakenighnfgaa.Lx
structure Tok where
  kind : Nat
  text : List UInt8
  num : Nat
  at_ : Nat
def letter (c : UInt8) : Bool := 97 ≤ c && c ≤ 122
def digit (c : UInt8) : Bool := 48 ≤ c && c ≤ 57
def alnum (c : UInt8) : Bool := digit c || letter c
def blank (c : UInt8) : Bool := c == 32 || c == 9 || c == 10
def marks : List UInt8 := [59, 44, 123, 125, 40, 41, 61, 62, 64, 33, 43, 45, 42]
def mark (c : UInt8) : Bool := marks.contains c
def words : List (List UInt8) :=
  [[97, 99, 107, 101, 100], [97, 102, 116, 101, 114], [97, 115], [98, 108, 111, 99, 107], [99, 111, 118, 101, 114], [101, 108, 115, 101], [101, 118, 101, 114, 121], [105, 102], [106, 111, 105, 110], [108, 101, 116],
   [114, 101, 112, 101, 97, 116], [114, 101, 116, 114, 121], [114, 111, 117, 116, 101], [115, 101, 110, 100], [115, 112, 108, 105, 116], [116, 105, 109, 101, 115], [118, 105, 97], [119, 97, 105, 116], [119, 105, 116, 104]]
def reserved (t : List UInt8) : Bool := words.contains t
def hexDigits : List UInt8 := [48, 49, 50, 51, 52, 53, 54, 55, 56, 57, 97, 98, 99, 100, 101, 102]
def hexV (c : UInt8) : Option Nat := if digit c then some (c.toNat - 48) else if 97 ≤ c && c ≤ 102 then some (c.toNat - 87) else none
def skip (com : Bool) : List UInt8 → List UInt8
  | [] => []
  | c :: r => if com then (if c == 10 then skip false r else skip true r) else if blank c then skip false r else if c == 35 then skip true r else c :: r
def esc : List UInt8 → Option (UInt8 × Nat)
  | [] => none
  | c :: r =>
    if c == 34 || c == 92 then some (c, 2)
    else if c == 110 then some (10, 2)
    else if c == 120 then
      match r with
      | h :: l :: _ => match hexV h, hexV l with
        | some a, some b => some (UInt8.ofNat (16 * a + b), 4)
        | _, _ => none
      | _ => none
    else none
def text : Nat → List UInt8 → List UInt8 → Sum (List UInt8) (List UInt8 × List UInt8)
  | 0, r, _ => .inl r
  | f + 1, r, acc =>
    match r with
    | [] => .inl []
    | c :: r' =>
      if c == 34 then .inr (acc, r')
      else if c == 92 then
        match esc r' with
        | none => .inl r
        | some (m, k) => text f (r.drop k) (acc ++ [m])
      else if c < 32 || c > 126 then .inl r
      else text f r' (acc ++ [c])
def numOf (t : List UInt8) : Nat := t.foldl (fun n c => 10 * n + (c.toNat - 48)) 0
def token (r : List UInt8) : Sum (List UInt8) (Nat × List UInt8 × Nat × List UInt8) :=
  match r with
  | [] => .inl []
  | c :: r' =>
    if letter c then
      let t := r.takeWhile alnum
      if t.length > 16 then .inl r else .inr (if reserved t then 2 else 1, t, 0, r.drop t.length)
    else if digit c then
      let t := r.takeWhile digit
      if t.length > 9 || (t.length > 1 && c == 48) then .inl r
      else if (r.drop t.length).head?.any letter then .inl (r.drop t.length)
      else .inr (3, t, numOf t, r.drop t.length)
    else if c == 34 then
      match text r'.length.succ r' [] with
      | .inl x => .inl x
      | .inr (b, x) => .inr (4, b, 0, x)
    else if mark c then .inr (5, [c], 0, r')
    else .inl r
def scanF (n : Nat) : Nat → List UInt8 → List Tok → Sum (List UInt8) (List Tok)
  | 0, r, _ => .inl r
  | f + 1, r, acc =>
    match skip false r with
    | [] => .inr (acc ++ [⟨6, [], 0, n⟩])
    | c :: r1 =>
      match token (c :: r1) with
      | .inl x => .inl x
      | .inr (k, t, m, x) => scanF n f x (acc ++ [⟨k, t, m, n - (c :: r1).length⟩])
def scan (s : List UInt8) : (Nat × Nat) × List Tok :=
  if s.length > 8000 then ((2, 0), [])
  else match scanF s.length (s.length + 1) s [] with
    | .inl x => ((9, s.length - x.length), [])
    | .inr ts => ((0, 0), ts)
end Go.Proofs.Ytloakenighnfgaa.Lx
namespace Go.Proofs.Ytloakenighnfgaa.Lx
theorem skip_len (c : Bool) (r : List UInt8) : (skip c r).length ≤ r.length := by
  induction r generalizing c with
  | nil => cases c <;> simp [skip]
  | cons x r ih =>
    unfold skip
    split
    · split
      · exact Nat.le_trans (ih _) (by simp)
      · exact Nat.le_trans (ih _) (by simp)
    · split
      · exact Nat.le_trans (ih _) (by simp)
      · split
        · exact Nat.le_trans (ih _) (by simp)
        · exact Nat.le_refl _
theorem skip_f (x : UInt8) (r : List UInt8) : skip false (x :: r) = if blank x = true then skip false r else if (x == 35) = true then skip true r else x :: r := by simp [skip]
theorem skip_t (x : UInt8) (r : List UInt8) : skip true (x :: r) = if (x == 10) = true then skip false r else skip true r := by simp [skip]
theorem skip_skip (c : Bool) (r : List UInt8) : skip false (skip c r) = skip c r := by
  induction r generalizing c with
  | nil => cases c <;> simp [skip]
  | cons x r ih =>
    cases c
    · by_cases hb : blank x = true
      · rw [skip_f, if_pos hb]
        exact ih _
      · by_cases h : (x == 35) = true
        · rw [skip_f, if_neg hb, if_pos h]
          exact ih _
        · rw [skip_f, if_neg hb, if_neg h, skip_f, if_neg hb, if_neg h]
    · by_cases h : (x == 10) = true
      · rw [skip_t, if_pos h]
        exact ih _
      · rw [skip_t, if_neg h]
        exact ih _
theorem text_len : ∀ (f : Nat) (r acc : List UInt8) (b x : List UInt8), text f r acc = .inr (b, x) → x.length < r.length := by
  intro f
  induction f with
  | zero => intro r acc b x h; cases h
  | succ f ih =>
    intro r acc b x h
    unfold text at h
    cases r with
    | nil => cases h
    | cons c r =>
      simp only [] at h
      split at h
      · injection h with h; injection h with _ h; subst h; simp
      · split at h
        · split at h
          · cases h
          · have := ih _ _ _ _ h
            simp at this ⊢
            omega
        · split at h
          · cases h
          · have := ih _ _ _ _ h
            simp
            omega
theorem token_len {c : UInt8} {r : List UInt8} {k : Nat} {t : List UInt8} {m : Nat} {x : List UInt8} (h : token (c :: r) = .inr (k, t, m, x)) : x.length < (c :: r).length := by
  unfold token at h
  simp only [] at h
  split at h
  · rename_i hl
    split at h
    · cases h
    · injection h with h; injection h with _ h; injection h with _ h; injection h with _ h
      subst h
      have : 0 < ((c :: r).takeWhile alnum).length := by simp [alnum, hl]
      rw [List.length_drop]
      simp at this ⊢
      omega
  · split at h
    · rename_i hl hd
      split at h
      · cases h
      · split at h
        · cases h
        · injection h with h; injection h with _ h; injection h with _ h; injection h with _ h
          subst h
          have : 0 < ((c :: r).takeWhile digit).length := by simp [hd]
          rw [List.length_drop]
          simp at this ⊢
          omega
    · split at h
      · split at h
        · cases h
        · rename_i b y hy
          injection h with h; injection h with _ h; injection h with _ h; injection h with _ h
          subst h
          have := text_len _ _ _ _ _ hy
          simp
          omega
      · split at h
        · injection h with h; injection h with _ h; injection h with _ h; injection h with _ h
          subst h
          simp
        · cases h
theorem scan_fuel (n : Nat) : ∀ (f : Nat) (r : List UInt8) (acc : List Tok), r.length < f → ∀ g, r.length < g → scanF n f r acc = scanF n g r acc := by
  intro f
  induction f with
  | zero => intro r acc h; omega
  | succ f ih =>
    intro r acc h g hg
    obtain ⟨g, rfl⟩ : ∃ g', g = g' + 1 := ⟨g - 1, by omega⟩
    unfold scanF
    have hl := skip_len false r
    cases hs : skip false r with
    | nil => rfl
    | cons c r1 =>
      rw [hs] at hl
      simp only []
      cases ht : token (c :: r1) with
      | inl x => rfl
      | inr p =>
        obtain ⟨k, t, m, x⟩ := p
        have := token_len ht
        exact ih _ _ (by omega) g (by omega)
theorem scan_skip (n f : Nat) (r : List UInt8) (acc : List Tok) : scanF n (f + 1) r acc = scanF n (f + 1) (skip false r) acc := by
  unfold scanF
  rw [skip_skip]
theorem scan_end (n f : Nat) (acc : List Tok) : scanF n (f + 1) [] acc = .inr (acc ++ [⟨6, [], 0, n⟩]) := by
  unfold scanF
  rfl
theorem scan_step (n f : Nat) (c : UInt8) (r : List UInt8) (acc : List Tok) (hs : skip false (c :: r) = c :: r) :
    scanF n (f + 1) (c :: r) acc = match token (c :: r) with | .inl x => .inl x | .inr (k, t, m, x) => scanF n f x (acc ++ [⟨k, t, m, n - (c :: r).length⟩]) := by
  conv => lhs; unfold scanF
  rw [hs] <;> rfl
theorem text_suffix : ∀ (f : Nat) (r acc : List UInt8) (b x : List UInt8), text f r acc = .inr (b, x) → ∃ q, x = r.drop q := by
  intro f
  induction f with
  | zero => intro r acc b x h; cases h
  | succ f ih =>
    intro r acc b x h
    unfold text at h
    cases r with
    | nil => cases h
    | cons c r =>
      simp only [] at h
      split at h
      · injection h with h; injection h with _ h; exact ⟨1, by rw [← h]; rfl⟩
      · split at h
        · split at h
          · cases h
          · obtain ⟨q, hq⟩ := ih _ _ _ _ h
            exact ⟨_, by rw [hq, List.drop_drop]⟩
        · split at h
          · cases h
          · obtain ⟨q, hq⟩ := ih _ _ _ _ h
            exact ⟨q + 1, by rw [hq]; rfl⟩
theorem token_suffix {r : List UInt8} {k : Nat} {t : List UInt8} {m : Nat} {x : List UInt8} (h : token r = .inr (k, t, m, x)) : ∃ q, x = r.drop q := by
  cases r with
  | nil => cases h
  | cons c r =>
    unfold token at h
    simp only [] at h
    split at h
    · split at h
      · cases h
      · injection h with h; injection h with _ h; injection h with _ h; injection h with _ h
        exact ⟨_, h.symm⟩
    · split at h
      · split at h
        · cases h
        · split at h
          · cases h
          · injection h with h; injection h with _ h; injection h with _ h; injection h with _ h
            exact ⟨_, h.symm⟩
      · split at h
        · split at h
          · cases h
          · rename_i b y hy
            injection h with h; injection h with _ h; injection h with _ h; injection h with _ h
            obtain ⟨q, hq⟩ := text_suffix _ _ _ _ _ hy
            exact ⟨q + 1, by rw [← h, hq]; rfl⟩
        · split at h
          · injection h with h; injection h with _ h; injection h with _ h; injection h with _ h
            exact ⟨1, by rw [← h]; rfl⟩
          · cases h
end Go.Proofs.Ytloakenighnfgaa.Lx
