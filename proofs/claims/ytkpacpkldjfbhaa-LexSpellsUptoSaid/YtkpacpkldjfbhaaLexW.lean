/- What is spelled out of tokens is scanned to the same tokens. No program in sight. -/
import Derived.Test.YtkpacpkldjfbhaaLexQs
import Derived.Lib.Join
namespace Go.Proofs.Ytkpacpkldjfbhaa.Lx

def word (t : Tok) : List UInt8 := if t.kind = 4 then quote t.text else t.text
/-- a token that stands by itself -/
def Good (t : Tok) : Prop := t.kind ≠ 6 ∧ (∃ c r, word t = c :: r ∧ blank c = false ∧ c ≠ 35) ∧ ∀ x, (x = [] ∨ ∃ y, x = 32 :: y) → token (word t ++ x) = .inr (t.kind, t.text, t.num, x)

theorem takeWhile_app {p : UInt8 → Bool} {t x : List UInt8} (h : ∀ c ∈ t, p c = true) (hx : x = [] ∨ ∃ y, x = 32 :: y) (h32 : p 32 = false) : (t ++ x).takeWhile p = t := by
  induction t with
  | nil =>
    rcases hx with rfl | ⟨y, rfl⟩
    · rfl
    · simp [h32]
  | cons c t ih =>
    rw [List.cons_append, List.takeWhile_cons, if_pos (h c (by simp)), ih fun d hd => h d (by simp [hd])]

theorem mem_takeWhile {p : UInt8 → Bool} {l : List UInt8} : ∀ c ∈ l.takeWhile p, p c = true := by
  induction l with
  | nil => simp
  | cons a l ih =>
    intro c hc
    rw [List.takeWhile_cons] at hc
    split at hc
    · rcases List.mem_cons.1 hc with rfl | h
      · assumption
      · exact ih c h
    · simp at hc

theorem token_good {c : UInt8} {r : List UInt8} {k m : Nat} {t x : List UInt8} (h : token (c :: r) = .inr (k, t, m, x)) (hb : blank c = false) (h35 : c ≠ 35) (a : Nat) : Good ⟨k, t, m, a⟩ := by
  unfold token at h
  by_cases hl : letter c = true
  · simp only [hl, if_true] at h
    by_cases h16 : ((c :: r).takeWhile alnum).length > 16
    · rw [if_pos h16] at h; cases h
    · rw [if_neg h16] at h
      injection h with h
      injection h with h1 h
      injection h with h2 h
      injection h with h3 h4
      have hal : alnum c = true := by unfold alnum; rw [hl, Bool.or_true]
      have ht : t = c :: r.takeWhile alnum := by rw [← h2, List.takeWhile_cons, if_pos hal]
      have hk4 : k ≠ 4 := by rw [← h1]; split <;> omega
      have hall : ∀ d ∈ t, alnum d = true := by rw [← h2]; exact mem_takeWhile
      refine ⟨by show k ≠ 6; rw [← h1]; split <;> omega, ⟨c, r.takeWhile alnum, by show (if k = 4 then quote t else t) = _; rw [if_neg hk4, ht], hb, h35⟩, fun y hy => ?_⟩
      show token ((if k = 4 then quote t else t) ++ y) = .inr (k, t, m, y)
      rw [if_neg hk4]
      have htw : (t ++ y).takeWhile alnum = t := takeWhile_app hall hy (by decide)
      have hdr : (t ++ y).drop t.length = y := by simp
      have e : t ++ y = c :: (r.takeWhile alnum ++ y) := by rw [ht]; rfl
      unfold token
      rw [e]
      simp only [hl, if_true]
      rw [← e, htw, hdr, if_neg (by rw [← h2]; exact h16), ← h1, ← h2, ← h3]
  · have hl' : letter c = false := by simpa using hl
    by_cases hd : digit c = true
    · simp only [hl', hd, if_true, Bool.false_eq_true, if_false] at h
      split at h
      · cases h
      · rename_i h9
        split at h
        · cases h
        · injection h with h
          injection h with h1 h
          injection h with h2 h
          injection h with h3 h4
          have ht : t = c :: r.takeWhile digit := by rw [← h2, List.takeWhile_cons, if_pos hd]
          have hall : ∀ d ∈ t, digit d = true := by rw [← h2]; exact mem_takeWhile
          subst h1
          refine ⟨by show 3 ≠ 6; omega, ⟨c, r.takeWhile digit, ht, hb, h35⟩, fun y hy => ?_⟩
          show token (t ++ y) = .inr (3, t, m, y)
          have htw : (t ++ y).takeWhile digit = t := takeWhile_app hall hy (by decide)
          have hdr : (t ++ y).drop t.length = y := by simp
          have e : t ++ y = c :: (r.takeWhile digit ++ y) := by rw [ht]; rfl
          unfold token
          rw [e]
          simp only [hl', hd, if_true, Bool.false_eq_true, if_false]
          rw [← e, htw, hdr, if_neg (by rw [← h2]; exact h9), if_neg (by
            rcases hy with rfl | ⟨z, rfl⟩
            · simp
            · have : letter 32 = false := by decide
              simp [this]), ← h3, ← h2]
    · have hd' : digit c = false := by simpa using hd
      by_cases h34 : c = 34
      · subst h34
        simp only [hl', hd', Bool.false_eq_true, if_false, beq_self_eq_true, if_true] at h
        split at h
        · cases h
        · rename_i b y hb'
          injection h with h
          injection h with h1 h
          injection h with h2 h
          injection h with h3 h4
          subst h1
          subst h3
          refine ⟨by show 4 ≠ 6; omega, ⟨34, t.flatMap qb ++ [34], rfl, by decide, by decide⟩, fun y _ => token_quote t y⟩
      · have h34' : (c == 34) = false := by simpa using h34
        simp only [hl', hd', h34', Bool.false_eq_true, if_false] at h
        split at h
        · rename_i hm
          injection h with h
          injection h with h1 h
          injection h with h2 h
          injection h with h3 h4
          subst h1
          subst h2
          subst h3
          refine ⟨by show 5 ≠ 6; omega, ⟨c, [], rfl, hb, h35⟩, fun y _ => ?_⟩
          show token (c :: y) = .inr (5, [c], 0, y)
          unfold token
          simp only [hl', hd', h34', hm, Bool.false_eq_true, if_false, if_true]
        · cases h

theorem skip_head (com : Bool) (r : List UInt8) {c : UInt8} {r1 : List UInt8} (h : skip com r = c :: r1) : blank c = false ∧ c ≠ 35 := by
  induction r generalizing com with
  | nil => simp [skip] at h
  | cons a r ih =>
    unfold skip at h
    split at h
    · split at h
      · exact ih _ h
      · exact ih _ h
    · split at h
      · exact ih _ h
      · split at h
        · exact ih _ h
        · injection h with h1 h2
          subst h1
          rename_i hb h35
          exact ⟨by simpa using hb, by simpa using h35⟩

theorem scanF_good {n f : Nat} {r : List UInt8} {acc out : List Tok} (ha : ∀ t ∈ acc, Good t) (h : scanF n f r acc = .inr out) : ∃ us, out = us ++ [⟨6, [], 0, n⟩] ∧ ∀ t ∈ us, Good t := by
  induction f generalizing r acc with
  | zero => simp [scanF] at h
  | succ f ih =>
    unfold scanF at h
    split at h
    · injection h with h
      exact ⟨acc, h.symm, ha⟩
    · rename_i c r1 hsk
      split at h
      · cases h
      · rename_i k t m x htok
        obtain ⟨hb, h35⟩ := skip_head _ _ hsk
        refine ih (fun u hu => ?_) h
        rcases List.mem_append.1 hu with hu | hu
        · exact ha u hu
        · simp at hu
          subst hu
          exact token_good htok hb h35 _
theorem scan_good {s : List UInt8} {us : List Tok} {n : Nat} (h : scan s = ((0, 0), us ++ [⟨6, [], 0, n⟩])) : ∀ t ∈ us, Good t := by
  unfold scan at h
  split at h
  · injection h with h1 h2
    cases h1
  · split at h
    · injection h with h1 h2
      cases h1
    · rename_i ts hts
      injection h with h1 h2
      obtain ⟨vs, hv, hg⟩ := scanF_good (fun t ht => by cases ht) hts
      rw [h2] at hv
      have := List.append_inj' hv rfl
      rw [this.1]
      exact hg

/-- one blank between two -/
def glue : List Tok → List UInt8
  | [] => []
  | [t] => word t
  | t :: u :: r => word t ++ 32 :: glue (u :: r)
def key (t : Tok) : Nat × List UInt8 × Nat := (t.kind, t.text, t.num)
theorem scanF_blank (n f : Nat) (r : List UInt8) (acc : List Tok) : scanF n (f + 1) (32 :: r) acc = scanF n (f + 1) r acc := by
  have : skip false (32 :: r) = skip false r := by rw [skip]; simp [blank]
  unfold scanF
  rw [this]
theorem skip_word {t : Tok} (h : Good t) (x : List UInt8) : ∃ c r, word t ++ x = c :: r ∧ skip false (word t ++ x) = c :: r := by
  obtain ⟨c, r, e, hb, h35⟩ := h.2.1
  refine ⟨c, r ++ x, by rw [e]; rfl, ?_⟩
  rw [e, List.cons_append, skip]
  have : (c == 35) = false := by simpa using h35
  simp [hb, this]
theorem scanF_glue (n : Nat) (us : List Tok) (hg : ∀ t ∈ us, Good t) : ∀ (f : Nat) (acc : List Tok), us.length < f → ∃ vs, scanF n f (glue us) acc = .inr (acc ++ vs ++ [⟨6, [], 0, n⟩]) ∧ vs.map key = us.map key := by
  induction us with
  | nil =>
    intro f acc hf
    cases f with
    | zero => omega
    | succ f => exact ⟨[], by simp [scanF, glue, skip], rfl⟩
  | cons t r ih =>
    intro f acc hf
    cases f with
    | zero => omega
    | succ f =>
      simp only [List.length_cons] at hf
      have ht := hg t (by simp)
      cases r with
      | nil =>
        obtain ⟨c, r', e1, e2⟩ := skip_word ht []
        have htok := ht.2.2 [] (.inl rfl)
        rw [e1] at htok
        rw [List.append_nil] at e1 e2
        show ∃ vs, scanF n (f + 1) (word t) acc = _ ∧ _
        unfold scanF
        rw [e2]
        simp only [htok]
        cases f with
        | zero => omega
        | succ f => exact ⟨[⟨t.kind, t.text, t.num, n - (c :: r').length⟩], by simp [scanF, skip], rfl⟩
      | cons u r =>
        obtain ⟨c, r', e1, e2⟩ := skip_word ht (32 :: glue (u :: r))
        have htok := ht.2.2 (32 :: glue (u :: r)) (.inr ⟨_, rfl⟩)
        rw [e1] at htok
        show ∃ vs, scanF n (f + 1) (word t ++ 32 :: glue (u :: r)) acc = _ ∧ _
        unfold scanF
        rw [e2]
        simp only [htok]
        cases f with
        | zero => omega
        | succ f =>
          rw [scanF_blank]
          obtain ⟨vs, h1, h2⟩ := ih (fun v hv => hg v (by simp [hv])) (f + 1) (acc ++ [⟨t.kind, t.text, t.num, n - (c :: r').length⟩]) (by simpa using hf)
          exact ⟨⟨t.kind, t.text, t.num, n - (c :: r').length⟩ :: vs, by rw [h1]; simp, by simp only [List.map_cons, h2]; rfl⟩
theorem glue_len (us : List Tok) (hg : ∀ t ∈ us, Good t) : us.length ≤ (glue us).length := by
  induction us with
  | nil => simp
  | cons t r ih =>
    have hw : 1 ≤ (word t).length := by
      obtain ⟨c, r, e, _⟩ := (hg t (by simp)).2.1
      rw [e]; simp
    cases r with
    | nil => simpa [glue] using hw
    | cons u r =>
      have := ih fun v hv => hg v (by simp [hv])
      simp only [glue, List.length_append, List.length_cons] at *
      omega
theorem scan_glue {us : List Tok} (hg : ∀ t ∈ us, Good t) (h : (glue us).length ≤ 8000) : ∃ vs, scan (glue us) = ((0, 0), vs ++ [⟨6, [], 0, (glue us).length⟩]) ∧ vs.map key = us.map key := by
  have hl := glue_len us hg
  obtain ⟨vs, h1, h2⟩ := scanF_glue (glue us).length us hg ((glue us).length + 1) [] (by omega)
  refine ⟨vs, ?_, h2⟩
  unfold scan
  rw [if_neg (by omega), h1]
  simp
/-- the words of tokens of any kind: what both spell -/
def words' (l : List (Nat × List UInt8)) : List (List UInt8) := l.filterMap fun t => if t.1 = 6 then none else some (if t.1 = 4 then quote t.2 else t.2)
theorem glue_join (us : List Tok) : glue us = Lib.join (us.map word) [32] := by
  induction us with
  | nil => rfl
  | cons t r ih =>
    cases r with
    | nil => simp [glue, Lib.join_one]
    | cons u r =>
      rw [glue, ih, List.map_cons, List.map_cons, Lib.join_cons, Lib.join_cons]
      simp [Lib.joinTail]
end Go.Proofs.Ytkpacpkldjfbhaa.Lx
