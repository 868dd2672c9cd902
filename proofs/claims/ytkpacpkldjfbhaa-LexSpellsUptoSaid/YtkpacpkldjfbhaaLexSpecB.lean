/- Small facts on the plain scanner. -/
import Derived.Test.YtkpacpkldjfbhaaLexSpec
namespace Go.Proofs.Ytkpacpkldjfbhaa.Lx

theorem skip_len (c : Bool) (r : List UInt8) : (skip c r).length ≤ r.length := by
  induction r generalizing c with
  | nil => cases c <;> simp [skip]
  | cons x r ih =>
    unfold skip
    split
    · split
      · exact Nat.le_trans (ih _) (by simp)
      · exact Nat.le_trans (ih _) (by simp)
    · split
      · exact Nat.le_trans (ih _) (by simp)
      · split
        · exact Nat.le_trans (ih _) (by simp)
        · exact Nat.le_refl _
theorem skip_f (x : UInt8) (r : List UInt8) : skip false (x :: r) = if blank x = true then skip false r else if (x == 35) = true then skip true r else x :: r := by simp [skip]
theorem skip_t (x : UInt8) (r : List UInt8) : skip true (x :: r) = if (x == 10) = true then skip false r else skip true r := by simp [skip]
theorem skip_skip (c : Bool) (r : List UInt8) : skip false (skip c r) = skip c r := by
  induction r generalizing c with
  | nil => cases c <;> simp [skip]
  | cons x r ih =>
    cases c
    · by_cases hb : blank x = true
      · rw [skip_f, if_pos hb]
        exact ih _
      · by_cases h : (x == 35) = true
        · rw [skip_f, if_neg hb, if_pos h]
          exact ih _
        · rw [skip_f, if_neg hb, if_neg h, skip_f, if_neg hb, if_neg h]
    · by_cases h : (x == 10) = true
      · rw [skip_t, if_pos h]
        exact ih _
      · rw [skip_t, if_neg h]
        exact ih _

theorem text_len : ∀ (f : Nat) (r acc : List UInt8) (b x : List UInt8), text f r acc = .inr (b, x) → x.length < r.length := by
  intro f
  induction f with
  | zero => intro r acc b x h; cases h
  | succ f ih =>
    intro r acc b x h
    unfold text at h
    cases r with
    | nil => cases h
    | cons c r =>
      simp only [] at h
      split at h
      · injection h with h; injection h with _ h; subst h; simp
      · split at h
        · split at h
          · cases h
          · have := ih _ _ _ _ h
            simp at this ⊢
            omega
        · split at h
          · cases h
          · have := ih _ _ _ _ h
            simp
            omega
theorem token_len {c : UInt8} {r : List UInt8} {k : Nat} {t : List UInt8} {m : Nat} {x : List UInt8} (h : token (c :: r) = .inr (k, t, m, x)) : x.length < (c :: r).length := by
  unfold token at h
  simp only [] at h
  split at h
  · rename_i hl
    split at h
    · cases h
    · injection h with h; injection h with _ h; injection h with _ h; injection h with _ h
      subst h
      have : 0 < ((c :: r).takeWhile alnum).length := by simp [alnum, hl]
      rw [List.length_drop]
      simp at this ⊢
      omega
  · split at h
    · rename_i hl hd
      split at h
      · cases h
      · split at h
        · cases h
        · injection h with h; injection h with _ h; injection h with _ h; injection h with _ h
          subst h
          have : 0 < ((c :: r).takeWhile digit).length := by simp [hd]
          rw [List.length_drop]
          simp at this ⊢
          omega
    · split at h
      · split at h
        · cases h
        · rename_i b y hy
          injection h with h; injection h with _ h; injection h with _ h; injection h with _ h
          subst h
          have := text_len _ _ _ _ _ hy
          simp
          omega
      · split at h
        · injection h with h; injection h with _ h; injection h with _ h; injection h with _ h
          subst h
          simp
        · cases h

theorem scan_fuel (n : Nat) : ∀ (f : Nat) (r : List UInt8) (acc : List Tok), r.length < f → ∀ g, r.length < g → scanF n f r acc = scanF n g r acc := by
  intro f
  induction f with
  | zero => intro r acc h; omega
  | succ f ih =>
    intro r acc h g hg
    obtain ⟨g, rfl⟩ : ∃ g', g = g' + 1 := ⟨g - 1, by omega⟩
    unfold scanF
    have hl := skip_len false r
    cases hs : skip false r with
    | nil => rfl
    | cons c r1 =>
      rw [hs] at hl
      simp only []
      cases ht : token (c :: r1) with
      | inl x => rfl
      | inr p =>
        obtain ⟨k, t, m, x⟩ := p
        have := token_len ht
        exact ih _ _ (by omega) g (by omega)
theorem scan_skip (n f : Nat) (r : List UInt8) (acc : List Tok) : scanF n (f + 1) r acc = scanF n (f + 1) (skip false r) acc := by
  unfold scanF
  rw [skip_skip]
theorem scan_end (n f : Nat) (acc : List Tok) : scanF n (f + 1) [] acc = .inr (acc ++ [⟨6, [], 0, n⟩]) := by
  unfold scanF
  rfl
theorem scan_step (n f : Nat) (c : UInt8) (r : List UInt8) (acc : List Tok) (hs : skip false (c :: r) = c :: r) :
    scanF n (f + 1) (c :: r) acc = match token (c :: r) with | .inl x => .inl x | .inr (k, t, m, x) => scanF n f x (acc ++ [⟨k, t, m, n - (c :: r).length⟩]) := by
  conv => lhs; unfold scanF
  rw [hs]
  rfl

theorem text_suffix : ∀ (f : Nat) (r acc : List UInt8) (b x : List UInt8), text f r acc = .inr (b, x) → ∃ q, x = r.drop q := by
  intro f
  induction f with
  | zero => intro r acc b x h; cases h
  | succ f ih =>
    intro r acc b x h
    unfold text at h
    cases r with
    | nil => cases h
    | cons c r =>
      simp only [] at h
      split at h
      · injection h with h; injection h with _ h; exact ⟨1, by rw [← h]; rfl⟩
      · split at h
        · split at h
          · cases h
          · obtain ⟨q, hq⟩ := ih _ _ _ _ h
            exact ⟨_, by rw [hq, List.drop_drop]⟩
        · split at h
          · cases h
          · obtain ⟨q, hq⟩ := ih _ _ _ _ h
            exact ⟨q + 1, by rw [hq]; rfl⟩
theorem token_suffix {r : List UInt8} {k : Nat} {t : List UInt8} {m : Nat} {x : List UInt8} (h : token r = .inr (k, t, m, x)) : ∃ q, x = r.drop q := by
  cases r with
  | nil => cases h
  | cons c r =>
    unfold token at h
    simp only [] at h
    split at h
    · split at h
      · cases h
      · injection h with h; injection h with _ h; injection h with _ h; injection h with _ h
        exact ⟨_, h.symm⟩
    · split at h
      · split at h
        · cases h
        · split at h
          · cases h
          · injection h with h; injection h with _ h; injection h with _ h; injection h with _ h
            exact ⟨_, h.symm⟩
      · split at h
        · split at h
          · cases h
          · rename_i b y hy
            injection h with h; injection h with _ h; injection h with _ h; injection h with _ h
            obtain ⟨q, hq⟩ := text_suffix _ _ _ _ _ hy
            exact ⟨q + 1, by rw [← h, hq]; rfl⟩
        · split at h
          · injection h with h; injection h with _ h; injection h with _ h; injection h with _ h
            exact ⟨1, by rw [← h]; rfl⟩
          · cases h

end Go.Proofs.Ytkpacpkldjfbhaa.Lx
