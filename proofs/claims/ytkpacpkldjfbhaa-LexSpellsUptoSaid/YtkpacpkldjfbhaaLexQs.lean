/- Quoting, in plain terms; and that what was quoted is read back. -/
import Derived.Test.YtkpacpkldjfbhaaLexSpecB
namespace Go.Proofs.Ytkpacpkldjfbhaa.Lx

def hexC (n : Nat) : UInt8 := if n < 10 then UInt8.ofNat (48 + n) else UInt8.ofNat (87 + n)
/-- how one byte is written -/
def qb (c : UInt8) : List UInt8 :=
  if c == 34 || c == 92 then [92, c] else if c == 10 then [92, 110] else if c < 32 || c > 126 then [92, 120, hexC (c.toNat / 16), hexC (c.toNat % 16)] else [c]
def quote (b : List UInt8) : List UInt8 := 34 :: (b.flatMap qb ++ [34])

theorem qb_len (c : UInt8) : 1 ≤ (qb c).length ∧ (qb c).length ≤ 4 := by
  unfold qb; repeat (first | split | simp)
theorem qbs_len (b : List UInt8) : b.length ≤ (b.flatMap qb).length ∧ (b.flatMap qb).length ≤ 4 * b.length := by
  induction b with
  | nil => simp
  | cons c b ih =>
    have := qb_len c
    simp only [List.flatMap_cons, List.length_append, List.length_cons]
    omega
theorem qbs_snoc (l : List UInt8) (k : Nat) (x : UInt8) (h : l[k]? = some x) : (l.take (k + 1)).flatMap qb = (l.take k).flatMap qb ++ qb x := by
  rw [List.take_add_one, h]; simp

theorem hexV_hexC : ∀ n : Fin 16, hexV (hexC n.val) = some n.val := by decide
theorem hex_pair (c : UInt8) : hexV (hexC (c.toNat / 16)) = some (c.toNat / 16) ∧ hexV (hexC (c.toNat % 16)) = some (c.toNat % 16) := by
  have := c.toNat_lt
  exact ⟨hexV_hexC ⟨c.toNat / 16, by omega⟩, hexV_hexC ⟨c.toNat % 16, by omega⟩⟩

/-- one written byte is read back -/
theorem text_qb (c : UInt8) (f : Nat) (r acc : List UInt8) : text (f + 1) (qb c ++ r) acc = text f r (acc ++ [c]) := by
  unfold qb
  split
  · rename_i h
    have h' : c = 34 ∨ c = 92 := by simpa using h
    have he : esc (c :: r) = some (c, 2) := by unfold esc; simp only []; rw [if_pos h]
    show text (f + 1) (92 :: c :: r) acc = _
    conv => lhs; unfold text
    simp only []
    rw [if_neg (by decide), if_pos (by decide), he]
    rfl
  · split
    · rename_i h
      have : c = 10 := by simpa using h
      subst this
      show text (f + 1) (92 :: 110 :: r) acc = _
      conv => lhs; unfold text
      rfl
    · split
      · have hp := hex_pair c
        have hv : UInt8.ofNat (16 * (c.toNat / 16) + c.toNat % 16) = c := by
          rw [Nat.div_add_mod]; exact UInt8.ofNat_toNat
        have he : esc (120 :: hexC (c.toNat / 16) :: hexC (c.toNat % 16) :: r) = some (c, 4) := by
          unfold esc
          simp only []
          rw [if_neg (by decide), if_neg (by decide), if_pos (by decide)]
          simp only [hp.1, hp.2, hv]
        show text (f + 1) (92 :: 120 :: hexC (c.toNat / 16) :: hexC (c.toNat % 16) :: r) acc = _
        conv => lhs; unfold text
        simp only []
        rw [if_neg (by decide), if_pos (by decide), he]
        rfl
      · rename_i h1 h2 h3
        have h34 : (c == 34) = false := by cases h : c == 34 <;> simp_all
        have h92 : (c == 92) = false := by cases h : c == 92 <;> simp_all
        show text (f + 1) (c :: r) acc = _
        conv => lhs; unfold text
        simp only [h34, h92]
        rw [if_neg h3]
        rfl

theorem text_qbs (b : List UInt8) (f : Nat) (acc : List UInt8) (hf : b.length < f) (x : List UInt8) : text f (b.flatMap qb ++ 34 :: x) acc = .inr (acc ++ b, x) := by
  induction b generalizing f acc with
  | nil =>
    obtain ⟨f, rfl⟩ : ∃ g, f = g + 1 := ⟨f - 1, by omega⟩
    simp [text]
  | cons c b ih =>
    obtain ⟨f, rfl⟩ : ∃ g, f = g + 1 := ⟨f - 1, by omega⟩
    rw [List.flatMap_cons, List.append_assoc, text_qb, ih f _ (by simp at hf; omega)]
    simp

theorem quote_len (b : List UInt8) : b.length + 2 ≤ (quote b).length ∧ (quote b).length ≤ 4 * b.length + 2 := by
  have := qbs_len b
  unfold quote
  simp only [List.length_cons, List.length_append, List.length_nil]
  omega

/-- what was quoted is one text -/
theorem token_quote (b x : List UInt8) : token (quote b ++ x) = .inr (4, b, 0, x) := by
  have hl := qbs_len b
  have e : quote b ++ x = 34 :: (b.flatMap qb ++ 34 :: x) := by simp [quote]
  rw [e]
  unfold token
  simp only []
  rw [if_neg (by decide), if_neg (by decide), if_pos (by decide), text_qbs b _ [] (by simp only [List.length_cons, List.length_append]; omega)]
  simp

theorem scan_quote (b : List UInt8) (h : (quote b).length ≤ 8000) : scan (quote b) = ((0, 0), [⟨4, b, 0, 0⟩, ⟨6, [], 0, (quote b).length⟩]) := by
  unfold scan
  rw [if_neg (by omega)]
  have ht := token_quote b []
  rw [List.append_nil] at ht
  have hq : quote b = 34 :: (b.flatMap qb ++ [34]) := rfl
  have hs : skip false (quote b) = quote b := by rw [hq]; simp [skip, blank]
  have : scanF (quote b).length ((quote b).length + 1) (quote b) [] = .inr ([⟨4, b, 0, 0⟩, ⟨6, [], 0, (quote b).length⟩]) := by
    generalize hn : (quote b).length = n
    rw [hq] at ht hs ⊢
    rw [scan_step _ _ _ _ _ hs, ht]
    simp only []
    rw [← hq, hn, Nat.sub_self]
    obtain ⟨k, rfl⟩ : ∃ k, n = k + 1 := ⟨n - 1, by have := quote_len b; omega⟩
    rw [scan_end]
    rfl
  rw [this]
end Go.Proofs.Ytkpacpkldjfbhaa.Lx
