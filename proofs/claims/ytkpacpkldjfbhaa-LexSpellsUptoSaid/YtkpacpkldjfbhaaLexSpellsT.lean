/- LexSpells: the walk, joined, and its arguments. -/
import Derived.Test.YtkpacpkldjfbhaaLexSpellsU
import Derived.Test.YtkpacpkldjfbhaaLexSpellsV
import Derived.Test.YtkpacpkldjfbhaaRead
namespace Go.Proofs.Ytkpacpkldjfbhaa.lexSpells
open Go.RowKit

theorem text_bound (f : Nat) (r acc : List UInt8) {b x : List UInt8} (h : Lx.text f r acc = .inr (b, x)) : b.length ≤ acc.length + r.length := by
  induction f generalizing r acc with
  | zero => simp [Lx.text] at h
  | succ f ih =>
    unfold Lx.text at h
    split at h
    · cases h
    · rename_i c r'
      split at h
      · injection h with h
        injection h with h1 h2
        subst h1
        omega
      · split at h
        · split at h
          · cases h
          · rename_i m k hk
            have := ih _ _ h
            have hk1 : 1 ≤ k := by
              unfold Lx.esc at hk
              split at hk
              · cases hk
              · split at hk
                · injection hk with hk; injection hk with _ hk; omega
                · split at hk
                  · injection hk with hk; injection hk with _ hk; omega
                  · split at hk
                    · split at hk
                      · split at hk
                        · injection hk with hk; injection hk with _ hk; omega
                        · cases hk
                      · cases hk
                    · cases hk
            simp only [List.length_append, List.length_cons, List.length_nil, List.length_drop] at this ⊢
            omega
        · split at h
          · cases h
          · have := ih _ _ h
            simp only [List.length_append, List.length_cons, List.length_nil] at this ⊢
            omega
theorem token_small {c : UInt8} {r : List UInt8} {k m : Nat} {t x : List UInt8} (h : Lx.token (c :: r) = .inr (k, t, m, x)) : t.length ≤ (c :: r).length := by
  by_cases hk : k = 4
  · obtain ⟨_, _, h4, _⟩ := Lx.token_stands h
    have hc := h4 hk
    subst hc
    unfold Lx.token at h
    simp only [show Lx.letter 34 = false by decide, show Lx.digit 34 = false by decide, Bool.false_eq_true, if_false, beq_self_eq_true, if_true] at h
    split at h
    · cases h
    · rename_i b y hb
      injection h with h
      injection h with _ h
      injection h with h _
      subst h
      have := text_bound _ _ _ hb
      simp at this ⊢
      omega
  · exact ((Lx.token_stands h).2.2.2 hk).1
theorem scanF_small {n m f : Nat} {r : List UInt8} {acc out : List Lx.Tok} (ha : ∀ t ∈ acc, t.text.length ≤ m) (hr : r.length ≤ m) (h : Lx.scanF n f r acc = .inr out) : ∀ t ∈ out, t.text.length ≤ m := by
  induction f generalizing r acc with
  | zero => simp [Lx.scanF] at h
  | succ f ih =>
    unfold Lx.scanF at h
    split at h
    · injection h with h
      subst h
      intro t ht
      rcases List.mem_append.1 ht with ht | ht
      · exact ha t ht
      · simp at ht; subst ht; simp
    · rename_i c r1 hsk
      split at h
      · cases h
      · rename_i k t m' x htok
        have hl1 : (c :: r1).length ≤ r.length := by rw [← hsk]; exact Lx.skip_len _ _
        have hl2 := Lx.token_len htok
        have hl3 := token_small htok
        refine ih (fun u hu => ?_) (by omega) h
        rcases List.mem_append.1 hu with hu | hu
        · exact ha u hu
        · simp at hu; subst hu; show t.length ≤ m; omega
theorem scan_small {s : List UInt8} {us : List Lx.Tok} {n : Nat} (h : Lx.scan s = ((0, 0), us ++ [⟨6, [], 0, n⟩])) : ∀ t ∈ us, t.text.length ≤ s.length := by
  unfold Lx.scan at h
  split at h
  · injection h with h1 h2
    cases h1
  · split at h
    · injection h with h1 h2
      cases h1
    · rename_i ts hts
      injection h with h1 h2
      subst h2
      intro t ht
      exact scanF_small (fun t ht => by cases ht) (Nat.le_refl _) hts t (by simp [ht])
theorem gts_take (l : List GT) (k : Nat) : gtsCells (l.take k) = (gtsCells l).take (k * 4) := by
  induction l generalizing k with
  | nil => simp [gtsCells]
  | cons a l ih =>
    cases k with
    | zero => simp [gtsCells]
    | succ k =>
      have e : gtsCells (a :: l) = gtCells a ++ gtsCells l := by simp [gtsCells]
      have e2 : gtsCells (a :: l.take k) = gtCells a ++ gtsCells (l.take k) := by simp [gtsCells]
      rw [List.take_succ_cons, e2, e, ih]
      have h4 : (gtCells a).length = 4 := rfl
      rw [show (k + 1) * 4 = 4 + k * 4 by omega, ← h4, List.take_length_add_append]
theorem walk (s : ByteArray) (A : Option Addr) (n c : Nat) (l : List GT) (w : World) (h : RdS 4 w A n (gtsCells l)) (hnc : n ≤ c) (hn : n ≤ 140737488355328) (ht : ∀ t ∈ l, t.text.size ≤ 67108864) :
    Calls Try.prog 9 #[.string s, .slice A n c] w fun e w' => e = .returned (.bool true) ∧ Below w.heap.size w w' := by
  have hl : s.data.toList.length = s.size := by simp
  have hll : l.length = n := by have := h.1; rw [gts_len] at this; omega
  have hcase : (FirstOk w A n l) ∨ (300 < n ∧ FirstOk w A 300 (l.take 300) ∧ ∃ b off, A = some ⟨b, off, none⟩) := by
    rcases Nat.lt_or_ge 300 n with h3 | h3
    · obtain ⟨b, off, e, hb, hc⟩ := h.2 (by omega)
      refine .inr ⟨h3, ⟨⟨?_, fun _ => ⟨b, off, e, hb, fun j u hu => hc j u ?_⟩⟩, Nat.le_refl _, fun t ht' => ht t (List.mem_of_mem_take ht')⟩, b, off, e⟩
      · rw [gts_len]; simp; omega
      · rw [gts_take, List.getElem?_take] at hu
        split at hu
        · exact hu
        · cases hu
    · exact .inl ⟨h, h3, ht⟩
  rcases Lx.scan_cases s.data.toList with ⟨p, q, hs, hp⟩ | ⟨us, hs, h1, h2, h8⟩
  · have hp0 : p ≠ 0 := by rcases hp with ⟨rfl, _⟩ | ⟨rfl, _⟩ <;> omega
    rcases hcase with hf | ⟨h3, hf, hA⟩
    · exact bad s A n c l w _ rfl hf hs hp0
    · exact bad_cut s A n c _ w _ rfl hf h3 hnc hn hA hs hp0
  · have hg := Lx.scan_good hs
    have hfew := lexPlaces.few h1 h2
    have hlen : (us ++ [(⟨6, [], 0, s.data.toList.length⟩ : Lx.Tok)]).length = us.length + 1 := by simp
    have hts := text_small (us := us) (m := s.data.toList.length) h8 (scan_small hs)
    obtain ⟨Y, hY⟩ : ∃ Y, Y = bytesOf (Lx.glue us) := ⟨_, rfl⟩
    have hYs : Y.size = (Lx.glue us).length := by rw [hY]; unfold bytesOf; exact List.size_toArray
    rcases Nat.lt_or_ge 8000 Y.size with hb | hb
    · rcases hcase with hf | ⟨h3, hf, hA⟩
      · exact big s A n c l w _ rfl hf hs hg hlen (by omega) hts Y hY hb
      · exact big_cut s A n c _ w _ rfl hf h3 hnc hn hA hs hg hlen (by omega) hts Y hY hb
    · obtain ⟨vs, hv1, hv2⟩ := Lx.scan_glue hg (by omega)
      rcases hcase with hf | ⟨h3, hf, hA⟩
      · exact good s A n c l w _ rfl hf hs hg hlen (by omega) hts Y hY hb hv1 hv2
      · exact good_cut s A n c _ w _ rfl hf h3 hnc hn hA hs hg hlen (by omega) hts Y hY hb hv1 hv2

def GtQ (B : Option Nat) (_ : World) (t : GT) : Prop := ∀ b, B = some b → t.text.size ≤ b
theorem reads_tok (B : Option Nat) (N : Nat) : Reads Try.prog B N 54 gtCells (GtQ B) :=
  Reads.mono ((reads_struct (N := N + 1) Try.underlying54 (by kernel_rfl)
    (readsF_cons (sz := 1) rfl (by kernel_rfl) (reads_int Try.underlying3) (readsF_cons (sz := 1) rfl (by kernel_rfl) (reads_str Try.underlying9) (readsF_cons (sz := 1) rfl (by kernel_rfl) (reads_int Try.underlying3)
      (readsF_cons (sz := 1) rfl (by kernel_rfl) (reads_int Try.underlying3) readsF_nil))))).imp
    fun W ⟨k, t, n, a, _⟩ ⟨_, ht, _, _, _⟩ => ⟨⟨k, t, n, a⟩, rfl, ht.2⟩) (by omega)
theorem reads_toks (B : Option Nat) (N : Nat) : Reads Try.prog B N 46 (fun s : Sl GT => [s.val]) (SlIn B 4 40 gtCells (GtQ B)) :=
  Reads.mono (reads_slice (N := N) 4 40 Try.underlying46 (by kernel_rfl) (by kernel_rfl) (by omega) (reads_tok B N)) (by omega)
theorem walkA {W : World} (s : ByteArray) (_ : s.size ≤ reachBytes ∧ ∀ b, some 1048576 = some b → s.size ≤ b) (a : Sl GT) (h : SlIn (some 1048576) 4 40 gtCells (GtQ (some 1048576)) W a) : Calls Try.prog 9 #[.string s, a.val] W fun e w' => e = .returned (.bool true) ∧ Below W.heap.size W w' :=
  walk s a.A a.n a.c a.l W h.rd h.cap (by have := h.cap; have := h.small _ rfl; omega) (fun t ht => by have := h.each t ht _ rfl; omega)
end Go.Proofs.Ytkpacpkldjfbhaa.lexSpells
