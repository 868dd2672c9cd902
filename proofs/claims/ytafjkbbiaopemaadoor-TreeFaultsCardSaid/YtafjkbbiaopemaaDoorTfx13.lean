/- Part of the proof: LexP. -/
import Derived.Test.YtafjkbbiaopemaaDoorTfx11
set_option linter.unusedVariables false
namespace Go.Proofs.YtafjkbbiaopemaaDoor.Lx
def Stands (s : List UInt8) (t : Tok) : Prop :=
  1 ≤ t.kind ∧ t.kind ≤ 5 ∧ t.at_ < s.length ∧ (t.kind = 4 → s[t.at_]? = some 34) ∧ (t.kind ≠ 4 → t.text.length ≤ s.length - t.at_ ∧ (s.drop t.at_).take t.text.length = t.text)
theorem token_stands {c : UInt8} {r : List UInt8} {k m : Nat} {t x : List UInt8} (h : token (c :: r) = .inr (k, t, m, x)) :
    1 ≤ k ∧ k ≤ 5 ∧ (k = 4 → c = 34) ∧ (k ≠ 4 → t.length ≤ (c :: r).length ∧ (c :: r).take t.length = t) := by
  have pre : ∀ p : UInt8 → Bool, ((c :: r).takeWhile p).length ≤ (c :: r).length ∧ (c :: r).take ((c :: r).takeWhile p).length = (c :: r).takeWhile p := fun p => by
    have := List.takeWhile_prefix p (l := c :: r)
    exact ⟨this.length_le, (List.prefix_iff_eq_take.1 this).symm⟩
  unfold token at h
  simp only [] at h
  split at h
  · split at h
    · cases h
    · injection h with h
      injection h with h1 h
      injection h with h2 h
      subst h2
      refine ⟨?_, ?_, ?_, fun _ => pre _⟩
      · subst h1; split <;> omega
      · subst h1; split <;> omega
      · intro hk; subst h1; split at hk <;> omega
  · split at h
    · split at h
      · cases h
      · split at h
        · cases h
        · injection h with h
          injection h with h1 h
          injection h with h2 h
          subst h2
          subst h1
          exact ⟨by omega, by omega, by omega, fun _ => pre _⟩
    · split at h
      · rename_i hc
        split at h
        · cases h
        · injection h with h
          injection h with h1 h
          subst h1
          exact ⟨by omega, by omega, fun _ => by simpa using hc, fun hk => absurd rfl hk⟩
      · split at h
        · injection h with h
          injection h with h1 h
          injection h with h2 h
          subst h2
          subst h1
          exact ⟨by omega, by omega, by omega, fun _ => ⟨by simp, by simp⟩⟩
        · cases h
theorem skip_suffix (com : Bool) (r : List UInt8) : ∃ q, skip com r = r.drop q := by
  induction r generalizing com with
  | nil => exact ⟨0, rfl⟩
  | cons c r ih =>
    unfold skip
    split
    · split
      · obtain ⟨q, hq⟩ := ih false; exact ⟨q + 1, by simpa using hq⟩
      · obtain ⟨q, hq⟩ := ih true; exact ⟨q + 1, by simpa using hq⟩
    · split
      · obtain ⟨q, hq⟩ := ih false; exact ⟨q + 1, by simpa using hq⟩
      · split
        · obtain ⟨q, hq⟩ := ih true; exact ⟨q + 1, by simpa using hq⟩
        · exact ⟨0, rfl⟩
theorem drop_len {s r : List UInt8} {q : Nat} (h : r = s.drop q) : r = s.drop (s.length - r.length) := by
  rcases Nat.lt_or_ge q s.length with hq | hq
  · have : r.length = s.length - q := by rw [h]; simp
    rw [show s.length - r.length = q from by omega]
    exact h
  · rw [List.drop_eq_nil_of_le hq] at h
    subst h
    rw [List.drop_eq_nil_of_le (by simp)]
def Rising (ts : List Tok) : Prop := ∀ (i : Nat) (t t' : Tok), ts[i]? = some t → ts[i + 1]? = some t' → t.at_ < t'.at_
theorem Rising.snoc {ts : List Tok} (h : Rising ts) (u : Tok) (hu : ∀ t ∈ ts, t.at_ < u.at_) : Rising (ts ++ [u]) := by
  intro i t t' h1 h2
  rcases Nat.lt_or_ge (i + 1) ts.length with hi | hi
  · rw [List.getElem?_append_left (by omega)] at h1
    rw [List.getElem?_append_left hi] at h2
    exact h i t t' h1 h2
  · rw [List.getElem?_append_right hi] at h2
    have he : i + 1 = ts.length := by
      have := (List.getElem?_eq_some_iff.1 h2).1
      simp at this
      omega
    rw [he] at h2
    simp at h2
    subst h2
    rw [List.getElem?_append_left (by omega)] at h1
    exact hu t (List.mem_of_getElem? h1)
theorem scanF_stands (s : List UInt8) (f : Nat) (r : List UInt8) (acc out : List Tok) (q : Nat) (hr : r = s.drop q) (ha : ∀ t ∈ acc, Stands s t ∧ t.at_ < s.length - r.length) (hri : Rising acc)
    (h : scanF s.length f r acc = .inr out) : ∃ us, out = us ++ [⟨6, [], 0, s.length⟩] ∧ Rising us ∧ ∀ t ∈ us, Stands s t := by
  induction f generalizing r acc q with
  | zero => simp [scanF] at h
  | succ f ih =>
    unfold scanF at h
    obtain ⟨q1, hq1⟩ := skip_suffix false r
    split at h
    · injection h with h
      exact ⟨acc, h.symm, hri, fun t ht => (ha t ht).1⟩
    · rename_i c r1 hsk
      split at h
      · cases h
      · rename_i k t m x htok
        have hs1 : c :: r1 = s.drop (q + q1) := by rw [← hsk, hq1, hr, List.drop_drop]
        have hd := drop_len hs1
        obtain ⟨q2, hq2⟩ := token_suffix htok
        have hx : x = s.drop (q + q1 + q2) := by rw [hq2, hs1, List.drop_drop]
        have hl := token_len htok
        have hlr : (c :: r1).length ≤ r.length := by rw [← hsk]; exact skip_len _ _
        have hls : (c :: r1).length ≤ s.length := by rw [hs1]; simp
        have hrs : r.length ≤ s.length := by rw [hr]; simp
        obtain ⟨k1, k2, k3, k4⟩ := token_stands htok
        have hpos : 0 < (c :: r1).length := by simp
        have hst : Stands s ⟨k, t, m, s.length - (c :: r1).length⟩ := by
          refine ⟨k1, k2, by show s.length - (c :: r1).length < s.length; omega, fun hk => ?_, fun hk => ?_⟩
          · have hc := k3 hk
            show s[s.length - (c :: r1).length]? = some 34
            have : (s.drop (s.length - (c :: r1).length))[0]? = some c := by rw [← hd]; rfl
            rw [List.getElem?_drop] at this
            rw [← hc]
            simpa using this
          · obtain ⟨k5, k6⟩ := k4 hk
            show t.length ≤ s.length - (s.length - (c :: r1).length) ∧ (s.drop (s.length - (c :: r1).length)).take t.length = t
            rw [← hd]
            exact ⟨by omega, k6⟩
        refine ih x _ _ hx (fun u hu => ?_) (hri.snoc _ fun u hu => ?_) h
        · rcases List.mem_append.1 hu with hu | hu
          · exact ⟨(ha u hu).1, by have := (ha u hu).2; omega⟩
          · simp at hu
            subst hu
            refine ⟨hst, ?_⟩
            show s.length - (c :: r1).length < s.length - x.length
            omega
        · show u.at_ < s.length - (c :: r1).length
          have := (ha u hu).2
          omega
theorem scan_cases (s : List UInt8) : (∃ p q, scan s = ((p, q), []) ∧ ((p = 2 ∧ q = 0 ∧ 8000 < s.length) ∨ (p = 9 ∧ q ≤ s.length ∧ s.length ≤ 8000))) ∨
    (∃ us, scan s = ((0, 0), us ++ [⟨6, [], 0, s.length⟩]) ∧ Rising us ∧ (∀ t ∈ us, Stands s t) ∧ s.length ≤ 8000) := by
  unfold scan
  split
  · exact .inl ⟨2, 0, rfl, .inl ⟨rfl, rfl, by omega⟩⟩
  · cases h : scanF s.length (s.length + 1) s [] with
    | inl x => exact .inl ⟨9, s.length - x.length, rfl, .inr ⟨rfl, by omega, by omega⟩⟩
    | inr ts =>
      obtain ⟨us, rfl, h1, h2⟩ := scanF_stands s _ s [] ts 0 rfl (by simp) (fun i t t' h => by simp at h) h
      exact .inr ⟨us, rfl, h1, h2, by omega⟩
end Go.Proofs.YtafjkbbiaopemaaDoor.Lx
