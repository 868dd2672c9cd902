/- Part of the proof: Blp. -/
import Derived.Test.YtlbnibmcflmohaaGreatPlx21
import Derived.Test.YtlbnibmcflmohaaGreatPlx42
namespace Go.Proofs.YtlbnibmcflmohaaGreat
open Go.RowKit
theorem note_zero {f e : Nat} (h : note f e = 0) : f = 0 ∧ e = 0 := by
  unfold note at h
  split at h
  · rename_i h1; exact absurd h h1.1
  · rename_i h1
    refine ⟨h, ?_⟩
    by_cases he : e = 0
    · exact he
    · exact absurd ⟨he, .inl h⟩ h1
theorem errN_zero {cs : List Cm} {n : Nat} : ∀ i, i ≤ cs.length → errN cs n i = 0 → ∀ j c, j < i → cs[j]? = some c → c.check = 0 ∧ (decide (c.k = 1) ≠ decide (j + 1 = n))
  | 0, _, _ => fun j c hj => absurd hj (by omega)
  | i + 1, hi, h => fun j c hj hc => by
    obtain ⟨s, hs⟩ : ∃ s, cs[i]? = some s := ⟨_, List.getElem?_eq_getElem (by omega)⟩
    rw [errN, hs] at h
    simp only at h
    by_cases hb : s.check = 0 ∧ (decide (s.k = 1) = decide (i + 1 = n))
    · rw [if_pos hb] at h
      exact absurd (note_zero h).2 (by decide)
    · rw [if_neg hb] at h
      obtain ⟨h1, h2⟩ := note_zero h
      by_cases hji : j < i
      · exact errN_zero i (by omega) h1 j c hji hc
      · obtain rfl : j = i := by omega
        rw [hs] at hc
        injection hc with hc
        subst hc
        exact ⟨h2, fun h3 => hb ⟨h2, h3⟩⟩
theorem berr_zero {cs : List Cm} {ns : Nat} (h : berr cs ns = 0) : 1 ≤ ns ∧ ns ≤ 5 ∧ ns = cs.length ∧ ∀ j c, cs[j]? = some c → c.check = 0 ∧ (decide (c.k = 1) ≠ decide (j + 1 = ns)) := by
  unfold berr at h
  split at h
  · exact absurd (note_zero h).2 (by decide)
  · rename_i h1
    refine ⟨by omega, by omega, by omega, fun j c hc => ?_⟩
    have := errN_zero cs.length (Nat.le_refl _) h j c (List.getElem?_eq_some_iff.1 hc).1 hc
    rwa [show ns = cs.length by omega]
def betaOf (c : Cm) (s : Sp) (f : List UInt8) (m : Nat) (P : List UInt8) : List UInt8 :=
  if m = 0 then Ch.turn s.stream (c.enc ++ List.replicate (240 - f.length - 32) 0) ++ f
  else Ch.turn s.stream (c.enc ++ ((P.drop 32).take 16 ++ (P.drop 48).take 192))
def headOf (c : Cm) (s : Sp) (f : List UInt8) (m : Nat) (P : List UInt8) : List UInt8 :=
  s.alpha ++ ((Mc.tag s.mac (s.alpha ++ betaOf c s f m P)).take 16 ++ betaOf c s f m P)
def hst (cs : List Cm) (ss : List Sp) (n : Nat) : Nat → List UInt8
  | 0 => z288
  | m + 1 => match cs[n - 1 - m]?, ss[n - 1 - m]? with
    | some c, some s => headOf c s (fil ss (n - 1)) m (hst cs ss n m)
    | _, _ => []
theorem betaOf_len {c : Cm} {s : Sp} {f P : List UInt8} {m : Nat} (hc : c.ok) (hf : f.length ≤ 208) (hP : P.length = 288) : (betaOf c s f m P).length = 240 := by
  unfold betaOf
  split
  · rw [List.length_append, Ch.turn_len, List.length_append, Cm.enc_len hc, List.length_replicate]; omega
  · rw [Ch.turn_len, List.length_append, Cm.enc_len hc]; simp [hP]
theorem headOf_len {c : Cm} {s : Sp} {f P : List UInt8} {m : Nat} (hc : c.ok) (hs : s.ok) (hf : f.length ≤ 208) (hP : P.length = 288) : (headOf c s f m P).length = 288 := by
  unfold headOf
  rw [List.length_append, List.length_append, betaOf_len hc hf hP, List.length_take, Mc.tag_len, hs.2.2.2.2.1]
  rfl
theorem hst_len {cs : List Cm} {ss : List Sp} {n : Nat} (hc : ∀ c ∈ cs, c.ok) (hs : ∀ s ∈ ss, s.ok) (hcl : cs.length = n) (hsl : ss.length = n) (hn : n ≤ 5) : ∀ m, m ≤ n → (hst cs ss n m).length = 288
  | 0, _ => List.length_replicate
  | m + 1, hm => by
    have ih := hst_len hc hs hcl hsl hn m (by omega)
    rw [hst, List.getElem?_eq_getElem (by omega), List.getElem?_eq_getElem (by omega)]
    exact headOf_len (hc _ (List.getElem_mem _)) (hs _ (List.getElem_mem _)) (by rw [fil_len _ _ (by omega)]; omega) ih
theorem hst_next {cs : List Cm} {ss : List Sp} {n m i : Nat} {c : Cm} {s : Sp} (hi : i = n - 1 - m) (hc : cs[i]? = some c) (hs : ss[i]? = some s) : hst cs ss n (m + 1) = headOf c s (fil ss (n - 1)) m (hst cs ss n m) := by
  subst hi
  rw [hst, hc, hs]
theorem w_alpha {P a : List UInt8} (ha : a.length = 32) : splice (u8s P) 0 (u8s a) = u8s (a ++ P.drop 32) := by
  rw [u8s_splice]
  unfold splice
  rw [List.take_zero, List.nil_append, Nat.zero_add, ha]
theorem w_beta {P a b : List UInt8} (hP : P.length = 288) (ha : a.length = 32) (hb : b.length = 240) : splice (u8s (a ++ P.drop 32)) 48 ((u8s b).take 240) = u8s (a ++ ((P.drop 32).take 16 ++ b)) := by
  rw [List.take_of_length_le (by rw [u8s_length, hb]; exact Nat.le_refl _), u8s_splice]
  unfold splice
  rw [show (a ++ P.drop 32).take 48 = a ++ (P.drop 32).take 16 by rw [List.take_append, ha, List.take_of_length_le (by omega)],
    show (a ++ P.drop 32).drop (48 + b.length) = [] from List.drop_eq_nil_of_le (by rw [List.length_append, List.length_drop, ha, hP, hb]; omega), List.append_nil, List.append_assoc]
theorem w_tag {a t0 t b : List UInt8} (ha : a.length = 32) (h0 : t0.length = 16) (ht : t.length = 16) : splice (u8s (a ++ (t0 ++ b))) 32 ((u8s t).take 16) = u8s (a ++ (t ++ b)) := by
  rw [List.take_of_length_le (by rw [u8s_length, ht]; exact Nat.le_refl _), u8s_splice, ← List.append_assoc, ← List.append_assoc]
  have := splice_at a t0 t b (by omega)
  rw [ha] at this
  exact congrArg u8s this
theorem rd_of_range {w : World} {b o : Nat} {l : List UInt8} (h : w.rangeAt b o (u8s l)) (hb : b < w.heap.size) (k n : Nat) (hk : k + n ≤ l.length) : Rd w (some ⟨b, o + k, none⟩) n (u8s ((l.drop k).take n)) := by
  refine ⟨by rw [u8s_length, List.length_take, List.length_drop]; omega, fun _ => ⟨b, o + k, rfl, hb, fun j u hu => ?_⟩⟩
  rw [← u8s_take, ← u8s_drop, List.getElem?_take] at hu
  split at hu
  · rw [Nat.add_assoc]
    refine h (k + j) u ?_
    rwa [List.getElem?_drop] at hu
  · cases hu
theorem RdS.wr {sz : Nat} {w w' : World} {A : Option Addr} {n g : Nat} {xs : List Value} (h : RdS sz w A n xs) (hw : Wrote g w w') (hA : ∀ ad : Addr, A = some ad → ad.block ≠ g) : RdS sz w' A n xs := by
  refine ⟨h.1, fun hn => ?_⟩
  obtain ⟨b, off, e, hlt, hc⟩ := h.2 hn
  exact ⟨b, off, e, Nat.lt_of_lt_of_le hlt hw.size, fun j u hu => (World.grownBy.cell_far hw ⟨b, off + j, none⟩ hlt (fun e' => hA _ e (by injection e'))).trans (hc j u hu)⟩
end Go.Proofs.YtlbnibmcflmohaaGreat
