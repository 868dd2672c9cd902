/- Part of the proof: WdP, Dec2. -/
import Derived.Test.YtlbnibmcflmohaaGreatPlx18
import Derived.Test.YtlbnibmcflmohaaGreatPlx19
namespace Go.Proofs.YtlbnibmcflmohaaGreat
open Go.RowKit
def mixed (x y : List UInt8) (i : Nat) : List UInt8 := Ch.xor (x.take i) (y.take i) ++ x.drop i
theorem mixed_len (x y : List UInt8) (i : Nat) (h : x.length = y.length) : (mixed x y i).length = x.length := by
  unfold mixed
  rw [List.length_append, Ch.xor_len _ _ (by simp [h]), List.length_take, List.length_drop]; omega
theorem mixed_get (x y : List UInt8) (i : Nat) (h : x.length = y.length) (hi : i < x.length) : (mixed x y i)[i]? = x[i]? := by
  unfold mixed
  have hl : (Ch.xor (x.take i) (y.take i)).length = i := by rw [Ch.xor_len _ _ (by simp [h]), List.length_take]; omega
  rw [List.getElem?_append_right (by omega), hl, Nat.sub_self, List.getElem?_drop, Nat.add_zero]
theorem mixed_set (x y : List UInt8) (i : Nat) (h : x.length = y.length) {a b : UInt8} (ha : x[i]? = some a) (hb : y[i]? = some b) : (mixed x y i).set i (a ^^^ b) = mixed x y (i + 1) := by
  unfold mixed
  have hi := (List.getElem?_eq_some_iff.1 ha).1
  have hl : (Ch.xor (x.take i) (y.take i)).length = i := by rw [Ch.xor_len _ _ (by simp [h]), List.length_take]; omega
  have hd : x.drop i = a :: x.drop (i + 1) := by
    rw [List.drop_eq_getElem_cons hi]; congr 1
    have := (List.getElem?_eq_some_iff.1 ha).2
    exact this
  rw [List.set_append_right _ _ (by omega), hl, Nat.sub_self, hd, List.set_cons_zero, List.take_add_one, List.take_add_one, ha, hb]
  unfold Ch.xor
  rw [List.zipWith_append (by simp [h])]
  simp
theorem mixed_end (x y : List UInt8) (h : x.length = y.length) : mixed x y x.length = Ch.xor x y := by
  unfold mixed
  rw [List.take_of_length_le (Nat.le_refl _), List.take_of_length_le (by omega), List.drop_of_length_le (Nat.le_refl _), List.append_nil]
end Go.Proofs.YtlbnibmcflmohaaGreat
/- wide.turn: one round; wide.fits. -/
namespace Go.Proofs.YtlbnibmcflmohaaGreat
open Go.RowKit
end Go.Proofs.YtlbnibmcflmohaaGreat
/- wide.Rounds: a block behind rounds. -/
namespace Go.Proofs.YtlbnibmcflmohaaGreat
open Go.RowKit
end Go.Proofs.YtlbnibmcflmohaaGreat
namespace Go.Proofs.YtlbnibmcflmohaaGreat
open Go.RowKit
def PaysR (w : World) (A : Option Addr) (m : Nat) (ks : List (List UInt8)) : Prop :=
  ks.length = m ∧ (∀ k ∈ ks, k.length = 32) ∧ (0 < m → ∃ b off, A = some ⟨b, off, none⟩ ∧ ∀ i k, ks[i]? = some k → Rd w (some ⟨b, off + i * 32, none⟩) 32 (u8s k))
theorem PaysR.below {w w' : World} {A : Option Addr} {m : Nat} {ks : List (List UInt8)} (h : PaysR w A m ks) (hB : Below w.heap.size w w') : PaysR w' A m ks :=
  ⟨h.1, h.2.1, fun hm => by
    obtain ⟨b, off, e, hr⟩ := h.2.2 hm
    exact ⟨b, off, e, fun i k hi => (hr i k hi).below hB⟩⟩
theorem eSl : ElemIs Tryz.prog 23 1 24 := ElemIs.of (z := .slice none 0 0) (by kernel_rfl) rfl (by omega)
end Go.Proofs.YtlbnibmcflmohaaGreat
