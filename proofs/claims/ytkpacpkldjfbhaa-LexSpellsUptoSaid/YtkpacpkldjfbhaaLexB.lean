/- shallotref21.Same: alike rows of tokens are the same. -/
import Derived.Test.YtkpacpkldjfbhaaLexA
namespace Go.Proofs.Ytkpacpkldjfbhaa
open Go.RowKit

/-- the k-th token's cells in a row -/
theorem toks_get {l : List Lx.Tok} {i : Nat} {t : Lx.Tok} (h : l[i]? = some t) : (toksCells l)[i * 4 + 0]? = some (.int .i64 t.kind) ∧ (toksCells l)[i * 4 + 1]? = some (.string (bytesOf t.text)) ∧ (toksCells l)[i * 4 + 2]? = some (.int .i64 t.num) ∧ (toksCells l)[i * 4 + 3]? = some (.int .i64 t.at_) := by
  induction l generalizing i with
  | nil => simp at h
  | cons x l ih =>
    have hc : toksCells (x :: l) = tokCells x ++ toksCells l := by simp [toksCells]
    cases i with
    | zero =>
      simp at h
      subst h
      rw [hc]
      exact ⟨rfl, rfl, rfl, rfl⟩
    | succ i =>
      have := ih (i := i) (by simpa using h)
      rw [hc]
      have hl : (tokCells x).length = 4 := rfl
      have e : ∀ k, (tokCells x ++ toksCells l)[(i + 1) * 4 + k]? = (toksCells l)[i * 4 + k]? := fun k => by
        rw [List.getElem?_append_right (by rw [hl]; omega), hl]
        congr 1
        omega
      rw [e, e, e, e]
      exact this

theorem RdS.below' {sz : Nat} {w w' : World} {A : Option Addr} {n : Nat} {xs : List Value} (h : RdS sz w A n xs) {B : Nat} (hb : Below B w w') (hB : w.heap.size ≤ B) : RdS sz w' A n xs := by
  refine ⟨h.1, fun hn => ?_⟩
  obtain ⟨b, off, e, hlt, hc⟩ := h.2 hn
  exact ⟨b, off, e, Nat.lt_of_lt_of_le hlt hb.size, fun j u hu => (hb.cell (p := ⟨b, off + j, none⟩) (Nat.lt_of_lt_of_le hlt hB)).trans (hc j u hu)⟩

set_option maxHeartbeats 4000000 in
theorem same_any (A A' : Option Addr) (n c c' : Nat) (l l' : List Lx.Tok) (pl : Bool) (w : World) (h : RdS 4 w A n (toksCells l)) (h' : RdS 4 w A' n (toksCells l')) (hl : l.length = n) (hn : n ≤ 100000)
    (hs : ∀ (i : Nat) (t t' : Lx.Tok), l[i]? = some t → l'[i]? = some t' → t.kind = t'.kind ∧ t.text = t'.text ∧ t.num = t'.num ∧ (pl = true → t.at_ = t'.at_)) :
    Calls Try.prog 23 #[.slice A n c, .slice A' n c', .bool pl] w fun e w' => e = .returned (.bool true) ∧ Below w.heap.size w w' := by
  have hl' : l'.length = n := by have := h'.1; rw [toksCells_len] at this; omega
  have HS := Lib.hid hs
  clear hs
  go_enter Try.func23, Try.ntmps23
  go_wp2_with fail
  go_loopg [7] n (fun k q wr => ∃ i : Nat, i ≤ n ∧ k = n - i ∧ q = .int .i64 i ∧ Below w.heap.size w wr)
  case atStart => exact ⟨0, by omega, rfl, rfl, Below.refl _ _⟩
  case round =>
    obtain ⟨i, hi, hgk, rfl, hB⟩ := hrel
    have HGK := Lib.hid hgk
    clear hgk
    by_cases hlt : i < n
    · obtain ⟨t, ht⟩ : ∃ t, l[i]? = some t := ⟨l[i], List.getElem?_eq_getElem (by omega)⟩
      obtain ⟨t', ht'⟩ : ∃ t, l'[i]? = some t := ⟨l'[i], List.getElem?_eq_getElem (by omega)⟩
      obtain ⟨q1, q2, q3, q4⟩ := HS.out i t t' ht ht'
      have HQ4 := Lib.hid q4
      obtain ⟨b, off, rfl, hb, hc⟩ := h.2 (by omega)
      obtain ⟨b', off', rfl, hb', hc'⟩ := h'.2 (by omega)
      obtain ⟨x0, x1, x2, x3⟩ := toks_get ht
      obtain ⟨y0, y1, y2, y3⟩ := toks_get ht'
      have d0 := (hB.cell (p := ⟨_, _, none⟩) hb).trans (hc _ _ x0)
      have d1 := (hB.cell (p := ⟨_, _, none⟩) hb).trans (hc _ _ x1)
      have d2 := (hB.cell (p := ⟨_, _, none⟩) hb).trans (hc _ _ x2)
      have d3 := (hB.cell (p := ⟨_, _, none⟩) hb).trans (hc _ _ x3)
      have f0 := (hB.cell (p := ⟨_, _, none⟩) hb').trans (hc' _ _ y0)
      have f1 := (hB.cell (p := ⟨_, _, none⟩) hb').trans (hc' _ _ y1)
      have f2 := (hB.cell (p := ⟨_, _, none⟩) hb').trans (hc' _ _ y2)
      have f3 := (hB.cell (p := ⟨_, _, none⟩) hb').trans (hc' _ _ y3)
      rw [← q1] at f0
      rw [← q2] at f1
      rw [← q3] at f2
      rw [Nat.add_zero] at d0 f0
      rw [← Nat.add_assoc] at d1 d2 d3 f1 f2 f3
      generalize (bytesOf t.text) = T at *
      have hbr : b < wr.heap.size := Nat.lt_of_lt_of_le hb hB.size
      have hbr' : b' < wr.heap.size := Nat.lt_of_lt_of_le hb' hB.size
      clear hc hc' x0 x1 x2 x3 y0 y1 y2 y3 q1 q2 q3 q4 ht ht'
      have i1 : (i : Int) < (n : Int) := by omega
      have i0 : (0 : Int) ≤ (i : Int) := by omega
      generalize t.kind = tk at *
      generalize t.num = tn at *
      generalize t.at_ = ta at *
      generalize t'.at_ = ta' at *
      clear HS h h' hl hl'
      cases pl
      case' true => have e := HQ4.out rfl; subst e
      all_goals
        clear HQ4
        go_wp2_with fail
        go_region
        all_goals
          go_wp2_with fail
          go_roundg (n - (i + 1))
          case measure => have := HGK.out; omega
          case rel =>
            refine ⟨i + 1, by omega, rfl, by go_num, ?_⟩
            repeat (first | exact hB | apply Below.drew | (refine Below.setCell ?_ (by have := hB.size; simp; try omega) _) | (refine Below.alloc ?_ (by have := hB.size; simp; try omega) _))
    · go_wp2_with fail
      go_ret
      exact ⟨rfl, hB⟩
end Go.Proofs.Ytkpacpkldjfbhaa
