/- packet.Least and the reference's Least; the fixed fact of layer 14. -/
import Derived.Test.YtkpacpkldjfbhaaPb
namespace Go.Proofs.Ytkpacpkldjfbhaa
open Go.RowKit

def i64 (n : Int) : Value := .int .i64 n
def i64s (l : List Int) : List Value := l.map i64
theorem i64s_length (l : List Int) : (i64s l).length = l.length := by simp [i64s]
theorem i64s_one (l : List Int) : ∀ v ∈ i64s l, v.oneCell' = true := by
  intro v hv
  obtain ⟨c, _, rfl⟩ := List.mem_map.1 hv
  rfl
theorem Rd.i64 {w : World} {A : Option Addr} {n : Nat} {l : List Int} (h : Rd w A n (i64s l)) {k : Nat} (hk : k < n) :
    ∃ b off x, A = some ⟨b, off, none⟩ ∧ b < w.heap.size ∧ Hid (l[k]? = some x) ∧ w.cell? ⟨b, off + k, none⟩ = some (.int .i64 x) := by
  obtain ⟨b, off, e, hb, hc⟩ := h.2 (by omega)
  have hl : k < l.length := by have := h.1; rw [i64s_length] at this; omega
  exact ⟨b, off, l[k], e, hb, List.getElem?_eq_getElem hl, hc k _ (by simp [i64s, List.getElem?_eq_getElem hl, Proofs.Ytkpacpkldjfbhaa.i64])⟩

def least1 (m e : Int) : Int := if e ≠ 0 ∧ (m = 0 ∨ e < m) then e else m
def leastOf (l : List Int) : Int := l.foldl least1 0
theorem leastOf_snoc (l : List Int) (k : Nat) (x : Int) (h : l[k]? = some x) : leastOf (l.take (k + 1)) = least1 (leastOf (l.take k)) x := by
  rw [List.take_add_one, h]; simp [leastOf]

set_option maxHeartbeats 400000 in
theorem least_any (A : Option Addr) (n c : Nat) (l : List Int) (w : World) (h : Rd w A n (i64s l)) (hn : n ≤ 140737488355328) :
    Calls Try.prog 11 #[.slice A n c] w fun e w' => e = .returned (.int .i64 (leastOf l)) ∧ w = w' := by
  have hl : l.length = n := by rw [← i64s_length]; exact h.1
  have HL := Lib.hid hl
  clear hl
  go_enter Try.func11, Try.ntmps11
  go_wp2
  go_loop [3, 8] (fun m i => ∃ k : Nat, k ≤ n ∧ i = .int .i64 k ∧ m = .int .i64 (leastOf (l.take k))) (fun _ i => n - (intOf i).toNat)
  case atStart => exact ⟨0, Nat.zero_le _, rfl, rfl⟩
  case round =>
    obtain ⟨k, hk, rfl, rfl⟩ := hrel
    by_cases hlt : k < n
    · obtain ⟨b, off, x, rfl, hb, HX, hc⟩ := h.i64 hlt
      have hs := leastOf_snoc l k x HX.out
      generalize leastOf (l.take k) = m at *
      have HS := Lib.hid hs
      clear hs
      go_wp2
      all_goals
        go_round
        case rel => exact ⟨k + 1, by omega, by go_num, by rw [HS.out]; first | (simp_all [least1]; done) | (simp_all [least1]; omega)⟩
        case measure => simp [intOf]; omega
    · have : k = n := by omega
      subst this
      go_wp2
      go_ret
      rw [List.take_of_length_le (by rw [HL.out]; omega)]
      exact ⟨rfl, rfl⟩

set_option maxHeartbeats 400000 in
theorem rleast_any (A : Option Addr) (n c : Nat) (l : List Int) (w : World) (h : Rd w A n (i64s l)) (hn : n ≤ 140737488355328) :
    Calls Try.prog 12 #[.slice A n c] w fun e w' => e = .returned (.int .i64 (leastOf l)) ∧ w = w' := by
  have hl : l.length = n := by rw [← i64s_length]; exact h.1
  have HL := Lib.hid hl
  clear hl
  go_enter Try.func12, Try.ntmps12
  go_wp2
  go_loop [3, 4] (fun m i => ∃ k : Nat, k ≤ n ∧ i = .int .i64 k ∧ m = .int .i64 (leastOf (l.take k))) (fun _ i => n - (intOf i).toNat)
  case atStart => exact ⟨0, Nat.zero_le _, rfl, rfl⟩
  case round =>
    obtain ⟨k, hk, rfl, rfl⟩ := hrel
    by_cases hlt : k < n
    · obtain ⟨b, off, x, rfl, hb, HX, hc⟩ := h.i64 hlt
      have hs := leastOf_snoc l k x HX.out
      generalize leastOf (l.take k) = m at *
      have HS := Lib.hid hs
      clear hs
      go_wp2
      all_goals
        go_round
        case rel => exact ⟨k + 1, by omega, by go_num, by rw [HS.out]; first | (simp_all [least1]; done) | (simp_all [least1]; omega)⟩
        case measure => simp [intOf]; omega
    · have : k = n := by omega
      subst this
      go_wp2
      go_ret
      rw [List.take_of_length_le (by rw [HL.out]; omega)]
      exact ⟨rfl, rfl⟩

end Go.Proofs.Ytkpacpkldjfbhaa
