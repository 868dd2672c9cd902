/- slices.Contains over strings. -/
import Derived.Test.YtkpacpkldjfbhaaBaseb
namespace Go.Proofs.Ytkpacpkldjfbhaa
open Go.RowKit

def strs (l : List ByteArray) : List Value := l.map Value.string
theorem strs_get {l : List ByteArray} {k : Nat} {u : Value} (h : (strs l)[k]? = some u) : ∃ x, l[k]? = some x ∧ u = .string x := by
  simp only [strs, List.getElem?_map, Option.map_eq_some_iff] at h
  obtain ⟨x, h1, h2⟩ := h
  exact ⟨x, h1, h2.symm⟩
theorem str_ne {T x : ByteArray} (h : T ≠ x) : (T.toList == x.toList) = false := by
  rw [ByteArray.toList_eq, ByteArray.toList_eq, beq_eq_false_iff_ne]
  exact fun e => h (ByteArray.ext (Array.toList_inj.1 e))
def bmem (T : ByteArray) (l : List ByteArray) : Bool := (l.map (·.data.toList)).contains T.data.toList
theorem bmem_iff {T : ByteArray} {l : List ByteArray} : bmem T l = true ↔ T ∈ l := by
  unfold bmem
  rw [List.contains_iff_mem, List.mem_map]
  constructor
  · rintro ⟨x, hx, e⟩
    have : x = T := ByteArray.ext (Array.toList_inj.1 e)
    exact this ▸ hx
  · exact fun h => ⟨T, h, rfl⟩
def IdxPost (T : ByteArray) (l : List ByteArray) (w : World) (e : Ending) (w' : World) : Prop := ∃ z : Int, e = .returned (.int .i64 z) ∧ decide (0 ≤ z) = bmem T l ∧ w = w'

set_option maxHeartbeats 2000000 in
theorem index_any (A : Option Addr) (n c : Nat) (l : List ByteArray) (T : ByteArray) (w : World) (h : Rd w A n (strs l)) (hn : n ≤ 140737488355328) :
    Calls Try.prog 60 #[.slice A n c, .string T] w (IdxPost T l w) := by
  have hl : l.length = n := by have := h.1; simpa [strs] using this
  have HL := Lib.hid hl
  clear hl
  go_enter Try.func60, Try.ntmps60
  go_wp2_with fail
  go_loop [8] (fun q => ∃ k : Nat, k ≤ n ∧ q = .int .i64 k ∧ Hid (∀ j x, j < k → l[j]? = some x → T ≠ x)) (fun q => n - (intOf q).toNat)
  case atStart => exact ⟨0, Nat.zero_le _, rfl, fun j x hj => by omega⟩
  case round =>
    obtain ⟨k, hk, rfl, HK⟩ := hrel
    by_cases hlt : k < n
    · obtain ⟨b, off, u, rfl, hb, HU, hc⟩ := h.at_ hlt
      obtain ⟨x, hx, rfl⟩ := strs_get HU.out
      have HX := Lib.hid hx
      have i0 : (0 : Int) ≤ (k : Int) := by omega
      have i1 : (k : Int) < (n : Int) := by omega
      clear hx HU
      by_cases hT : T = x
      · subst hT
        go_wp2_with fail
        go_ret
        exact ⟨k, rfl, by
          have hm : T ∈ l := List.mem_of_getElem? HX.out
          rw [bmem_iff.2 hm]; simp, rfl⟩
      · have e1 : (T.toList == x.toList) = false := str_ne hT
        have HK' : Hid (∀ j x, j < k + 1 → l[j]? = some x → T ≠ x) := fun j y hj hy => by
          rcases Nat.lt_or_ge j k with h | h
          · exact HK.out j y h hy
          · obtain rfl : j = k := by omega
            rw [HX.out] at hy
            injection hy with hy
            rw [← hy]
            exact hT
        have HT := Lib.hid hT
        clear hT
        go_wp2_with fail
        go_round
        case rel => exact ⟨k + 1, by omega, by go_num, HK'.out⟩
        case measure => simp [intOf]; omega
    · go_wp2_with fail
      go_ret
      refine ⟨-1, rfl, ?_, rfl⟩
      have hm : T ∉ l := fun hm => by
        obtain ⟨j, hj, e⟩ := List.mem_iff_getElem.1 hm
        exact HK.out j T (by have := HL.out; omega) (by rw [List.getElem?_eq_getElem hj, e]) rfl
      rw [Bool.eq_false_iff.2 (fun h => hm (bmem_iff.1 h))]
      rfl
set_option maxHeartbeats 2000000 in
theorem contains_any (A : Option Addr) (n c : Nat) (l : List ByteArray) (T : ByteArray) (w : World) (h : Rd w A n (strs l)) (hn : n ≤ 140737488355328) :
    Calls Try.prog 49 #[.slice A n c, .string T] w fun e w' => e = .returned (.bool (bmem T l)) ∧ w = w' := by
  have HI := Lib.hid (index_any A n c l T w h hn)
  clear h
  go_enter Try.func49, Try.ntmps49
  go_wp2_with (go_at_call 60; refine HI.out.mono ?_; rintro e w' ⟨z, rfl, hz, rfl⟩; have HZ := Lib.hid hz; clear hz)
  go_ret
  exact ⟨by rw [← HZ.out]; rfl, rfl⟩
end Go.Proofs.Ytkpacpkldjfbhaa
