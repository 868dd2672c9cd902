/- Filler of any number of steps; the beginning of Apart. -/
import Derived.Test.YtgkhglnfbhdkeaaApa
namespace Go.Proofs.Ytgkhglnfbhdkeaa
open Go.RowKit

set_option maxRecDepth 100000 in
set_option maxHeartbeats 1000000 in
theorem filler_no (A : Option Addr) (n c : Nat) (w : World) (h : n < 1 ∨ 5 < n) (hn : n ≤ 140737488355328) :
    Calls Try.prog 30 #[.slice A n c] w fun e w' => e = .returned (.tuple #[.slice none 0 0, .int .i64 2]) ∧ w = w' := by
  rcases (show n < 1 ∨ (¬ n < 1 ∧ 5 < n) by omega) with h1 | ⟨h1, h2⟩
  · have i1 : (n : Int) < 1 := by omega
    clear h h1
    go_enter Try.func30, Try.ntmps30
    go_wp2_with fail
    go_ret2
    exact ⟨rfl, rfl⟩
  · have i1 : ¬ (n : Int) < 1 := by omega
    have i2 : (5 : Int) < (n : Int) := by omega
    clear h h1 h2
    go_enter Try.func30, Try.ntmps30
    go_wp2_with fail
    go_ret2
    exact ⟨rfl, rfl⟩
/-- what Filler answers -/
def filN (n : Nat) : Nat := if n < 1 ∨ 5 < n then 0 else 48 * (n - 1)
def filB (ss : List Sp) (n : Nat) : List UInt8 := if n < 1 ∨ 5 < n then [] else fil ss (n - 1)
def filE (n : Nat) : Int := if n < 1 ∨ 5 < n then 2 else 0
theorem filN_le (n : Nat) : filN n ≤ 192 := by unfold filN; split <;> omega
theorem filler_all (A : Option Addr) (n c : Nat) (ss : List Sp) (w : World) (h : RdS 192 w A n (ss.flatMap Sp.cells)) (hs : ∀ s ∈ ss, s.ok) (hl : ss.length = n) (hn : n ≤ 140737488355328) (hc : n ≤ c) :
    Calls Try.prog 30 #[.slice A n c] w fun e w' => ∃ A' c', e = .returned (.tuple #[.slice A' (filN n) c', .int .i64 (filE n)]) ∧ filN n ≤ c' ∧ w'.ownsRow w.heap.size 5 1 (.slice A' (filN n) c') (filN n) (u8s (filB ss n)) ∧ Below w.heap.size w w' := by
  unfold filN filB filE
  split
  · rename_i hb
    refine (filler_no A n c w hb hn).mono ?_
    rintro e w' ⟨rfl, rfl⟩
    exact ⟨none, 0, rfl, by omega, World.ownsRow_nil _ _ _ _, Below.refl _ _⟩
  · rename_i hb
    obtain ⟨m, rfl⟩ : ∃ m, n = m + 1 := ⟨n - 1, by omega⟩
    rw [Nat.add_sub_cancel]
    refine (filler_any A m c ss w h hs hl (by omega) hc).mono ?_
    rintro e w' ⟨A', c', rfl, h1, h2, h3⟩
    exact ⟨A', c', rfl, h1, h2, h3⟩

theorem Tr.of_own {w : World} {O : Own} {base i n c : Nat} {A : Option Addr} {xs : List UInt8} (h : w.ownsRow base 5 1 (.slice A n c) n (u8s xs)) (hO : ∀ g, Value.ownBlock (.slice A n c) = some g → O g = some i) : Tr w O i (.slice A n c) n 0 := by
  refine ⟨Nat.zero_le _, ?_⟩
  have hxl : xs.length = n := by have := h.1; rw [u8s_length] at this; omega
  rcases h.2 with ⟨h1, h0⟩ | ⟨g, cap, cur, hv, _, hg, hnc, hcm, hcs, htake⟩
  · exact .inl ⟨h1, h0⟩
  · refine .inr ⟨g, cap, cur.toList, hv, hO g (by rw [hv]; rfl), by unfold Blk; simpa using hg, hnc, by simpa using hcs, hcm, fun j hj => ?_, fun j hj => absurd hj (by omega)⟩
    have h5 : (cur.toList.take (n * 1))[j]? = (u8s xs)[j]? := by rw [htake]
    rw [List.getElem?_take, if_pos (by omega), u8s_getElem?, List.getElem?_eq_getElem (show j < xs.length by omega)] at h5
    exact ⟨_, h5⟩
/-- the lists at the beginning: each in a block of its own -/
theorem ST.make {base : Nat} {w0 w : World} {L k : Nat} {vs : List Value} {ns : Nat → Nat} (hb : Below base w0 w) (hi : base ≤ w.heap.size) (hL : Blk w L 22 vs)
    (hv : ∀ i, i < k → ∃ A c xs, vs[i]? = some (.slice A (ns i) c) ∧ w.ownsRow base 5 1 (.slice A (ns i) c) (ns i) (u8s xs) ∧ (∀ g, Value.ownBlock (.slice A (ns i) c) = some g → g ≠ L))
    (hd : ∀ i j g A c A' c', i < k → j < k → vs[i]? = some (.slice A (ns i) c) → vs[j]? = some (.slice A' (ns j) c') → Value.ownBlock (.slice A (ns i) c) = some g → Value.ownBlock (.slice A' (ns j) c') = some g → i = j) : ∃ O, ST base w0 L k vs ns w O (fun _ => 0) := by
  refine ⟨fun g => (List.range k).find? (fun i => decide ((vs[i]?.bind Value.ownBlock) = some g)), ?_⟩
  have hO : ∀ g i, (List.range k).find? (fun i => decide ((vs[i]?.bind Value.ownBlock) = some g)) = some i → i < k ∧ (vs[i]?.bind Value.ownBlock) = some g := fun g i h => by
    have h1 := List.find?_some h
    have h2 := List.mem_of_find?_eq_some h
    exact ⟨List.mem_range.1 h2, by simpa using h1⟩
  have hlt : ∀ g i, (List.range k).find? (fun i => decide ((vs[i]?.bind Value.ownBlock) = some g)) = some i → base ≤ g ∧ g < w.heap.size ∧ g ≠ L := fun g i h => by
    obtain ⟨h1, h2⟩ := hO g i h
    obtain ⟨A, c, xs, e, ho, hne⟩ := hv i h1
    rw [e] at h2
    exact ⟨(ho.lt g h2).1, (ho.lt g h2).2, hne g h2⟩
  refine ⟨⟨fun g hg => ?_, fun g i h => (hlt g i h).1, hb⟩, hi, hL, ?_, fun i hik => ?_⟩
  · cases h : (List.range k).find? (fun i => decide ((vs[i]?.bind Value.ownBlock) = some g)) with
    | none => rfl
    | some i => have := (hlt g i h).2.1; omega
  · cases h : (List.range k).find? (fun i => decide ((vs[i]?.bind Value.ownBlock) = some L)) with
    | none => rfl
    | some i => exact absurd rfl (hlt L i h).2.2
  · obtain ⟨A, c, xs, e, ho, _⟩ := hv i hik
    refine ⟨A, c, e, Tr.of_own ho fun g hg => ?_⟩
    cases h : (List.range k).find? (fun i => decide ((vs[i]?.bind Value.ownBlock) = some g)) with
    | none =>
      have := List.find?_eq_none.1 h i (List.mem_range.2 hik)
      rw [e] at this
      exact absurd hg (by simpa using this)
    | some j =>
      obtain ⟨h1, h2⟩ := hO g j h
      obtain ⟨A', c', xs', e', _, _⟩ := hv j h1
      rw [e'] at h2
      rw [hd i j g A c A' c' hik h1 e e' hg h2]
end Go.Proofs.Ytgkhglnfbhdkeaa
