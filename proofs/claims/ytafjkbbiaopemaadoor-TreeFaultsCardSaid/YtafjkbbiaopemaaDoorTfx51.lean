/- Part of the proof: TreeFaultsW. -/
import Derived.Test.YtafjkbbiaopemaaDoorTfx50
set_option linter.unusedVariables false
namespace Go.Proofs.YtafjkbbiaopemaaDoor.Tr
open Go.RowKit
section
variable {w w' : World}
theorem al2 {B : Nat} {o o' : Obj} {w0 : World} (h : Below B w0 w) (h2 : Below ((w.alloc o).alloc o').heap.size ((w.alloc o).alloc o') w') (hB : B ≤ w.heap.size) : Below B w0 w' := by
  have H5 := (h.alloc hB o).alloc (by simp; omega) o'
  exact H5.trans (h2.mono (by simp; omega))
theorem len_bytes (s : ByteArray) : s.data.toList.length = s.size := by rw [Array.length_toList]; rfl
set_option maxRecDepth 100000 in
set_option maxHeartbeats 2000000 in
theorem treeFaults_ok (s : ByteArray) (h : (parse s.data.toList).2 = (0, 0)) (w : World) : Calls Tryd.prog 3 #[.string s] w fun e w' => e = .returned (.bool true) ∧ Below w.heap.size w w' := by
  have HA := Lib.hid awake22
  have HP : Hid (∀ W, Calls Tryd.prog 5 #[.string s] W fun e w' => ∃ B n d A m c, e = .returned (.tuple #[.agg #[.slice B n d, .slice A m c], .agg #[.int .i64 0, .int .i64 0]]) ∧ Below W.heap.size W w') := fun W => by
    have h1 := parse_any s W
    unfold PaK at h1
    rw [h] at h1
    exact h1.mono fun e w' ⟨B, d, A, c, e1, _, _, hB⟩ => ⟨B, _, d, A, _, c, e1, hB⟩
  clear h
  go_enter Tryd.func3, Tryd.ntmps3
  go_wp2_with (first
    | (go_at_call 4; (refine (HA.out _).mono ?_); rintro e w1 ⟨rfl, hB1⟩; have H1 := Lib.hid hB1; clear hB1)
    | (go_at_call 5; (refine (HP.out _).mono ?_); rintro e w2 ⟨B, n, d, A, m, c, rfl, hB2⟩; have H2 := qtr H1 hB2; clear hB2))
  go_ret
  exact ⟨rfl, (H2.out.alloc H2.out.size _).alloc (by have := H2.out.size; simp; omega) _⟩
set_option maxRecDepth 100000 in
set_option maxHeartbeats 2000000 in
theorem treeFaults_size (s : ByteArray) (h : (parse s.data.toList).2 = (2, 0)) (hs : 8000 < s.size) (w : World) : Calls Tryd.prog 3 #[.string s] w fun e w' => e = .returned (.bool true) ∧ Below w.heap.size w w' := by
  have HA := Lib.hid awake22
  have HP : Hid (∀ W, Calls Tryd.prog 5 #[.string s] W fun e w' => ∃ B n d A m c, e = .returned (.tuple #[.agg #[.slice B n d, .slice A m c], .agg #[.int .i64 2, .int .i64 0]]) ∧ Below W.heap.size W w') := fun W => by
    have h1 := parse_any s W
    unfold PaK at h1
    rw [h] at h1
    exact h1.mono fun e w' ⟨B, d, A, c, e1, _, _, hB⟩ => ⟨B, _, d, A, _, c, e1, hB⟩
  have hs2 : (8000 : Int) < (s.size : Int) := by omega
  clear h
  go_enter Tryd.func3, Tryd.ntmps3
  go_wp2_with (first
    | (go_at_call 4; (refine (HA.out _).mono ?_); rintro e w1 ⟨rfl, hB1⟩; have H1 := Lib.hid hB1; clear hB1)
    | (go_at_call 5; (refine (HP.out _).mono ?_); rintro e w2 ⟨B, n, d, A, m, c, rfl, hB2⟩; have H2 := qtr H1 hB2; clear hB2))
  go_ret
  exact ⟨rfl, (H2.out.alloc H2.out.size _).alloc (by have := H2.out.size; simp; omega) _⟩
set_option maxRecDepth 100000 in
set_option maxHeartbeats 2000000 in
theorem treeFaults_no (s : ByteArray) (h1 : (parse s.data.toList).1 = ⟨[], []⟩) (E q : Int) (hE : E = 9 ∨ E = 11) (h : (parse s.data.toList).2 = (E, q)) (h0 : 0 ≤ q) (hq : q ≤ s.size) (w : World) : Calls Tryd.prog 3 #[.string s] w fun e w' => e = .returned (.bool true) ∧ Below w.heap.size w w' := by
  have HA := Lib.hid awake22
  have HP : Hid (∀ W, Calls Tryd.prog 5 #[.string s] W fun e w' => ∃ B d A c, e = .returned (.tuple #[.agg #[.slice B 0 d, .slice A 0 c], .agg #[.int .i64 E, .int .i64 q]]) ∧ Below W.heap.size W w') := fun W => by
    have h2 := parse_any s W
    unfold PaK at h2
    rw [h, h1] at h2
    exact h2.mono fun e w' ⟨B, d, A, c, e1, _, _, hB⟩ => ⟨B, d, A, c, e1, hB⟩
  have HS := Lib.hid same_nil
  clear h h1
  rcases hE with rfl | rfl
  all_goals
    go_enter Tryd.func3, Tryd.ntmps3
    go_wp2_with (first
      | (go_at_call 4; (refine (HA.out _).mono ?_); rintro e w1 ⟨rfl, hB1⟩; have H1 := Lib.hid hB1; clear hB1)
      | (go_at_call 6; (refine (HS.out _ _ _ _ _ _ _ _ _).mono ?_); rintro e w3 ⟨rfl, hB3⟩)
      | (go_at_call 5; (refine (HP.out _).mono ?_); rintro e w2 ⟨B, d, A, c, rfl, hB2⟩; have H2 := qtr H1 hB2; clear hB2))
    go_ret
    exact ⟨rfl, al2 H2.out hB3 H2.out.size⟩
theorem treeFaults_w (s : ByteArray) (w : World) : Calls Tryd.prog 3 #[.string s] w fun e w' => e = .returned (.bool true) ∧ Below w.heap.size w w' := by
  rcases faults_of s.data.toList with h | ⟨h1, ⟨h2, h3⟩ | ⟨q, h2, h3, h4⟩⟩
  · exact treeFaults_ok s h w
  · rw [len_bytes] at h3
    exact treeFaults_size s h2 h3 w
  · rw [len_bytes] at h4
    rcases h2 with h2 | h2
    · exact treeFaults_no s h1 9 q (.inl rfl) h2 h3 h4 w
    · exact treeFaults_no s h1 11 q (.inr rfl) h2 h3 h4 w
end
end Go.Proofs.YtafjkbbiaopemaaDoor.Tr
