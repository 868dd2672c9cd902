/- Part of the proof: Bj. -/
import Derived.Test.YtafjkbbiaopemaaDoorTfx49
set_option linter.unusedVariables false
namespace Go.Proofs.YtafjkbbiaopemaaDoor.Tr
open Go.RowKit
theorem faults_of (s : List UInt8) : (parse s).2 = (0, 0) ∨ ((parse s).1 = ⟨[], []⟩ ∧ (((parse s).2 = (2, 0) ∧ 8000 < s.length) ∨ (∃ q : Int, ((parse s).2 = (9, q) ∨ (parse s).2 = (11, q)) ∧ 0 ≤ q ∧ q ≤ s.length))) := by
  rcases hR : Lx.scan s with ⟨⟨p, q⟩, ts⟩
  unfold parse
  rw [hR]
  by_cases hp : p = 0
  · subst hp
    have hq : q = 0 := by
      rcases Lx.scan_cases s with ⟨p', q', h1, h2⟩ | ⟨us, h1, _⟩
      · rw [hR] at h1
        injection h1 with h3
        injection h3 with h3 h4
        omega
      · rw [hR] at h1
        injection h1 with h3
        injection h3
    subst hq
    obtain ⟨hen, h0, _, _, hat⟩ := scan_ok hR
    rcases parse_fault hen h0 with h | ⟨h1, h2, j, hj, h3⟩
    · exact .inl h
    · refine .inr ⟨h1, .inr ⟨(tokAt ts j).at_, ?_, by omega, by have := hat j hj; omega⟩⟩
      rcases h2 with h2 | h2
      · exact .inl (Prod.ext h2 h3)
      · exact .inr (Prod.ext h2 h3)
  · refine .inr ?_
    rcases Lx.scan_cases s with ⟨p', q', h1, h2⟩ | ⟨us, h1, _⟩
    · rw [hR] at h1
      injection h1 with h3 h4
      injection h3 with h3 h5
      subst h3 h5 h4
      obtain ⟨n, rfl⟩ : ∃ n, p = n + 1 := ⟨p - 1, by omega⟩
      rcases h2 with ⟨h2, rfl, h6⟩ | ⟨h2, h6, _⟩
      · obtain rfl : n = 1 := by omega
        exact ⟨rfl, .inl ⟨rfl, h6⟩⟩
      · obtain rfl : n = 8 := by omega
        exact ⟨rfl, .inr ⟨(q : Int), .inl rfl, by omega, by omega⟩⟩
    · rw [hR] at h1
      injection h1 with h3 h4
      injection h3 with h3 h5
      exact absurd h3 hp
section
variable {w w' : World}
set_option maxRecDepth 100000 in
set_option maxHeartbeats 1000000 in
theorem sameStmts_nil (A B : Option Addr) (a b : Nat) (w : World) : Calls Tryd.prog 16 #[.slice A 0 a, .slice B 0 b, .bool true] w fun e w' => e = .returned (.bool true) ∧ w = w' := by
  go_enter Tryd.func16, Tryd.ntmps16
  go_wp2
  go_loopg [7] 0 (fun kk q wr => q = .int .i64 0 ∧ w = wr)
  case atStart => exact ⟨rfl, rfl⟩
  case round =>
    obtain ⟨rfl, rfl⟩ := hrel
    go_wp2
    go_ret
    exact ⟨rfl, rfl⟩
set_option maxRecDepth 100000 in
set_option maxHeartbeats 1000000 in
theorem same_nil (A B C D : Option Addr) (a b c d : Nat) (w : World) : Calls Tryd.prog 6 #[.agg #[.slice A 0 a, .slice B 0 b], .agg #[.slice C 0 c, .slice D 0 d], .bool true] w fun e w' => e = .returned (.bool true) ∧ Below w.heap.size w w' := by
  have HS := Lib.hid (fun W => sameStmts_nil B D b d W)
  have HB : Hid (Below w.heap.size w ((w.alloc (.cells #[.slice A 0 a, .slice B 0 b] 26)).alloc (.cells #[.slice C 0 c, .slice D 0 d] 26))) := ((Below.refl _ _).alloc (Nat.le_refl _) _).alloc (by simp) _
  go_enter Tryd.func6, Tryd.ntmps6
  go_wp2
  go_loopg [7] 0 (fun kk q wr => q = .int .i64 0 ∧ wr = (w.alloc (.cells #[.slice A 0 a, .slice B 0 b] 26)).alloc (.cells #[.slice C 0 c, .slice D 0 d] 26))
  case atStart => exact ⟨rfl, rfl⟩
  case round =>
    obtain ⟨rfl, rfl⟩ := hrel
    go_wp2_with (go_at_call 16; (refine (HS.out _).mono ?_); rintro e w2 ⟨rfl, rfl⟩)
    go_ret
    exact ⟨rfl, HB.out⟩
set_option maxRecDepth 100000 in
set_option maxHeartbeats 2000000 in
theorem awake22 (w : World) : Calls Tryd.prog 4 #[] w fun e w' => e = .returned (.bool true) ∧ Below w.heap.size w w' := by
  have HP := Lib.hid parse_M
  have HR := Lib.hid (fun W gd od p gb ob ps g off c d cb (h : TrM W.heap.size W gd od p gb ob ps g off c) => print_M (w := W) d cb h)
  go_enter Tryd.func4, Tryd.ntmps4
  go_wp2_with (first
    | (go_at_call 7; (refine (HR.out _ gd od p gb ob ps g off c d cb (by exact HT3.out.2)).mono ?_); rintro e w4 ⟨rfl, hB4⟩)
    | (go_at_call 5; (refine (HP.out _).mono ?_); rintro e w2 ⟨gd, od, d, p, gb, ob, cb, ps, g, off, c, rfl, hT, hB2⟩
       have HT3 : Hid (Below w.heap.size w ((w2.alloc (.cells #[.slice (some ⟨gd, od, none⟩) 1 d, .slice (some ⟨gb, ob, none⟩) 1 cb] 26)).alloc (.cells #[.int .i64 0, .int .i64 0] 29)) ∧ TrM ((w2.alloc (.cells #[.slice (some ⟨gd, od, none⟩) 1 d, .slice (some ⟨gb, ob, none⟩) 1 cb] 26)).alloc (.cells #[.int .i64 0, .int .i64 0] 29)).heap.size ((w2.alloc (.cells #[.slice (some ⟨gd, od, none⟩) 1 d, .slice (some ⟨gb, ob, none⟩) 1 cb] 26)).alloc (.cells #[.int .i64 0, .int .i64 0] 29)) gd od p gb ob ps g off c) :=
         ⟨(hB2.alloc hB2.size _).alloc (by have := hB2.size; simp; omega) _, by
           have h5 := hT.belo (((Below.refl w2.heap.size w2).alloc (Nat.le_refl _) (.cells #[.slice (some ⟨gd, od, none⟩) 1 d, .slice (some ⟨gb, ob, none⟩) 1 cb] 26)).alloc (by simp) (.cells #[.int .i64 0, .int .i64 0] 29))
           exact ⟨⟨by have := h5.d.1; simp; omega, h5.d.2⟩, ⟨by have := h5.s.1; simp; omega, h5.s.2⟩, ⟨by have := h5.r.1; simp; omega, h5.r.2⟩⟩⟩
       have hgb := hT.s.1
       have x1 : w2.cell? ⟨gb, ob + 1, none⟩ = some (.int .i64 8) := hT.s.2 1 _ rfl
       clear hT hB2))
  go_ret
  exact ⟨rfl, HT3.out.1.trans (hB4.mono HT3.out.1.size)⟩
end
end Go.Proofs.YtafjkbbiaopemaaDoor.Tr
