/- LexScans, the walk. -/
import Derived.Test.YtkpacpkldjfbhaaLexU
import Derived.Test.YtkpacpkldjfbhaaLexPlacesW
import Derived.Test.YtkpacpkldjfbhaaLexV
namespace Go.Proofs.Ytkpacpkldjfbhaa.lexScans
open Go.RowKit

set_option maxRecDepth 100000 in
set_option maxHeartbeats 4000000 in
theorem walk (s : ByteArray) (w : World) : Calls Try.prog 5 #[.string s] w fun e w' => e = .returned (.bool true) ∧ Below w.heap.size w w' := by
  obtain ⟨p, q, ts, hR⟩ : ∃ p q ts, Lx.scan s.data.toList = ((p, q), ts) := ⟨_, _, _, rfl⟩
  obtain ⟨n, hn⟩ : ∃ n, ts.length = n := ⟨_, rfl⟩
  have hn8 : n ≤ 100000 := by
    rcases Lx.scan_cases s.data.toList with ⟨p', q', h, _⟩ | ⟨us, h, h1, h2, h3⟩
    · rw [h] at hR
      injection hR with _ hR
      subst hR
      simp at hn
      omega
    · rw [h] at hR
      injection hR with _ hR
      subst hR
      have := lexPlaces.few h1 h2
      simp at hn
      omega
  have HSC := Lib.hid (fun w => scan_is s w hR hn)
  have HRC := Lib.hid (fun w => rscan_is s w hR hn)
  have HN := Lib.hid hn
  clear hR hn
  go_enter Try.func5, Try.ntmps5
  go_wp2_with (first
    | (go_at_call 20; refine (awake21 _).mono ?_; rintro e w1 ⟨rfl, hB1⟩)
    | (go_at_call 21; refine (HSC.out _).mono ?_; rintro e w2 ⟨A2, c2, rfl, hc2, hown2, hB2⟩)
    | (go_at_call 22; refine (HRC.out _).mono ?_; rintro e w3 ⟨A3, c3, rfl, hc3, hown3, hB3⟩
       have g0 : w3.cell? ⟨w2.heap.size, 0, none⟩ = some (.int .i64 p) := (hB3.cell (p := ⟨w2.heap.size, 0, none⟩) (by simp)).trans (by rw [(Blk.new w2 48 [.int .i64 p, .int .i64 q]).cell]; rfl)
       have g1 : w3.cell? ⟨w2.heap.size, 1, none⟩ = some (.int .i64 q) := (hB3.cell (p := ⟨w2.heap.size, 1, none⟩) (by simp)).trans (by rw [(Blk.new w2 48 [.int .i64 p, .int .i64 q]).cell]; rfl)
       have hz : w2.heap.size < w3.heap.size := by have := hB3.size; simp at this; omega)
    | (go_at_call 23
       refine (same_any A2 A3 n c2 c3 ts ts true _ (by exact (((RdS.of_own hown2).alloc _).below hB3).alloc _) (by exact (RdS.of_own hown3).alloc _) HN.out hn8 (same_self ts true)).mono ?_
       rintro e w4 ⟨rfl, hB4⟩))
  go_ret
  have h12 := hB1.trans (hB2.mono hB1.size)
  have h13 := (h12.alloc h12.size _).trans (hB3.mono (by have := h12.size; simp; omega))
  exact ⟨rfl, (h13.alloc h13.size _).trans (hB4.mono (by have := h13.size; simp; omega))⟩
end Go.Proofs.Ytkpacpkldjfbhaa.lexScans
