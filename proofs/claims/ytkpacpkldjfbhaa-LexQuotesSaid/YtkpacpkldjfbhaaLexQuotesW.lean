/- LexQuotes, the walk. -/
import Derived.Test.YtkpacpkldjfbhaaLexRq
import Derived.Test.YtkpacpkldjfbhaaCodec
namespace Go.Proofs.Ytkpacpkldjfbhaa.lexQuotes
open Go.RowKit

/-- bytes to a string, sealed -/
def cvAt (x : Value) : Sem Value := convert 29 9 x
theorem cvq (x : Value) : convert 29 9 x = cvAt x := rfl
theorem cvAt_run {W : World} {A : Option Addr} {n c : Nat} {l : List UInt8} (hr : Rd W A n (u8s l)) : (cvAt (.slice A n c)).run Try.prog W = .ok (.string (bytesOf l)) W := run_str Try.underlying29 Try.underlying5 Try.underlying9 hr

def fixedq : List UInt8 := [97, 34, 10, 0]
theorem fixedq_is : bytesOf (Lx.quote fixedq) = { data := #[34, 97, 92, 34, 92, 110, 92, 120, 48, 48, 34] } := by decide +kernel

attribute [local go_sem ↓] cvq

set_option maxRecDepth 100000 in
set_option maxHeartbeats 4000000 in
theorem walk_short (A : Option Addr) (n c : Nat) (l : List UInt8) (w : World) (h : Rd w A n (u8s l)) (hc : n ≤ c) (hn : n ≤ 1500) :
    Calls Try.prog 7 #[.slice A n c] w fun e w' => e = .returned (.bool true) ∧ Below w.heap.size w w' := by
  have hl : l.length = n := h.len
  have HSC : Hid (∀ w, Calls Try.prog 21 #[.string (bytesOf (Lx.quote l))] w fun e w' => ∃ A c, e = .returned (.tuple #[.slice A 2 c, .agg #[.int .i64 (0 : Nat), .int .i64 (0 : Nat)]]) ∧ 2 ≤ c ∧ w'.ownsRow w.heap.size 54 4 (.slice A 2 c) 2 (toksCells [⟨4, l, 0, 0⟩, ⟨6, [], 0, (Lx.quote l).length⟩]) ∧ Below w.heap.size w w') :=
    fun w => scan_is (bytesOf (Lx.quote l)) w (by rw [bytesOf_toList]; exact Lx.scan_quote l (by have := (Lx.quote_len l).2; omega)) rfl
  have e1 : decide ((1500 : Int) < (n : Int)) = false := by simp; omega
  have HFQ := Lib.hid fixedq_is
  clear hl
  go_enter Try.func7, Try.ntmps7
  go_wp2_with (first
    | (go_at_call 20; refine (awake21 _).mono ?_; rintro e w1 ⟨rfl, hB1⟩)
    | (go_at_call 24; (with_reducible refine (quote_any (some ⟨w1.heap.size, 0, none⟩) 4 4 fixedq _ (RdS.to1 (RdS.of_blk (sz := 1) (n := 4) (by exact Blk.new' rfl rfl) rfl)) (by omega)).mono ?_); rintro e w2 ⟨rfl, hB2⟩; rw [HFQ.out]
       have hBB : Below w.heap.size w w2 := (hB1.alloc hB1.size _).trans (hB2.mono (by have := hB1.size; simp; omega)))
    | (go_at_call 15; refine (copy_any A n c l _ (h.below hBB) (by omega)).mono ?_; rintro e w3 ⟨A3, c3, rfl, hc3, hown3, hB3⟩)
    | (go_at_call 24; (with_reducible refine (quote_any A3 n c3 l _ (Rd.of_own hown3) (by omega)).mono ?_); rintro e w4 ⟨rfl, hB4⟩)
    | (go_at_call 21; (with_reducible refine (HSC.out _).mono ?_); rintro e w5 ⟨A5, c5, rfl, hc5, hown5, hB5⟩))
  have hBw : Below w.heap.size w (w5.alloc (.cells #[.int .i64 0, .int .i64 0] 48)) := by
    have h3 := hBB.trans (hB3.mono hBB.size)
    have h4 := h3.trans (hB4.mono h3.size)
    have h5 := h4.trans (hB5.mono h4.size)
    exact h5.alloc h5.size _
  obtain ⟨b5, off5, rfl, hb5, hcells⟩ := (RdS.of_own hown5).2 (by omega)
  have d0 := hcells 0 _ rfl
  have d1 := hcells 1 _ rfl
  have d2 := hcells 2 _ rfl
  have d3 := hcells 3 _ rfl
  rw [Nat.add_zero] at d0
  have f0 : (w5.alloc (.cells #[.int .i64 0, .int .i64 0] 48)).cell? ⟨w5.heap.size, 0, none⟩ = some (.int .i64 0) := by
    rw [(Blk.new w5 48 [.int .i64 0, .int .i64 0]).cell]; rfl
  have HK : Hid (∀ W : World, Below (w5.heap.size + 1) (w5.alloc (.cells #[.int .i64 0, .int .i64 0] 48)) W → W.cell? ⟨w5.heap.size, 0, none⟩ = some (.int .i64 0) ∧ W.cell? ⟨b5, off5, none⟩ = some (.int .i64 4) ∧ W.cell? ⟨b5, off5 + 1, none⟩ = some (.string (bytesOf l)) ∧ W.cell? ⟨b5, off5 + 2, none⟩ = some (.int .i64 (0 : Nat)) ∧ W.cell? ⟨b5, off5 + 3, none⟩ = some (.int .i64 (0 : Nat)) ∧ Rd W A n (u8s l)) := by
    intro W hW
    have hc : ∀ o, W.cell? ⟨b5, o, none⟩ = w5.cell? ⟨b5, o, none⟩ := fun o => (hW.cell (p := ⟨b5, o, none⟩) (by show b5 < _; omega)).trans (World.cell?_alloc_lt w5 _ ⟨b5, o, none⟩ hb5)
    refine ⟨(hW.cell (p := ⟨_, _, none⟩) (by show w5.heap.size < _; omega)).trans f0, (hc _).trans d0, (hc _).trans d1, (hc _).trans d2, (hc _).trans d3, ?_⟩
    exact (h.below hBw).below (hW.mono (by simp))
  clear d0 d1 d2 d3 f0 hcells
  have hcv : ∀ W, Rd W A n (u8s l) → (cvAt (.slice A n c)).run Try.prog W = .ok (.string (bytesOf l)) W := fun W h => cvAt_run h
  go_region_held3 (fun W => W.cell? ⟨w5.heap.size, 0, none⟩ = some (.int .i64 0) ∧ W.cell? ⟨b5, off5, none⟩ = some (.int .i64 4) ∧ W.cell? ⟨b5, off5 + 1, none⟩ = some (.string (bytesOf l)) ∧ W.cell? ⟨b5, off5 + 2, none⟩ = some (.int .i64 (0 : Nat)) ∧ W.cell? ⟨b5, off5 + 3, none⟩ = some (.int .i64 (0 : Nat)) ∧ Rd W A n (u8s l))
    (first | assumption | exact HK.out _ (Below.refl _ _) | exact HK.out _ (Below.refl _ _).drew) (first
    | (go_at_call 25; (with_reducible refine (rquote_any A n c l _ (by exact (h.below hBw).drew) (by omega) (by omega)).mono ?_); rintro e w6 ⟨rfl, hB6⟩; have hk6 := HK.out w6 ((Below.refl _ _).drew.trans (hB6.mono (by simp)))))
  go_wp2
  go_ret
  exact ⟨rfl, hBw.drew.trans (hB6.mono hBw.size)⟩

set_option maxRecDepth 100000 in
set_option maxHeartbeats 4000000 in
theorem walk_long (A : Option Addr) (N c : Nat) (l0 : List UInt8) (w : World) (h0 : Rd w A N (u8s l0)) (hc : N ≤ c) (hn : 1500 < N) :
    Calls Try.prog 7 #[.slice A N c] w fun e w' => e = .returned (.bool true) ∧ Below w.heap.size w w' := by
  obtain ⟨b, off, rfl, hb, hcell⟩ := h0.2 (by omega)
  clear hcell
  obtain ⟨n, hn'⟩ : ∃ n, n = 1500 := ⟨_, rfl⟩
  obtain ⟨l, HLL⟩ : ∃ l, Hid (l = l0.take 1500) := ⟨_, rfl⟩
  have h : Rd w (some ⟨b, off, none⟩) 1500 (u8s l) := by
    have := h0.cut (A' := some ⟨b, off, none⟩) (m := 1500) (k := 0) (by omega) (by omega) (fun _ b' off' e => by injection e with e; injection e with e1 e2; subst e1; subst e2; rfl)
    rw [HLL.out, ← u8s_take]; exact this
  clear h0 hn'
  have hl : l.length = 1500 := h.len
  have HSC : Hid (∀ w, Calls Try.prog 21 #[.string (bytesOf (Lx.quote l))] w fun e w' => ∃ A c, e = .returned (.tuple #[.slice A 2 c, .agg #[.int .i64 (0 : Nat), .int .i64 (0 : Nat)]]) ∧ 2 ≤ c ∧ w'.ownsRow w.heap.size 54 4 (.slice A 2 c) 2 (toksCells [⟨4, l, 0, 0⟩, ⟨6, [], 0, (Lx.quote l).length⟩]) ∧ Below w.heap.size w w') :=
    fun w => scan_is (bytesOf (Lx.quote l)) w (by rw [bytesOf_toList]; exact Lx.scan_quote l (by have := (Lx.quote_len l).2; omega)) rfl
  have e1 : decide ((1500 : Int) < (N : Int)) = true := by simp; omega
  have e2 : (1500 : Int) ≤ (c : Int) := by omega
  have HFQ := Lib.hid fixedq_is
  clear hl
  go_enter Try.func7, Try.ntmps7
  go_wp2_with (first
    | (go_at_call 20; refine (awake21 _).mono ?_; rintro e w1 ⟨rfl, hB1⟩)
    | (go_at_call 24; (with_reducible refine (quote_any (some ⟨w1.heap.size, 0, none⟩) 4 4 fixedq _ (RdS.to1 (RdS.of_blk (sz := 1) (n := 4) (by exact Blk.new' rfl rfl) rfl)) (by omega)).mono ?_); rintro e w2 ⟨rfl, hB2⟩; rw [HFQ.out]
       have hBB : Below w.heap.size w w2 := (hB1.alloc hB1.size _).trans (hB2.mono (by have := hB1.size; simp; omega)))
    | (go_at_call 15; refine (copy_any (some ⟨b, off, none⟩) 1500 c l _ (h.below hBB) (by omega)).mono ?_; rintro e w3 ⟨A3, c3, rfl, hc3, hown3, hB3⟩)
    | (go_at_call 24; (with_reducible refine (quote_any A3 1500 c3 l _ (Rd.of_own hown3) (by omega)).mono ?_); rintro e w4 ⟨rfl, hB4⟩)
    | (go_at_call 21; (with_reducible refine (HSC.out _).mono ?_); rintro e w5 ⟨A5, c5, rfl, hc5, hown5, hB5⟩))
  have hBw : Below w.heap.size w (w5.alloc (.cells #[.int .i64 0, .int .i64 0] 48)) := by
    have h3 := hBB.trans (hB3.mono hBB.size)
    have h4 := h3.trans (hB4.mono h3.size)
    have h5 := h4.trans (hB5.mono h4.size)
    exact h5.alloc h5.size _
  obtain ⟨b5, off5, rfl, hb5, hcells⟩ := (RdS.of_own hown5).2 (by omega)
  have d0 := hcells 0 _ rfl
  have d1 := hcells 1 _ rfl
  have d2 := hcells 2 _ rfl
  have d3 := hcells 3 _ rfl
  rw [Nat.add_zero] at d0
  have f0 : (w5.alloc (.cells #[.int .i64 0, .int .i64 0] 48)).cell? ⟨w5.heap.size, 0, none⟩ = some (.int .i64 0) := by
    rw [(Blk.new w5 48 [.int .i64 0, .int .i64 0]).cell]; rfl
  have HK : Hid (∀ W : World, Below (w5.heap.size + 1) (w5.alloc (.cells #[.int .i64 0, .int .i64 0] 48)) W → W.cell? ⟨w5.heap.size, 0, none⟩ = some (.int .i64 0) ∧ W.cell? ⟨b5, off5, none⟩ = some (.int .i64 4) ∧ W.cell? ⟨b5, off5 + 1, none⟩ = some (.string (bytesOf l)) ∧ W.cell? ⟨b5, off5 + 2, none⟩ = some (.int .i64 (0 : Nat)) ∧ W.cell? ⟨b5, off5 + 3, none⟩ = some (.int .i64 (0 : Nat)) ∧ Rd W (some ⟨b, off, none⟩) 1500 (u8s l)) := by
    intro W hW
    have hc : ∀ o, W.cell? ⟨b5, o, none⟩ = w5.cell? ⟨b5, o, none⟩ := fun o => (hW.cell (p := ⟨b5, o, none⟩) (by show b5 < _; omega)).trans (World.cell?_alloc_lt w5 _ ⟨b5, o, none⟩ hb5)
    refine ⟨(hW.cell (p := ⟨_, _, none⟩) (by show w5.heap.size < _; omega)).trans f0, (hc _).trans d0, (hc _).trans d1, (hc _).trans d2, (hc _).trans d3, ?_⟩
    exact (h.below hBw).below (hW.mono (by simp))
  clear d0 d1 d2 d3 f0 hcells
  have hcv : ∀ W, Rd W (some ⟨b, off, none⟩) 1500 (u8s l) → (cvAt (.slice (some ⟨b, off, none⟩) 1500 c)).run Try.prog W = .ok (.string (bytesOf l)) W := fun W h => cvAt_run h
  go_region_held3 (fun W => W.cell? ⟨w5.heap.size, 0, none⟩ = some (.int .i64 0) ∧ W.cell? ⟨b5, off5, none⟩ = some (.int .i64 4) ∧ W.cell? ⟨b5, off5 + 1, none⟩ = some (.string (bytesOf l)) ∧ W.cell? ⟨b5, off5 + 2, none⟩ = some (.int .i64 (0 : Nat)) ∧ W.cell? ⟨b5, off5 + 3, none⟩ = some (.int .i64 (0 : Nat)) ∧ Rd W (some ⟨b, off, none⟩) 1500 (u8s l))
    (first | assumption | exact HK.out _ (Below.refl _ _) | exact HK.out _ (Below.refl _ _).drew) (first
    | (go_at_call 25; (with_reducible refine (rquote_any (some ⟨b, off, none⟩) 1500 c l _ (by exact (h.below hBw).drew) (by omega) (by omega)).mono ?_); rintro e w6 ⟨rfl, hB6⟩; have hk6 := HK.out w6 ((Below.refl _ _).drew.trans (hB6.mono (by simp)))))
  go_wp2
  go_ret
  exact ⟨rfl, hBw.drew.trans (hB6.mono hBw.size)⟩

theorem walk (A : Option Addr) (n c : Nat) (l : List UInt8) (w : World) (h : Rd w A n (u8s l)) (hc : n ≤ c) :
    Calls Try.prog 7 #[.slice A n c] w fun e w' => e = .returned (.bool true) ∧ Below w.heap.size w w' := by
  by_cases hn : n ≤ 1500
  · exact walk_short A n c l w h hc hn
  · exact walk_long A n c l w h hc (by omega)
end Go.Proofs.Ytkpacpkldjfbhaa.lexQuotes
