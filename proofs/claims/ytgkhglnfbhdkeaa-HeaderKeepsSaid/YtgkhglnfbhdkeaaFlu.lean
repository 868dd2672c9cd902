/- Flow.Turn and chacha.Turn. -/
import Derived.Test.YtgkhglnfbhdkeaaFlo
import Derived.Test.YtgkhglnfbhdkeaaXor
namespace Go.Proofs.Ytgkhglnfbhdkeaa
open Go.RowKit

set_option maxRecDepth 100000 in
set_option maxHeartbeats 4000000 in
theorem fturn_any (g : Nat) (key : List UInt8) (used : Nat) (A : Option Addr) (n c : Nat) (ls : List (List UInt8)) (N : Nat) (w : World) (hb : Blk w g 138 (flC key (used : Int))) (hk : key.length = 32)
    (hp : ∀ w', Wrote g w w' → RdB w' A n ls) (hn : n ≤ 1000000) (hN : ls.flatten.length = N) (hun : used + N ≤ 65536) :
    Calls Try.prog 68 #[.pointer (some ⟨g, 0, none⟩), .slice A n c] w fun e w' => ∃ A' c', e = .returned (.tuple #[.slice A' N c', .int .i64 0]) ∧ N ≤ c' ∧ w'.ownsRow w.heap.size 5 1 (.slice A' N c') N (u8s (Ch.xor ls.flatten (Ch.piece key used N))) ∧ Blk w' g 138 (flC key ((used + N : Nat) : Int)) ∧ Wrote g w w' := by
  have HK := Lib.hid hk
  have HP := Lib.hid hp
  have HN := Lib.hid hN
  have HR := Lib.hid (hp w (Wrote.refl _ _))
  have hc0 : w.cell? ⟨g, 32, none⟩ = some (.int .i64 used) := by rw [hb.cell]; exact flC_used key _ hk
  have HNX := Lib.hid (fnext_any g key used N w hb hk hun)
  have hgl : g < w.heap.size := hb.lt
  have hpl := Ch.piece_len key used N
  have hll : ls.length = n := by obtain ⟨_, _, h, _⟩ := HR.out; exact h
  have HLL := Lib.hid hll
  obtain ⟨S, hS⟩ : ∃ S, S = Ch.piece key used N := ⟨_, rfl⟩
  rw [← hS] at HNX hpl ⊢
  obtain ⟨F, hF⟩ : ∃ F, F = ls.flatten := ⟨_, rfl⟩
  have HF := Lib.hid hF.symm
  have hFN : F.length = N := by rw [hF]; exact hN
  rw [← hF]
  have HX : Hid (∀ W B, RdB W (some ⟨B, 0, none⟩) 2 [F, S] → Calls Try.prog 54 #[.slice (some ⟨B, 0, none⟩) 2 2] W fun e w' => ∃ A' c', e = .returned (.tuple #[.slice A' N c', .int .i64 0]) ∧ N ≤ c' ∧ w'.ownsRow W.heap.size 5 1 (.slice A' N c') N (u8s (Ch.xor F S)) ∧ Below W.heap.size W w') := fun W B h => pxor_any _ 2 N F S W h hFN hpl (by omega)
  clear hb hk hp hN hS hF hll
  have HFN := Lib.hid hFN
  clear hFN
  go_enter Try.func68, Try.ntmps68
  go_wp2_with fail
  go_loop [6, 13] (fun t i => ∃ k : Nat, k ≤ n ∧ i = .int .i64 k ∧ t = .int .i64 ((ls.take k).flatten.length)) (fun _ i => n - (intOf i).toNat)
  case atStart => exact ⟨0, Nat.zero_le _, rfl, rfl⟩
  case round =>
    obtain ⟨k, hkn, rfl, rfl⟩ := hrel
    have hle := flat_take_le ls k
    by_cases hlt : k < n
    · have hlt2 : (k : Int) < (n : Int) := by omega
      obtain ⟨b, off, A1, n1, c1, l, rfl, hb, HXL, hc, hn1, hr1⟩ := HR.out.at_ hlt
      have hs := flat_take_succ ls k l HXL.out
      have hle' := flat_take_le ls (k + 1)
      have hlen : (ls.take (k + 1)).flatten.length = (ls.take k).flatten.length + n1 := by rw [hs, List.length_append, hr1.len]
      have HS := Lib.hid hlen
      have hb1 : used + ((ls.take k).flatten.length + n1) ≤ 65536 := by have := HFN.out; have := congrArg List.length HF.out; omega
      clear hs hlen hle' hle
      generalize hT : (ls.take k).flatten.length = T at *
      have HT := Lib.hid hT
      clear hT
      have hgt : ¬ (65536 : Int) - (used : Int) - (T : Int) < (n1 : Int) := by omega
      clear hr1 HXL
      go_wp2_with fail
      go_round
      case rel => exact ⟨k + 1, by omega, by go_num, by rw [HS.out]; go_num⟩
      case measure => simp [intOf]; omega
    · have hkn : k = n := by omega
      subst hkn
      have hlt2 : ¬ (k : Int) < (k : Int) := by omega
      rw [show (ls.take k).flatten.length = N by rw [List.take_of_length_le (by rw [HLL.out]; exact Nat.le_refl _), HF.out, HFN.out]]
      clear hlt hle
      go_wp2_with (first
        | (go_at_call 84; (with_reducible refine HNX.out.mono ?_); rintro e w1 ⟨A1, c1, rfl, hc1, hown1, hb1, hw1⟩
           have HR1 := Lib.hid (HP.out w1 hw1)
           have HO1 := Lib.hid hown1
           have HB1 := Lib.hid hb1
           have HW1 := Lib.hid hw1
           have hs1 := hw1.size
           clear hown1 hb1 hw1)
        | (go_at_call 39; (with_reducible refine (join_to A k c ls w1 (by exact HR1.out) (by omega) F N (by exact HF.out) (by exact HFN.out) (by omega)).mono ?_); rintro e w2 ⟨A2, c2, rfl, hc2, hown2, hB2⟩
           have HO2 := Lib.hid hown2
           have HB2 := Lib.hid hB2
           have hs2 := hB2.size
           have HQ : Hid (RdB (w2.alloc (.cells #[.slice A2 N c2, .slice A1 N c1] 22)) (some ⟨w2.heap.size, 0, none⟩) 2 [F, S]) := RdB.of_blk (Blk.new w2 22 [.slice A2 N c2, .slice A1 N c1]) ⟨.of_rd ((Rd.of_own HO2.out).alloc _) hc2, .of_rd (((Rd.of_own HO1.out).below HB2.out).alloc _) hc1, trivial⟩
           clear hown2 hB2)
        | (go_at_call 54; (with_reducible refine (HX.out _ _ (by exact HQ.out)).mono ?_); rintro e w3 ⟨A3, c3, rfl, hc3, hown3, hB3⟩
           have HO3 := Lib.hid (own_mono hown3 (base' := w.heap.size) (by simp; omega))
           have HE3 := Lib.hid (HB2.out.trans ((((Below.refl _ w2).alloc (Nat.le_refl _) _).trans (hB3.mono (by simp))).mono HB2.out.size))
           clear hown3 hB3))
      go_ret2
      exact ⟨A3, c3, rfl, hc3, HO3.out, HB1.out.below HE3.out (by omega), HW1.out.then HE3.out⟩

set_option maxRecDepth 100000 in
set_option maxHeartbeats 1000000 in
theorem turn_to (B : Option Addr) (d : Nat) (key : List UInt8) (A : Option Addr) (n c : Nat) (ls : List (List UInt8)) (F : List UInt8) (N : Nat) (w : World) (hk : Rd w B 32 (u8s key)) (h : RdB w A n ls) (hn : n ≤ 1000000) (hF : ls.flatten = F) (hN : F.length = N) (hun : N ≤ 65536) :
    Calls Try.prog 47 #[.slice B 32 d, .slice A n c] w fun e w' => ∃ A' c', e = .returned (.tuple #[.slice A' N c', .int .i64 0]) ∧ N ≤ c' ∧ w'.ownsRow w.heap.size 5 1 (.slice A' N c') N (u8s (Ch.turn key F)) ∧ Below w.heap.size w w' := by
  subst hF
  have HNW := Lib.hid (fnew_any B d key w hk)
  have hkl := hk.len
  have HT : Hid (∀ W, Blk W w.heap.size 138 (flC key 0) → Below w.heap.size w W → Calls Try.prog 68 #[.pointer (some ⟨w.heap.size, 0, none⟩), .slice A n c] W fun e w' => ∃ A' c', e = .returned (.tuple #[.slice A' N c', .int .i64 0]) ∧ N ≤ c' ∧ w'.ownsRow W.heap.size 5 1 (.slice A' N c') N (u8s (Ch.turn key ls.flatten)) ∧ Below w.heap.size w w') := fun W hb hB => by
    refine (fturn_any w.heap.size key 0 A n c ls N W hb hkl (fun w' hw => h.below (hw.below hB (Nat.le_refl _) hB.size)) hn hN (by omega)).mono ?_
    rintro e w' ⟨A', c', rfl, hc', ho, _, hw⟩
    refine ⟨A', c', rfl, hc', ?_, hw.below hB (Nat.le_refl _) hB.size⟩
    unfold Ch.turn
    rw [hN]
    exact ho
  clear hk h hN hkl
  go_enter Try.func47, Try.ntmps47
  go_wp2_with (first
    | (go_at_call 67; (with_reducible refine HNW.out.mono ?_); rintro e w1 ⟨rfl, hb1, hB1⟩
       have HB1 := Lib.hid hb1
       have HE1 := Lib.hid hB1
       clear hb1 hB1)
    | (go_at_call 68; (with_reducible refine (HT.out w1 (by exact HB1.out) (by exact HE1.out)).mono ?_); rintro e w2 ⟨A2, c2, rfl, hc2, hown2, hB2⟩
       have HO2 := Lib.hid (own_mono hown2 (base' := w.heap.size) HE1.out.size)
       have HE2 := Lib.hid hB2
       clear hown2 hB2))
  go_ret2
  exact ⟨A2, c2, rfl, hc2, HO2.out, HE2.out⟩
end Go.Proofs.Ytgkhglnfbhdkeaa
