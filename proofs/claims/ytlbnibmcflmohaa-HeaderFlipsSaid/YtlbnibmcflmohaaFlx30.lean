/- Part of the proof: Flo, Flu. -/
import Derived.Test.YtlbnibmcflmohaaFlx27
namespace Go.Proofs.Ytlbnibmcflmohaa
open Go.RowKit
theorem agI64 (w : World) : (isAgg 3).run Try.prog w = .ok false w := by kernel_rfl
def flC (key : List UInt8) (used : Int) : List Value := u8s key ++ [.int .i64 used]
set_option maxRecDepth 100000 in
set_option maxHeartbeats 1000000 in
theorem fnew_any (A : Option Addr) (c : Nat) (key : List UInt8) (w : World) (h : Rd w A 32 (u8s key)) :
    Calls Try.prog 30 #[.slice A 32 c] w fun e w' => e = .returned (.tuple #[.pointer (some ⟨w.heap.size, 0, none⟩), .int .i64 0]) ∧ Blk w' w.heap.size 89 (flC key 0) ∧ Below w.heap.size w w' := by
  have HR := Lib.hid h
  have HT : Hid ((u8s key).take 32 = u8s key) := List.take_of_length_le (by rw [u8s_length, h.len]; exact Nat.le_refl _)
  have HSP : Hid (splice (flC (List.replicate 32 0) 0) 0 (u8s key) = flC key 0) := by
    show _ = _
    unfold flC
    unfold splice
    rw [List.take_zero, List.nil_append, Nat.zero_add, List.drop_left' (by rw [u8s_length, u8s_length, h.len, List.length_replicate])]
  clear h
  go_enter Try.func30, Try.ntmps30
  go_wp2_with (refine wpList_copy rfl (.tmp 13) (.tmp 14) 43 rfl 5 Try.underlying43 u8_one1 w.heap.size 0 32 32 (by rfl) A 32 c (by rfl) 89 (flC (List.replicate 32 0) 0) (by exact Blk.new' rfl rfl) (u8s key) (by exact HR.out.alloc _) (u8s_one _) (by exact Nat.le_of_ble_eq_true rfl) ?_
               intro w2 hb2 ho2
               rw [HT.out, HSP.out] at hb2
               have HB2 := Lib.hid hb2
               have HE2 := Lib.hid (ho2.below ((Below.refl _ _).alloc (Nat.le_refl _) _) (Nat.le_refl _) (by simp))
               clear hb2 ho2)
  go_ret2
  exact ⟨rfl, HB2.out, HE2.out⟩
theorem flC_used (key : List UInt8) (u : Int) (hk : key.length = 32) : (flC key u)[32]? = some (.int .i64 u) := by
  unfold flC
  rw [List.getElem?_append_right (by rw [u8s_length, hk]; exact Nat.le_refl _), u8s_length, hk]
  rfl
theorem flC_set (key : List UInt8) (u v : Int) (hk : key.length = 32) : (flC key u).set 32 (.int .i64 v) = flC key v := by
  unfold flC
  rw [List.set_append_right _ _ (by rw [u8s_length, hk]; exact Nat.le_refl _), u8s_length, hk]
  rfl
theorem flC_key (key : List UInt8) (u : Int) (hk : key.length = 32) : ((flC key u).drop 0).take 32 = u8s key := by
  unfold flC
  rw [List.drop_zero, List.take_append_of_le_length (by rw [u8s_length, hk]; exact Nat.le_refl _), List.take_of_length_le (by rw [u8s_length, hk]; exact Nat.le_refl _)]
theorem flC_len (key : List UInt8) (u : Int) (hk : key.length = 32) : (flC key u).length = 33 := by
  unfold flC
  rw [List.length_append, u8s_length, hk]
  rfl
set_option maxRecDepth 100000 in
set_option maxHeartbeats 4000000 in
theorem fnext_any (g : Nat) (key : List UInt8) (used n : Nat) (w : World) (hb : Blk w g 89 (flC key (used : Int))) (hk : key.length = 32) (hun : used + n ≤ 65536) :
    Calls Try.prog 41 #[.pointer (some ⟨g, 0, none⟩), .int .i64 n] w fun e w' => ∃ A' c', e = .returned (.tuple #[.slice A' n c', .int .i64 0]) ∧ n ≤ c' ∧ w'.ownsRow w.heap.size 5 1 (.slice A' n c') n (u8s (Ch.piece key used n)) ∧ Blk w' g 89 (flC key ((used + n : Nat) : Int)) ∧ Wrote g w w' := by
  have HB := Lib.hid hb
  have HK := Lib.hid hk
  have hc0 : w.cell? ⟨g, 32, none⟩ = some (.int .i64 used) := by rw [hb.cell]; exact flC_used key _ hk
  have HP : Hid (∀ W, Rd W (some ⟨g, 0, none⟩) 32 (u8s key) → Calls Try.prog 39 #[.slice (some ⟨g, 0, none⟩) 32 32, .int .i64 used, .int .i64 n] W fun e w' => ∃ A' c', e = .returned (.slice A' n c') ∧ n ≤ c' ∧ w'.ownsRow W.heap.size 5 1 (.slice A' n c') n (u8s (Ch.piece key used n)) ∧ Below W.heap.size W w') := fun W h => piece_any _ 32 key used n W h (by omega) (by omega)
  have HR : Hid (∀ W, Blk W g 89 (flC key used) → Rd W (some ⟨g, 0, none⟩) 32 (u8s key)) := fun W h => by
    have h6 := h.rd 0 32 (by rw [flC_len _ _ hk]; omega)
    rwa [flC_key _ _ hk] at h6
  have hn0 : ¬ (n : Int) < 0 := by omega
  have hn1 : ¬ (65536 : Int) < (n : Int) := by omega
  have hn2 : ¬ (65536 : Int) - (used : Int) < (n : Int) := by omega
  clear hb hk
  go_enter Try.func41, Try.ntmps41
  go_wp2_with fail
  have hT : w.drew.cell? ⟨g, 32, none⟩ = some (.int .i64 used) := hc0
  refine region_K (by kernel_rfl) 9 (fun w' => w'.cell? ⟨g, 32, none⟩ = some (.int .i64 used)) ?_
  refine AnyK.pure 0 (v := .pointer (some ⟨g, 0, none⟩)) rfl (by kernel_rfl) (fun _ _ _ h => h) rfl (fun _ => by kernel_rfl) (fun _ => hT) ?_
  refine AnyK.pure 1 (v := .pointer (some ⟨g, 0, none⟩)) rfl (by kernel_rfl) (fun _ _ _ h => h) rfl (fun _ => by kernel_rfl) (fun _ => hT) ?_
  refine AnyK.pure 2 (v := .pointer (some ⟨g, 0, none⟩)) rfl (by kernel_rfl) (fun _ _ _ h => h) rfl (fun _ => by kernel_rfl) (fun _ => hT) ?_
  refine AnyK.pure 3 (v := .slice (some ⟨g, 0, none⟩) 32 32) rfl (by kernel_rfl) (fun _ _ _ h => h) rfl (fun _ => by kernel_rfl) (fun _ => hT) ?_
  refine AnyK.pure 4 (v := .pointer (some ⟨g, 0, none⟩)) rfl (by kernel_rfl) (fun _ _ _ h => h) rfl (fun _ => by kernel_rfl) (fun _ => hT) ?_
  refine AnyK.pure 5 (v := .pointer (some ⟨g, 0, none⟩)) rfl (by kernel_rfl) (fun _ _ _ h => h) rfl (fun _ => by kernel_rfl) (fun _ => hT) ?_
  refine AnyK.pure 6 (v := .pointer (some ⟨g, 32, none⟩)) rfl (by kernel_rfl) (fun _ _ _ h => h) rfl (fun _ => by kernel_rfl) (fun _ => hT) ?_
  refine AnyK.load 7 (v := .int .i64 used) rfl (by kernel_rfl) (by kernel_rfl) (by kernel_rfl) (fun _ _ _ h => h) rfl (fun w' hw' => ex_load (t := 3) (x := .tmp 26) (p := ⟨g, 32, none⟩) (by rfl) (by kernel_rfl) agI64 hw') hT ?_
  refine AnyK.pure 8 (v := .int .i64 n) rfl (by kernel_rfl) (fun _ _ _ h => h) rfl (fun _ => by kernel_rfl) (fun _ => hT) ?_
  refine AnyK.enter 9 (d := some 29) (f := 39) (args := #[.slice (some ⟨g, 0, none⟩) 32 32, .int .i64 used, .int .i64 n]) (by rfl) (by kernel_rfl) (by kernel_rfl) ?_
  refine (HP.out _ (HR.out _ HB.out.drew)).mono ?_
  rintro e w1 ⟨A', c', rfl, hc', hown, hB⟩
  refine ⟨_, rfl, fun h => (by cases h), ?_⟩
  refine AnyK.val 10 (v := .slice A' n c') rfl (by kernel_rfl) rfl (by kernel_rfl) (fun h => (by cases h)) ?_
  refine AnyK.done (by kernel_rfl) ?_
  have hb1 : Blk w1 g 89 (flC key used) := HB.out.drew.below hB HB.out.drew.lt
  have hc1 : w1.cell? ⟨g, 32, none⟩ = some (.int .i64 used) := by rw [hb1.cell]; exact flC_used key _ HK.out
  have hf1 := hb1.frozen 32
  have HB1 := Lib.hid hb1
  have HO1 := Lib.hid hown
  have HE1 : Hid (Below w.heap.size w w1) := (Below.refl _ w).drew.trans hB
  clear hT hb1 hown hB
  go_wp2_with fail
  go_ret2
  have h5 := HB1.out.set_ 32 (.int .i64 ((used + n : Nat) : Int))
  rw [flC_set _ _ _ HK.out] at h5
  have h6 := own_only HO1.out (Only.of_setCells w1 g 32 [.int .i64 ((used + n : Nat) : Int)]) (fun k hk => by have h9 : w.heap.size ≤ k := (HO1.out.lt k hk).1; have := HB.out.lt; omega)
  have h7 := (Wrote.of_below (g := g) HE1.out).setCell 32 (.int .i64 ((used + n : Nat) : Int))
  exact ⟨A', c', rfl, hc', h6, h5, h7⟩
end Go.Proofs.Ytlbnibmcflmohaa
namespace Go.Proofs.Ytlbnibmcflmohaa
open Go.RowKit
set_option maxRecDepth 100000 in
set_option maxHeartbeats 4000000 in
theorem fturn_any (g : Nat) (key : List UInt8) (used : Nat) (A : Option Addr) (n c : Nat) (ls : List (List UInt8)) (N : Nat) (w : World) (hb : Blk w g 89 (flC key (used : Int))) (hk : key.length = 32)
    (hp : ∀ w', Wrote g w w' → RdB w' A n ls) (hn : n ≤ 1000000) (hN : ls.flatten.length = N) (hun : used + N ≤ 65536) :
    Calls Try.prog 31 #[.pointer (some ⟨g, 0, none⟩), .slice A n c] w fun e w' => ∃ A' c', e = .returned (.tuple #[.slice A' N c', .int .i64 0]) ∧ N ≤ c' ∧ w'.ownsRow w.heap.size 5 1 (.slice A' N c') N (u8s (Ch.xor ls.flatten (Ch.piece key used N))) ∧ Blk w' g 89 (flC key ((used + N : Nat) : Int)) ∧ Wrote g w w' := by
  have HK := Lib.hid hk
  have HP := Lib.hid hp
  have HN := Lib.hid hN
  have HR := Lib.hid (hp w (Wrote.refl _ _))
  have hc0 : w.cell? ⟨g, 32, none⟩ = some (.int .i64 used) := by rw [hb.cell]; exact flC_used key _ hk
  have HNX := Lib.hid (fnext_any g key used N w hb hk hun)
  have hgl : g < w.heap.size := hb.lt
  have hpl := Ch.piece_len key used N
  have hll : ls.length = n := by obtain ⟨_, _, h, _⟩ := HR.out; exact h
  have HLL := Lib.hid hll
  obtain ⟨S, hS⟩ : ∃ S, S = Ch.piece key used N := ⟨_, rfl⟩
  rw [← hS] at HNX hpl ⊢
  obtain ⟨F, hF⟩ : ∃ F, F = ls.flatten := ⟨_, rfl⟩
  have HF := Lib.hid hF.symm
  have hFN : F.length = N := by rw [hF]; exact hN
  rw [← hF]
  have HX : Hid (∀ W B, RdB W (some ⟨B, 0, none⟩) 2 [F, S] → Calls Try.prog 28 #[.slice (some ⟨B, 0, none⟩) 2 2] W fun e w' => ∃ A' c', e = .returned (.tuple #[.slice A' N c', .int .i64 0]) ∧ N ≤ c' ∧ w'.ownsRow W.heap.size 5 1 (.slice A' N c') N (u8s (Ch.xor F S)) ∧ Below W.heap.size W w') := fun W B h => pxor_any _ 2 N F S W h hFN hpl (by omega)
  clear hb hk hp hN hS hF hll
  have HFN := Lib.hid hFN
  clear hFN
  go_enter Try.func31, Try.ntmps31
  go_wp2_with fail
  go_loop [6, 13] (fun t i => ∃ k : Nat, k ≤ n ∧ i = .int .i64 k ∧ t = .int .i64 ((ls.take k).flatten.length)) (fun _ i => n - (intOf i).toNat)
  case atStart => exact ⟨0, Nat.zero_le _, rfl, rfl⟩
  case round =>
    obtain ⟨k, hkn, rfl, rfl⟩ := hrel
    have hle := flat_take_le ls k
    by_cases hlt : k < n
    · have hlt2 : (k : Int) < (n : Int) := by omega
      obtain ⟨b, off, A1, n1, c1, l, rfl, hb, HXL, hc, hn1, hr1⟩ := HR.out.at_ hlt
      have hs := flat_take_succ ls k l HXL.out
      have hle' := flat_take_le ls (k + 1)
      have hlen : (ls.take (k + 1)).flatten.length = (ls.take k).flatten.length + n1 := by rw [hs, List.length_append, hr1.len]
      have HS := Lib.hid hlen
      have hb1 : used + ((ls.take k).flatten.length + n1) ≤ 65536 := by have := HFN.out; have := congrArg List.length HF.out; omega
      clear hs hlen hle' hle
      generalize hT : (ls.take k).flatten.length = T at *
      have HT := Lib.hid hT
      clear hT
      have hgt : ¬ (65536 : Int) - (used : Int) - (T : Int) < (n1 : Int) := by omega
      clear hr1 HXL
      go_wp2_with fail
      go_round
      case rel => exact ⟨k + 1, by omega, by go_num, by rw [HS.out]; go_num⟩
      case measure => simp [intOf]; omega
    · have hkn : k = n := by omega
      subst hkn
      have hlt2 : ¬ (k : Int) < (k : Int) := by omega
      rw [show (ls.take k).flatten.length = N by rw [List.take_of_length_le (by rw [HLL.out]; exact Nat.le_refl _), HF.out, HFN.out]]
      clear hlt hle
      go_wp2_with (first
        | (go_at_call 41; (with_reducible refine HNX.out.mono ?_); rintro e w1 ⟨A1, c1, rfl, hc1, hown1, hb1, hw1⟩
           have HR1 := Lib.hid (HP.out w1 hw1)
           have HO1 := Lib.hid hown1
           have HB1 := Lib.hid hb1
           have HW1 := Lib.hid hw1
           have hs1 := hw1.size
           clear hown1 hb1 hw1)
        | (go_at_call 18; (with_reducible refine (join_to A k c ls w1 (by exact HR1.out) (by omega) F N (by exact HF.out) (by exact HFN.out) (by omega)).mono ?_); rintro e w2 ⟨A2, c2, rfl, hc2, hown2, hB2⟩
           have HO2 := Lib.hid hown2
           have HB2 := Lib.hid hB2
           have hs2 := hB2.size
           have HQ : Hid (RdB (w2.alloc (.cells #[.slice A2 N c2, .slice A1 N c1] 43)) (some ⟨w2.heap.size, 0, none⟩) 2 [F, S]) := RdB.of_blk (Blk.new w2 43 [.slice A2 N c2, .slice A1 N c1]) ⟨.of_rd ((Rd.of_own HO2.out).alloc _) hc2, .of_rd (((Rd.of_own HO1.out).below HB2.out).alloc _) hc1, trivial⟩
           clear hown2 hB2)
        | (go_at_call 28; (with_reducible refine (HX.out _ _ (by exact HQ.out)).mono ?_); rintro e w3 ⟨A3, c3, rfl, hc3, hown3, hB3⟩
           have HO3 := Lib.hid (own_mono hown3 (base' := w.heap.size) (by simp; omega))
           have HE3 := Lib.hid (HB2.out.trans ((((Below.refl _ w2).alloc (Nat.le_refl _) _).trans (hB3.mono (by simp))).mono HB2.out.size))
           clear hown3 hB3))
      go_ret2
      exact ⟨A3, c3, rfl, hc3, HO3.out, HB1.out.below HE3.out (by omega), HW1.out.then HE3.out⟩
set_option maxRecDepth 100000 in
set_option maxHeartbeats 1000000 in
theorem turn_to (B : Option Addr) (d : Nat) (key : List UInt8) (A : Option Addr) (n c : Nat) (ls : List (List UInt8)) (F : List UInt8) (N : Nat) (w : World) (hk : Rd w B 32 (u8s key)) (h : RdB w A n ls) (hn : n ≤ 1000000) (hF : ls.flatten = F) (hN : F.length = N) (hun : N ≤ 65536) :
    Calls Try.prog 17 #[.slice B 32 d, .slice A n c] w fun e w' => ∃ A' c', e = .returned (.tuple #[.slice A' N c', .int .i64 0]) ∧ N ≤ c' ∧ w'.ownsRow w.heap.size 5 1 (.slice A' N c') N (u8s (Ch.turn key F)) ∧ Below w.heap.size w w' := by
  subst hF
  have HNW := Lib.hid (fnew_any B d key w hk)
  have hkl := hk.len
  have HT : Hid (∀ W, Blk W w.heap.size 89 (flC key 0) → Below w.heap.size w W → Calls Try.prog 31 #[.pointer (some ⟨w.heap.size, 0, none⟩), .slice A n c] W fun e w' => ∃ A' c', e = .returned (.tuple #[.slice A' N c', .int .i64 0]) ∧ N ≤ c' ∧ w'.ownsRow W.heap.size 5 1 (.slice A' N c') N (u8s (Ch.turn key ls.flatten)) ∧ Below w.heap.size w w') := fun W hb hB => by
    refine (fturn_any w.heap.size key 0 A n c ls N W hb hkl (fun w' hw => h.below (hw.below hB (Nat.le_refl _) hB.size)) hn hN (by omega)).mono ?_
    rintro e w' ⟨A', c', rfl, hc', ho, _, hw⟩
    refine ⟨A', c', rfl, hc', ?_, hw.below hB (Nat.le_refl _) hB.size⟩
    unfold Ch.turn
    rw [hN]
    exact ho
  clear hk h hN hkl
  go_enter Try.func17, Try.ntmps17
  go_wp2_with (first
    | (go_at_call 30; (with_reducible refine HNW.out.mono ?_); rintro e w1 ⟨rfl, hb1, hB1⟩
       have HB1 := Lib.hid hb1
       have HE1 := Lib.hid hB1
       clear hb1 hB1)
    | (go_at_call 31; (with_reducible refine (HT.out w1 (by exact HB1.out) (by exact HE1.out)).mono ?_); rintro e w2 ⟨A2, c2, rfl, hc2, hown2, hB2⟩
       have HO2 := Lib.hid (own_mono hown2 (base' := w.heap.size) HE1.out.size)
       have HE2 := Lib.hid hB2
       clear hown2 hB2))
  go_ret2
  exact ⟨A2, c2, rfl, hc2, HO2.out, HE2.out⟩
end Go.Proofs.Ytlbnibmcflmohaa
