/- Part of the proof: Flo, Flu, Rtu, Apz. -/
import Derived.Lib.AppendZerosOnto
import Derived.Test.YtpgpaenloaphaaaGreatPpx22
import Derived.Test.YtpgpaenloaphaaaGreatPpx27
import Derived.Test.YtpgpaenloaphaaaGreatPpx38
namespace Go.Proofs.YtpgpaenloaphaaaGreat
open Go.RowKit
theorem agI64 (w : World) : (isAgg 3).run Tryz.prog w = .ok false w := by kernel_rfl
def flC (key : List UInt8) (used : Int) : List Value := u8s key ++ [.int .i64 used]
set_option maxRecDepth 100000 in
set_option maxHeartbeats 1000000 in
theorem fnew_any (A : Option Addr) (c : Nat) (key : List UInt8) (w : World) (h : Rd w A 32 (u8s key)) :
   Calls Tryz.prog 72 #[.slice A 32 c] w fun e w' => e = .returned (.tuple #[.pointer (some ⟨w.heap.size, 0, none⟩), .int .i64 0]) ∧ Blk w' w.heap.size 180 (flC key 0) ∧ Below w.heap.size w w' := by
 have HR := qh h
 have HT : Hid ((u8s key).take 32 = u8s key) := List.take_of_length_le (by rw [u8s_length, h.len]; exact Nat.le_refl _)
 have HSP : Hid (splice (flC (List.replicate 32 0) 0) 0 (u8s key) = flC key 0) := by
   show _ = _
   unfold flC
   unfold splice
   rw [List.take_zero, List.nil_append, Nat.zero_add, List.drop_left' (by rw [u8s_length, u8s_length, h.len, List.length_replicate])]
 clear h
 go_enter Tryz.func72, Tryz.ntmps72
 go_wp2_with (refine wpList_copy rfl (.tmp 13) (.tmp 14) 22 rfl 5 Tryz.underlying22 u8_one1 w.heap.size 0 32 32 (by rfl) A 32 c (by rfl) 180 (flC (List.replicate 32 0) 0) (by exact Blk.new' rfl rfl) (u8s key) (by exact HR.out.alloc _) (u8s_one _) (by exact Nat.le_of_ble_eq_true rfl) ?_
              intro w2 hb2 ho2
              rw [HT.out, HSP.out] at hb2
              have HB2 := qh hb2
              have HE2 := qh (ho2.below ((Below.refl _ _).alloc (Nat.le_refl _) _) (Nat.le_refl _) (by simp))
              clear hb2 ho2)
 go_ret2
 exact ⟨rfl, HB2.out, HE2.out⟩
theorem flC_used (key : List UInt8) (u : Int) (hk : key.length = 32) : (flC key u)[32]? = some (.int .i64 u) := by
 unfold flC
 rw [List.getElem?_append_right (by rw [u8s_length, hk]; exact Nat.le_refl _), u8s_length, hk]
 rfl
theorem flC_set (key : List UInt8) (u v : Int) (hk : key.length = 32) : (flC key u).set 32 (.int .i64 v) = flC key v := by
 unfold flC
 rw [List.set_append_right _ _ (by rw [u8s_length, hk]; exact Nat.le_refl _), u8s_length, hk]
 rfl
theorem flC_key (key : List UInt8) (u : Int) (hk : key.length = 32) : ((flC key u).drop 0).take 32 = u8s key := by
 unfold flC
 rw [List.drop_zero, List.take_append_of_le_length (by rw [u8s_length, hk]; exact Nat.le_refl _), List.take_of_length_le (by rw [u8s_length, hk]; exact Nat.le_refl _)]
theorem flC_len (key : List UInt8) (u : Int) (hk : key.length = 32) : (flC key u).length = 33 := by
 unfold flC
 rw [List.length_append, u8s_length, hk]
 rfl
set_option maxRecDepth 100000 in
set_option maxHeartbeats 4000000 in
theorem fnext_any (g : Nat) (key : List UInt8) (used n : Nat) (w : World) (hb : Blk w g 180 (flC key (used : Int))) (hk : key.length = 32) (hun : used + n ≤ 65536) :
   Calls Tryz.prog 106 #[.pointer (some ⟨g, 0, none⟩), .int .i64 n] w fun e w' => ∃ A' c', e = .returned (.tuple #[.slice A' n c', .int .i64 0]) ∧ n ≤ c' ∧ w'.ownsRow w.heap.size 5 1 (.slice A' n c') n (u8s (Ch.piece key used n)) ∧ Blk w' g 180 (flC key ((used + n : Nat) : Int)) ∧ Wrote g w w' := by
 have HB := qh hb
 have HK := qh hk
 have hc0 : w.cell? ⟨g, 32, none⟩ = some (.int .i64 used) := by rw [hb.cell]; exact flC_used key _ hk
 have HP : Hid (∀ W, Rd W (some ⟨g, 0, none⟩) 32 (u8s key) → Calls Tryz.prog 140 #[.slice (some ⟨g, 0, none⟩) 32 32, .int .i64 used, .int .i64 n] W fun e w' => ∃ A' c', e = .returned (.slice A' n c') ∧ n ≤ c' ∧ w'.ownsRow W.heap.size 5 1 (.slice A' n c') n (u8s (Ch.piece key used n)) ∧ Below W.heap.size W w') := fun W h => piece_any _ 32 key used n W h (by omega) (by omega)
 have HR : Hid (∀ W, Blk W g 180 (flC key used) → Rd W (some ⟨g, 0, none⟩) 32 (u8s key)) := fun W h => by
   have h6 := h.rd 0 32 (by rw [flC_len _ _ hk]; omega)
   rwa [flC_key _ _ hk] at h6
 have hn0 : ¬ (n : Int) < 0 := by omega
 have hn1 : ¬ (65536 : Int) < (n : Int) := by omega
 have hn2 : ¬ (65536 : Int) - (used : Int) < (n : Int) := by omega
 clear hb hk
 go_enter Tryz.func106, Tryz.ntmps106
 go_wp2_with fail
 have hT : w.drew.cell? ⟨g, 32, none⟩ = some (.int .i64 used) := hc0
 refine region_K (by kernel_rfl) 9 (fun w' => w'.cell? ⟨g, 32, none⟩ = some (.int .i64 used)) ?_
 refine AnyK.pure 0 (v := .pointer (some ⟨g, 0, none⟩)) rfl (by kernel_rfl) (fun _ _ _ h => h) rfl (fun _ => by kernel_rfl) (fun _ => hT) ?_
 refine AnyK.pure 1 (v := .pointer (some ⟨g, 0, none⟩)) rfl (by kernel_rfl) (fun _ _ _ h => h) rfl (fun _ => by kernel_rfl) (fun _ => hT) ?_
 refine AnyK.pure 2 (v := .pointer (some ⟨g, 0, none⟩)) rfl (by kernel_rfl) (fun _ _ _ h => h) rfl (fun _ => by kernel_rfl) (fun _ => hT) ?_
 refine AnyK.pure 3 (v := .slice (some ⟨g, 0, none⟩) 32 32) rfl (by kernel_rfl) (fun _ _ _ h => h) rfl (fun _ => by kernel_rfl) (fun _ => hT) ?_
 refine AnyK.pure 4 (v := .pointer (some ⟨g, 0, none⟩)) rfl (by kernel_rfl) (fun _ _ _ h => h) rfl (fun _ => by kernel_rfl) (fun _ => hT) ?_
 refine AnyK.pure 5 (v := .pointer (some ⟨g, 0, none⟩)) rfl (by kernel_rfl) (fun _ _ _ h => h) rfl (fun _ => by kernel_rfl) (fun _ => hT) ?_
 refine AnyK.pure 6 (v := .pointer (some ⟨g, 32, none⟩)) rfl (by kernel_rfl) (fun _ _ _ h => h) rfl (fun _ => by kernel_rfl) (fun _ => hT) ?_
 refine AnyK.load 7 (v := .int .i64 used) rfl (by kernel_rfl) (by kernel_rfl) (by kernel_rfl) (fun _ _ _ h => h) rfl (fun w' hw' => ex_load (t := 3) (x := .tmp 26) (p := ⟨g, 32, none⟩) (by rfl) (by kernel_rfl) agI64 hw') hT ?_
 refine AnyK.pure 8 (v := .int .i64 n) rfl (by kernel_rfl) (fun _ _ _ h => h) rfl (fun _ => by kernel_rfl) (fun _ => hT) ?_
 refine AnyK.enter 9 (d := some 29) (f := 140) (args := #[.slice (some ⟨g, 0, none⟩) 32 32, .int .i64 used, .int .i64 n]) (by rfl) (by kernel_rfl) (by kernel_rfl) ?_
 refine (HP.out _ (HR.out _ HB.out.drew)).mono ?_
 rintro e w1 ⟨A', c', rfl, hc', hown, hB⟩
 refine ⟨_, rfl, fun h => (by cases h), ?_⟩
 refine AnyK.val 10 (v := .slice A' n c') rfl (by kernel_rfl) rfl (by kernel_rfl) (fun h => (by cases h)) ?_
 refine AnyK.done (by kernel_rfl) ?_
 have hb1 : Blk w1 g 180 (flC key used) := HB.out.drew.below hB HB.out.drew.lt
 have hc1 : w1.cell? ⟨g, 32, none⟩ = some (.int .i64 used) := by rw [hb1.cell]; exact flC_used key _ HK.out
 have hf1 := hb1.frozen 32
 have HB1 := qh hb1
 have HO1 := qh hown
 have HE1 : Hid (Below w.heap.size w w1) := (Below.refl _ w).drew.trans hB
 clear hT hb1 hown hB
 go_wp2_with fail
 go_ret2
 have h5 := HB1.out.set_ 32 (.int .i64 ((used + n : Nat) : Int))
 rw [flC_set _ _ _ HK.out] at h5
 have h6 := own_only HO1.out (Only.of_setCells w1 g 32 [.int .i64 ((used + n : Nat) : Int)]) (fun k hk => by have h9 : w.heap.size ≤ k := (HO1.out.lt k hk).1; have := HB.out.lt; omega)
 have h7 := (Wrote.of_below (g := g) HE1.out).setCell 32 (.int .i64 ((used + n : Nat) : Int))
 exact ⟨A', c', rfl, hc', h6, h5, h7⟩
end Go.Proofs.YtpgpaenloaphaaaGreat
namespace Go.Proofs.YtpgpaenloaphaaaGreat
open Go.RowKit
set_option maxRecDepth 100000 in
set_option maxHeartbeats 4000000 in
theorem fturn_any (g : Nat) (key : List UInt8) (used : Nat) (A : Option Addr) (n c : Nat) (ls : List (List UInt8)) (N : Nat) (w : World) (hb : Blk w g 180 (flC key (used : Int))) (hk : key.length = 32)
   (hp : ∀ w', Wrote g w w' → RdB w' A n ls) (hn : n ≤ 1000000) (hN : ls.flatten.length = N) (hun : used + N ≤ 65536) :
   Calls Tryz.prog 73 #[.pointer (some ⟨g, 0, none⟩), .slice A n c] w fun e w' => ∃ A' c', e = .returned (.tuple #[.slice A' N c', .int .i64 0]) ∧ N ≤ c' ∧ w'.ownsRow w.heap.size 5 1 (.slice A' N c') N (u8s (Ch.xor ls.flatten (Ch.piece key used N))) ∧ Blk w' g 180 (flC key ((used + N : Nat) : Int)) ∧ Wrote g w w' := by
 have HK := qh hk
 have HP := qh hp
 have HN := qh hN
 have HR := qh (hp w (Wrote.refl _ _))
 have hc0 : w.cell? ⟨g, 32, none⟩ = some (.int .i64 used) := by rw [hb.cell]; exact flC_used key _ hk
 have HNX := qh (fnext_any g key used N w hb hk hun)
 have hgl : g < w.heap.size := hb.lt
 have hpl := Ch.piece_len key used N
 have hll : ls.length = n := by obtain ⟨_, _, h, _⟩ := HR.out; exact h
 have HLL := qh hll
 obtain ⟨S, hS⟩ : ∃ S, S = Ch.piece key used N := ⟨_, rfl⟩
 rw [← hS] at HNX hpl ⊢
 obtain ⟨F, hF⟩ : ∃ F, F = ls.flatten := ⟨_, rfl⟩
 have HF := qh hF.symm
 have hFN : F.length = N := by rw [hF]; exact hN
 rw [← hF]
 have HX : Hid (∀ W B, RdB W (some ⟨B, 0, none⟩) 2 [F, S] → Calls Tryz.prog 107 #[.slice (some ⟨B, 0, none⟩) 2 2] W fun e w' => ∃ A' c', e = .returned (.tuple #[.slice A' N c', .int .i64 0]) ∧ N ≤ c' ∧ w'.ownsRow W.heap.size 5 1 (.slice A' N c') N (u8s (Ch.xor F S)) ∧ Below W.heap.size W w') := fun W B h => pxor_any _ 2 N F S W h hFN hpl (by omega)
 clear hb hk hp hN hS hF hll
 have HFN := qh hFN
 clear hFN
 go_enter Tryz.func73, Tryz.ntmps73
 go_wp2_with fail
 go_loop [6, 13] (fun t i => ∃ k : Nat, k ≤ n ∧ i = .int .i64 k ∧ t = .int .i64 ((ls.take k).flatten.length)) (fun _ i => n - (intOf i).toNat)
 case atStart => exact ⟨0, Nat.zero_le _, rfl, rfl⟩
 case round =>
   obtain ⟨k, hkn, rfl, rfl⟩ := hrel
   have hle := flat_take_le ls k
   by_cases hlt : k < n
   · have hlt2 : (k : Int) < (n : Int) := by omega
     obtain ⟨b, off, A1, n1, c1, l, rfl, hb, HXL, hc, hn1, hr1⟩ := HR.out.at_ hlt
     have hs := flat_take_succ ls k l HXL.out
     have hle' := flat_take_le ls (k + 1)
     have hlen : (ls.take (k + 1)).flatten.length = (ls.take k).flatten.length + n1 := by rw [hs, List.length_append, hr1.len]
     have HS := qh hlen
     have hb1 : used + ((ls.take k).flatten.length + n1) ≤ 65536 := by have := HFN.out; have := congrArg List.length HF.out; omega
     clear hs hlen hle' hle
     generalize hT : (ls.take k).flatten.length = T at *
     have HT := qh hT
     clear hT
     have hgt : ¬ (65536 : Int) - (used : Int) - (T : Int) < (n1 : Int) := by omega
     clear hr1 HXL
     go_wp2_with fail
     go_round
     case rel => exact ⟨k + 1, by omega, by go_num, by rw [HS.out]; go_num⟩
     case measure => simp [intOf]; omega
   · have hkn : k = n := by omega
     subst hkn
     have hlt2 : ¬ (k : Int) < (k : Int) := by omega
     rw [show (ls.take k).flatten.length = N by rw [List.take_of_length_le (by rw [HLL.out]; exact Nat.le_refl _), HF.out, HFN.out]]
     clear hlt hle
     go_wp2_with (first
       | (go_at_call 106; (with_reducible refine HNX.out.mono ?_); rintro e w1 ⟨A1, c1, rfl, hc1, hown1, hb1, hw1⟩
          have HR1 := qh (HP.out w1 hw1)
          have HO1 := qh hown1
          have HB1 := qh hb1
          have HW1 := qh hw1
          have hs1 := hw1.size
          clear hown1 hb1 hw1)
       | (go_at_call 42; (with_reducible refine (join_to A k c ls w1 (by exact HR1.out) (by omega) F N (by exact HF.out) (by exact HFN.out) (by omega)).mono ?_); rintro e w2 ⟨A2, c2, rfl, hc2, hown2, hB2⟩
          have HO2 := qh hown2
          have HB2 := qh hB2
          have hs2 := hB2.size
          have HQ : Hid (RdB (w2.alloc (.cells #[.slice A2 N c2, .slice A1 N c1] 22)) (some ⟨w2.heap.size, 0, none⟩) 2 [F, S]) := RdB.of_blk (Blk.new w2 22 [.slice A2 N c2, .slice A1 N c1]) ⟨.of_rd ((Rd.of_own HO2.out).alloc _) hc2, .of_rd (((Rd.of_own HO1.out).below HB2.out).alloc _) hc1, trivial⟩
          clear hown2 hB2)
       | (go_at_call 107; (with_reducible refine (HX.out _ _ (by exact HQ.out)).mono ?_); rintro e w3 ⟨A3, c3, rfl, hc3, hown3, hB3⟩
          have HO3 := qh (own_mono hown3 (base' := w.heap.size) (by simp; omega))
          have HE3 := qh (HB2.out.trans ((((Below.refl _ w2).alloc (Nat.le_refl _) _).trans (hB3.mono (by simp))).mono HB2.out.size))
          clear hown3 hB3))
     go_ret2
     exact ⟨A3, c3, rfl, hc3, HO3.out, HB1.out.below HE3.out (by omega), HW1.out.then HE3.out⟩
set_option maxRecDepth 100000 in
set_option maxHeartbeats 1000000 in
theorem turn_to (B : Option Addr) (d : Nat) (key : List UInt8) (A : Option Addr) (n c : Nat) (ls : List (List UInt8)) (F : List UInt8) (N : Nat) (w : World) (hk : Rd w B 32 (u8s key)) (h : RdB w A n ls) (hn : n ≤ 1000000) (hF : ls.flatten = F) (hN : F.length = N) (hun : N ≤ 65536) :
   Calls Tryz.prog 43 #[.slice B 32 d, .slice A n c] w fun e w' => ∃ A' c', e = .returned (.tuple #[.slice A' N c', .int .i64 0]) ∧ N ≤ c' ∧ w'.ownsRow w.heap.size 5 1 (.slice A' N c') N (u8s (Ch.turn key F)) ∧ Below w.heap.size w w' := by
 subst hF
 have HNW := qh (fnew_any B d key w hk)
 have hkl := hk.len
 have HT : Hid (∀ W, Blk W w.heap.size 180 (flC key 0) → Below w.heap.size w W → Calls Tryz.prog 73 #[.pointer (some ⟨w.heap.size, 0, none⟩), .slice A n c] W fun e w' => ∃ A' c', e = .returned (.tuple #[.slice A' N c', .int .i64 0]) ∧ N ≤ c' ∧ w'.ownsRow W.heap.size 5 1 (.slice A' N c') N (u8s (Ch.turn key ls.flatten)) ∧ Below w.heap.size w w') := fun W hb hB => by
   refine (fturn_any w.heap.size key 0 A n c ls N W hb hkl (fun w' hw => h.below (hw.below hB (Nat.le_refl _) hB.size)) hn hN (by omega)).mono ?_
   rintro e w' ⟨A', c', rfl, hc', ho, _, hw⟩
   refine ⟨A', c', rfl, hc', ?_, hw.below hB (Nat.le_refl _) hB.size⟩
   unfold Ch.turn
   rw [hN]
   exact ho
 clear hk h hN hkl
 go_enter Tryz.func43, Tryz.ntmps43
 go_wp2_with (first
   | (go_at_call 72; (with_reducible refine HNW.out.mono ?_); rintro e w1 ⟨rfl, hb1, hB1⟩
      have HB1 := qh hb1
      have HE1 := qh hB1
      clear hb1 hB1)
   | (go_at_call 73; (with_reducible refine (HT.out w1 (by exact HB1.out) (by exact HE1.out)).mono ?_); rintro e w2 ⟨A2, c2, rfl, hc2, hown2, hB2⟩
      have HO2 := qh (own_mono hown2 (base' := w.heap.size) HE1.out.size)
      have HE2 := qh hB2
      clear hown2 hB2))
 go_ret2
 exact ⟨A2, c2, rfl, hc2, HO2.out, HE2.out⟩
end Go.Proofs.YtpgpaenloaphaaaGreat
namespace Go.Proofs.YtpgpaenloaphaaaGreat
open Go.RowKit
theorem own_blkX {w : World} {base n c : Nat} {e : TypeId} {A : Option Addr} {xs : List Value} (h : w.ownsRow base e 1 (.slice A n c) n xs) (hn : 0 < n) :
   ∃ g cs, A = some ⟨g, 0, none⟩ ∧ base ≤ g ∧ Blk w g e (xs ++ cs) ∧ xs.length = n ∧ (xs ++ cs).length = c ∧ c ≤ maxLen := by
 obtain ⟨h1, h2⟩ := h
 rcases h2 with ⟨_, h0⟩ | ⟨g, cap, cur, hv, hb, hg, hnc, hm, hsz, hxs⟩
 · omega
 · injection hv with hA hn' hc
   subst hc
   have hx : cur.toList.take n = xs := by simpa using hxs
   refine ⟨g, cur.toList.drop n, hA, hb, ?_, by simpa using h1, ?_, ?_⟩
   · rw [← hx, List.take_append_drop]
     exact hg
   · rw [← hx, List.take_append_drop]
     simpa using hsz
   · exact hm
theorem xor_getD (a b : List UInt8) (i : Nat) (ha : i < a.length) (hb : i < b.length) : (Ch.xor a b)[i]? = some (a.getD i 0 ^^^ b.getD i 0) := by
 simp [Ch.xor, List.getElem?_zipWith, List.getD_eq_getElem?_getD, ha, hb]
theorem half_set (X S : List UInt8) (i : Nat) (v : UInt8) (hX : X[i]? = some v) (hS : i < S.length) : (X.take i ++ S.drop i).set i v = X.take (i + 1) ++ S.drop (i + 1) := by
 have hi : i < X.length := (List.getElem?_eq_some_iff.1 hX).1
 rw [List.set_append_right _ _ (by simp; omega), List.length_take, Nat.min_eq_left (by omega), Nat.sub_self, List.drop_eq_getElem_cons hS, List.set_cons_zero, List.take_add_one, hX, List.append_assoc]
 rfl
set_option maxRecDepth 100000 in
set_option maxHeartbeats 4000000 in
theorem rturned_any (key : List UInt8) (hk : key.length = 32) (B : Option Addr) (n d : Nat) (bs : List UInt8) (w : World) (h : Rd w B n (u8s bs)) (h0 : 0 < n) (hn : n ≤ 1000000) :
   Calls Tryz.prog 46 #[.agg (u8s key).toArray, .int .i64 0, .slice B n d] w fun e w' => ∃ A' c', e = .returned (.slice A' n c') ∧ n ≤ c' ∧ w'.ownsRow w.heap.size 5 1 (.slice A' n c') n (u8s (Ch.turn key bs)) ∧ Below w.heap.size w w' := by
 have HR := qh h
 have HBL := qh h.len
 have HK : Hid (Blk (w.alloc (.cells (u8s key).toArray 23)) w.heap.size 23 (u8s key)) := Blk.new _ _ _
 have HE : Hid (Below w.heap.size w (w.alloc (.cells (u8s key).toArray 23))) := (Below.refl _ w).alloc (Nat.le_refl _) _
 have HY : Hid (Calls Tryz.prog 77 #[.slice (some ⟨w.heap.size, 0, none⟩) 32 32, .int .i64 0, .int .i64 n] (w.alloc (.cells (u8s key).toArray 23)) fun e w' => ∃ g cs c', e = .returned (.slice (some ⟨g, 0, none⟩) n c') ∧ (u8s (Ch.piece key 0 n) ++ cs).length = c' ∧ n ≤ c' ∧ c' ≤ maxLen ∧ w.heap.size + 1 ≤ g ∧ Blk w' g 5 (u8s (Ch.piece key 0 n) ++ cs) ∧ Below (w.alloc (.cells (u8s key).toArray 23)).heap.size (w.alloc (.cells (u8s key).toArray 23)) w') := by
   refine (rbytes_any (some ⟨w.heap.size, 0, none⟩) 32 key n _ (HK.out.rdA hk) h0 hn).mono ?_
   rintro e w' ⟨A', c', rfl, hc', ho, hB⟩
   obtain ⟨g, cs, rfl, hg, hb, hl, hcl, hm⟩ := own_blkX ho h0
   exact ⟨g, cs, c', rfl, hcl, hc', hm, by simpa using hg, hb, hB⟩
 obtain ⟨S, hS⟩ : ∃ S, S = Ch.piece key 0 n := ⟨_, rfl⟩
 have HSL : Hid (S.length = n) := (by show _ = _; rw [hS, Ch.piece_len])
 have HX : Hid (Ch.turn key bs = Ch.xor bs S) := (by show _ = _; rw [Ch.turn, hS, h.len])
 rw [← hS] at HY
 rw [HX.out]
 have HXL : Hid ((Ch.xor bs S).length = n) := (by show _ = _; rw [Ch.xor_len _ _ (by rw [HSL.out]; exact h.len), h.len])
 have HXG : Hid (∀ i, i < n → (Ch.xor bs S)[i]? = some (bs.getD i 0 ^^^ S.getD i 0)) := fun i hi => xor_getD bs S i (by rw [HBL.out]; exact hi) (by rw [HSL.out]; exact hi)
 generalize Ch.xor bs S = X at *
 have hn0 : (n : Int) ≤ 1000000 := by omega
 clear hS h HX HK
 go_enter Tryz.func46, Tryz.ntmps46
 go_wp2_with (go_at_call 77; (with_reducible refine HY.out.mono ?_); rintro e w1 ⟨g, cs, cc, rfl, hcl, hnc, hcm, hg, hb, hB⟩; have HCC := qh hcl; have HS1 := qh hb; have HE1 := qtr HE hB; have HG := qh hg; have HNC := qh hnc; have HCM := qh hcm; clear hb hB hg hnc hcm hcl)
 go_loopg [8] n (fun kk q wr => ∃ i : Nat, kk = n - i ∧ q = .int .i64 (i : Int) ∧ i ≤ n ∧ Blk wr g 5 (u8s (X.take i ++ S.drop i) ++ cs) ∧ Below w.heap.size w wr)
 case atStart => exact ⟨0, rfl, rfl, by omega, by rw [List.take_zero, List.drop_zero, List.nil_append]; exact HS1.out, HE1.out⟩
 case round =>
   clear HS1 HE1 HY HE
   obtain ⟨i, hgk, rfl, hi, hA, hE⟩ := hrel
   rcases Nat.lt_or_ge i n with hlt | hge
   · have hlt2 : (i : Int) < (n : Int) := by omega
     obtain ⟨b, off, y, rfl, hbw, huy, hcw⟩ := HR.out.u8 (k := i) hlt
     have cy : wr.cell? ⟨b, off + i, none⟩ = some (.int .u8 (y.toNat : Int)) := (hE.cell hbw).trans hcw
     obtain ⟨x, hx⟩ : ∃ x, x = S.getD i 0 := ⟨_, rfl⟩
     have hyd : y = bs.getD i 0 := by rw [List.getD_eq_getElem?_getD, huy]; rfl
     have hxl : (u8s (X.take i ++ S.drop i) ++ cs)[i]? = some (.int .u8 (x.toNat : Int)) := by
       rw [List.getElem?_append_left (by rw [u8s_length, List.length_append, List.length_take, List.length_drop, HXL.out, HSL.out]; omega), u8s_getElem?, List.getElem?_append_right (by rw [List.length_take, HXL.out]; omega), List.length_take, HXL.out, Nat.min_eq_left (by omega), Nat.sub_self, List.getElem?_drop, Nat.add_zero, List.getElem?_eq_getElem (by rw [HSL.out]; exact hlt), hx, List.getD_eq_getElem?_getD, List.getElem?_eq_getElem (by rw [HSL.out]; exact hlt)]
       rfl
     have cx : wr.cell? ⟨g, i, none⟩ = some (.int .u8 (x.toNat : Int)) := (hA.cell i).trans hxl
     have fx : wr.drew.frozen? ⟨g, i, none⟩ = false := hA.drew.frozen i
     obtain ⟨v, hv⟩ : ∃ v, v = x ^^^ y := ⟨_, rfl⟩
     have hvi : bits .xor .u8 (x.toNat : Int) (y.toNat : Int) = (v.toNat : Int) := by rw [hv]; exact w8_xor x y
     have HXI : Hid (X[i]? = some v) := (by show _ = _; rw [HXG.out i hlt, hv, hx, hyd, UInt8.xor_comm])
     have HAx : Hid (Blk (wr.drew.setCell ⟨g, i, none⟩ (.int .u8 (v.toNat : Int))) g 5 (u8s (X.take (i + 1) ++ S.drop (i + 1)) ++ cs)) := by
       have h1 := hA.drew.set_ i (.int .u8 (v.toNat : Int))
       rw [List.set_append_left _ _ (by rw [u8s_length, List.length_append, List.length_take, List.length_drop, HXL.out, HSL.out]; omega), u8s_set, half_set X S i v HXI.out (by rw [HSL.out]; exact hlt)] at h1
       exact h1
     have HEx := qh (hE.drew.setCell (p := ⟨g, i, none⟩) (by have := HG.out; show w.heap.size ≤ g; omega) (.int .u8 (v.toNat : Int)))
     have HGK := qh hgk
     have HLT := qh hlt
     have hT : wr.drew.cell? ⟨g, i, none⟩ = some (.int .u8 (x.toNat : Int)) ∧ wr.drew.cell? ⟨b, off + i, none⟩ = some (.int .u8 (y.toNat : Int)) := ⟨cx, cy⟩
     clear hA hE hgk cx cy hxl hx hyd hv huy hcw hbw
     go_wp2
     refine region_K (by kernel_rfl) 12 (fun w' => w'.cell? ⟨g, i, none⟩ = some (.int .u8 (x.toNat : Int)) ∧ w'.cell? ⟨b, off + i, none⟩ = some (.int .u8 (y.toNat : Int))) ?_
     refine AnyK.pure 0 (v := .slice (some ⟨g, 0, none⟩) n cc) rfl (by kernel_rfl) (fun _ _ _ h => h) rfl (fun _ => by kernel_rfl) (fun _ => hT) ?_
     refine AnyK.pure 1 (v := .int .i64 (i : Int)) rfl (by kernel_rfl) (fun _ _ _ h => h) rfl (fun _ => by kernel_rfl) (fun _ => hT) ?_
     refine AnyK.pure 2 (v := .slice (some ⟨g, 0, none⟩) n cc) rfl (by kernel_rfl) (fun _ _ _ h => h) rfl (fun _ => by kernel_rfl) (fun _ => hT) ?_
     refine AnyK.pure 3 (v := .int .i64 (i : Int)) rfl (by kernel_rfl) (fun _ _ _ h => h) rfl (fun _ => by kernel_rfl) (fun _ => hT) ?_
     refine AnyK.pure 4 (v := .pointer (some ⟨g, i, none⟩)) rfl (by kernel_rfl) (fun _ _ _ h => h) rfl (fun _ => (ex_idxS (t := 22) (e := 5) (x := .tmp 22) (y := .tmp 23) (g := g) (off := 0) (n := n) (c := cc) (p := i) (sz := 1) (by rfl) (by kernel_rfl) (by kernel_rfl) hlt (by kernel_rfl) szU8r).trans (by rw [Nat.mul_one, Nat.zero_add])) (fun _ => hT) ?_
     refine AnyK.load 5 (v := .int .u8 (x.toNat : Int)) rfl (by kernel_rfl) (by kernel_rfl) (by kernel_rfl) (fun _ _ _ h => h) rfl (fun w' hw' => ey_load (t := 5) (x := .tmp 24) (p := ⟨g, i, none⟩) (by rfl) (by kernel_rfl) agU8 hw'.1) hT ?_
     refine AnyK.pure 6 (v := .slice (some ⟨b, off, none⟩) n d) rfl (by kernel_rfl) (fun _ _ _ h => h) rfl (fun _ => by kernel_rfl) (fun _ => hT) ?_
     refine AnyK.pure 7 (v := .int .i64 (i : Int)) rfl (by kernel_rfl) (fun _ _ _ h => h) rfl (fun _ => by kernel_rfl) (fun _ => hT) ?_
     refine AnyK.pure 8 (v := .pointer (some ⟨b, off + i, none⟩)) rfl (by kernel_rfl) (fun _ _ _ h => h) rfl (fun _ => (ex_idxS (t := 22) (e := 5) (x := .tmp 26) (y := .tmp 27) (g := b) (off := off) (n := n) (c := d) (p := i) (sz := 1) (by rfl) (by kernel_rfl) (by kernel_rfl) hlt (by kernel_rfl) szU8r).trans (by rw [Nat.mul_one])) (fun _ => hT) ?_
     refine AnyK.load 9 (v := .int .u8 (y.toNat : Int)) rfl (by kernel_rfl) (by kernel_rfl) (by kernel_rfl) (fun _ _ _ h => h) rfl (fun w' hw' => ey_load (t := 5) (x := .tmp 28) (p := ⟨b, off + i, none⟩) (by rfl) (by kernel_rfl) agU8 hw'.2) hT ?_
     refine AnyK.pure 10 (v := .int .u8 (v.toNat : Int)) rfl (by kernel_rfl) (fun _ _ _ h => h) rfl (fun _ => Eq.trans (b := .ok (.value (.int .u8 (bits .xor .u8 (x.toNat : Int) (y.toNat : Int)))) _) (by kernel_rfl) (by rw [hvi])) (fun _ => hT) ?_
     refine AnyK.pure 11 (v := .pointer (some ⟨g, i, none⟩)) rfl (by kernel_rfl) (fun _ _ _ h => h) rfl (fun _ => (ex_idxS (t := 22) (e := 5) (x := .tmp 20) (y := .tmp 21) (g := g) (off := 0) (n := n) (c := cc) (p := i) (sz := 1) (by rfl) (by kernel_rfl) (by kernel_rfl) hlt (by kernel_rfl) szU8r).trans (by rw [Nat.mul_one, Nat.zero_add])) (fun _ => hT) ?_
     refine AnyK.store 12 (d := none) (op := .store 5 (.tmp 31) (.tmp 30)) (by kernel_rfl) (fun o ho => ey_store (p := ⟨g, i, none⟩) (k := .u8) (n := (v.toNat : Int)) ho (by kernel_rfl) (by kernel_rfl) szU8r hT.1 fx) (by kernel_rfl) (fun h => (by cases h)) ?_
     refine AnyK.done (by kernel_rfl) ?_
     clear hT fx hvi
     go_wp2
     go_roundg (n - (i + 1))
     case measure => have := HGK.out; have := HLT.out; omega
     case rel => exact ⟨i + 1, rfl, by go_num, by have := HLT.out; omega, HAx.out, HEx.out⟩
   · obtain rfl : i = n := by omega
     have hlt2 : ¬ (i : Int) < (i : Int) := by omega
     rw [List.take_of_length_le (by rw [HXL.out]; exact Nat.le_refl _), List.drop_of_length_le (by rw [HSL.out]; exact Nat.le_refl _), List.append_nil] at hA
     have hlc : (u8s X ++ cs).length = cc := by rw [← HCC.out, List.length_append, List.length_append, u8s_length, u8s_length, HXL.out, HSL.out]
     have HOW : Hid (wr.ownsRow w.heap.size 5 1 (.slice (some ⟨g, 0, none⟩) i cc) i (u8s X)) := by
       refine ⟨by rw [u8s_length, HXL.out, Nat.mul_one], .inr ⟨g, cc, (u8s X ++ cs).toArray, rfl, (by have := HG.out; omega), hA, HNC.out, HCM.out, by simpa using hlc, ?_⟩⟩
       rw [Nat.mul_one, List.toList_toArray, List.take_append_of_le_length (by rw [u8s_length, HXL.out]; exact Nat.le_refl _), List.take_of_length_le (by rw [u8s_length, HXL.out]; exact Nat.le_refl _)]
     have HEx := qh hE
     clear hA hE hgk hlc
     go_wp2
     go_ret
     exact ⟨_, _, rfl, HNC.out, HOW.out, HEx.out⟩
end Go.Proofs.YtpgpaenloaphaaaGreat
namespace Go.Proofs.YtpgpaenloaphaaaGreat
open Go.RowKit
def za48 : List Value := u8s (List.replicate 48 0)
theorem za48_len : za48.length = 48 := rfl
theorem zca48 : Builtin.zeroCells (Value.int .u8 0).cells 48 = za48.toArray := by kernel_rfl
theorem run_append_room_zeros {P : Program} (w : World) (t tn ty e : TypeId) (i : TypeInfo) (z : Value) (kq kn : IntKind) (ht : P.underlying t = some (.slice e)) (htn : P.underlying tn = some (.int kn)) (hi : P.info? e = some i) (hz : i.zero = some z)
   (g sLen sCap : Nat) (cur : Array Value) (hgc : w.heap[g]? = some (.cells cur e (0, 0)))
   (k : Nat) (h0 : 0 < k) (hs : 0 < i.size) (news : List Value) (hnews : Builtin.zeroCells z.cells k = news.toArray) (h1 : ∀ u ∈ news, u.oneCell' = true) (hroom : sLen + k ≤ sCap) (hfit : sLen * i.size + news.length ≤ cur.size) (h63 : (k : Int) ≤ 9223372036854775807) (h48 : k * i.bytes ≤ 281474976710656) :
   (Builtin.append_ #[t, tn] ty #[.slice (some ⟨g, 0, none⟩) sLen sCap, .int kq k]).run P w =
     .ok (.slice (some ⟨g, 0, none⟩) (sLen + k) sCap) (w.setRow g (cur.toList.take (sLen * i.size) ++ news ++ cur.toList.drop (sLen * i.size + news.length)).toArray) := by
 have hk : k ≠ 0 := by omega
 have hw : IntKind.i64.wrap (k : Int) = k := by rw [IntKind.wrap_i64]; omega
 have h48i : ¬ (281474976710656 < (k : Int) * (i.bytes : Int)) := by
   rw [← Int.natCast_mul]
   omega
 have hneg : ¬ ((k : Int) < 0) := by omega
 have hns : ¬ (k * i.size = 0) := Nat.mul_ne_zero hk (by omega)
 have hst := run_storeCells_at P g (sLen * i.size) e news 0 cur w hgc (by simpa using hfit) h1
 simp only [Nat.add_zero] at hst
 simp [Builtin.append_, run_underlying ht, run_underlying htn, sizeOf, typeInfo, zeroValue, hi, hz, asInt, asIntOf, hw, hroom, hneg, hns, h48i, hnews, Addr.add_lit, hst]
theorem run_app_zeros {P : Program} (w : World) (base : Nat) (t tn ty e : TypeId) (kn : IntKind) (ht : P.underlying t = some (.slice e)) (htn : P.underlying tn = some (.int kn)) (i : TypeInfo) (hi : P.info? e = some i) (hz : i.zero = some (.int .u8 0)) (hsi : i.size = 1) (hby : i.bytes = 1)
   (v : Value) (n : Nat) (xs : List Value) (hown : w.ownsRow base e 1 v n xs) (hn : n ≤ 100000) (hbase : base ≤ w.heap.size) :
   ∃ v' w', (Builtin.append_ #[t, tn] ty #[v, .int .i64 48]).run P w = .ok v' w' ∧ w'.ownsRow base e 1 v' (n + 48) (xs ++ za48) ∧ w.grownBy w' v.ownBlock ∧ (v'.ownBlock = v.ownBlock ∨ v'.ownBlock = some w.heap.size) := by
 have hlen : (xs ++ za48).length = (n + 48) * 1 := by rw [List.length_append, hown.1, za48_len]; omega
 have grown : ∀ (old : Nat), old < n + 48 → ∀ (row : Option Nat),
     (w.drew.alloc (.cells (xs.toArray ++ Builtin.zeroCells (Value.int .u8 0).cells 48 ++ Builtin.zeroCells (Value.int .u8 0).cells (grownCap w (n + 48) old e - (n + 48))) e)).ownsRow base e 1
       (.slice (some ⟨w.heap.size, 0, none⟩) (n + 48) (grownCap w (n + 48) old e)) (n + 48) (xs ++ za48) ∧
     w.grownBy (w.drew.alloc (.cells (xs.toArray ++ Builtin.zeroCells (Value.int .u8 0).cells 48 ++ Builtin.zeroCells (Value.int .u8 0).cells (grownCap w (n + 48) old e - (n + 48))) e)) row := by
   intro old ho row
   have hge := grownCap_ge w (n + 48) old e
   have hcm : grownCap w (n + 48) old e ≤ maxLen := grownCap_le_maxLen w (n + 48) old e (by simp only [maxLen]; omega)
   refine ⟨⟨hlen, .inr ⟨w.heap.size, _, _, rfl, hbase, heap_alloc_new w.drew _, hge, hcm, ?_, ?_⟩⟩, ⟨rfl, rfl, rfl, by simp, fun k hk _ => heap_alloc_old w.drew _ hk⟩⟩
   · simp only [Array.size_append, List.size_toArray, size_zeroCells, hown.1]
     simp [Value.cells]
     omega
   · rw [zca48]
     simp only [Array.toList_append, List.append_assoc]
     rw [← List.append_assoc, ← hlen]
     exact List.take_left
 have h63' : ((n + 48 : Nat) : Int) ≤ 9223372036854775807 := by omega
 rcases hown.2 with ⟨rfl, rfl⟩ | ⟨g, cap, cur, rfl, hbg, hg, hnc, hcm, hcs, htake⟩
 · have hx : xs = [] := List.eq_nil_of_length_eq_zero (by simpa using hown.1)
   subst hx
   have hr := Lib.run_append_grow_zeros (P := P) w t tn ty e i (.int .u8 0) .i64 kn ht htn hi hz none 0 0 [] (run_firstCells_none w.drew i.size 0 0 0) 48 (by omega) (by omega) (by omega) h63' (by omega) (growslice_fits (by omega) (by rw [hby]; omega))
   have hgr := grown 0 (by omega) (Value.ownBlock (.slice none 0 0))
   exact ⟨_, _, hr, hgr.1, hgr.2, Or.inr rfl⟩
 · by_cases hroom : n + 48 ≤ cap
   · have hfit : n * i.size + za48.length ≤ cur.size := by rw [za48_len, hsi, hcs]; omega
     have hr := run_append_room_zeros (P := P) w t tn ty e i (.int .u8 0) .i64 kn ht htn hi hz g n cap cur hg 48 (by omega) (by omega) za48 zca48 (u8s_one _) hroom hfit (by omega) (by omega)
     refine ⟨_, _, hr, ⟨hlen, .inr ⟨g, cap, _, rfl, hbg, setRow_heap w g cur _ e _ hg, hroom, hcm, ?_, ?_⟩⟩, ⟨rfl, rfl, rfl, by simp, fun k _ hk => setRow_other w g k _ (fun e => hk (by simp [Value.ownBlock, e]))⟩, Or.inl rfl⟩
     · simp only [List.size_toArray, List.length_append, List.length_take, List.length_drop, Array.length_toList]
       omega
     · rw [hsi, htake, ← hlen]
       exact List.take_left
   · have holds : ∀ j u, xs[j]? = some u → w.cell? ((⟨g, 0, none⟩ : Addr).add j) = some u := hown.cells (g := g) rfl
     have hold : (Builtin.firstCells i.size n (.slice (some ⟨g, 0, none⟩) n cap)).run P w.drew = .ok xs.toArray w.drew := run_firstCells_some w.drew i.size n _ n cap xs (by rw [hsi]; exact hown.1) (by simpa using holds)
     have hr := Lib.run_append_grow_zeros (P := P) w t tn ty e i (.int .u8 0) .i64 kn ht htn hi hz (some ⟨g, 0, none⟩) n cap xs hold 48 (by omega) (by omega) (by omega) h63' (by omega) (growslice_fits (by omega) (by rw [hby]; omega))
     have hgr := grown cap (by omega) (Value.ownBlock (.slice (some ⟨g, 0, none⟩) n cap))
     exact ⟨_, _, hr, hgr.1, hgr.2, Or.inr rfl⟩
theorem info8m : ∃ i, Tryz.prog.info? 5 = some i ∧ i.zero = some (.int .u8 0) ∧ i.size = 1 ∧ i.bytes = 1 := by
 have h : (Tryz.prog.info? 5).map (fun i => (i.zero, i.size, i.bytes)) = some (some (.int .u8 0), 1, 1) := by kernel_rfl
 cases hq : Tryz.prog.info? 5 with
 | none => simp [hq] at h
 | some i => simp [hq] at h; exact ⟨i, rfl, h.1, h.2.1, h.2.2⟩
section
variable {w : World} {ops : Array Oper} {rest : List Oper} {o : Oper} {a : Act} {K : Act → World → Prop} {Q : Exit → Act → World → Prop}
theorem wp_app_zeros (s : Operand) (ho : o.op = .call { callee := .builtin .append, args := #[s, .const (.int .i64 48)], argTypes := #[22, 3] })
   (base : Nat) (v : Value) (n : Nat) (xs : List Value) (hs : a.eval s = v) (hown : w.ownsRow base 5 1 v n xs) (hn : n ≤ 100000) (hbase : base ≤ w.heap.size)
   (h : ∀ A' c' w', w'.ownsRow base 5 1 (.slice A' (n + 48) c') (n + 48) (xs ++ za48) → n + 48 ≤ c' → w.grownBy w' v.ownBlock → (Value.ownBlock (.slice A' (n + 48) c') = v.ownBlock ∨ Value.ownBlock (.slice A' (n + 48) c') = some w.heap.size) → K (a.put o.dst (.slice A' (n + 48) c')) w') : o.wp Tryz.prog a w K Q := by
 obtain ⟨i, hi, hz, hsi, hby⟩ := info8m
 obtain ⟨v', w', hrun, h2, h3, h4⟩ := run_app_zeros (P := Tryz.prog) w base 22 3 o.type 5 .i64 Tryz.underlying22 Tryz.underlying3 i hi hz hsi hby v n xs hown hn hbase
 have hev : #[s, .const (.int .i64 48)].map a.eval = #[v, .int .i64 48] := by simp only [List.map_toArray, List.map_cons, List.map_nil, hs]; rfl
 obtain ⟨A', c', rfl, hc⟩ := own_form h2
 refine wp_val (exec_builtin .append #[s, .const (.int .i64 48)] #[22, 3] ho hev fun cs => ?_) (h A' c' w' h2 hc h3 h4)
 simp only [builtin, Sem.run_bind, hrun, Sem.run_pure, Result.andThen_ok]
theorem step_app_zeros {F : Prop} (hgd : o.guard = none) (s : Operand) (ho : o.op = .call { callee := .builtin .append, args := #[s, .const (.int .i64 48)], argTypes := #[22, 3] })
   (base : Nat) (v : Value) (n : Nat) (xs : List Value) (hs : a.eval s = v) (hown : w.ownsRow base 5 1 v n xs) (hn : n ≤ 100000) (hbase : base ≤ w.heap.size)
   (h : ∀ A' c' w', w'.ownsRow base 5 1 (.slice A' (n + 48) c') (n + 48) (xs ++ za48) → n + 48 ≤ c' → w.grownBy w' v.ownBlock → (Value.ownBlock (.slice A' (n + 48) c') = v.ownBlock ∨ Value.ownBlock (.slice A' (n + 48) c') = some w.heap.size) → K (a.put o.dst (.slice A' (n + 48) c')) w') : if Region.wanted o (yielded ops a.tmps) = true then Oper.wp Tryz.prog o a w K Q else F :=
 step_of hgd (wp_app_zeros s ho base v n xs hs hown hn hbase h)
end
end Go.Proofs.YtpgpaenloaphaaaGreat
