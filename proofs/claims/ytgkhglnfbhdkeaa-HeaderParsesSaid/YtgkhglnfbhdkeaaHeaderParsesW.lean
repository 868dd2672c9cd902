/- HeaderParses' walk. -/
import Derived.Test.YtgkhglnfbhdkeaaAwk13
namespace Go.Proofs.Ytgkhglnfbhdkeaa.headerParses
open Go.RowKit
attribute [local go_sem ↓] ldq_34 eqq_34

set_option maxRecDepth 100000 in
set_option maxHeartbeats 1000000 in
theorem walk_no (A : Option Addr) (n c : Nat) (l : List UInt8) (w : World) (h : Rd w A n (u8s l)) (hn : n ≤ 140737488351232) (hne : ¬ n = 288) :
    Calls Try.prog 5 #[.slice A n c] w fun e w' => e = .returned (.bool true) ∧ Below w.heap.size w w' := by
  have hne' : ((n : Int) != 288) = true := by rw [bne_iff_ne]; omega
  have hq := eq34z
  have HPN : Hid (∀ A c W, Calls Try.prog 21 #[.slice A n c] W fun e w' => e = .returned (.tuple #[.agg (u8s z288).toArray, .int .i64 2]) ∧ Below W.heap.size W w') := fun A c W => by
    have h5 := hparse_no A n c W hne
    rw [zc34'] at h5
    exact h5
  clear hne
  go_enter Try.func5, Try.ntmps5
  go_wp2_with (first
    | (go_at_call 20; refine (awake13 _).mono ?_; rintro e w1 ⟨rfl, hB1⟩)
    | (go_at_call 11; refine (copy_any A n c l _ (h.below hB1) (by omega)).mono ?_; rintro e w2 ⟨A2, c2, rfl, hc2, hown2, hB2⟩)
    | (go_at_call 21; (with_reducible refine (HPN.out _ _ _).mono ?_); rintro e w3 ⟨rfl, hB3⟩)
    | (refine wpList_store_all rfl 28 (.tmp 3) (.tmp 11) rfl w3.heap.size (u8s z288) (by rfl) (by rfl) 28 (u8s z288) (by exact Blk.new' rfl zc34') (by rw [z288_len]; exact hd34) (u8s_one _) rfl ?_
       intro w4 hb4 ho4
       have hld := hd_ld hb4 z288_len))
  have hBw2 : Below w.heap.size w w2 := hB1.trans (hB2.mono hB1.size)
  have hBw3 : Below w.heap.size w w3 := hBw2.trans (hB3.mono hBw2.size)
  have hB4 : Below w.heap.size w w4 := ho4.below (hBw3.alloc hBw3.size _) hBw3.size (by have := hBw3.size; simp; omega)
  go_ret
  exact ⟨rfl, hB4⟩

set_option maxRecDepth 100000 in
set_option maxHeartbeats 4000000 in
theorem walk_yes (A : Option Addr) (c : Nat) (l : List UInt8) (w : World) (h : Rd w A 288 (u8s l)) (hc : 288 ≤ c) :
    Calls Try.prog 5 #[.slice A 288 c] w fun e w' => e = .returned (.bool true) ∧ Below w.heap.size w w' := by
  have hl := h.len
  have HL := Lib.hid hl
  have HUL : Hid ((u8s l).length = 288) := by show _ = _; rw [u8s_length, hl]
  obtain ⟨b, off, rfl, hb, _⟩ := h.2 (by omega)
  have HR : Hid (∀ W k m, Below w.heap.size w W → k + m ≤ 288 → Rd W (some ⟨b, off + k, none⟩) m (u8s ((l.drop k).take m))) := fun W k m hB hk => rd_mid (h.below hB) k m hk
  have HR0 : Hid (∀ W, Below w.heap.size w W → Rd W (some ⟨b, off, none⟩) 32 (u8s ((l.drop 0).take 32))) := fun W hB => rd_mid (h.below hB) 0 32 (by omega)
  have HPT : Hid (∀ W G (k m : Nat), Blk W G 28 (u8s l) → k + m ≤ 288 → Rd W (some ⟨G, k, none⟩) m (u8s ((l.drop k).take m))) := fun W G k m hb hk => by
    have h6 := hb.rd k m (by rw [u8s_length, hl]; exact hk)
    rwa [u8s_drop, u8s_take] at h6
  have n32 : ¬ c = 32 := by omega
  have n48 : ¬ c = 48 := by omega
  have i48 : (48 : Int) ≤ (c : Int) := by omega
  have i32 : (32 : Int) ≤ (c : Int) := by omega
  clear hl
  go_enter Try.func5, Try.ntmps5
  go_wp2_with (first
    | (go_at_call 20; refine (awake13 _).mono ?_; rintro e w1 ⟨rfl, hB1⟩)
    | (go_at_call 11; refine (copy_any (some ⟨b, off, none⟩) 288 c l _ (h.below hB1) (by omega)).mono ?_; rintro e w2 ⟨A2, c2, rfl, hc2, hown2, hB2⟩)
    | (go_at_call 21; refine (hparse_yes A2 c2 l _ (Rd.of_own hown2) hc2).mono ?_; rintro e w3 ⟨rfl, hB3⟩)
    | (refine wpList_store_all rfl 28 (.tmp 3) (.tmp 11) rfl w3.heap.size (u8s l) (by rfl) (by rfl) 28 (u8s z288) (by exact Blk.new' rfl zc34') (by rw [HUL.out]; exact hd34) (u8s_one _) (by rw [HUL.out, z288_len]) ?_
       intro w4 hb4 ho4
       have hBw2 : Below w.heap.size w w2 := hB1.trans (hB2.mono hB1.size)
       have hBw3 : Below w.heap.size w w3 := hBw2.trans (hB3.mono hBw2.size)
       have hB4 : Below w.heap.size w w4 := ho4.below (hBw3.alloc hBw3.size _) hBw3.size (by have := hBw3.size; simp; omega)
       clear hBw2 hBw3 ho4 hB1 hB2 hB3 hown2))
  obtain ⟨cs, Hcs⟩ : ∃ cs, Hid (cs = u8s l) := ⟨_, rfl⟩
  have hld : ∀ W, Blk W w3.heap.size 28 (u8s l) → (ldAt 28 (.pointer (some ⟨w3.heap.size, 0, none⟩))).run Try.prog W = .ok (.agg cs.toArray) W := fun W hb => by
    rw [Hcs.out]
    exact hd_ld hb HUL.out
  go_region_held3 (fun w' => Blk w' w3.heap.size 28 (u8s l))
    (first | assumption | exact hb4.drew | exact hk6.drewN _) (first
    | (go_at_call 22; rw [Hcs.out]; refine (hbytes_any l _ HL.out).mono ?_; rintro e w6 ⟨A6, c6, rfl, hc6, hown6, hB6⟩
       have hk6 : Blk w6 w3.heap.size 28 (u8s l) := hb4.drew.below hB6 hb4.lt
       have hBw6 : Below w.heap.size w w6 := hB4.drew.trans (hB6.mono hB4.size))
    | (go_at_call 13; (with_reducible refine (equal_any A6 (some ⟨b, off, none⟩) 288 288 c6 c l l _ (Rd.of_own hown6) (h.below hBw6) (by omega) (by omega)).mono ?_); rintro e w7 ⟨rfl, q7, rfl⟩)
    | (go_at_call 13; (with_reducible refine (equal_any (some ⟨w3.heap.size, 0, none⟩) (some ⟨b, off, none⟩) 32 32 32 c ((l.drop 0).take 32) ((l.drop 0).take 32) _ (HPT.out _ _ 0 32 (hk6.drewN _) (by omega)) (HR0.out _ (below_drewN hBw6 _)) (by omega) (by omega)).mono ?_); rintro e w8 ⟨rfl, q8, rfl⟩)
    | (go_at_call 13; (with_reducible refine (equal_any (some ⟨w3.heap.size, 32, none⟩) (some ⟨b, off + 32, none⟩) 16 16 16 (c - 32) ((l.drop 32).take 16) ((l.drop 32).take 16) _ (HPT.out _ _ 32 16 (hk6.drewN _) (by omega)) (HR.out _ 32 16 (below_drewN hBw6 _) (by omega)) (by omega) (by omega)).mono ?_); rintro e w9 ⟨rfl, q9, rfl⟩)
    | (go_at_call 13; (with_reducible refine (equal_any (some ⟨w3.heap.size, 48, none⟩) (some ⟨b, off + 48, none⟩) 240 240 240 (c - 48) ((l.drop 48).take 240) ((l.drop 48).take 240) _ (HPT.out _ _ 48 240 (hk6.drewN _) (by omega)) (HR.out _ 48 240 (below_drewN hBw6 _) (by omega)) (by omega) (by omega)).mono ?_); rintro e w10 ⟨rfl, q10, rfl⟩))
  go_wp2
  go_ret
  exact ⟨rfl, below_drewN hBw6 _⟩

theorem walk (A : Option Addr) (n c : Nat) (l : List UInt8) (w : World) (h : Rd w A n (u8s l)) (hn : n ≤ c) (hc : c ≤ 140737488351232) :
    Calls Try.prog 5 #[.slice A n c] w fun e w' => e = .returned (.bool true) ∧ Below w.heap.size w w' := by
  by_cases hne : n = 288
  · subst hne
    exact walk_yes A c l w h hn
  · exact walk_no A n c l w h (by omega) hne
end Go.Proofs.Ytgkhglnfbhdkeaa.headerParses
