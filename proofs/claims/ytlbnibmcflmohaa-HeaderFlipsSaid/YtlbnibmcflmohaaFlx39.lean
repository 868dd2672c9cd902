/- Part of the proof: Fil. -/
import Derived.Test.YtlbnibmcflmohaaFlx37
namespace Go.Proofs.Ytlbnibmcflmohaa
open Go.RowKit
theorem sp_range {w : World} {A : Option Addr} {n : Nat} {l : List Sp} (h : RdS 192 w A n (l.flatMap Sp.cells)) (hs : ∀ s ∈ l, s.ok) {i : Nat} {s : Sp} (hi : l[i]? = some s) (hn : 0 < n) :
    ∃ b off, A = some ⟨b, off, none⟩ ∧ b < w.heap.size ∧ w.rangeAt b (off + i * 192) s.cells := by
  obtain ⟨b, off, e, hb, hc⟩ := h.2 hn
  refine ⟨b, off, e, hb, fun j v hv => ?_⟩
  have h1 := flatMap_at (f := Sp.cells) (sz := 192) (fun a ha => Sp.cells_len (hs a ha)) hi hv
  rw [Nat.add_assoc]
  exact hc _ _ h1
def fil (ss : List Sp) : Nat → List UInt8
  | 0 => []
  | k + 1 => Ch.xor (fil ss k ++ List.replicate 48 0) ((Ch.piece ((ss[k]?.map Sp.stream).getD []) 0 288).drop (288 - (48 * k + 48)))
theorem fil_len (ss : List Sp) (k : Nat) (h : k ≤ 5) : (fil ss k).length = 48 * k := by
  induction k with
  | zero => rfl
  | succ k ih =>
    have ih := ih (by omega)
    rw [fil, Ch.xor_len _ _ (by rw [List.length_append, ih, List.length_replicate, List.length_drop, Ch.piece_len]; omega), List.length_append, ih, List.length_replicate]
    omega
theorem fil_next {ss : List Sp} {k : Nat} {s : Sp} (h : ss[k]? = some s) : fil ss (k + 1) = Ch.xor (fil ss k ++ List.replicate 48 0) ((Ch.piece s.stream 0 288).drop (288 - (48 * k + 48))) := by rw [fil, h]; rfl
theorem Sp.cells_one (s : Sp) : ∀ v ∈ s.cells, v.oneCell' = true := u8s_one _
def z48 : List UInt8 := List.replicate 48 0
theorem zcSp : Try.zeroCells39 = (u8s (List.replicate 192 0)).toArray := by kernel_rfl
attribute [local go_sem ↓] ldq_69
set_option maxRecDepth 100000 in
set_option maxHeartbeats 4000000 in
theorem filler_any (A : Option Addr) (m c : Nat) (ss : List Sp) (w : World) (h : RdS 192 w A (m + 1) (ss.flatMap Sp.cells)) (hs : ∀ s ∈ ss, s.ok) (hl : ss.length = m + 1) (hm : m ≤ 4) (hc : m + 1 ≤ c) :
    Calls Try.prog 15 #[.slice A (m + 1) c] w fun e w' => ∃ A' c', e = .returned (.tuple #[.slice A' (48 * m) c', .int .i64 0]) ∧ 48 * m ≤ c' ∧ w'.ownsRow w.heap.size 5 1 (.slice A' (48 * m) c') (48 * m) (u8s (fil ss m)) ∧ Below w.heap.size w w' := by
  have HR := Lib.hid h
  have HS := Lib.hid hs
  have HL := Lib.hid hl
  obtain ⟨b, off, rfl, hb, _⟩ := h.2 (by omega)
  have h1 : ¬ ((m : Int) + 1 < 1) := by omega
  have h5 : ¬ ((5 : Int) < (m : Int) + 1) := by omega
  have HMK : Hid (∀ W, (Instr.makeSlice 43 (.int .i64 48) (.int .i64 48)).run Try.prog W = .ok (.slice (some ⟨W.heap.size, 0, none⟩) 48 48) (W.alloc (.cells (u8s z48).toArray 5))) := fun W => by kernel_rfl
  have HO0 : Hid (w.ownsRow w.heap.size 5 1 (.slice none 0 0) 0 (u8s (fil ss 0))) := World.ownsRow_nil _ _ _ _
  clear h hs hl
  go_enter Try.func15, Try.ntmps15
  go_wp2_with fail
  go_loopg [4, 24] m (fun kk v q wr => ∃ k : Nat, k ≤ m ∧ kk = m - k ∧ q = .int .i64 k ∧ (∃ A' c', v = .slice A' (48 * k) c' ∧ 48 * k ≤ c' ∧ wr.ownsRow w.heap.size 5 1 (.slice A' (48 * k) c') (48 * k) (u8s (fil ss k))) ∧ Below w.heap.size w wr)
  case atStart => exact ⟨0, by omega, rfl, rfl, ⟨none, 0, rfl, by omega, HO0.out⟩, Below.refl _ _⟩
  case round =>
    clear HO0
    obtain ⟨k, hk, hgk, rfl, ⟨A', c', rfl, hc', hown⟩, hB⟩ := hrel
    have HGK := Lib.hid hgk
    clear hgk
    by_cases hlt : k < m
    · have hlt2 : (k : Int) < (m : Int) := by omega
      obtain ⟨s, hsi⟩ : ∃ s, ss[k]? = some s := ⟨_, List.getElem?_eq_getElem (by rw [HL.out]; omega)⟩
      have hok := HS.out s (List.mem_of_getElem? hsi)
      obtain ⟨b2, o2, e2, hb2, hrg⟩ := sp_range (HR.out.bel hB (Nat.le_refl _)) HS.out hsi (by omega)
      injection e2 with e2
      injection e2 with e2 e3
      subst e2
      subst e3
      have hld : (ldAt 39 (.pointer (some ⟨b, off + k * 192, none⟩))).run Try.prog wr = .ok (.agg s.cells.toArray) wr := run_loadAt_mid wr b (off + k * 192) 39 s.cells _ hrg Try.underlying39 rfl (by rw [Sp.cells_len hok]; exact hd69)
      have HNX := Lib.hid (fil_next hsi)
      have hfl := fil_len ss k (by omega)
      have HSL := Lib.hid (Sp.cells_len hok)
      have HST : Hid (∀ W, Blk W wr.heap.size 39 s.cells → Calls Try.prog 27 #[.slice (some ⟨wr.heap.size, 32, none⟩) 32 32, .int .i64 288] W fun e w' => ∃ g c', e = .returned (.tuple #[.slice (some ⟨g, 0, none⟩) 288 c', .int .i64 0]) ∧ 288 ≤ c' ∧ w'.ownsRow W.heap.size 5 1 (.slice (some ⟨g, 0, none⟩) 288 c') 288 (u8s (Ch.piece s.stream 0 288)) ∧ Below W.heap.size W w') := fun W hb => by
        refine (stream_any (some ⟨wr.heap.size, 32, none⟩) 32 s.stream 288 W (Sp.rd hb hok 32 s.stream (by omega) (Sp.at_stream hok)) (by omega)).mono ?_
        rintro e w' ⟨A', c', rfl, hc', ho, hB⟩
        obtain ⟨g, rfl, _⟩ := own_pos ho (by omega)
        exact ⟨g, c', rfl, hc', ho, hB⟩
      have HS1 := Lib.hid (Sp.cells_one s)
      have hpl := Ch.piece_len s.stream 0 288
      obtain ⟨F, hF⟩ : ∃ F, F = fil ss k := ⟨_, rfl⟩
      rw [← hF] at HNX hfl hown
      obtain ⟨S, hS⟩ : ∃ S, S = Ch.piece s.stream 0 288 := ⟨_, rfl⟩
      rw [← hS] at HNX HST hpl
      obtain ⟨L, hL⟩ : ∃ L, L = 48 * k + 48 := ⟨_, rfl⟩
      obtain ⟨D, hD⟩ : ∃ D, D = 288 - L := ⟨_, rfl⟩
      rw [← hL, ← hD] at HNX
      have hDI : (288 : Int) - (L : Int) = (D : Int) := by omega
      have hD0 : (0 : Int) ≤ (D : Int) := by omega
      have hD8 : (D : Int) ≤ 288 := by omega
      have hL8 : 288 - D = L := by omega
      have hD9 : D ≤ 240 := by omega
      have HJ : Hid (∀ (W : World) (gl gz : Nat), Blk W gl 43 [.slice A' (48 * k) c', .slice (some ⟨gz, 0, none⟩) 48 48] → Rd W A' (48 * k) (u8s F) → Blk W gz 5 (u8s z48) → Calls Try.prog 18 #[.slice (some ⟨gl, 0, none⟩) 2 2] W fun e w' => ∃ g c', e = .returned (.slice (some ⟨g, 0, none⟩) L c') ∧ L ≤ c' ∧ w'.ownsRow W.heap.size 5 1 (.slice (some ⟨g, 0, none⟩) L c') L (u8s (F ++ List.replicate 48 0)) ∧ Below W.heap.size W w') := fun W gl gz h1 h2 h3 => by
        refine (join_to _ 2 2 [F, List.replicate 48 0] W (RdB.of_blk h1 ⟨.of_rd h2 hc', .of_blk h3 0 48 48 z48 (by rw [u8s_length, z48, List.length_replicate]; omega) (by omega) (by rw [List.drop_zero, List.take_of_length_le (by rw [u8s_length, z48, List.length_replicate]; omega)]), trivial⟩) (by omega) (F ++ List.replicate 48 0) L (by simp) (by simp [hfl, hL]) (by omega)).mono ?_
        rintro e w' ⟨A2, c2, rfl, hc2, ho, hB⟩
        obtain ⟨g, rfl, _⟩ := own_pos ho (by omega)
        exact ⟨g, c2, rfl, hc2, ho, hB⟩
      have HX : Hid (∀ (W : World) (gl g9 g7 c9 c7 : Nat), Blk W gl 43 [.slice (some ⟨g9, 0, none⟩) L c9, .slice (some ⟨g7, D, none⟩) (288 - D) (c7 - D)] → Rd W (some ⟨g9, 0, none⟩) L (u8s (F ++ List.replicate 48 0)) → L ≤ c9 → Rd W (some ⟨g7, 0, none⟩) 288 (u8s S) → 288 ≤ c7 → Calls Try.prog 28 #[.slice (some ⟨gl, 0, none⟩) 2 2] W fun e w' => ∃ A2 c2, e = .returned (.tuple #[.slice A2 L c2, .int .i64 0]) ∧ L ≤ c2 ∧ w'.ownsRow W.heap.size 5 1 (.slice A2 L c2) L (u8s (fil ss (k + 1))) ∧ Below W.heap.size W w') := fun W gl g9 g7 c9 c7 h1 h2 h9 h3 h7 => by
        rw [HNX.out]
        have h8 := rd_mid h3 D (288 - D) (by omega)
        rw [Nat.zero_add, List.take_of_length_le (by rw [List.length_drop, hpl]; omega)] at h8
        exact pxor_any _ 2 L (F ++ List.replicate 48 0) (S.drop D) W (RdB.of_blk h1 ⟨.of_rd h2 h9, .of_rd h8 (by omega), trivial⟩) (by simp [hfl, hL]) (by rw [List.length_drop, hpl]; omega) (by omega)
      generalize s.cells = C at *
      have HOW := Lib.hid hown
      have HB := Lib.hid hB
      have HLL := Lib.hid hL
      have HL8 := Lib.hid hL8
      clear hsi hok hrg hfl hpl hF hS hown hB hL hD hL8
      have hmk := HMK.out
      have hbs := HB.out.size
      go_wp2_with (first
        | (refine wpList_store_all rfl 39 (.tmp 6) (.tmp 27) rfl wr.heap.size C (by rfl) (by rfl) 39 (u8s (List.replicate 192 0)) (by exact Blk.new' rfl zcSp) (by rw [HSL.out]; exact hd69) HS1.out (by rw [HSL.out]; rfl) ?_
           intro w1 hb1 ho1
           have HE1 := Lib.hid (ho1.below (HB.out.alloc hbs _) hbs (Nat.le_trans hbs (by simp)))
           have HB1 := Lib.hid hb1
           have HO1 := Lib.hid (own_only (HOW.out.alloc _) ho1 (fun k hk => by have h9 := (HOW.out.lt k hk).2; omega))
           have hs1 := ho1.size
           clear hb1 ho1)
        | (go_at_call 27; (with_reducible refine (HST.out _ (by exact HB1.out)).mono ?_); rintro e w2 ⟨g2, c2, rfl, hc2, hown2, hB2⟩
           have HE2 := qtr HE1 hB2
           have HO2 := Lib.hid (own_below HO1.out hB2)
           have HP2 := Lib.hid (Rd.of_own hown2)
           have hs2 := hB2.size
           have hg2 : ¬ c2 = D := by omega
           have hg3 : (D : Int) ≤ (c2 : Int) := by omega
           clear hown2 hB2)
        | (go_at_call 18; (with_reducible refine (HJ.out _ _ _ (by exact Blk.new' (by simp) rfl) (by exact (((Rd.of_own HO2.out).alloc _).alloc _)) (by exact (Blk.new' rfl rfl).alloc _)).mono ?_); rintro e w3 ⟨g3, c3, rfl, hc3, hown3, hB3⟩
           have HE3 := Lib.hid ((HE2.out.alloc HE2.out.size _).alloc (Nat.le_trans HE2.out.size (by simp)) _ |>.trans (hB3.mono (Nat.le_trans HE2.out.size (by simp; omega))))
           have HP3 := Lib.hid (((HP2.out.alloc _).alloc _).below hB3)
           have HJ3 := Lib.hid (Rd.of_own hown3)
           have hs3 := hB3.size
           clear hown3 hB3)
        | (go_at_call 28; (with_reducible refine (HX.out _ _ _ _ _ _ (by exact Blk.new' rfl rfl) (by exact HJ3.out.alloc _) (by exact hc3) (by exact HP3.out.alloc _) (by exact hc2)).mono ?_); rintro e w4 ⟨A4, c4, rfl, hc4, hown4, hB4⟩
           have HE4 := Lib.hid ((HE3.out.alloc HE3.out.size _).trans (hB4.mono (Nat.le_trans HE3.out.size (by simp))))
           have HO4 := Lib.hid (own_mono hown4 (base' := w.heap.size) (Nat.le_trans HE3.out.size (by simp)))
           clear hown4 hB4))
      go_roundg (m - (k + 1))
      case measure => have := HGK.out; omega
      case rel => exact ⟨k + 1, by omega, rfl, by go_num, ⟨A4, c4, by rw [HLL.out]; rfl, by have := HLL.out; omega, by have h9 := HO4.out; rw [HLL.out] at h9; exact h9⟩, HE4.out⟩
    · obtain rfl : k = m := by omega
      have hlt2 : ¬ (k : Int) < (k : Int) := by omega
      have HOW := Lib.hid hown
      clear hown
      go_wp2_with fail
      go_ret2
      exact ⟨A', c', rfl, hc', HOW.out, hB⟩
end Go.Proofs.Ytlbnibmcflmohaa
