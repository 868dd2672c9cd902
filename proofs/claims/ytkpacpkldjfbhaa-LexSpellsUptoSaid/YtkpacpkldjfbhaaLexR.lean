/- shallotref01.letter, Hex (of one byte). -/
import Derived.Test.YtkpacpkldjfbhaaLexQ
namespace Go.Proofs.Ytkpacpkldjfbhaa
open Go.RowKit

theorem hexC_low {n : Nat} (h : n < 10) : ((Lx.hexC n).toNat : Int) = 48 + (n : Int) := by
  unfold Lx.hexC; rw [if_pos h, UInt8.toNat_ofNat']; omega
theorem hexC_high {n : Nat} (h : 10 ≤ n) (h' : n < 16) : ((Lx.hexC n).toNat : Int) = 87 + (n : Int) := by
  unfold Lx.hexC; rw [if_neg (by omega), UInt8.toNat_ofNat']; omega

set_option maxHeartbeats 1000000 in
theorem rlet_any (n : Nat) (hn : n < 16) (w : World) : Calls Try.prog 59 #[.int .u8 n] w fun e w' => e = .returned (.int .u8 (Lx.hexC n).toNat) ∧ w = w' := by
  by_cases h : n < 10
  · have he := hexC_low h
    have HE := Lib.hid he
    clear he
    go_enter Try.func59, Try.ntmps59
    go_wp2_with fail
    go_ret
    refine ⟨ret_int ?_, rfl⟩
    rw [HE.out]
  · have he := hexC_high (by omega) hn
    have HE := Lib.hid he
    clear he
    go_enter Try.func59, Try.ntmps59
    go_wp2_with fail
    go_ret
    refine ⟨ret_int ?_, rfl⟩
    rw [HE.out]
    omega
theorem rlet_int (z : Int) (n : Nat) (hz : z = n) (hn : n < 16) (w : World) : Calls Try.prog 59 #[.int .u8 z] w fun e w' => e = .returned (.int .u8 (Lx.hexC n).toNat) ∧ w = w' := by
  subst hz; exact rlet_any n hn w

set_option maxHeartbeats 4000000 in
theorem rHex_one (b off c : Nat) (x : UInt8) (w : World) (hb : b < w.heap.size) (hx : w.cell? ⟨b, off, none⟩ = some (.int .u8 x.toNat)) :
    Calls Try.prog 48 #[.slice (some ⟨b, off, none⟩) 1 c] w fun e w' => e = .returned (.string (bytesOf [Lx.hexC (x.toNat / 16), Lx.hexC (x.toNat % 16)])) ∧ Below w.heap.size w w' := by
  go_enter Try.func48, Try.ntmps48
  go_wp2_with fail
  go_loopg [3, 4] 1 (fun k o q wr => ∃ i : Nat, i ≤ 1 ∧ k = 1 - i ∧ q = .int .i64 i ∧ Below w.heap.size w wr ∧ (i = 0 → o = .slice none 0 0 ∧ wr = w) ∧ (i = 1 → ∃ A' c', o = .slice A' 2 c' ∧ wr.ownsRow w.heap.size 5 1 (.slice A' 2 c') 2 (u8s [Lx.hexC (x.toNat / 16), Lx.hexC (x.toNat % 16)])))
  case atStart => exact ⟨0, by omega, rfl, rfl, Below.refl _ _, fun _ => ⟨rfl, rfl⟩, fun h => by omega⟩
  case round =>
    obtain ⟨i, hi, hgk, rfl, hBr, h0, h1⟩ := hrel
    by_cases hlt : i = 0
    · obtain ⟨rfl, rfl⟩ := h0 hlt
      subst hlt
      clear h1
      go_wp2_with fail
      have hx16 := x.toNat_lt
      have t3 : IntKind.u8.wrap ((x.toNat : Int) / 16) = (x.toNat : Int) / 16 := IntWalk.u8_in _ (by omega)
      have t4 : IntKind.u8.wrap ((x.toNat : Int) % 16) = (x.toNat : Int) % 16 := IntWalk.u8_in _ (by omega)
      have t5 : Int.tmod (x.toNat : Int) 16 = (x.toNat : Int) % 16 := Int.tmod_eq_emod_of_nonneg (by omega)
      have L3 := Lib.hid (fun w => rlet_int (Int.tmod (x.toNat : Int) 16) (x.toNat % 16) (by rw [t5]; omega) (by omega) w)
      have L1 := Lib.hid (fun w => rlet_int ((x.toNat : Int) / 16) (x.toNat / 16) (by omega) (by omega) w)
      have L2 := Lib.hid (fun w => rlet_int ((x.toNat : Int) % 16) (x.toNat % 16) (by omega) (by omega) w)
      have HXA : Hid (∀ o, (wr.alloc o).cell? ⟨b, off, none⟩ = some (.int .u8 x.toNat)) := fun o => (World.cell?_alloc_lt wr o ⟨b, off, none⟩ hb).trans hx
      have own0 : Hid (∀ (w : World) B, w.ownsRow B 5 1 (.slice none 0 0) 0 []) := fun w B => World.ownsRow_nil _ _ _ _
      go_region_held3 (fun W => W.cell? ⟨b, off, none⟩ = some (.int .u8 x.toNat)) (first | exact hx | assumption | exact HXA.out _) (first
        | (go_at_call 59; ((first | with_reducible refine (L1.out _).mono ?_ | with_reducible refine (L2.out _).mono ?_ | with_reducible refine (L3.out _).mono ?_); rintro e w' ⟨rfl, rfl⟩))
        | (refine step_app rfl (.tmp 11) (.tmp 24) _ rfl wr.heap.size 5 1 1 Try.underlying29 eU8b (.slice none 0 0) 0 [] (by rfl) (own0.out _ _) (some ⟨wr.heap.size, 0, none⟩) 2 2 [.int .u8 (Lx.hexC (x.toNat / 16)).toNat, .int .u8 (Lx.hexC (x.toNat % 16)).toNat] (by rfl) (by exact RdS.of_blk (sz := 1) (n := 2) (Blk.new wr _ [.int .u8 (Lx.hexC (x.toNat / 16)).toNat, .int .u8 (Lx.hexC (x.toNat % 16)).toNat]) rfl) (by simp [Value.oneCell']) (by omega) (by omega) (by simp) ?_; intro A2 c2 w3 hown2 hc2 hg2 hat2; have hx3 : w3.cell? ⟨b, off, none⟩ = some (.int .u8 x.toNat) := hg2.cell (HXA.out _) (by simp [Value.ownBlock])))
      have hB3 : Below wr.heap.size wr w3 := ((Below.refl _ _).alloc (Nat.le_refl _) _).drew.grown hg2 (by simp) (fun k hk => by simp [Value.ownBlock] at hk)
      clear t3 t4 t5 hg2 hat2 hx3
      go_wp2_with fail
      go_roundg 0
      case measure => omega
      case rel => exact ⟨1, by omega, rfl, rfl, hB3, fun h => by omega, fun _ => ⟨A2, c2, rfl, hown2⟩⟩
    · have hi1 : i = 1 := by omega
      obtain ⟨A', c', rfl, hown⟩ := h1 hi1
      subst hi1
      clear h0 h1
      go_wp2_with (refine wpList_str rfl 29 9 (.tmp 26) rfl 5 Try.underlying29 Try.underlying5 Try.underlying9 A' 2 c' (by rfl) [Lx.hexC (x.toNat / 16), Lx.hexC (x.toNat % 16)] (Rd.of_own hown) ?_)
      go_ret
      exact ⟨rfl, hBr⟩
end Go.Proofs.Ytkpacpkldjfbhaa
