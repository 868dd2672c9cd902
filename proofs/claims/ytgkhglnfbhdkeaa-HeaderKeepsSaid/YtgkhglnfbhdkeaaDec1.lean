/- wide.all and SealAll. -/
import Derived.Test.YtgkhglnfbhdkeaaWdP
namespace Go.Proofs.Ytgkhglnfbhdkeaa
open Go.RowKit

def sealAll (ks : List (List UInt8)) (b : List UInt8) : List UInt8 := ks.foldl (fun b k => Wd.seal_ k b) b
theorem sealAll_snoc (ks : List (List UInt8)) (k b : List UInt8) : sealAll (ks ++ [k]) b = Wd.seal_ k (sealAll ks b) := by simp [sealAll]
theorem sealAll_len (ks : List (List UInt8)) (b : List UInt8) (h : 32 ≤ b.length) : (sealAll ks b).length = b.length := by
  induction ks generalizing b with
  | nil => rfl
  | cons k ks ih =>
    show (sealAll ks (Wd.seal_ k b)).length = _
    rw [ih _ (by rw [Wd.seal_len _ _ h]; exact h), Wd.seal_len _ _ h]
theorem sealAll_next {ks : List (List UInt8)} {j : Nat} {k : List UInt8} (b : List UInt8) (h : ks[j]? = some k) : sealAll (ks.take (j + 1)) b = Wd.seal_ k (sealAll (ks.take j) b) := by
  rw [List.take_add_one, h]
  exact sealAll_snoc _ _ _

set_option maxRecDepth 100000 in
set_option maxHeartbeats 4000000 in
theorem all_seal (B C : Option Addr) (d N m cr : Nat) (b : List UInt8) (ks : List (List UInt8)) (w : World) (h : Rd w B N (u8s b)) (hd : N ≤ d) (h3 : RdB w C m ks) (hks : ∀ k ∈ ks, k.length = 32) (h32 : 32 < N) (hN : N ≤ 4096) (hm : m ≤ 1000) :
    Calls Try.prog 62 #[.func (.func 36) #[] #[], .slice B N d, .slice C m cr] w fun e w' => ∃ A' c', e = .returned (.tuple #[.slice A' N c', .int .i64 0]) ∧ N ≤ c' ∧ Rd w' A' N (u8s (sealAll ks b)) ∧ Below w.heap.size w w' := by
  have hkl : ks.length = m := by obtain ⟨_, _, h, _⟩ := h3; exact h
  have HKL := Lib.hid hkl
  have HKS := Lib.hid hks
  have HR := Lib.hid h
  have HR3 := Lib.hid h3
  have HF := Lib.hid (fun W => fitsBlock_yes B N d W (by omega) hN)
  have HJN : Hid (∀ W : World, Rd W B N (u8s b) → Calls Try.prog 39 #[.slice (some ⟨W.heap.size, 0, none⟩) 1 1] (W.alloc (.cells #[.slice B N d] 22)) fun e w' => ∃ A' c', e = .returned (.slice A' N c') ∧ N ≤ c' ∧ w'.ownsRow (W.heap.size + 1) 5 1 (.slice A' N c') N (u8s b) ∧ Below (W.heap.size + 1) (W.alloc (.cells #[.slice B N d] 22)) w') := fun W hr => by
    have := join_to (some ⟨W.heap.size, 0, none⟩) 1 1 [b] _ (RdB.of_blk (ls := [b]) (Blk.new' (w := W) (cs := [.slice B N d]) (t := 22) rfl rfl) ⟨.of_rd (hr.alloc _) hd, trivial⟩) (by omega) b N (by simp) h.len (by omega)
    have e2 : (W.alloc (.cells #[.slice B N d] 22)).heap.size = W.heap.size + 1 := by simp
    rw [← e2]
    exact this
  clear h h3 hks hkl
  go_enter Try.func62, Try.ntmps62
  go_wp2_with (go_at_call 82; (with_reducible refine (HF.out _).mono ?_); rintro e w' ⟨rfl, rfl⟩)
  go_loopg [20] m (fun kk q wr => ∃ i : Nat, i ≤ m ∧ kk = m - i ∧ q = .int .i64 i ∧ w = wr)
  case atStart => exact ⟨0, by omega, rfl, rfl, rfl⟩
  case round =>
    obtain ⟨i, hi, hgk, rfl, rfl⟩ := hrel
    have HGK := Lib.hid hgk
    clear hgk
    by_cases hlt : i < m
    · have hlt2 : (i : Int) < (m : Int) := by omega
      obtain ⟨g, off, A1, n1, c1, l, rfl, hb, HL, hcl, hnc, hr1⟩ := HR3.out.at_ hlt
      obtain rfl : n1 = 32 := by rw [← hr1.len]; exact HKS.out l (List.mem_of_getElem? HL.out)
      clear HL hr1
      go_wp2_with fail
      go_roundg (m - (i + 1))
      case measure => have := HGK.out; omega
      case rel => exact ⟨i + 1, by omega, rfl, by go_num, rfl⟩
    · obtain rfl : i = m := by omega
      have hlt2 : ¬ (i : Int) < (i : Int) := by omega
      clear HGK hlt hi
      go_wp2_with (go_at_call 39; (with_reducible refine (HJN.out _ HR.out).mono ?_); rintro e w3 ⟨A3, c3, rfl, hc3, hown3, hB3⟩
                   have HE3 := Lib.hid (((Below.refl _ w).alloc (Nat.le_refl _) _).trans (hB3.mono (Nat.le_succ _)))
                   have HR4 := Lib.hid (Rd.of_own hown3)
                   clear hown3 hB3)
      go_loopg [10, 33] i (fun kk v q wr => ∃ j : Nat, j ≤ i ∧ kk = i - j ∧ q = .int .i64 j ∧ (∃ A' c', v = .slice A' N c' ∧ N ≤ c' ∧ Rd wr A' N (u8s (sealAll (ks.take j) b))) ∧ Below w.heap.size w wr)
      case atStart => exact ⟨0, by omega, rfl, rfl, ⟨A3, c3, rfl, hc3, HR4.out⟩, HE3.out⟩
      case round =>
        clear HR4 HE3
        obtain ⟨j, hj, hgk, rfl, ⟨A', c', rfl, hc', hr'⟩, hB⟩ := hrel
        have HGK := Lib.hid hgk
        clear hgk
        by_cases hlt : j < i
        · have hlt3 : (j : Int) < (i : Int) := by omega
          obtain ⟨g, off, A1, n1, c1, l, rfl, hb, HL, hcl, hnc, hr1⟩ := (HR3.out.below hB).at_ hlt
          obtain rfl : n1 = 32 := by rw [← hr1.len]; exact HKS.out l (List.mem_of_getElem? HL.out)
          have HSN := Lib.hid (sealAll_next b HL.out)
          have HSE := Lib.hid (seal_any A1 A' c1 c' N l (sealAll (ks.take j) b) wr hr1 hnc hr' hc' h32 hN)
          rw [← HSN.out] at HSE
          have HBE := Lib.hid hB
          clear HL hr1 hr' hB HSN
          go_wp2_with (go_at_call 36; (with_reducible refine HSE.out.mono ?_); rintro e w5 ⟨g5, c5, rfl, hc5, hg5, hr5, hB5⟩
                       have HR5 := Lib.hid hr5
                       have HE5 := Lib.hid (HBE.out.trans (hB5.mono HBE.out.size))
                       clear hr5 hB5 hg5)
          go_roundg (i - (j + 1))
          case measure => have := HGK.out; omega
          case rel => exact ⟨j + 1, by omega, rfl, by go_num, ⟨_, c5, rfl, hc5, HR5.out⟩, HE5.out⟩
        · obtain rfl : j = i := by omega
          have hlt3 : ¬ (j : Int) < (j : Int) := by omega
          rw [List.take_of_length_le (Nat.le_of_eq HKL.out)] at hr'
          have HRR := Lib.hid hr'
          clear hr'
          go_wp2_with fail
          go_ret2
          exact ⟨A', c', rfl, hc', HRR.out, hB⟩
set_option maxHeartbeats 1000000 in
theorem sealAll_any (B C : Option Addr) (d N m cr : Nat) (b : List UInt8) (ks : List (List UInt8)) (w : World) (h : Rd w B N (u8s b)) (hd : N ≤ d) (h3 : RdB w C m ks) (hks : ∀ k ∈ ks, k.length = 32) (h32 : 32 < N) (hN : N ≤ 4096) (hm : m ≤ 1000) :
    Calls Try.prog 40 #[.slice B N d, .slice C m cr] w fun e w' => ∃ A' c', e = .returned (.tuple #[.slice A' N c', .int .i64 0]) ∧ N ≤ c' ∧ Rd w' A' N (u8s (sealAll ks b)) ∧ Below w.heap.size w w' := by
  have HA := Lib.hid (all_seal B C d N m cr b ks w h hd h3 hks h32 hN hm)
  clear h h3 hks
  go_enter Try.func40, Try.ntmps40
  go_wp2_with (go_at_call 62; (with_reducible refine HA.out.mono ?_); rintro e w5 ⟨A5, c5, rfl, hc5, hr5, hB5⟩; have HR5 := Lib.hid hr5; clear hr5)
  go_ret2
  exact ⟨A5, c5, rfl, hc5, HR5.out, hB5⟩
end Go.Proofs.Ytgkhglnfbhdkeaa
