/- shallotref16.Use. -/
import Derived.Test.YtgkhglnfbhdkeaaR11
import Derived.Test.YtgkhglnfbhdkeaaR71
import Derived.Test.YtgkhglnfbhdkeaaUse
namespace Go.Proofs.Ytgkhglnfbhdkeaa
open Go.RowKit

set_option maxRecDepth 100000 in
set_option maxHeartbeats 4000000 in
theorem rcheck_big (A : Option Addr) (n c : Nat) (w : World) (hn : 450 < n) :
    Calls Try.prog 60 #[.agg #[.int .u8 3, .int .u64 0, .int .i64 0, .int .i64 1, .slice A n c]] w fun e w' => e = .returned (.int .i64 2) ∧ Below w.heap.size w w' := by
  have hn1 : (450 : Int) < (n : Int) := by omega
  go_enter Try.func60, Try.ntmps60
  go_wp2_with fail
  go_ret
  exact ⟨rfl, (Below.refl _ _).alloc (Nat.le_refl _) _⟩
set_option maxRecDepth 100000 in
set_option maxHeartbeats 4000000 in
theorem rframe_big (A : Option Addr) (n c : Nat) (w : World) (hn : 450 < n) :
    Calls Try.prog 37 #[.agg #[.int .u8 3, .int .u64 0, .int .i64 0, .int .i64 1, .slice A n c]] w fun e w' => e = .returned (.tuple #[.slice none 0 0, .int .i64 2]) ∧ Below w.heap.size w w' := by
  have HCK := Lib.hid (fun W => rcheck_big A n c W hn)
  go_enter Try.func37, Try.ntmps37
  go_wp2_with (go_at_call 60; (with_reducible refine (HCK.out _).mono ?_); rintro e w1 ⟨rfl, hB1⟩)
  go_ret2
  exact ⟨rfl, ((Below.refl _ w).alloc (Nat.le_refl _) _).trans (hB1.mono (by simp))⟩
set_option maxRecDepth 100000 in
set_option maxHeartbeats 4000000 in
theorem ruse_no (B A : Option Addr) (n c d : Nat) (w : World) (hn : 450 < n) :
    Calls Try.prog 12 #[.slice B 328 d, .slice A n c] w fun e w' => e = .returned (.tuple #[.slice none 0 0, .int .i64 2]) ∧ Below w.heap.size w w' := by
  have HF := Lib.hid (fun W => rframe_big A n c W hn)
  go_enter Try.func12, Try.ntmps12
  go_wp2_with (go_at_call 37; (with_reducible refine (HF.out _).mono ?_); rintro e w1 ⟨rfl, hB1⟩)
  go_ret2
  exact ⟨rfl, hB1⟩
set_option maxRecDepth 100000 in
set_option maxHeartbeats 4000000 in
theorem ruse_yes (l msg : List UInt8) (B A : Option Addr) (n c d : Nat) (w : World) (h : Rd w B 328 (u8s l)) (hd : 328 ≤ d) (h2 : Rd w A n (u8s msg)) (hn : n ≤ 450) :
    Calls Try.prog 12 #[.slice B 328 d, .slice A n c] w fun e w' => ∃ g c', e = .returned (.tuple #[.slice (some ⟨g, 0, none⟩) 768 c', .int .i64 0]) ∧ 768 ≤ c' ∧ Rd w' (some ⟨g, 0, none⟩) 768 (u8s (replyOf l msg)) ∧ Below w.heap.size w w' := by
  have hl : l.length = 328 := h.len
  have hml : msg.length = n := h2.len
  obtain ⟨bb, bo, rfl, hbb, _⟩ := h.2 (by omega)
  have hfl := frame_len 3 0 1 0 msg (by omega)
  have HFR := Lib.hid (fun W (hr : Rd W A n (u8s msg)) => rframe_back A n c msg W hr hn)
  have HRE : Hid (replyOf l msg = (l.drop 8).take 288 ++ Wd.seal_ (l.drop 296) (Wd.frame 3 0 1 0 msg)) := rfl
  have hkey : ∀ W, Rd W (some ⟨bb, bo, none⟩) 328 (u8s l) → Rd W (some ⟨bb, bo + 296, none⟩) 32 (u8s (l.drop 296)) := fun W hr => by
    have h5 := rd_mid hr 296 32 (by omega)
    rw [List.take_of_length_le (by rw [List.length_drop]; omega)] at h5
    exact h5
  have HSE : Hid (∀ W g, Rd W (some ⟨bb, bo, none⟩) 328 (u8s l) → Rd W (some ⟨g, 0, none⟩) 480 (u8s (Wd.frame 3 0 1 0 msg)) → Calls Try.prog 38 #[.slice (some ⟨bb, bo + 296, none⟩) 32 (d - 296), .slice (some ⟨g, 0, none⟩) 480 480] W fun e w' => ∃ g c', e = .returned (.tuple #[.slice (some ⟨g, 0, none⟩) 480 c', .int .i64 0]) ∧ 480 ≤ c' ∧ W.heap.size ≤ g ∧ Rd w' (some ⟨g, 0, none⟩) 480 (u8s (Wd.seal_ (l.drop 296) (Wd.frame 3 0 1 0 msg))) ∧ Below W.heap.size W w') :=
    fun W g h1 h2 => rseal_any (some ⟨bb, bo + 296, none⟩) (some ⟨g, 0, none⟩) (d - 296) 480 480 _ _ W (hkey W h1) h2 (by omega) (by omega) (by omega)
  have HCP : Hid (∀ W, Rd W (some ⟨bb, bo, none⟩) 328 (u8s l) → Calls Try.prog 11 #[.slice (some ⟨bb, bo + 8, none⟩) 288 (d - 8)] W fun e w' => ∃ A' c', e = .returned (.slice A' 288 c') ∧ 288 ≤ c' ∧ w'.ownsRow W.heap.size 5 1 (.slice A' 288 c') 288 (u8s ((l.drop 8).take 288)) ∧ Below W.heap.size W w') := fun W hr => copy_any _ 288 (d - 8) _ W (rd_mid hr 8 288 (by omega)) (by omega)
  obtain ⟨F, hF⟩ : ∃ F, F = Wd.frame 3 0 1 0 msg := ⟨_, rfl⟩
  rw [← hF] at HFR HRE HSE hfl
  have HFL := Lib.hid hfl
  obtain ⟨S, hS⟩ : ∃ S, S = Wd.seal_ (l.drop 296) F := ⟨_, rfl⟩
  rw [← hS] at HRE HSE
  have HR := Lib.hid h
  have HR2 := Lib.hid h2
  have n296 : ¬ d = 296 := by omega
  have n8 : ¬ d = 8 := by omega
  have e296 : (296 : Int) ≤ (d : Int) := by omega
  clear h h2 hl hml hkey hF hS hfl
  go_enter Try.func12, Try.ntmps12
  go_wp2_with (first
    | (go_at_call 37; (with_reducible refine (HFR.out _ (by exact HR2.out)).mono ?_); rintro e w1 ⟨g1, rfl, hg1, hb1, hB1⟩
       have HF1 : Hid (Rd w1 (some ⟨g1, 0, none⟩) 480 (u8s F)) := (by have h6 := hb1.rdAll; rw [HFL.out] at h6; exact h6)
       have HE1 := Lib.hid hB1
       clear hb1 hB1 hg1)
    | (go_at_call 38; (with_reducible refine (HSE.out w1 _ (by exact HR.out.below HE1.out) (by exact HF1.out)).mono ?_); rintro e w2 ⟨g2, c2, rfl, hc2, hg2, hr2, hB2⟩
       have HE2 := Lib.hid (HE1.out.trans (hB2.mono HE1.out.size))
       have HS2 := Lib.hid hr2
       clear hr2 hB2 hg2)
    | (go_at_call 11; (with_reducible refine (HCP.out w2 (by exact HR.out.below HE2.out)).mono ?_); rintro e w3 ⟨A3, c3, rfl, hc3, hown3, hB3⟩
       have HE3 := Lib.hid (HE2.out.trans (hB3.mono HE2.out.size))
       have HS3 := Lib.hid (HS2.out.below hB3)
       have HO3 := Lib.hid (own_mono hown3 (base' := w.heap.size) HE2.out.size)
       clear hown3 hB3)
    | (at_builtin; refine wpList_app rfl (.tmp 28) (.tmp 29) 22 rfl w.heap.size 5 1 1 Try.underlying22 eU8 (.slice A3 288 c3) 288 (u8s ((l.drop 8).take 288)) (by rfl) (by exact HO3.out) (some ⟨g2, 0, none⟩) 480 c2 (u8s S) (by rfl) (by exact HS3.out.toS) (u8s_one _) (by omega) (by omega) HE3.out.size ?_
       intro A4 c4 w4 hown4 hc4 hg4 hat4
       have HO4 := Lib.hid hown4
       rw [← u8s_append, ← HRE.out] at HO4
       have HE4 := Lib.hid (HE3.out.grown hg4 HE3.out.size (fun k hk => (HO3.out.lt k hk).1))
       clear hown4 hg4 hat4))
  obtain ⟨g, rfl, hg, _, hr5⟩ := own_pos HO4.out (by omega)
  have HR5 := Lib.hid hr5
  clear hr5
  go_ret2
  exact ⟨g, c4, rfl, hc4, HR5.out, HE4.out⟩
end Go.Proofs.Ytgkhglnfbhdkeaa
