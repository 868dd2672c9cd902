/- codec.Looks and codec.Same. -/
import Derived.Test.YtgkhglnfbhdkeaaR46
namespace Go.Proofs.Ytgkhglnfbhdkeaa
open Go.RowKit

/-- what was found to differ in the first i places -/
def diff (a b : List UInt8) : Nat → UInt8
  | 0 => 0
  | i + 1 => diff a b i ||| (a.getD i 0 ^^^ b.getD i 0)
theorem or_zero {x y : UInt8} (h : x ||| y = 0) : x = 0 ∧ y = 0 := by
  have h1 : (x ||| y).toNat = 0 := by rw [h]; rfl
  rw [UInt8.toNat_or] at h1
  have h2 := Nat.left_le_or (n := x.toNat) (m := y.toNat)
  have h3 := Nat.right_le_or (n := x.toNat) (m := y.toNat)
  exact ⟨UInt8.toNat_inj.1 (by show _ = 0; omega), UInt8.toNat_inj.1 (by show _ = 0; omega)⟩
theorem xor_zero {x y : UInt8} : x ^^^ y = 0 ↔ x = y := UInt8.xor_eq_zero_iff
theorem diff_zero (a b : List UInt8) (i : Nat) : diff a b i = 0 ↔ ∀ j, j < i → a.getD j 0 = b.getD j 0 := by
  induction i with
  | zero => simp [diff]
  | succ i ih =>
    unfold diff
    constructor
    · intro h j hj
      obtain ⟨h1, h2⟩ := or_zero h
      by_cases hji : j < i
      · exact ih.1 h1 j hji
      · obtain rfl : j = i := by omega
        exact xor_zero.1 h2
    · intro h
      rw [ih.2 (fun j hj => h j (by omega)), xor_zero.2 (h i (by omega))]
      rfl
theorem diff_eq {a b : List UInt8} {n : Nat} (ha : a.length = n) (hb : b.length = n) : diff a b n = 0 ↔ a = b := by
  rw [diff_zero]
  constructor
  · intro h
    apply List.ext_getElem (by omega)
    intro i h1 h2
    have := h i (by omega)
    rwa [List.getD_eq_getElem?_getD, List.getD_eq_getElem?_getD, List.getElem?_eq_getElem h1, List.getElem?_eq_getElem h2] at this
  · rintro rfl j _
    rfl

set_option maxRecDepth 100000 in
set_option maxHeartbeats 4000000 in
theorem looks_any (A B : Option Addr) (n c d : Nat) (a b : List UInt8) (w : World) (ha : Rd w A n (u8s a)) (hb : Rd w B n (u8s b)) (hn : n ≤ 140737488355328) :
    Calls Try.prog 88 #[.slice A n c, .slice B n d] w fun e w' => e = .returned (.tuple #[.bool (decide (diff a b n = 0)), .int .i64 n]) ∧ ∃ q, w' = w.drewN q := by
  have HA := Lib.hid ha
  have HB := Lib.hid hb
  clear ha hb
  go_enter Try.func88, Try.ntmps88
  go_wp2_with fail
  go_loopg [6, 7, 16] n (fun kk xv lv qv wr => ∃ (i q : Nat) (x : UInt8), i ≤ n ∧ kk = n - i ∧ qv = .int .i64 i ∧ lv = .int .i64 i ∧ x = diff a b i ∧ xv = .int .u8 x.toNat ∧ wr = w.drewN q)
  case atStart => exact ⟨0, 0, 0, by omega, rfl, rfl, rfl, rfl, rfl, rfl⟩
  case round =>
    obtain ⟨i, q, x, hi, hgk, rfl, rfl, hx, rfl, rfl⟩ := hrel
    have HGK := Lib.hid hgk
    have HX := Lib.hid hx
    clear hgk hx
    by_cases hlt : i < n
    · have hlt2 : (i : Int) < (n : Int) := by omega
      obtain ⟨b1, o1, u, rfl, hb1, HU, cu⟩ := HA.out.u8 hlt
      obtain ⟨b2, o2, v, rfl, hb2, HV, cv⟩ := HB.out.u8 hlt
      have HDN : Hid (diff a b (i + 1) = x ||| (u ^^^ v)) := by
        show _ = _
        rw [diff, HX.out, List.getD_eq_getElem?_getD, List.getD_eq_getElem?_getD, HU.out, HV.out]
        rfl
      have HCU := Lib.hid cu
      have HCV := Lib.hid cv
      clear cu cv
      go_wp2_with fail
      have hT : (w.drewN q).drew.cell? ⟨b1, o1 + i, none⟩ = some (.int .u8 u.toNat) ∧ (w.drewN q).drew.cell? ⟨b2, o2 + i, none⟩ = some (.int .u8 v.toNat) := ⟨HCU.out, HCV.out⟩
      refine region_K (by kernel_rfl) 11 (fun w' => w'.cell? ⟨b1, o1 + i, none⟩ = some (.int .u8 u.toNat) ∧ w'.cell? ⟨b2, o2 + i, none⟩ = some (.int .u8 v.toNat)) ?_
      refine AnyK.pure 0 (v := .int .u8 x.toNat) rfl (by kernel_rfl) (fun _ _ _ h => h) rfl (fun _ => by kernel_rfl) (fun _ => hT) ?_
      refine AnyK.pure 1 (v := .slice (some ⟨b1, o1, none⟩) n c) rfl (by kernel_rfl) (fun _ _ _ h => h) rfl (fun _ => by kernel_rfl) (fun _ => hT) ?_
      refine AnyK.pure 2 (v := .int .i64 i) rfl (by kernel_rfl) (fun _ _ _ h => h) rfl (fun _ => by kernel_rfl) (fun _ => hT) ?_
      refine AnyK.pure 3 (v := .pointer (some ⟨b1, o1 + i, none⟩)) rfl (by kernel_rfl) (fun _ _ _ h => h) rfl (fun _ => ex_idxO (t := 22) (x := .tmp 20) (y := .tmp 21) (g := b1) (off := o1) (n := n) (c := c) (p := i) (by rfl) (by kernel_rfl) (by kernel_rfl) hlt Try.underlying22 szU8) (fun _ => hT) ?_
      refine AnyK.load 4 (v := .int .u8 u.toNat) rfl (by kernel_rfl) (by kernel_rfl) (by kernel_rfl) (fun _ _ _ h => h) rfl (fun w' hw' => ex_load (t := 5) (x := .tmp 22) (p := ⟨b1, o1 + i, none⟩) (by rfl) (by kernel_rfl) agU8 hw'.1) hT ?_
      refine AnyK.pure 5 (v := .slice (some ⟨b2, o2, none⟩) n d) rfl (by kernel_rfl) (fun _ _ _ h => h) rfl (fun _ => by kernel_rfl) (fun _ => hT) ?_
      refine AnyK.pure 6 (v := .int .i64 i) rfl (by kernel_rfl) (fun _ _ _ h => h) rfl (fun _ => by kernel_rfl) (fun _ => hT) ?_
      refine AnyK.pure 7 (v := .pointer (some ⟨b2, o2 + i, none⟩)) rfl (by kernel_rfl) (fun _ _ _ h => h) rfl (fun _ => ex_idxO (t := 22) (x := .tmp 24) (y := .tmp 25) (g := b2) (off := o2) (n := n) (c := d) (p := i) (by rfl) (by kernel_rfl) (by kernel_rfl) hlt Try.underlying22 szU8) (fun _ => hT) ?_
      refine AnyK.load 8 (v := .int .u8 v.toNat) rfl (by kernel_rfl) (by kernel_rfl) (by kernel_rfl) (fun _ _ _ h => h) rfl (fun w' hw' => ex_load (t := 5) (x := .tmp 26) (p := ⟨b2, o2 + i, none⟩) (by rfl) (by kernel_rfl) agU8 hw'.2) hT ?_
      refine AnyK.pure 9 (v := .int .u8 (bits .xor .u8 (u.toNat : Int) (v.toNat : Int))) rfl (by kernel_rfl) (fun _ _ _ h => h) rfl (fun _ => by kernel_rfl) (fun _ => hT) ?_
      refine AnyK.pure 10 (v := .int .u8 (x ||| (u ^^^ v)).toNat) rfl (by kernel_rfl) (fun _ _ _ h => h) rfl (fun _ => by show _ = Result.ok (Next.value (.int .u8 ((x ||| (u ^^^ v)).toNat : Int))) _; rw [← w8_or, ← w8_xor]; kernel_rfl) (fun _ => hT) ?_
      refine AnyK.val 11 (v := .int .u8 (x ||| (u ^^^ v)).toNat) rfl (by kernel_rfl) rfl (by kernel_rfl) (fun h => (by cases h)) ?_
      refine AnyK.done (by kernel_rfl) ?_
      clear hT
      go_wp2_with fail
      go_roundg (n - (i + 1))
      case measure => have := HGK.out; omega
      case rel => exact ⟨i + 1, q + 1, _, by omega, rfl, by go_num, by go_num, HDN.out.symm, rfl, rfl⟩
    · obtain rfl : i = n := by omega
      have hlt2 : ¬ (i : Int) < (i : Int) := by omega
      have hq : (((x.toNat : Int)) == 0) = decide (diff a b i = 0) := by
        rw [← HX.out]
        by_cases h0 : x = 0
        · subst h0; rfl
        · have : ¬ (x.toNat : Int) = 0 := fun h => h0 (UInt8.toNat_inj.1 (by simpa using h))
          rw [decide_eq_false h0]
          simpa using this
      go_wp2_with fail
      go_ret2
      exact ⟨rfl, q, rfl⟩
set_option maxHeartbeats 1000000 in
theorem looks_no (A B : Option Addr) (n m c d : Nat) (w : World) (hne : ¬ n = m) :
    Calls Try.prog 88 #[.slice A n c, .slice B m d] w fun e w' => e = .returned (.tuple #[.bool false, .int .i64 0]) ∧ w = w' := by
  have h2 : ((n : Int) != (m : Int)) = true := by rw [bne_iff_ne]; omega
  clear hne
  go_enter Try.func88, Try.ntmps88
  go_wp2_with fail
  go_ret2
  exact ⟨rfl, rfl⟩
set_option maxHeartbeats 1000000 in
theorem csame_any (A B : Option Addr) (n m c d : Nat) (a b : List UInt8) (w : World) (ha : Rd w A n (u8s a)) (hb : Rd w B m (u8s b)) (hn : n ≤ 140737488355328) :
    Calls Try.prog 71 #[.slice A n c, .slice B m d] w fun e w' => e = .returned (.bool (decide (a = b))) ∧ ∃ q, w' = w.drewN q := by
  by_cases hnm : n = m
  · subst hnm
    have HL : Hid (Calls Try.prog 88 #[.slice A n c, .slice B n d] w fun e w' => e = .returned (.tuple #[.bool (decide (a = b)), .int .i64 n]) ∧ ∃ q, w' = w.drewN q) := by
      have h5 := looks_any A B n c d a b w ha hb hn
      rw [decide_eq_decide.2 (diff_eq ha.len hb.len)] at h5
      exact h5
    clear ha hb
    generalize decide (a = b) = z at *
    go_enter Try.func71, Try.ntmps71
    go_wp2_with (go_at_call 88; (with_reducible refine HL.out.mono ?_); rintro e w1 ⟨rfl, q1, rfl⟩)
    go_ret
    exact ⟨rfl, q1, rfl⟩
  · have hab : decide (a = b) = false := by
      rw [decide_eq_false_iff_not]
      rintro rfl
      exact hnm (ha.len.symm.trans hb.len)
    have HL := Lib.hid (looks_no A B n m c d w hnm)
    rw [hab]
    clear ha hb hab hnm
    go_enter Try.func71, Try.ntmps71
    go_wp2_with (go_at_call 88; (with_reducible refine HL.out.mono ?_); rintro e w1 ⟨rfl, rfl⟩)
    go_ret
    exact ⟨rfl, 0, rfl⟩
end Go.Proofs.Ytgkhglnfbhdkeaa
