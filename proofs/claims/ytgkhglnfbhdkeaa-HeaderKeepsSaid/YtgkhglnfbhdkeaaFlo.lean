/- chacha.New, Flow.Next. -/
import Derived.Test.YtgkhglnfbhdkeaaR46
namespace Go.Proofs.Ytgkhglnfbhdkeaa
open Go.RowKit

theorem agI64 (w : World) : (isAgg 3).run Try.prog w = .ok false w := by kernel_rfl
def flC (key : List UInt8) (used : Int) : List Value := u8s key ++ [.int .i64 used]
set_option maxRecDepth 100000 in
set_option maxHeartbeats 1000000 in
theorem fnew_any (A : Option Addr) (c : Nat) (key : List UInt8) (w : World) (h : Rd w A 32 (u8s key)) :
    Calls Try.prog 67 #[.slice A 32 c] w fun e w' => e = .returned (.tuple #[.pointer (some ⟨w.heap.size, 0, none⟩), .int .i64 0]) ∧ Blk w' w.heap.size 138 (flC key 0) ∧ Below w.heap.size w w' := by
  have HR := Lib.hid h
  have HT : Hid ((u8s key).take 32 = u8s key) := List.take_of_length_le (by rw [u8s_length, h.len]; exact Nat.le_refl _)
  have HSP : Hid (splice (flC (List.replicate 32 0) 0) 0 (u8s key) = flC key 0) := by
    show _ = _
    unfold flC
    unfold splice
    rw [List.take_zero, List.nil_append, Nat.zero_add, List.drop_left' (by rw [u8s_length, u8s_length, h.len, List.length_replicate])]
  clear h
  go_enter Try.func67, Try.ntmps67
  go_wp2_with (refine wpList_copy rfl (.tmp 13) (.tmp 14) 22 rfl 5 Try.underlying22 u8_one1 w.heap.size 0 32 32 (by rfl) A 32 c (by rfl) 138 (flC (List.replicate 32 0) 0) (by exact Blk.new' rfl rfl) (u8s key) (by exact HR.out.alloc _) (u8s_one _) (by exact Nat.le_of_ble_eq_true rfl) ?_
               intro w2 hb2 ho2
               rw [HT.out, HSP.out] at hb2
               have HB2 := Lib.hid hb2
               have HE2 := Lib.hid (ho2.below ((Below.refl _ _).alloc (Nat.le_refl _) _) (Nat.le_refl _) (by simp))
               clear hb2 ho2)
  go_ret2
  exact ⟨rfl, HB2.out, HE2.out⟩

theorem flC_used (key : List UInt8) (u : Int) (hk : key.length = 32) : (flC key u)[32]? = some (.int .i64 u) := by
  unfold flC
  rw [List.getElem?_append_right (by rw [u8s_length, hk]; exact Nat.le_refl _), u8s_length, hk]
  rfl
theorem flC_set (key : List UInt8) (u v : Int) (hk : key.length = 32) : (flC key u).set 32 (.int .i64 v) = flC key v := by
  unfold flC
  rw [List.set_append_right _ _ (by rw [u8s_length, hk]; exact Nat.le_refl _), u8s_length, hk]
  rfl
theorem flC_key (key : List UInt8) (u : Int) (hk : key.length = 32) : ((flC key u).drop 0).take 32 = u8s key := by
  unfold flC
  rw [List.drop_zero, List.take_append_of_le_length (by rw [u8s_length, hk]; exact Nat.le_refl _), List.take_of_length_le (by rw [u8s_length, hk]; exact Nat.le_refl _)]
theorem flC_len (key : List UInt8) (u : Int) (hk : key.length = 32) : (flC key u).length = 33 := by
  unfold flC
  rw [List.length_append, u8s_length, hk]
  rfl

set_option maxRecDepth 100000 in
set_option maxHeartbeats 4000000 in
theorem fnext_any (g : Nat) (key : List UInt8) (used n : Nat) (w : World) (hb : Blk w g 138 (flC key (used : Int))) (hk : key.length = 32) (hun : used + n ≤ 65536) :
    Calls Try.prog 84 #[.pointer (some ⟨g, 0, none⟩), .int .i64 n] w fun e w' => ∃ A' c', e = .returned (.tuple #[.slice A' n c', .int .i64 0]) ∧ n ≤ c' ∧ w'.ownsRow w.heap.size 5 1 (.slice A' n c') n (u8s (Ch.piece key used n)) ∧ Blk w' g 138 (flC key ((used + n : Nat) : Int)) ∧ Wrote g w w' := by
  have HB := Lib.hid hb
  have HK := Lib.hid hk
  have hc0 : w.cell? ⟨g, 32, none⟩ = some (.int .i64 used) := by rw [hb.cell]; exact flC_used key _ hk
  have HP : Hid (∀ W, Rd W (some ⟨g, 0, none⟩) 32 (u8s key) → Calls Try.prog 74 #[.slice (some ⟨g, 0, none⟩) 32 32, .int .i64 used, .int .i64 n] W fun e w' => ∃ A' c', e = .returned (.slice A' n c') ∧ n ≤ c' ∧ w'.ownsRow W.heap.size 5 1 (.slice A' n c') n (u8s (Ch.piece key used n)) ∧ Below W.heap.size W w') := fun W h => piece_any _ 32 key used n W h (by omega) (by omega)
  have HR : Hid (∀ W, Blk W g 138 (flC key used) → Rd W (some ⟨g, 0, none⟩) 32 (u8s key)) := fun W h => by
    have h6 := h.rd 0 32 (by rw [flC_len _ _ hk]; omega)
    rwa [flC_key _ _ hk] at h6
  have hn0 : ¬ (n : Int) < 0 := by omega
  have hn1 : ¬ (65536 : Int) < (n : Int) := by omega
  have hn2 : ¬ (65536 : Int) - (used : Int) < (n : Int) := by omega
  clear hb hk
  go_enter Try.func84, Try.ntmps84
  go_wp2_with fail
  have hT : w.drew.cell? ⟨g, 32, none⟩ = some (.int .i64 used) := hc0
  refine region_K (by kernel_rfl) 9 (fun w' => w'.cell? ⟨g, 32, none⟩ = some (.int .i64 used)) ?_
  refine AnyK.pure 0 (v := .pointer (some ⟨g, 0, none⟩)) rfl (by kernel_rfl) (fun _ _ _ h => h) rfl (fun _ => by kernel_rfl) (fun _ => hT) ?_
  refine AnyK.pure 1 (v := .pointer (some ⟨g, 0, none⟩)) rfl (by kernel_rfl) (fun _ _ _ h => h) rfl (fun _ => by kernel_rfl) (fun _ => hT) ?_
  refine AnyK.pure 2 (v := .pointer (some ⟨g, 0, none⟩)) rfl (by kernel_rfl) (fun _ _ _ h => h) rfl (fun _ => by kernel_rfl) (fun _ => hT) ?_
  refine AnyK.pure 3 (v := .slice (some ⟨g, 0, none⟩) 32 32) rfl (by kernel_rfl) (fun _ _ _ h => h) rfl (fun _ => by kernel_rfl) (fun _ => hT) ?_
  refine AnyK.pure 4 (v := .pointer (some ⟨g, 0, none⟩)) rfl (by kernel_rfl) (fun _ _ _ h => h) rfl (fun _ => by kernel_rfl) (fun _ => hT) ?_
  refine AnyK.pure 5 (v := .pointer (some ⟨g, 0, none⟩)) rfl (by kernel_rfl) (fun _ _ _ h => h) rfl (fun _ => by kernel_rfl) (fun _ => hT) ?_
  refine AnyK.pure 6 (v := .pointer (some ⟨g, 32, none⟩)) rfl (by kernel_rfl) (fun _ _ _ h => h) rfl (fun _ => by kernel_rfl) (fun _ => hT) ?_
  refine AnyK.load 7 (v := .int .i64 used) rfl (by kernel_rfl) (by kernel_rfl) (by kernel_rfl) (fun _ _ _ h => h) rfl (fun w' hw' => ex_load (t := 3) (x := .tmp 26) (p := ⟨g, 32, none⟩) (by rfl) (by kernel_rfl) agI64 hw') hT ?_
  refine AnyK.pure 8 (v := .int .i64 n) rfl (by kernel_rfl) (fun _ _ _ h => h) rfl (fun _ => by kernel_rfl) (fun _ => hT) ?_
  refine AnyK.enter 9 (d := some 29) (f := 74) (args := #[.slice (some ⟨g, 0, none⟩) 32 32, .int .i64 used, .int .i64 n]) (by rfl) (by kernel_rfl) (by kernel_rfl) ?_
  refine (HP.out _ (HR.out _ HB.out.drew)).mono ?_
  rintro e w1 ⟨A', c', rfl, hc', hown, hB⟩
  refine ⟨_, rfl, fun h => (by cases h), ?_⟩
  refine AnyK.val 10 (v := .slice A' n c') rfl (by kernel_rfl) rfl (by kernel_rfl) (fun h => (by cases h)) ?_
  refine AnyK.done (by kernel_rfl) ?_
  have hb1 : Blk w1 g 138 (flC key used) := HB.out.drew.below hB HB.out.drew.lt
  have hc1 : w1.cell? ⟨g, 32, none⟩ = some (.int .i64 used) := by rw [hb1.cell]; exact flC_used key _ HK.out
  have hf1 := hb1.frozen 32
  have HB1 := Lib.hid hb1
  have HO1 := Lib.hid hown
  have HE1 : Hid (Below w.heap.size w w1) := (Below.refl _ w).drew.trans hB
  clear hT hb1 hown hB
  go_wp2_with fail
  go_ret2
  have h5 := HB1.out.set_ 32 (.int .i64 ((used + n : Nat) : Int))
  rw [flC_set _ _ _ HK.out] at h5
  have h6 := own_only HO1.out (Only.of_setCells w1 g 32 [.int .i64 ((used + n : Nat) : Int)]) (fun k hk => by have h9 : w.heap.size ≤ k := (HO1.out.lt k hk).1; have := HB.out.lt; omega)
  have h7 := (Wrote.of_below (g := g) HE1.out).setCell 32 (.int .i64 ((used + n : Nat) : Int))
  exact ⟨A', c', rfl, hc', h6, h5, h7⟩
end Go.Proofs.Ytgkhglnfbhdkeaa
