/- Part of the proof: Bf. -/
import Derived.Test.YtafjkbbiaopemaaDoorTfx07
import Derived.Test.YtafjkbbiaopemaaDoorTfx45
set_option linter.unusedVariables false
namespace Go.Proofs.YtafjkbbiaopemaaDoor.Tr
open Go.RowKit
structure PrS (B b : Nat) (w0 : World) (l : List UInt8) (w : World) : Prop where
  p : IsP B b l w
  bl : Below B w0 w
  ot : Oth b w0 w
  hB : B ≤ w0.heap.size
def PrE (B b : Nat) (w : World) (l : List UInt8) (e : Ending) (w' : World) : Prop := e = .returned (.tuple #[]) ∧ IsP B b l w' ∧ Below B w w' ∧ Oth b w w'
section
variable {w w' w0 : World} {b B g : Nat} {l l' : List UInt8}
theorem IsP.lt (h : IsP B b l w) : b < w.heap.size := by obtain ⟨_, _, _, _, hb, _⟩ := h; exact hb.lt
theorem IsP.al (h : IsP B b l w) (hB : B ≤ w.heap.size) (o : Obj) : IsP B b l (w.alloc o) := by
  obtain ⟨h1, p, v, h2, h3, h4, h5⟩ := h
  exact ⟨h1, p, v, h2, h3.alloc o, h4.alloc o, h5⟩
theorem PrS.al (h : PrS B b w0 l w) (o : Obj) : PrS B b w0 l (w.alloc o) := ⟨h.p.al (Nat.le_trans h.hB h.bl.size) o, h.bl.alloc (Nat.le_trans h.hB h.bl.size) o, h.ot.trans (Oth.alloc b w o), h.hB⟩
theorem PrS.st {e : Ending} (h : PrS B b w0 l w) (k : PrE B b w l' e w') : PrS B b w0 l' w' := ⟨k.2.1, h.bl.trans k.2.2.1, h.ot.trans k.2.2.2, h.hB⟩
theorem PrS.start (h : IsP B b l w) (hB : B ≤ w.heap.size) : PrS B b w l w := ⟨h, Below.refl _ _, Oth.refl _ _, hB⟩
theorem PrS.fin (h : PrS B b w l w') : PrE B b w l (.returned (.tuple #[])) w' := ⟨rfl, h.p, h.bl, h.ot⟩
theorem pr_write (h : PrS B b w0 l w) (g : Nat) (hg : g = w.heap.size) (L : List ByteArray) (n : Nat) (hn : L.length = n) (hn8 : n ≤ 1000000) (hlen : l.length + (flatS L).length ≤ 140737488355328) :
    Calls Tryd.prog 33 #[.pointer (some ⟨b, 0, none⟩), .slice (some ⟨g, 0, none⟩) n n] (w.alloc (.cells (strs L).toArray 9)) fun e w' => PrE B b (w.alloc (.cells (strs L).toArray 9)) (l ++ flatS L) e w' := by
  subst hg
  exact write_c L n n hn hn8 (h.al _).p (by have := h.hB; have := h.bl.size; simp; omega) (Blk.new _ _ _) (by have := h.p.lt; omega) hlen
set_option maxRecDepth 100000 in
set_option maxHeartbeats 1000000 in
theorem itoa_1 (w : World) : Calls Tryd.prog 48 #[.int .i64 1] w fun e w' => e = .returned (.string { data := #[49] }) ∧ w = w' := by
  go_enter Tryd.func48, Tryd.ntmps48
  go_wp2
  go_ret
  exact ⟨rfl, rfl⟩
@[reducible] def sM : ByteArray := { data := #[109] }
@[reducible] def exOne (a : Option Addr × Nat) : List Value := [.string k_number, .int .i64 1, .string zs, .int .i64 6, .slice a.1 0 a.2]
set_option maxRecDepth 100000 in
set_option maxHeartbeats 1000000 in
theorem pexpr_1 (a : Option Addr × Nat) (h : IsP B b l w) (hB : B ≤ w.heap.size) (hl : l.length ≤ 1000000) : Calls Tryd.prog 34 #[.pointer (some ⟨b, 0, none⟩), .agg (exOne a).toArray] w fun e w' => PrE B b w (l ++ [49]) e w' := by
  have H0 := Lib.hid ((PrS.start h hB).al (.cells (exOne a).toArray 38))
  have HI := Lib.hid itoa_1
  clear h
  go_enter Tryd.func34, Tryd.ntmps34
  go_wp2_with (first
    | (go_at_call 48; (refine (HI.out _).mono ?_); rintro e w2 ⟨rfl, rfl⟩)
    | (go_at_call 33; (refine (pr_write H0.out _ (by simp) [{ data := #[49] }] 1 rfl (by decide) (by simp [flatS]; omega)).mono ?_); rintro e w3 h3; have H3 := Lib.hid ((H0.out.al _).st h3); obtain ⟨rfl, _⟩ := h3))
  first | go_end0 | refine bodyPost_ret (results_none rfl _ _ _) rfl ?_
  exact H3.out.fin
@[reducible] def dcM (p : plA) : List Value := [.string k_let, .string sM, .int .i64 4, .string k_number, .int .i64 1, .string zs, .int .i64 6, .slice p.1.1 0 p.1.2, .slice p.2.1 0 p.2.2]
set_option maxRecDepth 100000 in
set_option maxHeartbeats 1000000 in
theorem pdecl_m (p : plA) (h : IsP B b l w) (hB : B ≤ w.heap.size) (hl : l.length ≤ 1000) : Calls Tryd.prog 17 #[.pointer (some ⟨b, 0, none⟩), .agg (dcM p).toArray] w fun e w' => PrE B b w (l ++ [108, 101, 116, 32, 109, 32, 61, 32, 49, 59, 10]) e w' := by
  have H0 := Lib.hid ((PrS.start h hB).al (.cells (dcM p).toArray 52))
  have HD0 : Hid (Blk (w.alloc (.cells (dcM p).toArray 52)) w.heap.size 52 (dcM p) ∧ b < w.heap.size) := ⟨Blk.new _ _ _, h.lt⟩
  have HE := Lib.hid (fun W (h : IsP B b (l ++ [108, 101, 116, 32, 109, 32, 61, 32]) W) (hB : B ≤ W.heap.size) => pexpr_1 p.1 h hB (by simp; omega))
  clear h
  go_enter Tryd.func17, Tryd.ntmps17
  go_wp2_with (first
    | (go_at_call 33; (refine (pr_write H4.out _ (by simp) [{ data := #[59, 10] }] 1 rfl (by decide) (by simp [flatS]; omega)).mono ?_); rintro e w5 h5; have H5 := Lib.hid ((H4.out.al _).st h5); obtain ⟨rfl, _⟩ := h5)
    | (go_at_call 34; (refine (HE.out _ H3.out.p (Nat.le_trans H3.out.hB H3.out.bl.size)).mono ?_); rintro e w4 h4; have H4 : Hid (PrS B b w (l ++ [108, 101, 116, 32, 109, 32, 61, 32] ++ [49]) w4) := H3.out.st h4; obtain ⟨rfl, _⟩ := h4; clear d3 d4 d5 d6 d7)
    | (go_at_call 33; (refine (pr_write H0.out _ (by simp) [{ data := #[108, 101, 116, 32] }, { data := #[109] }, { data := #[32, 61, 32] }] 3 rfl (by decide) (by simp [flatS]; omega)).mono ?_); rintro e w3 h3
       have H3 : Hid (PrS B b w (l ++ [108, 101, 116, 32, 109, 32, 61, 32]) w3) := (H0.out.al _).st h3
       have hD3 : Blk w3 w.heap.size 52 (dcM p) := h3.2.2.2.blk (HD0.out.1.alloc _) (by have := HD0.out.2; omega) (by decide)
       have d3 : w3.cell? ⟨w.heap.size, 3, none⟩ = some (.string k_number) := hD3.cell 3
       have d4 : w3.cell? ⟨w.heap.size, 4, none⟩ = some (.int .i64 1) := hD3.cell 4
       have d5 : w3.cell? ⟨w.heap.size, 5, none⟩ = some (.string zs) := hD3.cell 5
       have d6 : w3.cell? ⟨w.heap.size, 6, none⟩ = some (.int .i64 6) := hD3.cell 6
       have d7 : w3.cell? ⟨w.heap.size, 7, none⟩ = some (.slice p.1.1 0 p.1.2) := hD3.cell 7
       obtain ⟨rfl, _⟩ := h3
       clear hD3))
  first | go_end0 | refine bodyPost_ret (results_none rfl _ _ _) rfl ?_
  have h6 := H5.out.fin
  simp only [List.append_assoc] at h6
  exact h6
set_option maxRecDepth 100000 in
set_option maxHeartbeats 1000000 in
theorem repeat_0 (w : World) : Calls Tryd.prog 53 #[.string { data := #[32, 32] }, .int .i64 0] w fun e w' => e = .returned (.string { data := #[] }) ∧ w = w' := by
  go_enter Tryd.func53, Tryd.ntmps53
  go_wp2
  go_ret
  exact ⟨rfl, rfl⟩
set_option maxRecDepth 100000 in
set_option maxHeartbeats 1000000 in
theorem pindent_0 (h : IsP B b l w) (hB : B ≤ w.heap.size) (hl : l.length ≤ 1000000) : Calls Tryd.prog 36 #[.pointer (some ⟨b, 0, none⟩), .int .i64 0] w fun e w' => PrE B b w l e w' := by
  have H0 := Lib.hid (PrS.start h hB)
  have HI := Lib.hid repeat_0
  clear h
  go_enter Tryd.func36, Tryd.ntmps36
  go_wp2_with (first
    | (go_at_call 53; (refine (HI.out _).mono ?_); rintro e w2 ⟨rfl, rfl⟩)
    | (go_at_call 33; (refine (pr_write H0.out _ (by simp) [{ data := #[] }] 1 rfl (by decide) (by simp [flatS]; omega)).mono ?_); rintro e w3 h3; have H3 := Lib.hid ((H0.out.al _).st h3); obtain ⟨rfl, _⟩ := h3))
  first | go_end0 | refine bodyPost_ret (results_none rfl _ _ _) rfl ?_
  have h6 := H3.out.fin
  rw [show l ++ flatS [{ data := #[] }] = l by simp [flatS]] at h6
  exact h6
set_option maxRecDepth 100000 in
set_option maxHeartbeats 1000000 in
theorem proutes_m (g off c : Nat) (h : IsP B b l w) (hB : B ≤ w.heap.size) (hl : l.length ≤ 1000000) (hg : g < w.heap.size) (hr : w.rangeAt g off [.string sM, .int .i64 14]) : Calls Tryd.prog 74 #[.pointer (some ⟨b, 0, none⟩), .slice (some ⟨g, off, none⟩) 1 c] w fun e w' => PrE B b w (l ++ [109]) e w' := by
  have H0 := Lib.hid (PrS.start h hB)
  have c0 : w.cell? ⟨g, off, none⟩ = some (.string sM) := hr 0 _ rfl
  have c1 : w.cell? ⟨g, off + 1, none⟩ = some (.int .i64 14) := hr 1 _ rfl
  clear h hr
  go_enter Tryd.func74, Tryd.ntmps74
  go_wp2
  go_loopg [8] 1 (fun kk q wr => ∃ j : Nat, j ≤ 1 ∧ kk = 1 - j ∧ q = .int .i64 (j : Int) ∧ (j = 0 → wr = w) ∧ (j = 1 → Hid (PrS B b w (l ++ [109]) wr)))
  case atStart => exact ⟨0, by omega, rfl, rfl, fun _ => rfl, fun h => by cases h⟩
  case round =>
    obtain ⟨j, hj, hk, rfl, h0, h1⟩ := hrel
    rcases (by omega : j = 0 ∨ j = 1) with rfl | rfl
    · obtain rfl := h0 rfl
      clear h0 h1 hj
      go_wp2_with (go_at_call 33; (refine (pr_write (H0.out.al _) _ (by simp) [{ data := #[109] }] 1 rfl (by decide) (by simp [flatS]; omega)).mono ?_); rintro e w3 h3; have H3 := Lib.hid (((H0.out.al _).al _).st h3); obtain ⟨rfl, _⟩ := h3)
      go_roundg 0
      case measure => omega
      case rel => exact ⟨1, by omega, rfl, rfl, (fun h => by cases h), fun _ => H3.out⟩
    · have H3 := h1 rfl
      clear h0 h1 hj hk
      go_wp2
      go_end0
      exact H3.out.fin
end
end Go.Proofs.YtafjkbbiaopemaaDoor.Tr
