/- Part of the proof: Bf, Bg. -/
import Derived.Test.YtafjkbbiaopemaaGreatDoorTox05
import Derived.Test.YtafjkbbiaopemaaGreatDoorTox36
set_option linter.unusedVariables false
namespace Go.Proofs.YtafjkbbiaopemaaGreatDoor.Tr
open Go.RowKit
structure PrS (B b : Nat) (w0 : World) (l : List UInt8) (w : World) : Prop where
  p : IsP B b l w
  bl : Below B w0 w
  ot : Oth b w0 w
  hB : B ≤ w0.heap.size
def PrE (B b : Nat) (w : World) (l : List UInt8) (e : Ending) (w' : World) : Prop := e = .returned (.tuple #[]) ∧ IsP B b l w' ∧ Below B w w' ∧ Oth b w w'
section
variable {w w' w0 : World} {b B g : Nat} {l l' : List UInt8}
theorem IsP.lt (h : IsP B b l w) : b < w.heap.size := by obtain ⟨_, _, _, _, hb, _⟩ := h; exact hb.lt
theorem IsP.al (h : IsP B b l w) (hB : B ≤ w.heap.size) (o : Obj) : IsP B b l (w.alloc o) := by
  obtain ⟨h1, p, v, h2, h3, h4, h5⟩ := h
  exact ⟨h1, p, v, h2, h3.alloc o, h4.alloc o, h5⟩
theorem PrS.al (h : PrS B b w0 l w) (o : Obj) : PrS B b w0 l (w.alloc o) := ⟨h.p.al (Nat.le_trans h.hB h.bl.size) o, h.bl.alloc (Nat.le_trans h.hB h.bl.size) o, h.ot.trans (Oth.alloc b w o), h.hB⟩
theorem PrS.st {e : Ending} (h : PrS B b w0 l w) (k : PrE B b w l' e w') : PrS B b w0 l' w' := ⟨k.2.1, h.bl.trans k.2.2.1, h.ot.trans k.2.2.2, h.hB⟩
theorem PrS.start (h : IsP B b l w) (hB : B ≤ w.heap.size) : PrS B b w l w := ⟨h, Below.refl _ _, Oth.refl _ _, hB⟩
theorem PrS.fin (h : PrS B b w l w') : PrE B b w l (.returned (.tuple #[])) w' := ⟨rfl, h.p, h.bl, h.ot⟩
theorem pr_write (h : PrS B b w0 l w) (g : Nat) (hg : g = w.heap.size) (L : List ByteArray) (n : Nat) (hn : L.length = n) (hn8 : n ≤ 1000000) (hlen : l.length + (flatS L).length ≤ 140737488355328) :
    Calls Tryz.prog 70 #[.pointer (some ⟨b, 0, none⟩), .slice (some ⟨g, 0, none⟩) n n] (w.alloc (.cells (strs L).toArray 9)) fun e w' => PrE B b (w.alloc (.cells (strs L).toArray 9)) (l ++ flatS L) e w' := by
  subst hg
  exact write_c L n n hn hn8 (h.al _).p (by have := h.hB; have := h.bl.size; simp; omega) (Blk.new _ _ _) (by have := h.p.lt; omega) hlen
set_option maxRecDepth 100000 in
set_option maxHeartbeats 1000000 in
theorem itoa_1 (w : World) : Calls Tryz.prog 93 #[.int .i64 1] w fun e w' => e = .returned (.string { data := #[49] }) ∧ w = w' := by
  go_enter Tryz.func93, Tryz.ntmps93
  go_wp2
  go_ret
  exact ⟨rfl, rfl⟩
@[reducible] def sM : ByteArray := { data := #[109] }
@[reducible] def exOne (a : Option Addr × Nat) : List Value := [.string k_number, .int .i64 1, .string zs, .int .i64 6, .slice a.1 0 a.2]
set_option maxRecDepth 100000 in
set_option maxHeartbeats 1000000 in
theorem pexpr_1 (a : Option Addr × Nat) (h : IsP B b l w) (hB : B ≤ w.heap.size) (hl : l.length ≤ 1000000) : Calls Tryz.prog 71 #[.pointer (some ⟨b, 0, none⟩), .agg (exOne a).toArray] w fun e w' => PrE B b w (l ++ [49]) e w' := by
  have H0 := Lib.hid ((PrS.start h hB).al (.cells (exOne a).toArray 39))
  have HI := Lib.hid itoa_1
  clear h
  go_enter Tryz.func71, Tryz.ntmps71
  go_wp2_with (first
    | (go_at_call 93; (refine (HI.out _).mono ?_); rintro e w2 ⟨rfl, rfl⟩)
    | (go_at_call 70; (refine (pr_write H0.out _ (by simp) [{ data := #[49] }] 1 rfl (by decide) (by simp [flatS]; omega)).mono ?_); rintro e w3 h3; have H3 := Lib.hid ((H0.out.al _).st h3); obtain ⟨rfl, _⟩ := h3))
  first | go_end0 | refine bodyPost_ret (results_none rfl _ _ _) rfl ?_
  exact H3.out.fin
@[reducible] def dcM (p : plA) : List Value := [.string k_let, .string sM, .int .i64 4, .string k_number, .int .i64 1, .string zs, .int .i64 6, .slice p.1.1 0 p.1.2, .slice p.2.1 0 p.2.2]
set_option maxRecDepth 100000 in
set_option maxHeartbeats 1000000 in
theorem pdecl_m (p : plA) (h : IsP B b l w) (hB : B ≤ w.heap.size) (hl : l.length ≤ 1000) : Calls Tryz.prog 34 #[.pointer (some ⟨b, 0, none⟩), .agg (dcM p).toArray] w fun e w' => PrE B b w (l ++ [108, 101, 116, 32, 109, 32, 61, 32, 49, 59, 10]) e w' := by
  have H0 := Lib.hid ((PrS.start h hB).al (.cells (dcM p).toArray 45))
  have HD0 : Hid (Blk (w.alloc (.cells (dcM p).toArray 45)) w.heap.size 45 (dcM p) ∧ b < w.heap.size) := ⟨Blk.new _ _ _, h.lt⟩
  have HE := Lib.hid (fun W (h : IsP B b (l ++ [108, 101, 116, 32, 109, 32, 61, 32]) W) (hB : B ≤ W.heap.size) => pexpr_1 p.1 h hB (by simp; omega))
  clear h
  go_enter Tryz.func34, Tryz.ntmps34
  go_wp2_with (first
    | (go_at_call 70; (refine (pr_write H4.out _ (by simp) [{ data := #[59, 10] }] 1 rfl (by decide) (by simp [flatS]; omega)).mono ?_); rintro e w5 h5; have H5 := Lib.hid ((H4.out.al _).st h5); obtain ⟨rfl, _⟩ := h5)
    | (go_at_call 71; (refine (HE.out _ H3.out.p (Nat.le_trans H3.out.hB H3.out.bl.size)).mono ?_); rintro e w4 h4; have H4 : Hid (PrS B b w (l ++ [108, 101, 116, 32, 109, 32, 61, 32] ++ [49]) w4) := H3.out.st h4; obtain ⟨rfl, _⟩ := h4; clear d3 d4 d5 d6 d7)
    | (go_at_call 70; (refine (pr_write H0.out _ (by simp) [{ data := #[108, 101, 116, 32] }, { data := #[109] }, { data := #[32, 61, 32] }] 3 rfl (by decide) (by simp [flatS]; omega)).mono ?_); rintro e w3 h3
       have H3 : Hid (PrS B b w (l ++ [108, 101, 116, 32, 109, 32, 61, 32]) w3) := (H0.out.al _).st h3
       have hD3 : Blk w3 w.heap.size 45 (dcM p) := h3.2.2.2.blk (HD0.out.1.alloc _) (by have := HD0.out.2; omega) (by decide)
       have d3 : w3.cell? ⟨w.heap.size, 3, none⟩ = some (.string k_number) := hD3.cell 3
       have d4 : w3.cell? ⟨w.heap.size, 4, none⟩ = some (.int .i64 1) := hD3.cell 4
       have d5 : w3.cell? ⟨w.heap.size, 5, none⟩ = some (.string zs) := hD3.cell 5
       have d6 : w3.cell? ⟨w.heap.size, 6, none⟩ = some (.int .i64 6) := hD3.cell 6
       have d7 : w3.cell? ⟨w.heap.size, 7, none⟩ = some (.slice p.1.1 0 p.1.2) := hD3.cell 7
       obtain ⟨rfl, _⟩ := h3
       clear hD3))
  first | go_end0 | refine bodyPost_ret (results_none rfl _ _ _) rfl ?_
  have h6 := H5.out.fin
  simp only [List.append_assoc] at h6
  exact h6
set_option maxRecDepth 100000 in
set_option maxHeartbeats 1000000 in
theorem repeat_0 (w : World) : Calls Tryz.prog 98 #[.string { data := #[32, 32] }, .int .i64 0] w fun e w' => e = .returned (.string { data := #[] }) ∧ w = w' := by
  go_enter Tryz.func98, Tryz.ntmps98
  go_wp2
  go_ret
  exact ⟨rfl, rfl⟩
set_option maxRecDepth 100000 in
set_option maxHeartbeats 1000000 in
theorem pindent_0 (h : IsP B b l w) (hB : B ≤ w.heap.size) (hl : l.length ≤ 1000000) : Calls Tryz.prog 73 #[.pointer (some ⟨b, 0, none⟩), .int .i64 0] w fun e w' => PrE B b w l e w' := by
  have H0 := Lib.hid (PrS.start h hB)
  have HI := Lib.hid repeat_0
  clear h
  go_enter Tryz.func73, Tryz.ntmps73
  go_wp2_with (first
    | (go_at_call 98; (refine (HI.out _).mono ?_); rintro e w2 ⟨rfl, rfl⟩)
    | (go_at_call 70; (refine (pr_write H0.out _ (by simp) [{ data := #[] }] 1 rfl (by decide) (by simp [flatS]; omega)).mono ?_); rintro e w3 h3; have H3 := Lib.hid ((H0.out.al _).st h3); obtain ⟨rfl, _⟩ := h3))
  first | go_end0 | refine bodyPost_ret (results_none rfl _ _ _) rfl ?_
  have h6 := H3.out.fin
  rw [show l ++ flatS [{ data := #[] }] = l by simp [flatS]] at h6
  exact h6
set_option maxRecDepth 100000 in
set_option maxHeartbeats 1000000 in
theorem proutes_m (g off c : Nat) (h : IsP B b l w) (hB : B ≤ w.heap.size) (hl : l.length ≤ 1000000) (hg : g < w.heap.size) (hr : w.rangeAt g off [.string sM, .int .i64 14]) : Calls Tryz.prog 123 #[.pointer (some ⟨b, 0, none⟩), .slice (some ⟨g, off, none⟩) 1 c] w fun e w' => PrE B b w (l ++ [109]) e w' := by
  have H0 := Lib.hid (PrS.start h hB)
  have c0 : w.cell? ⟨g, off, none⟩ = some (.string sM) := hr 0 _ rfl
  have c1 : w.cell? ⟨g, off + 1, none⟩ = some (.int .i64 14) := hr 1 _ rfl
  clear h hr
  go_enter Tryz.func123, Tryz.ntmps123
  go_wp2
  go_loopg [8] 1 (fun kk q wr => ∃ j : Nat, j ≤ 1 ∧ kk = 1 - j ∧ q = .int .i64 (j : Int) ∧ (j = 0 → wr = w) ∧ (j = 1 → Hid (PrS B b w (l ++ [109]) wr)))
  case atStart => exact ⟨0, by omega, rfl, rfl, fun _ => rfl, fun h => by cases h⟩
  case round =>
    obtain ⟨j, hj, hk, rfl, h0, h1⟩ := hrel
    rcases (by omega : j = 0 ∨ j = 1) with rfl | rfl
    · obtain rfl := h0 rfl
      clear h0 h1 hj
      go_wp2_with (go_at_call 70; (refine (pr_write (H0.out.al _) _ (by simp) [{ data := #[109] }] 1 rfl (by decide) (by simp [flatS]; omega)).mono ?_); rintro e w3 h3; have H3 := Lib.hid (((H0.out.al _).al _).st h3); obtain ⟨rfl, _⟩ := h3)
      go_roundg 0
      case measure => omega
      case rel => exact ⟨1, by omega, rfl, rfl, (fun h => by cases h), fun _ => H3.out⟩
    · have H3 := h1 rfl
      clear h0 h1 hj hk
      go_wp2
      go_end0
      exact H3.out.fin
end
end Go.Proofs.YtafjkbbiaopemaaGreatDoor.Tr
namespace Go.Proofs.YtafjkbbiaopemaaGreatDoor.Tr
open Go.RowKit
attribute [local go_sem ↓] ldq_St
@[reducible] def stCv (p : StA) (g off c : Nat) : List Value := [.string k_cover, .int .i64 8, .string zs, .int .i64 0, .string zs, .int .i64 0, .string zs, .int .i64 0, .slice p.a.1 0 p.a.2, .string zs, .int .i64 0, .string zs, .int .i64 0, .slice p.b.1 0 p.b.2, .string zs, .int .i64 0, .string zs, .int .i64 0, .slice p.c.1 0 p.c.2, .slice (some ⟨g, off, none⟩) 1 c, .string zs, .int .i64 0, .string zs, .int .i64 0, .slice p.y.1 0 p.y.2, .slice p.z.1 0 p.z.2]
theorem stCv_one (p : StA) (g off c : Nat) : ∀ v ∈ stCv p g off c, v.oneCell' = true := by
  intro v hv
  simp only [stCv, List.mem_cons, List.not_mem_nil, or_false] at hv
  rcases hv with rfl | rfl | rfl | rfl | rfl | rfl | rfl | rfl | rfl | rfl | rfl | rfl | rfl | rfl | rfl | rfl | rfl | rfl | rfl | rfl | rfl | rfl | rfl | rfl | rfl | rfl <;> rfl
@[reducible] def RtI (g off B : Nat) (w : World) : Prop := g < B ∧ w.rangeAt g off [.string sM, .int .i64 14]
section
variable {w w' w0 : World} {b B g off c : Nat} {l l' : List UInt8} {p : StA}
theorem RtI.belo (h : RtI g off B w) (hb : Below B w w') : RtI g off B w' := ⟨h.1, fun j v hj => (World.cell?_of_block (a := ⟨g, off + j, none⟩) (hb.block g h.1)).trans (h.2 j v hj)⟩
set_option maxRecDepth 100000 in
set_option maxHeartbeats 2000000 in
theorem pline_c (h : IsP B b l w) (hB : B ≤ w.heap.size) (hl : l.length ≤ 1000) (hr : RtI g off B w) : Calls Tryz.prog 100 #[.pointer (some ⟨b, 0, none⟩), .agg (stCv p g off c).toArray] w fun e w' => PrE B b w (l ++ [99, 111, 118, 101, 114, 32, 109]) e w' := by
  have H0 := Lib.hid ((PrS.start h hB).al (.cells (stCv p g off c).toArray 42))
  have HD0 : Hid (Blk (w.alloc (.cells (stCv p g off c).toArray 42)) w.heap.size 42 (stCv p g off c) ∧ b < w.heap.size) := ⟨Blk.new _ _ _, h.lt⟩
  have HR := Lib.hid (fun W (hW : PrS B b w (l ++ [99, 111, 118, 101, 114, 32]) W) => proutes_m (l := l ++ [99, 111, 118, 101, 114, 32]) g off c hW.p (Nat.le_trans hW.hB hW.bl.size) (by simp; omega) (Nat.lt_of_lt_of_le hr.1 (Nat.le_trans hW.hB hW.bl.size)) (hr.belo hW.bl).2)
  clear h hr
  go_enter Tryz.func100, Tryz.ntmps100
  go_wp2_with (first
    | (go_at_call 123; (refine (HR.out _ H3.out).mono ?_); rintro e w4 h4; have H4 := Lib.hid (H3.out.st h4); obtain ⟨rfl, _⟩ := h4; clear d19)
    | (go_at_call 70; (refine (pr_write H0.out _ (by simp) [{ data := #[99, 111, 118, 101, 114, 32] }] 1 rfl (by decide) (by simp [flatS]; omega)).mono ?_); rintro e w3 h3
       have H3 : Hid (PrS B b w (l ++ [99, 111, 118, 101, 114, 32]) w3) := (H0.out.al _).st h3
       have hD3 : Blk w3 w.heap.size 42 (stCv p g off c) := h3.2.2.2.blk (HD0.out.1.alloc _) (by have := HD0.out.2; omega) (by decide)
       have d19 : w3.cell? ⟨w.heap.size, 19, none⟩ = some (.slice (some ⟨g, off, none⟩) 1 c) := hD3.cell 19
       obtain ⟨rfl, _⟩ := h3
       clear hD3))
  first | go_end0 | refine bodyPost_ret (results_none rfl _ _ _) rfl ?_
  have h6 := H4.out.fin
  simp only [List.append_assoc] at h6
  exact h6
set_option maxRecDepth 100000 in
set_option maxHeartbeats 2000000 in
theorem pstmt_c (h : IsP B b l w) (hB : B ≤ w.heap.size) (hl : l.length ≤ 900) (hr : RtI g off B w) : Calls Tryz.prog 74 #[.pointer (some ⟨b, 0, none⟩), .agg (stCv p g off c).toArray, .int .i64 0] w fun e w' => PrE B b w (l ++ [99, 111, 118, 101, 114, 32, 109, 59, 10]) e w' := by
  have H0 := Lib.hid ((PrS.start h hB).al (.cells (stCv p g off c).toArray 42))
  have hld := ldAt_run (Blk.new w 42 (stCv p g off c)) 42 0 (stCv p g off c) rfl _ Tryz.underlying42 rfl hdSt
  have HL := Lib.hid (fun W (hW : PrS B b w l W) => pline_c (p := p) (c := c) hW.p (Nat.le_trans hW.hB hW.bl.size) (by omega) (hr.belo hW.bl))
  clear h hr
  go_enter Tryz.func74, Tryz.ntmps74
  go_wp2_with (first
    | (go_at_call 70; (refine (pr_write H4.out _ (by simp) [{ data := #[10] }] 1 rfl (by decide) (by simp [flatS]; omega)).mono ?_); rintro e w5 h5; have H5 := Lib.hid ((H4.out.al _).st h5); obtain ⟨rfl, _⟩ := h5)
    | (go_at_call 70; (refine (pr_write H3.out _ (by simp) [{ data := #[59] }] 1 rfl (by decide) (by simp [flatS]; omega)).mono ?_); rintro e w4 h4; have H4 := Lib.hid ((H3.out.al _).st h4); obtain ⟨rfl, _⟩ := h4)
    | (go_at_call 100; (refine (HL.out _ H0.out).mono ?_); rintro e w3 h3; have H3 := Lib.hid (H0.out.st h3); obtain ⟨rfl, _⟩ := h3))
  first | go_end0 | refine bodyPost_ret (results_none rfl _ _ _) rfl ?_
  have h6 := H5.out.fin
  simp only [List.append_assoc] at h6
  exact h6
theorem Oth.fresh {o : Obj} (ho : Only (w.alloc o) w' w.heap.size) : Oth b w w' := ⟨by have := ho.grown.size; simp at this; omega, fun k o' h1 _ _ => (ho.grown.block k (by have := (Array.getElem?_eq_some_iff.1 h1).1; simp; omega) (fun e => by injection e with e; have := (Array.getElem?_eq_some_iff.1 h1).1; omega)).trans ((Below.heap_alloc w o k (Array.getElem?_eq_some_iff.1 h1).1).trans h1)⟩
theorem IsP.fresh {o : Obj} (h : IsP B b l w) (ho : Only (w.alloc o) w' w.heap.size) : IsP B b l w' := by
  have hlt := h.lt
  obtain ⟨h1, p, v, h2, h3, h4, h5⟩ := h
  exact ⟨h1, p, v, h2, (h3.alloc o).grown ho.grown (fun e => by injection e with e; omega), own_onlyB (h4.alloc o) ho (fun k hk e => by have := (h4.lt k hk).2; omega), h5⟩
set_option maxRecDepth 100000 in
set_option maxHeartbeats 2000000 in
theorem pstmts_g (cells : List Value) (hcl : cells.length = 26) (hco : ∀ v ∈ cells, v.oneCell' = true) (gb ob cb : Nat) (h : IsP B b l w) (hB : B ≤ w.heap.size) (hl : l.length ≤ 900) (hs : gb < B ∧ w.rangeAt gb ob cells)
    (HTc : ∀ W, PrS B b w l W → Calls Tryz.prog 74 #[.pointer (some ⟨b, 0, none⟩), .agg cells.toArray, .int .i64 0] W fun e w' => PrE B b W l' e w') : Calls Tryz.prog 35 #[.pointer (some ⟨b, 0, none⟩), .slice (some ⟨gb, ob, none⟩) 1 cb, .int .i64 0] w fun e w' => PrE B b w l' e w' := by
  have H0 := Lib.hid (PrS.start h hB)
  have hld := run_loadAt_mid w gb ob 42 cells _ hs.2 Tryz.underlying42 rfl (by rw [hcl]; exact hdSt)
  have hgb : gb < w.heap.size := Nat.lt_of_lt_of_le hs.1 hB
  have HI := Lib.hid (fun W (hW : PrS B b w l W) => pindent_0 hW.p (Nat.le_trans hW.hB hW.bl.size) (by omega))
  have HT := Lib.hid HTc
  have HBL := h.lt
  have HCL := Lib.hid hcl
  have HCO := Lib.hid hco
  have hld2 : (ldAt 42 (.pointer (some ⟨gb, ob, none⟩))).run Tryz.prog w = .ok (.agg cells.toArray) w := hld
  clear h hs hld hcl hco HTc
  go_enter Tryz.func35, Tryz.ntmps35
  go_wp2
  go_loopg [10] 1 (fun kk q wr => ∃ j : Nat, j ≤ 1 ∧ kk = 1 - j ∧ q = .int .i64 (j : Int) ∧ (j = 0 → wr = w) ∧ (j = 1 → Hid (PrS B b w l' wr)))
  case atStart => exact ⟨0, by omega, rfl, rfl, fun _ => rfl, fun h => by cases h⟩
  case round =>
    obtain ⟨j, hj, hk, rfl, h0, h1⟩ := hrel
    rcases (by omega : j = 0 ∨ j = 1) with rfl | rfl
    · obtain rfl := h0 rfl
      clear h0 h1 hj
      go_wp2_with (first
        | (go_at_call 74; (refine (HT.out _ H2.out).mono ?_); rintro e w3 h3; have H3 := Lib.hid (H2.out.st h3); obtain ⟨rfl, _⟩ := h3)
        | (go_at_call 73; (refine (HI.out _ (H1.out)).mono ?_); rintro e w2 h2
           have H2 := Lib.hid (H1.out.st h2)
           have hb2 : Blk w2 wr.heap.size 42 cells := h2.2.2.2.blk HB1.out (by omega) (by decide)
           have hl2 := ldAt_run hb2 42 0 cells (by simp) _ Tryz.underlying42 rfl (by rw [HCL.out]; exact hdSt)
           obtain ⟨rfl, _⟩ := h2
           clear hb2)
        | (refine wpList_store_all rfl 42 (.tmp 7) (.tmp 13) rfl wr.heap.size cells (by rfl) (by rfl) 42 (stC zT pA0) (by exact Blk.new' rfl rfl) (by rw [HCL.out]; exact hdSt) HCO.out HCL.out ?_
           intro w1 hb1 ho1
           have HB1 := Lib.hid hb1
           have H1 : Hid (PrS B b wr l w1) := ⟨H0.out.p.fresh ho1, ho1.below (H0.out.al _).bl (by have := H0.out.hB; omega) (by have := H0.out.hB; simp; omega), H0.out.ot.trans (Oth.fresh ho1), H0.out.hB⟩
           clear hb1 ho1))
      go_roundg 0
      case measure => omega
      case rel => exact ⟨1, by omega, rfl, rfl, (fun h => by cases h), fun _ => H3.out⟩
    · have H3 := h1 rfl
      clear h0 h1 hj hk
      go_wp2
      go_end0
      exact H3.out.fin
theorem pstmts_c (gb ob cb : Nat) (h : IsP B b l w) (hB : B ≤ w.heap.size) (hl : l.length ≤ 900) (hr : RtI g off B w) (hs : gb < B ∧ w.rangeAt gb ob (stCv p g off c)) : Calls Tryz.prog 35 #[.pointer (some ⟨b, 0, none⟩), .slice (some ⟨gb, ob, none⟩) 1 cb, .int .i64 0] w fun e w' => PrE B b w (l ++ [99, 111, 118, 101, 114, 32, 109, 59, 10]) e w' :=
  pstmts_g (stCv p g off c) rfl (stCv_one _ _ _ _) gb ob cb h hB hl hs fun W hW => pstmt_c hW.p (Nat.le_trans hW.hB hW.bl.size) (by omega) (hr.belo hW.bl)
end
end Go.Proofs.YtafjkbbiaopemaaGreatDoor.Tr
