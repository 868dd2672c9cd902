/- Part of the proof: Kd. -/
import Derived.Test.YtloakenighnfgaaCvx34
set_option linter.unusedVariables false
namespace Go.Proofs.Ytloakenighnfgaa.Tr
open Go.RowKit
theorem agStr (w : World) : (isAgg 9).run Try.prog w = .ok false w := by kernel_rfl
theorem agInt (w : World) : (isAgg 3).run Try.prog w = .ok false w := by kernel_rfl
section
variable {w w' : World} {cp mp : Nat} {l : List (ByteArray × List Value)} {st sk vr cd ls : Int}
@[reducible] def arM (B1 : Option Addr) (c1 : Nat) (B2 : Option Addr) (c2 : Nat) : List Value := [.string k_name, .int .i64 0, .string sI, .int .i64 18, .slice B1 0 c1, .string k_number, .int .i64 2, .string zs, .int .i64 22, .slice B2 0 c2]
@[reducible] def exM (b off cA : Nat) : List Value := [.string m_star, .int .i64 0, .string zs, .int .i64 18, .slice (some ⟨b, off, none⟩) 2 cA]
set_option maxRecDepth 100000 in
set_option maxHeartbeats 2000000 in
theorem expr_mul (b off cA : Nat) (B1 : Option Addr) (c1 : Nat) (B2 : Option Addr) (c2 : Nat) (h : CkS cp mp [(sI, enI)] st sk vr cd ls w) (hb : b < w.heap.size) (hA : w.rangeAt b off (arM B1 c1 B2 c2)) :
    Calls Try.prog 34 #[.pointer (some ⟨cp, 0, none⟩), .agg #[.string m_star, .int .i64 0, .string zs, .int .i64 18, .slice (some ⟨b, off, none⟩) 2 cA], .bool true, .int .i64 0] w fun e w' => ∃ g, e = .returned (.agg (vlC 0 4 4 0 (some ⟨g, 0, none⟩) 2 2).toArray) ∧ Blk w' g 24 nmM ∧ w.heap.size ≤ g ∧ Below w.heap.size w w' := by
  have HN := Lib.hid (fun W (h : CkS cp mp [(sI, enI)] st sk vr cd ls W) => expr_name B1 c1 18 h)
  have H2 := Lib.hid (fun W => expr_num (w := W) 2 22 0 true B2 c2 (.pointer (some ⟨cp, 0, none⟩)) (by decide) (by decide))
  have HC := Lib.hid combine_c
  have HO := Lib.hid (fun W (h : CkS cp mp [(sI, enI)] st sk vr cd ls W) => ok_k h)
  have HH := Lib.hid h
  have HA : Hid (∀ W, Below w.heap.size w W → W.cell? ⟨b, off, none⟩ = some (.string k_name) ∧ W.cell? ⟨b, off + 1, none⟩ = some (.int .i64 0) ∧ W.cell? ⟨b, off + 2, none⟩ = some (.string sI) ∧ W.cell? ⟨b, off + 3, none⟩ = some (.int .i64 18) ∧ W.cell? ⟨b, off + 4, none⟩ = some (.slice B1 0 c1) ∧
      W.cell? ⟨b, off + 5, none⟩ = some (.string k_number) ∧ W.cell? ⟨b, off + 5 + 1, none⟩ = some (.int .i64 2) ∧ W.cell? ⟨b, off + 5 + 2, none⟩ = some (.string zs) ∧ W.cell? ⟨b, off + 5 + 3, none⟩ = some (.int .i64 22) ∧ W.cell? ⟨b, off + 5 + 4, none⟩ = some (.slice B2 0 c2)) := fun W hW => by
    have k : ∀ j v, (arM B1 c1 B2 c2)[j]? = some v → W.cell? ⟨b, off + j, none⟩ = some v := fun j v hj => (World.cell?_of_block (a := ⟨b, off + j, none⟩) (hW.block b hb)).trans (hA j v hj)
    exact ⟨k 0 _ rfl, k 1 _ rfl, k 2 _ rfl, k 3 _ rfl, k 4 _ rfl, k 5 _ rfl, k 6 _ rfl, k 7 _ rfl, k 8 _ rfl, k 9 _ rfl⟩
  obtain ⟨a0, a1, a2, a3, a4, a5, a6, a7, a8, a9⟩ := HA.out w (Below.refl _ _)
  clear h hA
  have HZ : Hid (∀ W, Below ((w.alloc (.cells (exM b off cA).toArray 71)).alloc (.cells (vlC 0 0 0 0 none 0 0).toArray 109)).heap.size ((w.alloc (.cells (exM b off cA).toArray 71)).alloc (.cells (vlC 0 0 0 0 none 0 0).toArray 109)) W → Blk W w.heap.size 71 (exM b off cA) ∧ Blk W (w.heap.size + 1) 109 (vlC 0 0 0 0 none 0 0) ∧ Below w.heap.size w W) := fun W hW =>
    ⟨Blk.below ((Blk.new' rfl rfl).alloc _) hW (by simp; omega), Blk.below (Blk.new' (by simp) rfl) hW (by simp), ((((Below.refl w.heap.size w).alloc (Nat.le_refl _) _).alloc (by simp) _)).trans (hW.mono (by simp; omega))⟩
  go_enter Try.func34, Try.ntmps34
  go_wp2_with (first
    | (go_at_call 34; (with_reducible refine (HN.out _ (by exact (HH.out.alloc _).alloc _)).mono ?_); rintro e w2 ⟨rfl, hB2⟩
       have HZ2 := Lib.hid (HZ.out _ (by exact hB2))
       obtain ⟨b0, b1, b2, b3, b4, b5, b6, b7, b8, b9⟩ := HA.out w2 HZ2.out.2.2
       have d4 : w2.cell? ⟨w.heap.size, 4, none⟩ = some (.slice (some ⟨b, off, none⟩) 2 cA) := HZ2.out.1.cell 4
       have hl1 : b < w2.heap.size := Nat.lt_of_lt_of_le hb HZ2.out.2.2.size
       have hl2 := HZ2.out.1.lt
       clear hB2)
    | (go_at_call 34; (with_reducible refine (H2.out _).mono ?_); rintro e w3 ⟨rfl, hB3⟩
       have hB3' : Hid (Below w2.heap.size w2 w3) := ((Below.refl _ w2).alloc (Nat.le_refl _) _).trans (hB3.mono (by simp))
       have HE3 : Hid (Blk w3 w.heap.size 71 (exM b off cA) ∧ Blk w3 (w.heap.size + 1) 109 (vlC 0 0 0 0 none 0 0) ∧ Below w.heap.size w w3 ∧ Blk w3 w2.heap.size 109 (vlC 0 2 1 1 none 0 0)) := ⟨HZ2.out.1.below hB3'.out HZ2.out.1.lt, HZ2.out.2.1.below hB3'.out HZ2.out.2.1.lt, HZ2.out.2.2.trans (hB3'.out.mono HZ2.out.2.2.size), Blk.below (Blk.new _ _ _) hB3 (by simp)⟩
       have x0 : w3.cell? ⟨w2.heap.size, 0, none⟩ = some (.bool false) := HE3.out.2.2.2.cell 0
       have hl3 : w2.heap.size < w3.heap.size := HE3.out.2.2.2.lt
       clear b0 b1 b2 b3 b4 b5 b6 b7 b8 b9 d4 hB3)
    | (go_at_call 21; (refine (HO.out _ (by exact (HH.out.belo HE3.out.2.2.1).alloc _)).mono ?_); rintro e w4 ⟨rfl, rfl⟩))
  have HD : Hid (Blk (w3.alloc (.cells (vlC 2 2 0 2 none 0 0).toArray 109)).drew w.heap.size 71 (exM b off cA) ∧ Blk (w3.alloc (.cells (vlC 2 2 0 2 none 0 0).toArray 109)).drew w2.heap.size 109 (vlC 0 2 1 1 none 0 0) ∧ Blk (w3.alloc (.cells (vlC 2 2 0 2 none 0 0).toArray 109)).drew w3.heap.size 109 (vlC 2 2 0 2 none 0 0) ∧ Blk (w3.alloc (.cells (vlC 2 2 0 2 none 0 0).toArray 109)).drew (w.heap.size + 1) 109 (vlC 0 0 0 0 none 0 0)) := ⟨(HE3.out.1.alloc _).drew, (HE3.out.2.2.2.alloc _).drew, (Blk.new _ _ _).drew, (HE3.out.2.1.alloc _).drew⟩
  have HB9 : Hid (Below w.heap.size w (w3.alloc (.cells (vlC 2 2 0 2 none 0 0).toArray 109)).drew) := (HE3.out.2.2.1.alloc HE3.out.2.2.1.size _).drew
  have HBd := Lib.hid (fun W g => bounded_c (w := W) (.pointer (some ⟨cp, 0, none⟩)) 0 4 4 0 18 (some ⟨g, 0, none⟩) 2 2 (by decide) (by decide))
  refine region_K (by kernel_rfl) 9 (fun W' => Blk W' w.heap.size 71 (exM b off cA) ∧ Blk W' w2.heap.size 109 (vlC 0 2 1 1 none 0 0) ∧ Blk W' w3.heap.size 109 (vlC 2 2 0 2 none 0 0) ∧ Blk W' (w.heap.size + 1) 109 (vlC 0 0 0 0 none 0 0)) ?_
  refine AnyK.pure 0 (v := .pointer (some ⟨cp, 0, none⟩)) rfl (by kernel_rfl) (fun _ _ _ h => h) rfl (fun _ => by kernel_rfl) (fun _ => HD.out) ?_
  refine AnyK.pure 1 (v := .pointer (some ⟨w.heap.size, 0, none⟩)) rfl (by kernel_rfl) (fun _ _ _ h => h) rfl (fun _ => by kernel_rfl) (fun _ => HD.out) ?_
  refine AnyK.load 2 (v := .string m_star) rfl (by kernel_rfl) (by kernel_rfl) (by kernel_rfl) (fun _ _ _ h => h) rfl (fun w' hw' => ex_load (t := 9) (x := .tmp 97) (by rfl) (by kernel_rfl) agStr (hw'.1.cell 0)) HD.out ?_
  refine AnyK.load 3 (v := .agg (vlC 0 2 1 1 none 0 0).toArray) rfl (by kernel_rfl) (by kernel_rfl) (by kernel_rfl) (fun _ _ _ h => h) rfl (fun w' hw' => ex_loadS (t := 109) (x := .tmp 10) (by rfl) (by kernel_rfl) (ldAt_run hw'.2.1 109 0 (vlC 0 2 1 1 none 0 0) rfl _ Try.underlying109 rfl hdVl)) HD.out ?_
  refine AnyK.load 4 (v := .agg (vlC 2 2 0 2 none 0 0).toArray) rfl (by kernel_rfl) (by kernel_rfl) (by kernel_rfl) (fun _ _ _ h => h) rfl (fun w' hw' => ex_loadS (t := 109) (x := .tmp 11) (by rfl) (by kernel_rfl) (ldAt_run hw'.2.2.1 109 0 (vlC 2 2 0 2 none 0 0) rfl _ Try.underlying109 rfl hdVl)) HD.out ?_
  refine AnyK.pure 6 (v := .pointer (some ⟨w.heap.size, 3, none⟩)) rfl (by kernel_rfl) (fun _ _ _ h => h) rfl (fun _ => by kernel_rfl) (fun _ => HD.out) ?_
  refine AnyK.load 7 (v := .int .i64 18) rfl (by kernel_rfl) (by kernel_rfl) (by kernel_rfl) (fun _ _ _ h => h) rfl (fun w' hw' => ex_load (t := 3) (x := .tmp 102) (by rfl) (by kernel_rfl) agInt (hw'.1.cell 3)) HD.out ?_
  refine AnyK.enter 5 (d := some 101) (f := 59) (args := #[.string m_star, .agg (vlC 0 2 1 1 none 0 0).toArray, .agg (vlC 2 2 0 2 none 0 0).toArray]) (by rfl) (by kernel_rfl) (by kernel_rfl) ?_
  refine (HC.out _).mono ?_
  rintro e w5 ⟨g, rfl, hbg, hg5, hB5⟩
  have HD5 : Hid (Blk w5 w.heap.size 71 (exM b off cA) ∧ Blk w5 w2.heap.size 109 (vlC 0 2 1 1 none 0 0) ∧ Blk w5 w3.heap.size 109 (vlC 2 2 0 2 none 0 0) ∧ Blk w5 (w.heap.size + 1) 109 (vlC 0 0 0 0 none 0 0)) := ⟨HD.out.1.below hB5 HD.out.1.lt, HD.out.2.1.below hB5 HD.out.2.1.lt, HD.out.2.2.1.below hB5 HD.out.2.2.1.lt, HD.out.2.2.2.below hB5 HD.out.2.2.2.lt⟩
  refine ⟨_, rfl, fun _ => HD5.out, ?_⟩
  refine AnyK.enter 8 (d := some 104) (f := 56) (args := #[.pointer (some ⟨cp, 0, none⟩), .agg (vlC 0 4 4 0 (some ⟨g, 0, none⟩) 2 2).toArray, .int .i64 18]) (by rfl) (by kernel_rfl) (by kernel_rfl) ?_
  refine (HBd.out _ g).mono ?_
  rintro e w6 ⟨rfl, hB6⟩
  have HD6 : Hid (Blk w6 w.heap.size 71 (exM b off cA) ∧ Blk w6 w2.heap.size 109 (vlC 0 2 1 1 none 0 0) ∧ Blk w6 w3.heap.size 109 (vlC 2 2 0 2 none 0 0) ∧ Blk w6 (w.heap.size + 1) 109 (vlC 0 0 0 0 none 0 0)) := ⟨HD5.out.1.below hB6 HD5.out.1.lt, HD5.out.2.1.below hB6 HD5.out.2.1.lt, HD5.out.2.2.1.below hB6 HD5.out.2.2.1.lt, HD5.out.2.2.2.below hB6 HD5.out.2.2.2.lt⟩
  refine ⟨_, rfl, fun _ => HD6.out, ?_⟩
  refine AnyK.storeAll 9 (w.heap.size + 1) (vlC 0 4 4 0 (some ⟨g, 0, none⟩) 2 2) 109 (vlC 0 0 0 0 none 0 0) rfl rfl rfl rfl (by kernel_rfl) (by kernel_rfl) (by kernel_rfl) HD6.out.2.2.2 hdVl (vlC_one _ _ _ _ _ _ _) rfl (fun _ _ _ h => (by cases h)) (fun w9 hb9 ho9 => ?_)
  refine AnyK.done (by kernel_rfl) ?_
  have hx9 := HB9.out
  have hgs : w.heap.size + 1 < g := Nat.lt_of_lt_of_le HD.out.2.2.2.lt hg5
  have hg6 : Blk w9 g 24 nmM := ho9.blk (hbg.below hB6 hbg.lt) (by omega)
  have hB96 : Below w.heap.size w w6 := (hx9.trans (hB5.mono hx9.size)).trans (hB6.mono (Nat.le_trans hx9.size hB5.size))
  go_wp2
  refine bodyPost_ret (res_c rfl _ (w.heap.size + 1) 109 (vlC 0 4 4 0 (some ⟨g, 0, none⟩) 2 2) rfl hb9 _ Try.underlying109 rfl hdVl) rfl ⟨g, rfl, hg6, by omega, ho9.below hB96 (by omega) hB96.size⟩
end
end Go.Proofs.Ytloakenighnfgaa.Tr
