/- Part of the proof: Kb. -/
import Derived.Test.YtloakenighnfgaaCvx32
set_option linter.unusedVariables false
namespace Go.Proofs.Ytloakenighnfgaa.Tr
open Go.RowKit
theorem map_kt : Try.prog.underlying 64 = some (.map 9 113) := by kernel_rfl
theorem str_ut : Try.prog.underlying 9 = some .string := by kernel_rfl
@[reducible] def en0 : List Value := [.int .i64 0, .int .i64 0, .bool false, .slice none 0 0, .int .i64 0, .int .i64 0, .int .i64 0, .int .i64 0, .slice none 0 0, .int .i64 0, .int .i64 0, .bool false]
theorem zEn (w : World) : (zeroValue 113).run Try.prog w = .ok (.agg en0.toArray) w := by kernel_rfl
section
variable {w w' : World} {cp mp : Nat} {l : List (ByteArray × List Value)} {st sk vr cd ls : Int}
theorem lk_yes (h : MapB w mp [(sI, enI)]) : (Instr.lookup 64 (.map (some mp)) (.string sI) true).run Try.prog w = .ok (.tuple #[.agg enI.toArray, .bool true]) w := run_lookupM map_kt str_ut (zEn w) h sI
theorem lk_no (h : MapB w mp []) : (Instr.lookup 64 (.map (some mp)) (.string sI) true).run Try.prog w = .ok (.tuple #[.agg en0.toArray, .bool false]) w := run_lookupM map_kt str_ut (zEn w) h sI
set_option maxRecDepth 100000 in
set_option maxHeartbeats 1000000 in
theorem name_c (B : Option Addr) (c0 : Nat) (at_ : Int) (h : CkS cp mp [(sI, enI)] st sk vr cd ls w) :
    Calls Try.prog 57 #[.pointer (some ⟨cp, 0, none⟩), .agg #[.string k_name, .int .i64 0, .string sI, .int .i64 at_, .slice B 0 c0], .bool true, .int .i64 0] w fun e w' => e = .returned (.agg (vlC 0 2 1 1 none 0 0).toArray) ∧ Below w.heap.size w w' := by
  have c1 : w.cell? ⟨cp, 1, none⟩ = some (.map (some mp)) := h.b.cell 1
  have HH := Lib.hid h
  clear h
  go_enter Try.func57, Try.ntmps57
  go_wp2
  have hM := (HH.out.alloc (.cells #[.string k_name, .int .i64 0, .string sI, .int .i64 at_, .slice B 0 c0] 71)).alloc (.cells (vlC 0 0 0 0 none 0 0).toArray 109)
  have hE : Blk ((w.alloc (.cells #[.string k_name, .int .i64 0, .string sI, .int .i64 at_, .slice B 0 c0] 71)).alloc (.cells (vlC 0 0 0 0 none 0 0).toArray 109)) w.heap.size 71 [.string k_name, .int .i64 0, .string sI, .int .i64 at_, .slice B 0 c0] := (Blk.new' rfl rfl).alloc _
  have hR : Blk ((w.alloc (.cells #[.string k_name, .int .i64 0, .string sI, .int .i64 at_, .slice B 0 c0] 71)).alloc (.cells (vlC 0 0 0 0 none 0 0).toArray 109)) (w.heap.size + 1) 109 (vlC 0 0 0 0 none 0 0) := Blk.new' (by simp) rfl
  have hB5 : Below w.heap.size w ((w.alloc (.cells #[.string k_name, .int .i64 0, .string sI, .int .i64 at_, .slice B 0 c0] 71)).alloc (.cells (vlC 0 0 0 0 none 0 0).toArray 109)) := ((Below.refl w.heap.size w).alloc (Nat.le_refl _) _).alloc (by simp) _
  have hz5 : ((w.alloc (.cells #[.string k_name, .int .i64 0, .string sI, .int .i64 at_, .slice B 0 c0] 71)).alloc (.cells (vlC 0 0 0 0 none 0 0).toArray 109)).heap.size ≥ w.heap.size + 2 := by simp
  generalize ((w.alloc (.cells #[.string k_name, .int .i64 0, .string sI, .int .i64 at_, .slice B 0 c0] 71)).alloc (.cells (vlC 0 0 0 0 none 0 0).toArray 109)) = w5 at *
  clear c1
  have c1 : w5.cell? ⟨cp, 1, none⟩ = some (.map (some mp)) := hM.b.cell 1
  have c2 : w5.cell? ⟨w.heap.size, 2, none⟩ = some (.string sI) := hE.cell 2
  have hlk1 : (Instr.lookup 64 (.map (some mp)) (.string sI) true).run Try.prog w5.drew = .ok (.tuple #[.agg enI.toArray, .bool true]) w5.drew := lk_yes (show MapB _ mp _ from hM.m)
  have hlk2 : (Instr.lookup 64 (.map (some mp)) (.string sI) true).run Try.prog (w5.alloc (.cells en0.toArray 113)).drew = .ok (.tuple #[.agg enI.toArray, .bool true]) (w5.alloc (.cells en0.toArray 113)).drew := lk_yes (show MapB _ mp _ from hM.m.alloc _)
  have hcl : cp < w5.heap.size := hM.b.lt
  have hel : w.heap.size < w5.heap.size := by omega
  have hel1 : w.heap.size + 1 < w5.heap.size := by omega
  go_region
  go_wp2_with (refine wpList_store_all rfl 109 (.tmp 8) (.tmp 63) rfl (w.heap.size + 1) (vlC 0 2 1 1 none 0 0) (by rfl) (by rfl) 109 (vlC 0 0 0 0 none 0 0) (by exact (hR.alloc _).drew.alloc _) hdVl (vlC_one _ _ _ _ _ _ _) rfl ?_; intro w9_ hb9 ho9)
  all_goals exact bodyPost_ret (res_c rfl _ (w.heap.size + 1) 109 (vlC 0 2 1 1 none 0 0) rfl hb9 _ Try.underlying109 rfl hdVl) rfl ⟨rfl, ho9.below ((hB5.alloc hB5.size _).drew.alloc (by simp; omega) _) (by omega) (by simp; omega)⟩
end
end Go.Proofs.Ytloakenighnfgaa.Tr
