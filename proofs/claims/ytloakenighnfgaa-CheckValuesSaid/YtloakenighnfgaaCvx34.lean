/- Part of the proof: Kc. -/
import Derived.Test.YtloakenighnfgaaCvx33
set_option linter.unusedVariables false
namespace Go.Proofs.Ytloakenighnfgaa.Tr
open Go.RowKit
section
variable {w w' : World} {cp mp : Nat} {l : List (ByteArray × List Value)} {st sk vr cd ls : Int}
set_option maxRecDepth 100000 in
set_option maxHeartbeats 1000000 in
theorem expr_name (B : Option Addr) (c0 : Nat) (at_ : Int) (h : CkS cp mp [(sI, enI)] st sk vr cd ls w) :
    Calls Try.prog 34 #[.pointer (some ⟨cp, 0, none⟩), .agg #[.string k_name, .int .i64 0, .string sI, .int .i64 at_, .slice B 0 c0], .bool true, .int .i64 0] w fun e w' => e = .returned (.agg (vlC 0 2 1 1 none 0 0).toArray) ∧ Below w.heap.size w w' := by
  have HN := Lib.hid (fun W (h : CkS cp mp [(sI, enI)] st sk vr cd ls W) => name_c B c0 at_ h)
  have HH := Lib.hid h
  clear h
  have HZ : Hid (∀ W, Below ((w.alloc (.cells #[.string k_name, .int .i64 0, .string sI, .int .i64 at_, .slice B 0 c0] 71)).alloc (.cells (vlC 0 0 0 0 none 0 0).toArray 109)).heap.size ((w.alloc (.cells #[.string k_name, .int .i64 0, .string sI, .int .i64 at_, .slice B 0 c0] 71)).alloc (.cells (vlC 0 0 0 0 none 0 0).toArray 109)) W → Blk W (w.heap.size + 1) 109 (vlC 0 0 0 0 none 0 0) ∧ Below w.heap.size w W) := fun W hW =>
    ⟨Blk.below (Blk.new' (by simp) rfl) hW (by simp), ((((Below.refl w.heap.size w).alloc (Nat.le_refl _) _).alloc (by simp) _)).trans (hW.mono (by simp; omega))⟩
  go_enter Try.func34, Try.ntmps34
  go_wp2_with (first
    | (go_at_call 57; (refine (HN.out _ (by exact (HH.out.alloc _).alloc _)).mono ?_); rintro e w2 ⟨rfl, hB2⟩; have HZ2 := Lib.hid (HZ.out _ (by exact hB2)); clear hB2)
    | (refine wpList_store_all rfl 109 (.tmp 8) (.tmp 50) rfl (w.heap.size + 1) (vlC 0 2 1 1 none 0 0) (by rfl) (by rfl) 109 (vlC 0 0 0 0 none 0 0) (by exact HZ2.out.1) hdVl (vlC_one _ _ _ _ _ _ _) rfl ?_; intro w9_ hb9 ho9))
  all_goals exact bodyPost_ret (res_c rfl _ (w.heap.size + 1) 109 (vlC 0 2 1 1 none 0 0) rfl hb9 _ Try.underlying109 rfl hdVl) rfl ⟨rfl, ho9.below HZ2.out.2 (by omega) HZ2.out.2.size⟩
theorem mn4 (ts : Array TypeId) (t : TypeId) (W : World) : (Builtin.min_ ts t #[.int .i64 0, .int .i64 0, .int .i64 4, .int .i64 4]).run Try.prog W = .ok (.int .i64 0) W := by simp [Builtin.min_, Builtin.min2]
theorem mx4 (ts : Array TypeId) (t : TypeId) (W : World) : (Builtin.max_ ts t #[.int .i64 0, .int .i64 0, .int .i64 4, .int .i64 4]).run Try.prog W = .ok (.int .i64 4) W := by simp [Builtin.max_, Builtin.max2]
@[reducible] def nmM : List Value := [.int .i64 1, .int .i64 1, .slice none 0 0, .int .i64 0, .int .i64 2, .slice none 0 0]
set_option maxRecDepth 100000 in
set_option maxHeartbeats 1000000 in
theorem combine_c (w : World) :
    Calls Try.prog 59 #[.string m_star, .agg (vlC 0 2 1 1 none 0 0).toArray, .agg (vlC 2 2 0 2 none 0 0).toArray] w fun e w' => ∃ g, e = .returned (.agg (vlC 0 4 4 0 (some ⟨g, 0, none⟩) 2 2).toArray) ∧ Blk w' g 24 nmM ∧ w.heap.size ≤ g ∧ Below w.heap.size w w' := by
  have hm1 := mn4
  have hm2 := mx4
  go_enter Try.func59, Try.ntmps59
  go_wp2
  go_region
  go_wp2
  go_region
  go_wp2
  exact bodyPost_ret (res_c rfl _ (w.heap.size + 1 + 1) 109 (vlC 0 4 4 0 (some ⟨w.heap.size + 1 + 1 + 1 + 1, 0, none⟩) 2 2) rfl (by exact (((Blk.new' (by simp) rfl).alloc _).alloc _)) _ Try.underlying109 rfl hdVl) rfl ⟨_, rfl, Blk.new' (by simp) rfl, by omega, ((((((Below.refl w.heap.size w).alloc (Nat.le_refl _) _).alloc (by simp) _).alloc (by simp; omega) _).alloc (by simp; omega) _).alloc (by simp; omega) _).drew.drew⟩
end
end Go.Proofs.Ytloakenighnfgaa.Tr
