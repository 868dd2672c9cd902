/- Part of the proof: Ka. -/
import Derived.Test.YtloakenighnfgaaCvx04
import Derived.Test.YtloakenighnfgaaCvx31
set_option linter.unusedVariables false
namespace Go.Proofs.Ytloakenighnfgaa.Tr
open Go.RowKit
theorem hdVl : (Try.prog.info? 109).map (·.size) = some 7 := by kernel_rfl
theorem hdAc : (Try.prog.info? 92).map (·.size) = some 12 := by kernel_rfl
theorem hdCo : (Try.prog.info? 143).map (·.size) = some 5 := by kernel_rfl
theorem hdTy : (Try.prog.info? 40).map (·.size) = some 10 := by kernel_rfl
theorem hdNm : (Try.prog.info? 24).map (·.size) = some 3 := by kernel_rfl
@[reducible] def vlC (lo hi op k : Int) (A : Option Addr) (n c : Nat) : List Value := [.bool false, .slice none 0 0, .int .i64 lo, .int .i64 hi, .int .i64 op, .int .i64 k, .slice A n c]
theorem vlC_one (lo hi op k : Int) (A : Option Addr) (n c : Nat) : ∀ v ∈ vlC lo hi op k A n c, v.oneCell' = true := by
  intro v hv
  simp only [vlC, List.mem_cons, List.not_mem_nil, or_false] at hv
  rcases hv with rfl | rfl | rfl | rfl | rfl | rfl | rfl <;> rfl
section
variable {w : World}
set_option maxRecDepth 100000 in
set_option maxHeartbeats 1000000 in
theorem bounded_c (cp : Value) (lo hi op k at_ : Int) (A : Option Addr) (n c : Nat) (h1 : -2147483648 ≤ lo) (h2 : hi ≤ 2147483647) :
    Calls Try.prog 56 #[cp, .agg (vlC lo hi op k A n c).toArray, .int .i64 at_] w fun e w' => e = .returned (.agg (vlC lo hi op k A n c).toArray) ∧ Below w.heap.size w w' := by
  have x1 : ¬ lo < -2147483648 := by omega
  have x2 : ¬ hi > 2147483647 := by omega
  go_enter Try.func56, Try.ntmps56
  go_wp2
  refine bodyPost_ret (res_c rfl _ (w.heap.size + 1) 109 (vlC lo hi op k A n c) rfl (by exact (Blk.new' (by simp) rfl)) _ Try.underlying109 rfl hdVl) rfl ⟨rfl, ?_⟩
  exact ((Below.refl w.heap.size w).alloc (Nat.le_refl _) _).alloc (by simp) _
end
@[reducible] def ckC (mp : Nat) (st sk vr cd ls : Int) : List Value := [.slice none 0 0, .map (some mp), .int .i64 0, .int .i64 0, .int .i64 st, .int .i64 sk, .int .i64 0, .int .i64 0, .slice none 0 0, .slice none 0 0, .int .i64 vr, .int .i64 0, .int .i64 0, .int .i64 0, .int .i64 cd, .int .i64 0, .int .i64 ls]
structure CkS (cp mp : Nat) (l : List (ByteArray × List Value)) (st sk vr cd ls : Int) (w : World) : Prop where
  b : Blk w cp 66 (ckC mp st sk vr cd ls)
  m : MapB w mp l
  ne : cp ≠ mp
@[reducible] def sI : ByteArray := { data := #[105] }
@[reducible] def enI : List Value := [.int .i64 4, .int .i64 1, .bool false, .slice none 0 0, .int .i64 0, .int .i64 2, .int .i64 0, .int .i64 0, .slice none 0 0, .int .i64 0, .int .i64 0, .bool false]
section
variable {w w' : World} {cp mp : Nat} {l : List (ByteArray × List Value)} {st sk vr cd ls : Int}
theorem CkS.below (h : CkS cp mp l st sk vr cd ls w) {B : Nat} (hb : Below B w w') (h1 : cp < B) (h2 : mp < B) : CkS cp mp l st sk vr cd ls w' := ⟨h.b.below hb h1, h.m.below hb h2, h.ne⟩
theorem CkS.belo (h : CkS cp mp l st sk vr cd ls w) (hb : Below w.heap.size w w') : CkS cp mp l st sk vr cd ls w' := h.below hb h.b.lt h.m.lt
theorem CkS.alloc (h : CkS cp mp l st sk vr cd ls w) (o : Obj) : CkS cp mp l st sk vr cd ls (w.alloc o) := h.belo ((Below.refl _ w).alloc (Nat.le_refl _) o)
theorem ok_k (h : CkS cp mp l st sk vr cd ls w) : Calls Try.prog 21 #[.pointer (some ⟨cp, 0, none⟩)] w fun e w' => e = .returned (.bool true) ∧ w = w' := by
  have c1 : w.cell? ⟨cp, 12, none⟩ = some (.int .i64 0) := h.b.cell 12
  go_enter Try.func21, Try.ntmps21
  go_wp2
  go_ret
  exact ⟨rfl, rfl⟩
theorem variable_c (h : CkS cp mp l st sk 1 cd ls w) : Calls Try.prog 84 #[.pointer (some ⟨cp, 0, none⟩)] w fun e w' => e = .returned (.int .i64 1) ∧ CkS cp mp l st sk 2 cd ls w' ∧ Wr [cp] w w' := by
  have c1 : w.cell? ⟨cp, 10, none⟩ = some (.int .i64 1) := h.b.cell 10
  have f1 := h.b.frozen 10
  have HH := Lib.hid h
  clear h
  go_enter Try.func84, Try.ntmps84
  go_wp2
  go_ret
  exact ⟨rfl, ⟨HH.out.b.set_ 10 _, HH.out.m.keep ((Only.refl w cp).setCell 10 _) HH.out.ne.symm, HH.out.ne⟩, (Wr.refl _ _).setCell (by simp) _⟩
set_option maxRecDepth 100000 in
set_option maxHeartbeats 1000000 in
theorem expr_num (v at_ aft : Int) (r : Bool) (B : Option Addr) (c0 : Nat) (cpv : Value) (h1 : -2147483648 ≤ v) (h2 : v ≤ 2147483647) :
    Calls Try.prog 34 #[cpv, .agg #[.string k_number, .int .i64 v, .string zs, .int .i64 at_, .slice B 0 c0], .bool r, .int .i64 aft] w fun e w' => e = .returned (.agg (vlC v v 0 v none 0 0).toArray) ∧ Below w.heap.size w w' := by
  have HB := Lib.hid (fun W => bounded_c (w := W) cpv v v 0 v at_ none 0 0 h1 h2)
  have HZ : Hid (∀ W, Below (((w.alloc (.cells #[.string k_number, .int .i64 v, .string zs, .int .i64 at_, .slice B 0 c0] 71)).alloc (.cells (vlC 0 0 0 0 none 0 0).toArray 109)).alloc (.cells (vlC v v 0 v none 0 0).toArray 109)).heap.size (((w.alloc (.cells #[.string k_number, .int .i64 v, .string zs, .int .i64 at_, .slice B 0 c0] 71)).alloc (.cells (vlC 0 0 0 0 none 0 0).toArray 109)).alloc (.cells (vlC v v 0 v none 0 0).toArray 109)) W → Blk W (w.heap.size + 1) 109 (vlC 0 0 0 0 none 0 0) ∧ Below w.heap.size w W) := fun W hW =>
    ⟨Blk.below ((Blk.new' (by simp) rfl).alloc _) hW (by simp), (((((Below.refl w.heap.size w).alloc (Nat.le_refl _) _).alloc (by simp) _).alloc (by simp; omega) _)).trans (hW.mono (by simp; omega))⟩
  go_enter Try.func34, Try.ntmps34
  go_wp2_with (first
    | (go_at_call 56; (refine (HB.out _).mono ?_); rintro e w2 ⟨rfl, hB2⟩; have HZ2 := Lib.hid (HZ.out _ (by exact hB2)); clear hB2)
    | (refine wpList_store_all rfl 109 (.tmp 8) (.tmp 28) rfl (w.heap.size + 1) (vlC v v 0 v none 0 0) (by rfl) (by rfl) 109 (vlC 0 0 0 0 none 0 0) (by exact HZ2.out.1) hdVl (vlC_one _ _ _ _ _ _ _) rfl ?_; intro w9_ hb9 ho9))
  exact bodyPost_ret (res_c rfl _ (w.heap.size + 1) 109 (vlC v v 0 v none 0 0) rfl hb9 _ Try.underlying109 rfl hdVl) rfl ⟨rfl, ho9.below HZ2.out.2 (by omega) HZ2.out.2.size⟩
end
end Go.Proofs.Ytloakenighnfgaa.Tr
