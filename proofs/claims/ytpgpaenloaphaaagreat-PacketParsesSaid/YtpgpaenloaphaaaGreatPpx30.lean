/- Part of the proof: Inv, Cur, Zpf, Val. -/
import Derived.Test.YtpgpaenloaphaaaGreatPpx28
namespace Go.Proofs.YtpgpaenloaphaaaGreat
open Go.RowKit
def fz : Nat → List UInt8
 | 0 => List.replicate 32 0
 | i + 1 => (fz i).set i 255
theorem fz_len (i : Nat) : (fz i).length = 32 := by
 induction i with
 | zero => rfl
 | succ i ih => rw [fz, List.length_set, ih]
def eP : List UInt8 := ((fz 32).set 0 235).set 31 127
theorem has_pE : ∃ E, leN eP = E := ⟨_, rfl⟩
noncomputable def pE : Nat := Classical.choose has_pE
theorem pE_eq : leN eP = pE := Classical.choose_spec has_pE
theorem Blk.rdA {w : World} {g : Nat} {t : TypeId} {l : List UInt8} {n : Nat} (h : Blk w g t (u8s l)) (hn : l.length = n) : Rd w (some ⟨g, 0, none⟩) n (u8s l) := by
 have := h.rd 0 n (by rw [u8s_length]; omega)
 rw [List.drop_zero, List.take_of_length_le (by rw [u8s_length]; omega)] at this
 exact this
attribute [local go_sem ↓] ldq_el
set_option maxRecDepth 100000 in
set_option maxHeartbeats 1000000 in
theorem inv_el (a : Nat) (w : World) (ha : a < 115792089237316195423570985008687907853269984665640564039457584007913129639936) :
   Calls Tryz.prog 147 #[.agg (elc a).toArray] w fun e w' => e = .returned (.agg (elc (a ^ pE % pr)).toArray) ∧ Below w.heap.size w w' := by
 have HMK : Hid (∀ W, (Instr.makeSlice 22 (.int .i64 32) (.int .i64 32)).run Tryz.prog W = .ok (.slice (some ⟨W.heap.size, 0, none⟩) 32 32) (W.alloc (.cells (u8s (fz 0)).toArray 5))) := fun W => by kernel_rfl
 obtain ⟨W1, hW1⟩ : ∃ W1, W1 = ((w.alloc (.cells (elc a).toArray 184)).alloc (.cells (l4 0 0 0 0).toArray 184)).alloc (.cells (u8s (fz 0)).toArray 5) := ⟨_, rfl⟩
 have HM0 : Hid (Blk W1 w.heap.size 184 (elc a) ∧ Blk W1 (w.heap.size + 1) 184 (l4 0 0 0 0) ∧ Blk W1 (w.heap.size + 2) 5 (u8s (fz 0)) ∧ Below w.heap.size w W1) :=
   hW1 ▸ ⟨((Blk.new w _ _).alloc _).alloc _, (Blk.new' (by simp) rfl).alloc _, Blk.new' (by simp) rfl, (((Below.refl _ w).alloc (Nat.le_refl _) _).alloc (by simp) _).alloc (by simp <;> omega) _⟩
 have hmk := HMK.out
 go_enter Tryz.func147, Tryz.ntmps147
 go_wp2
 go_loopg [8] 32 (fun kk q wr => ∃ i : Nat, kk = 32 - i ∧ q = .int .i64 (i : Int) ∧ i ≤ 32 ∧ Blk wr w.heap.size 184 (elc a) ∧ Blk wr (w.heap.size + 1) 184 (l4 0 0 0 0) ∧ Blk wr (w.heap.size + 2) 5 (u8s (fz i)) ∧ Below w.heap.size w wr)
 case atStart => exact ⟨0, rfl, rfl, by omega, hW1 ▸ HM0.out⟩
 case round =>
   clear HM0 hW1
   obtain ⟨i, hgk, rfl, hi, hA, hZ, hS, hE⟩ := hrel
   rcases Nat.lt_or_ge i 32 with hlt | hge
   · have hlt2 : (i : Int) < 32 := by omega
     have cc : wr.cell? ⟨w.heap.size + 1 + 1, i, none⟩ = some (.int .u8 (((fz i).getD i 0).toNat : Int)) := by
       refine (hS.cell i).trans ?_
       rw [u8s_getElem?, List.getD_eq_getElem?_getD, List.getElem?_eq_getElem (by rw [fz_len]; exact hlt)]
       rfl
     have ff : wr.frozen? ⟨w.heap.size + 1 + 1, i, none⟩ = false := hS.frozen i
     have HA := qh (hA.far (p := ⟨w.heap.size + 2, i, none⟩) (by simp) (.int .u8 255))
     have HZ := qh (hZ.far (p := ⟨w.heap.size + 2, i, none⟩) (by simp) (.int .u8 255))
     have HS : Hid (Blk (wr.setCell ⟨w.heap.size + 2, i, none⟩ (.int .u8 255)) (w.heap.size + 2) 5 (u8s (fz (i + 1)))) := (u8s_set (fz i) i 255) ▸ hS.set_ i (.int .u8 255)
     have HE := qh (hE.setCell (p := ⟨w.heap.size + 2, i, none⟩) (Nat.le_add_right _ _) (.int .u8 255))
     clear hA hZ hS hE
     go_wp2
     go_roundg (32 - (i + 1))
     case measure => omega
     case rel => exact ⟨i + 1, rfl, by go_num, by omega, HA.out, HZ.out, HS.out, HE.out⟩
   · obtain rfl : i = 32 := by omega
     have hlt2 : ¬ (32 : Int) < 32 := by omega
     have cc0 : wr.cell? ⟨w.heap.size + 1 + 1, 0, none⟩ = some (.int .u8 255) := (hS.cell 0).trans rfl
     have ff0 : wr.frozen? ⟨w.heap.size + 1 + 1, 0, none⟩ = false := hS.frozen 0
     have hS1 := hS.set_ 0 (.int .u8 235)
     have cc1 : (wr.setCell ⟨w.heap.size + 1 + 1, 0, none⟩ (.int .u8 235)).cell? ⟨w.heap.size + 1 + 1, 31, none⟩ = some (.int .u8 255) := (hS1.cell 31).trans rfl
     have ff1 : (wr.setCell ⟨w.heap.size + 1 + 1, 0, none⟩ (.int .u8 235)).frozen? ⟨w.heap.size + 1 + 1, 31, none⟩ = false := hS1.frozen 31
     have HS : Hid (Blk ((wr.setCell ⟨w.heap.size + 1 + 1, 0, none⟩ (.int .u8 235)).setCell ⟨w.heap.size + 1 + 1, 31, none⟩ (.int .u8 127)) (w.heap.size + 2) 5 (u8s eP)) := hS1.set_ 31 (.int .u8 127)
     have HA : Hid (Blk ((wr.setCell ⟨w.heap.size + 1 + 1, 0, none⟩ (.int .u8 235)).setCell ⟨w.heap.size + 1 + 1, 31, none⟩ (.int .u8 127)) w.heap.size 184 (elc a)) := (hA.far (p := ⟨w.heap.size + 2, 0, none⟩) (by simp) (.int .u8 235)).far (p := ⟨w.heap.size + 2, 31, none⟩) (by simp) (.int .u8 127)
     have HZ : Hid (Blk ((wr.setCell ⟨w.heap.size + 1 + 1, 0, none⟩ (.int .u8 235)).setCell ⟨w.heap.size + 1 + 1, 31, none⟩ (.int .u8 127)) (w.heap.size + 1) 184 (l4 0 0 0 0)) := (hZ.far (p := ⟨w.heap.size + 2, 0, none⟩) (by simp) (.int .u8 235)).far (p := ⟨w.heap.size + 2, 31, none⟩) (by simp) (.int .u8 127)
     have HE : Hid (Below w.heap.size w ((wr.setCell ⟨w.heap.size + 1 + 1, 0, none⟩ (.int .u8 235)).setCell ⟨w.heap.size + 1 + 1, 31, none⟩ (.int .u8 127))) := (hE.setCell (p := ⟨w.heap.size + 2, 0, none⟩) (Nat.le_add_right _ _) (.int .u8 235)).setCell (p := ⟨w.heap.size + 2, 31, none⟩) (Nat.le_add_right _ _) (.int .u8 127)
     have HP : Hid (∀ c, Calls Tryz.prog 170 #[.agg (elc a).toArray, .slice (some ⟨w.heap.size + 1 + 1, 0, none⟩) 32 c] ((wr.setCell ⟨w.heap.size + 1 + 1, 0, none⟩ (.int .u8 235)).setCell ⟨w.heap.size + 1 + 1, 31, none⟩ (.int .u8 127)) fun e w' => e = .returned (.agg (elc (a ^ pE % pr)).toArray) ∧ Below ((wr.setCell ⟨w.heap.size + 1 + 1, 0, none⟩ (.int .u8 235)).setCell ⟨w.heap.size + 1 + 1, 31, none⟩ (.int .u8 127)).heap.size ((wr.setCell ⟨w.heap.size + 1 + 1, 0, none⟩ (.int .u8 235)).setCell ⟨w.heap.size + 1 + 1, 31, none⟩ (.int .u8 127)) w') := fun c =>
       pE_eq ▸ pow_el a _ 32 c eP ((wr.setCell ⟨w.heap.size + 1 + 1, 0, none⟩ (.int .u8 235)).setCell ⟨w.heap.size + 1 + 1, 31, none⟩ (.int .u8 127)) ha (by omega) (HS.out.rdA (by rw [eP, List.length_set, List.length_set, fz_len])) (by rw [eP, List.length_set, List.length_set, fz_len])
     have hld := elc_ld HA.out
     clear hA hZ hS hE hS1 hgk hmk
     go_wp2_with (first
       | (go_at_call 170; (with_reducible refine (HP.out _).mono ?_); rintro e w4 ⟨rfl, hB1⟩; have HZ4 := qbl HZ hB1; have HE4 := qtr HE hB1; clear hB1)
       | (refine wpList_store_all rfl 184 (.tmp 2) (.tmp 21) rfl (w.heap.size + 1) (elc (a ^ pE % pr)) (by rfl) (by rfl) 184 _ HZ4.out (by exact hdEl) (elc_one _) rfl ?_; intro w5 hb5 ho5; have HB5 := qh hb5; have HE5 := qh (ho5.below HE4.out (by omega) HE4.out.size); clear hb5 ho5))
     exact bodyPost_ret (res_cell rfl _ _ _ _ rfl HB5.out _ Tryz.underlying184 rfl (by exact hdEl)) rfl ⟨rfl, HE5.out⟩
end Go.Proofs.YtpgpaenloaphaaaGreat
namespace Go.Proofs.YtpgpaenloaphaaaGreat
open Go.RowKit
def fadd (a b : Nat) : Nat := (a + b) % pr
def fsub (a b : Nat) : Nat := (a + (pr - b % pr)) % pr
def fmul (a b : Nat) : Nat := a * b % pr
theorem fadd_lt (a b : Nat) : fadd a b < pr := pr_lt' _
theorem fsub_lt (a b : Nat) : fsub a b < pr := pr_lt' _
theorem fmul_lt (a b : Nat) : fmul a b < pr := pr_lt' _
theorem sum2 (a b : Nat) : sumT [a, b] 2 % pr = fadd a b := by simp [sumT, fadd]
theorem prod2 (a b : Nat) : prodT [a, b] 2 % pr = fmul a b := by simp [prodT, fmul]
structure LS where
 x2 : Nat
 z2 : Nat
 x3 : Nat
 z3 : Nat
def LS.swap (s : LS) : LS := ⟨s.x3, s.z3, s.x2, s.z2⟩
def LS.a (s : LS) : Nat := fadd s.x2 s.z2
def LS.b (s : LS) : Nat := fsub s.x2 s.z2
def LS.c (s : LS) : Nat := fadd s.x3 s.z3
def LS.d (s : LS) : Nat := fsub s.x3 s.z3
def LS.aa (s : LS) : Nat := fmul s.a s.a
def LS.bb (s : LS) : Nat := fmul s.b s.b
def LS.e (s : LS) : Nat := fsub s.aa s.bb
def LS.da (s : LS) : Nat := fmul s.d s.a
def LS.cb (s : LS) : Nat := fmul s.c s.b
def LS.step (x1 : Nat) (s : LS) : LS :=
 ⟨fmul s.aa s.bb, fmul s.e (fadd s.aa (fmul 121665 s.e)), fmul (fadd s.da s.cb) (fadd s.da s.cb), fmul x1 (fmul (fsub s.da s.cb) (fsub s.da s.cb))⟩
def LS.turn (b : Bool) (s : LS) : LS := if b then s.swap else s
def LS.round (x1 : Nat) (b : Bool) (s : LS) : LS := ((s.turn b).step x1).turn b
def kbit (n : List UInt8) (t : Nat) : Bool := (n.getD (t / 8) 0).toNat / 2 ^ (t % 8) % 2 == 1
def LS.start (x1 : Nat) : LS := ⟨1, 0, x1, 1⟩
def ladT (x1 : Nat) (f : Nat → Bool) : Nat → LS
 | 0 => LS.start x1
 | k + 1 => (ladT x1 f k).round x1 (f (254 - k))
def LS.Ok (s : LS) : Prop := s.x2 < pr ∧ s.z2 < pr ∧ s.x3 < pr ∧ s.z3 < pr
theorem LS.Ok.swap {s : LS} (h : s.Ok) : s.swap.Ok := ⟨h.2.2.1, h.2.2.2, h.1, h.2.1⟩
theorem LS.Ok.turn {s : LS} (h : s.Ok) (b : Bool) : (s.turn b).Ok := by
 cases b
 · exact h
 · exact h.swap
theorem LS.step_ok (x1 : Nat) (s : LS) : (s.step x1).Ok := ⟨fmul_lt _ _, fmul_lt _ _, fmul_lt _ _, fmul_lt _ _⟩
theorem ladT_ok (x1 : Nat) (hx : x1 < pr) (f : Nat → Bool) (k : Nat) : (ladT x1 f k).Ok := by
 cases k with
 | zero => exact ⟨by simp [ladT, LS.start, pr], by simp [ladT, LS.start, pr], hx, by simp [ladT, LS.start, pr]⟩
 | succ k => exact (LS.step_ok _ _).turn _
def clampB (k : List UInt8) : List UInt8 := (k.set 0 (k.getD 0 0 &&& 248)).set 31 (k.getD 31 0 &&& 127 ||| 64)
def readN (u : List UInt8) : Nat := leN u % 57896044618658097711785492504343953926634992332820282019728792003956564819968 % pr
noncomputable def multN (k u : List UInt8) : Nat := let s := ladT (readN u) (kbit (clampB k)) 255; fmul s.x2 (s.z2 ^ pE % pr)
end Go.Proofs.YtpgpaenloaphaaaGreat
namespace Go.Proofs.YtpgpaenloaphaaaGreat
open Go.RowKit
instance : NeZero pr := ⟨by unfold pr; decide⟩
theorem pr_two : 2 ≤ pr := Nat.le_of_ble_eq_true (by kernel_rfl)
end Go.Proofs.YtpgpaenloaphaaaGreat
namespace Go.Proofs.YtpgpaenloaphaaaGreat
open Go.RowKit
theorem el_mid {w : World} {g : Nat} {t : TypeId} {cs : List Value} (hb : Blk w g t cs) (o n : Nat) (hd : (cs.drop o).take 4 = elc n) : (ldAt 184 (.pointer (some ⟨g, o, none⟩))).run Tryz.prog w = .ok (.agg (elc n).toArray) w :=
 ldAt_run hb 184 o (elc n) hd _ Tryz.underlying184 rfl (by exact hdEl)
attribute [local go_sem ↓] ldq_el
set_option maxRecDepth 100000 in
set_option maxHeartbeats 1000000 in
theorem val_el (x y : Nat) (w : World) (hx : x < 115792089237316195423570985008687907853269984665640564039457584007913129639936) (hy : y < 115792089237316195423570985008687907853269984665640564039457584007913129639936) :
   Calls Tryz.prog 116 #[.agg (elc x ++ elc y).toArray] w fun e w' => e = .returned (.agg (elc (x * (y ^ pE % pr) % pr)).toArray) ∧ Below w.heap.size w w' := by
 have HM0 : Hid (Blk ((w.alloc (.cells (elc x ++ elc y).toArray 192)).alloc (.cells (l4 0 0 0 0).toArray 184)) w.heap.size 192 (elc x ++ elc y) ∧ Blk ((w.alloc (.cells (elc x ++ elc y).toArray 192)).alloc (.cells (l4 0 0 0 0).toArray 184)) (w.heap.size + 1) 184 (l4 0 0 0 0) ∧ Below w.heap.size w ((w.alloc (.cells (elc x ++ elc y).toArray 192)).alloc (.cells (l4 0 0 0 0).toArray 184))) :=
   ⟨(Blk.new w _ _).alloc _, Blk.new' (by simp) rfl, ((Below.refl _ w).alloc (Nat.le_refl _) _).alloc (by simp) _⟩
 go_enter Tryz.func116, Tryz.ntmps116
 go_wp2
 refine region_K (by kernel_rfl) 6 (fun w' => Blk w' w.heap.size 192 (elc x ++ elc y)) ?_
 have HT := qh HM0.out.1.drew
 refine AnyK.pure 0 (v := .pointer (some ⟨w.heap.size, 0, none⟩)) rfl (by kernel_rfl) (fun _ _ _ h => h) rfl (fun _ => by kernel_rfl) (fun _ => HT.out) ?_
 refine AnyK.load 1 (v := .agg (elc x).toArray) rfl (by kernel_rfl) (by kernel_rfl) (by kernel_rfl) (fun _ _ _ h => h) rfl (fun w' hw' => ey_loadR (x := .tmp 3) (by rfl) (by kernel_rfl) (el_mid hw' 0 x rfl)) HT.out ?_
 refine AnyK.pure 2 (v := .pointer (some ⟨w.heap.size, 4, none⟩)) rfl (by kernel_rfl) (fun _ _ _ h => h) rfl (fun _ => by kernel_rfl) (fun _ => HT.out) ?_
 refine AnyK.load 3 (v := .agg (elc y).toArray) rfl (by kernel_rfl) (by kernel_rfl) (by kernel_rfl) (fun _ _ _ h => h) rfl (fun w' hw' => ey_loadR (x := .tmp 5) (by rfl) (by kernel_rfl) (el_mid hw' 4 y rfl)) HT.out ?_
 refine AnyK.enter 4 (d := some 7) (f := 147) (args := #[.agg (elc y).toArray]) (by rfl) (by kernel_rfl) (by kernel_rfl) ?_
 refine (inv_el y _ hy).mono ?_
 rintro e w2 ⟨rfl, hB2⟩
 have HT2 := qbl HT hB2
 have HZ2 := HM0.out.2.1.drew.below hB2 HM0.out.2.1.drew.lt
 have HE2 := HM0.out.2.2.drew.trans (hB2.mono HM0.out.2.2.drew.size)
 refine ⟨_, rfl, fun _ => HT2.out, ?_⟩
 refine AnyK.enter 5 (d := some 8) (f := 146) (args := #[.agg (elc x).toArray, .agg (elc (y ^ pE % pr)).toArray]) (by rfl) (by kernel_rfl) (by kernel_rfl) ?_
 refine (mul_el x (y ^ pE % pr) hx (pr_lt _) _).mono ?_
 rintro e w3 ⟨rfl, hB3⟩
 have HT3 := qbl HT2 hB3
 have HZ3 := HZ2.below hB3 HZ2.lt
 have HE3 := HE2.trans (hB3.mono HE2.size)
 refine ⟨_, rfl, fun _ => HT3.out, ?_⟩
 refine AnyK.storeAll 6 (w.heap.size + 1) (elc (x * (y ^ pE % pr) % pr)) 184 _ rfl rfl rfl (by rfl) (by kernel_rfl) (by kernel_rfl) (by kernel_rfl) HZ3 (by exact hdEl) (elc_one _) rfl (fun _ _ _ h => (by cases h)) ?_
 intro w6 hb6 ho6
 refine AnyK.done (by kernel_rfl) ?_
 have HE6 := qh (ho6.below HE3 (by omega) HE3.size)
 have HB6 := qh hb6
 clear hb6 ho6 HZ3 HE3 HE2 HZ2 hB2 hB3
 go_wp2
 exact bodyPost_ret (res_cell rfl _ _ _ _ rfl HB6.out _ Tryz.underlying184 rfl (by exact hdEl)) rfl ⟨rfl, HE6.out⟩
end Go.Proofs.YtpgpaenloaphaaaGreat
