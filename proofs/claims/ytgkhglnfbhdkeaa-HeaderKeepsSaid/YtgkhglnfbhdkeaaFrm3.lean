/- frame.Parse of any 480 bytes. -/
import Derived.Test.YtgkhglnfbhdkeaaFrm2
import Derived.Test.YtgkhglnfbhdkeaaGet
import Derived.Test.YtgkhglnfbhdkeaaRg
import Derived.Test.YtgkhglnfbhdkeaaMcP
import Derived.Test.YtgkhglnfbhdkeaaChP
import Derived.Test.YtgkhglnfbhdkeaaCha2
import Derived.IntWalk
namespace Go.Proofs.Ytgkhglnfbhdkeaa
open Go.RowKit

theorem rd_part {w : World} {g o n : Nat} {l : List UInt8} (h : Rd w (some ⟨g, o, none⟩) n (u8s l)) (f d : Nat) (hd : f + d ≤ n) : Rd w (some ⟨g, o + f, none⟩) d (u8s ((l.drop f).take d)) := by
  have := h.cut (A' := some ⟨g, o + f, none⟩) (m := f + d) (k := f) hd (by omega) (fun _ b off e => by injection e with e; injection e with e1 e2; subst e1; subst e2; rfl)
  rw [u8s_take, u8s_drop, show f + d - f = d by omega, List.drop_take, show f + d - f = d by omega] at this
  exact this
def fK (b : List UInt8) : Nat := (b.getD 16 0).toNat
def fI (b : List UInt8) : Nat := (b.getD 17 0).toNat
def fC (b : List UInt8) : Nat := (b.getD 18 0).toNat
def fZ (b : List UInt8) : Nat := (b.getD 19 0).toNat
def fD (b : List UInt8) : Nat := beNat ((b.drop 20).take 8)
def fN (b : List UInt8) : Nat := beNat ((b.drop 28).take 2)
def fData (b : List UInt8) : List UInt8 := (b.drop 30).take (fN b)
def perr (b : List UInt8) : Int :=
  if allZ (b.take 16) = false then 7 else if fK b < 1 ∨ 3 < fK b then 1 else if fZ b ≠ 0 ∨ 450 < fN b then 3 else if chk (fK b) (fI b) (fC b) (fD b) (fN b) ≠ 0 then 3 else if allZ (b.drop (30 + fN b)) = false then 3 else 0
theorem chk_bd (k i c id n : Nat) : chk k i c id n = 0 ∨ chk k i c id n = 2 ∨ chk k i c id n = 3 := by
  unfold chk
  repeat' split
  all_goals omega
theorem getD_get {b : List UInt8} {i : Nat} (h : i < b.length) : b[i]? = some (b.getD i 0) := by
  rw [List.getD_eq_getElem?_getD, List.getElem?_eq_getElem h]
  rfl
theorem Rd.get {w : World} {bb bo n : Nat} {l : List UInt8} (h : Rd w (some ⟨bb, bo, none⟩) n (u8s l)) {i : Nat} (hi : i < n) : w.cell? ⟨bb, bo + i, none⟩ = some (.int .u8 (l.getD i 0).toNat) := by
  obtain ⟨b, off, x, e, _, HX, hc⟩ := h.u8 hi
  injection e with e
  injection e with e1 e2
  subst e1
  subst e2
  rw [hc]
  have := HX.out
  rw [getD_get (by rw [h.len]; exact hi)] at this
  injection this with this
  rw [this]
theorem fData_len (b : List UInt8) (h : b.length = 480) (hn : fN b ≤ 450) : (fData b).length = fN b := by unfold fData; rw [List.length_take, List.length_drop]; omega
theorem fN_data (b : List UInt8) : (u8s (fData b)).length = (fData b).length := u8s_length _
/-- the empty part -/
def partZ : Value := .agg #[.int .u8 0, .int .u64 0, .int .i64 0, .int .i64 0, .slice none 0 0]

set_option maxRecDepth 100000 in
set_option maxHeartbeats 4000000 in
theorem fparse_7 (A : Option Addr) (c : Nat) (b : List UInt8) (w : World) (h : Rd w A 480 (u8s b)) (hc : 480 ≤ c) (hz : allZ (b.take 16) = false) :
    Calls Try.prog 42 #[.slice A 480 c] w fun e w' => e = .returned (.tuple #[partZ, .int .i64 7]) ∧ Below w.heap.size w w' := by
  obtain ⟨bb, bo, rfl, hbb, _⟩ := h.2 (by omega)
  have HR := Lib.hid h
  have hbl : b.length = 480 := h.len
  have HAZ : Hid (∀ W, Rd W (some ⟨bb, bo, none⟩) 480 (u8s b) → Calls Try.prog 63 #[.slice (some ⟨bb, bo, none⟩) 16 c] W fun e w' => e = .returned (.bool false) ∧ W = w') := fun W hr => by
    have h5 := rd_part hr 0 16 (by omega)
    rw [List.drop_zero] at h5
    have h6 := allZero_any (some ⟨bb, bo + 0, none⟩) 16 c (b.take 16) W h5 (by omega)
    rw [hz] at h6
    exact h6
  clear hz h hbl
  go_enter Try.func42, Try.ntmps42
  go_wp2_with (go_at_call 63; (with_reducible refine (HAZ.out _ (by exact HR.out.alloc _)).mono ?_); rintro e w1 ⟨rfl, rfl⟩)
  exact bodyPost_ret (res_cell_tmp rfl _ w.heap.size 90 [.int .u8 0, .int .u64 0, .int .i64 0, .int .i64 0, .slice none 0 0] rfl (Blk.new' rfl rfl) _ Try.underlying90 rfl (by kernel_rfl)) rfl ⟨rfl, (Below.refl _ _).alloc (Nat.le_refl _) _⟩

set_option maxRecDepth 100000 in
set_option maxHeartbeats 4000000 in
theorem fparse_1 (A : Option Addr) (c : Nat) (b : List UInt8) (w : World) (h : Rd w A 480 (u8s b)) (hc : 480 ≤ c) (hz : allZ (b.take 16) = true) (hk : fK b < 1 ∨ 3 < fK b) :
    Calls Try.prog 42 #[.slice A 480 c] w fun e w' => e = .returned (.tuple #[partZ, .int .i64 1]) ∧ Below w.heap.size w w' := by
  obtain ⟨bb, bo, rfl, hbb, _⟩ := h.2 (by omega)
  have HR := Lib.hid h
  have hbl : b.length = 480 := h.len
  have HAZ : Hid (∀ W, Rd W (some ⟨bb, bo, none⟩) 480 (u8s b) → Calls Try.prog 63 #[.slice (some ⟨bb, bo, none⟩) 16 c] W fun e w' => e = .returned (.bool true) ∧ W = w') := fun W hr => by
    have h5 := rd_part hr 0 16 (by omega)
    rw [List.drop_zero] at h5
    have h6 := allZero_any (some ⟨bb, bo + 0, none⟩) 16 c (b.take 16) W h5 (by omega)
    rw [hz] at h6
    exact h6
  have k16 := h.get (i := 16) (by omega)
  have hkd : (b.getD 16 0).toNat = fK b := rfl
  rw [hkd] at k16
  obtain ⟨k, hkk⟩ : ∃ k, k = fK b := ⟨_, rfl⟩
  rw [← hkk] at hk k16
  clear hz h hbl hkd hkk
  by_cases h1 : k < 1
  · have hk1 : (k : Int) < 1 := by omega
    go_enter Try.func42, Try.ntmps42
    go_wp2_with (go_at_call 63; (with_reducible refine (HAZ.out _ (by exact HR.out.alloc _)).mono ?_); rintro e w1 ⟨rfl, rfl⟩)
    exact bodyPost_ret (res_cell_tmp rfl _ w.heap.size 90 [.int .u8 0, .int .u64 0, .int .i64 0, .int .i64 0, .slice none 0 0] rfl (Blk.new' rfl rfl) _ Try.underlying90 rfl (by kernel_rfl)) rfl ⟨rfl, (Below.refl _ _).alloc (Nat.le_refl _) _⟩
  · have hk1 : ¬ (k : Int) < 1 := by omega
    have hk3 : (3 : Int) < (k : Int) := by omega
    go_enter Try.func42, Try.ntmps42
    go_wp2_with (go_at_call 63; (with_reducible refine (HAZ.out _ (by exact HR.out.alloc _)).mono ?_); rintro e w1 ⟨rfl, rfl⟩)
    exact bodyPost_ret (res_cell_tmp rfl _ w.heap.size 90 [.int .u8 0, .int .u64 0, .int .i64 0, .int .i64 0, .slice none 0 0] rfl (Blk.new' rfl rfl) _ Try.underlying90 rfl (by kernel_rfl)) rfl ⟨rfl, (Below.refl _ _).alloc (Nat.le_refl _) _⟩

set_option maxRecDepth 100000 in
set_option maxHeartbeats 4000000 in
theorem fparse_3a (A : Option Addr) (c : Nat) (b : List UInt8) (w : World) (h : Rd w A 480 (u8s b)) (hc : 480 ≤ c) (hz : allZ (b.take 16) = true) (h1 : 1 ≤ fK b) (h3 : fK b ≤ 3) (h19 : fZ b ≠ 0) :
    Calls Try.prog 42 #[.slice A 480 c] w fun e w' => e = .returned (.tuple #[partZ, .int .i64 3]) ∧ Below w.heap.size w w' := by
  obtain ⟨bb, bo, rfl, hbb, _⟩ := h.2 (by omega)
  have HR := Lib.hid h
  have hbl : b.length = 480 := h.len
  have HAZ : Hid (∀ W, Rd W (some ⟨bb, bo, none⟩) 480 (u8s b) → Calls Try.prog 63 #[.slice (some ⟨bb, bo, none⟩) 16 c] W fun e w' => e = .returned (.bool true) ∧ W = w') := fun W hr => by
    have h5 := rd_part hr 0 16 (by omega)
    rw [List.drop_zero] at h5
    have h6 := allZero_any (some ⟨bb, bo + 0, none⟩) 16 c (b.take 16) W h5 (by omega)
    rw [hz] at h6
    exact h6
  have k16 := h.get (i := 16) (by omega)
  have hkd : (b.getD 16 0).toNat = fK b := rfl
  rw [hkd] at k16
  have HG8 : Hid (∀ W, Rd W (some ⟨bb, bo, none⟩) 480 (u8s b) → Calls Try.prog 34 #[.int .i64 2, .slice (some ⟨bb, bo, none⟩) 480 c, .int .i64 20, .int .i64 8] W fun e w' => e = .returned (.tuple #[.int .u64 (fD b), .int .i64 0]) ∧ W = w') := fun W hr => get_2 _ 480 c 20 8 b W hr (by omega) (by omega) (by omega) (by omega)
  have HG2 : Hid (∀ W, Rd W (some ⟨bb, bo, none⟩) 480 (u8s b) → Calls Try.prog 34 #[.int .i64 2, .slice (some ⟨bb, bo, none⟩) 480 c, .int .i64 28, .int .i64 2] W fun e w' => e = .returned (.tuple #[.int .u64 (fN b), .int .i64 0]) ∧ W = w') := fun W hr => get_2 _ 480 c 28 2 b W hr (by omega) (by omega) (by omega) (by omega)
  have k19 := h.get (i := 19) (by omega)
  have hzd : (b.getD 19 0).toNat = fZ b := rfl
  rw [hzd] at k19
  obtain ⟨k, hkk⟩ : ∃ k, k = fK b := ⟨_, rfl⟩
  rw [← hkk] at h1 h3 k16
  have hk1 : ¬ (k : Int) < 1 := by omega
  have hk3 : ¬ (3 : Int) < (k : Int) := by omega
  obtain ⟨z, hzz⟩ : ∃ z, z = fZ b := ⟨_, rfl⟩
  rw [← hzz] at h19 k19
  have hz19 : ((z : Int) != 0) = true := by rw [bne_iff_ne]; omega
  clear hz h hbl hkd hkk hzd hzz h19
  go_enter Try.func42, Try.ntmps42
  go_wp2_with (first
    | (go_at_call 63; (with_reducible refine (HAZ.out _ (by exact HR.out.alloc _)).mono ?_); rintro e w1 ⟨rfl, rfl⟩)
    | (go_at_call 34; (with_reducible refine (HG2.out _ (by exact HR.out.alloc _)).mono ?_); rintro e w3 ⟨rfl, rfl⟩)
    | (go_at_call 34; (with_reducible refine (HG8.out _ (by exact HR.out.alloc _)).mono ?_); rintro e w2 ⟨rfl, rfl⟩))
  exact bodyPost_ret (res_cell_tmp rfl _ w.heap.size 90 [.int .u8 0, .int .u64 0, .int .i64 0, .int .i64 0, .slice none 0 0] rfl (Blk.new' rfl rfl) _ Try.underlying90 rfl (by kernel_rfl)) rfl ⟨rfl, (Below.refl _ _).alloc (Nat.le_refl _) _⟩

set_option maxRecDepth 100000 in
set_option maxHeartbeats 4000000 in
theorem fparse_3b (A : Option Addr) (c : Nat) (b : List UInt8) (w : World) (h : Rd w A 480 (u8s b)) (hc : 480 ≤ c) (hz : allZ (b.take 16) = true) (h1 : 1 ≤ fK b) (h3 : fK b ≤ 3) (h19 : fZ b = 0) (hn : 450 < fN b) :
    Calls Try.prog 42 #[.slice A 480 c] w fun e w' => e = .returned (.tuple #[partZ, .int .i64 3]) ∧ Below w.heap.size w w' := by
  obtain ⟨bb, bo, rfl, hbb, _⟩ := h.2 (by omega)
  have HR := Lib.hid h
  have hbl : b.length = 480 := h.len
  have HAZ : Hid (∀ W, Rd W (some ⟨bb, bo, none⟩) 480 (u8s b) → Calls Try.prog 63 #[.slice (some ⟨bb, bo, none⟩) 16 c] W fun e w' => e = .returned (.bool true) ∧ W = w') := fun W hr => by
    have h5 := rd_part hr 0 16 (by omega)
    rw [List.drop_zero] at h5
    have h6 := allZero_any (some ⟨bb, bo + 0, none⟩) 16 c (b.take 16) W h5 (by omega)
    rw [hz] at h6
    exact h6
  have k16 := h.get (i := 16) (by omega)
  have hkd : (b.getD 16 0).toNat = fK b := rfl
  rw [hkd] at k16
  have HG8 : Hid (∀ W, Rd W (some ⟨bb, bo, none⟩) 480 (u8s b) → Calls Try.prog 34 #[.int .i64 2, .slice (some ⟨bb, bo, none⟩) 480 c, .int .i64 20, .int .i64 8] W fun e w' => e = .returned (.tuple #[.int .u64 (fD b), .int .i64 0]) ∧ W = w') := fun W hr => get_2 _ 480 c 20 8 b W hr (by omega) (by omega) (by omega) (by omega)
  have HG2 : Hid (∀ W, Rd W (some ⟨bb, bo, none⟩) 480 (u8s b) → Calls Try.prog 34 #[.int .i64 2, .slice (some ⟨bb, bo, none⟩) 480 c, .int .i64 28, .int .i64 2] W fun e w' => e = .returned (.tuple #[.int .u64 (fN b), .int .i64 0]) ∧ W = w') := fun W hr => get_2 _ 480 c 28 2 b W hr (by omega) (by omega) (by omega) (by omega)
  have k19 := h.get (i := 19) (by omega)
  have hzd : (b.getD 19 0).toNat = fZ b := rfl
  rw [hzd] at k19
  obtain ⟨k, hkk⟩ : ∃ k, k = fK b := ⟨_, rfl⟩
  rw [← hkk] at h1 h3 k16
  have hk1 : ¬ (k : Int) < 1 := by omega
  have hk3 : ¬ (3 : Int) < (k : Int) := by omega
  rw [h19] at k19
  have hn4 : (450 : Int) < (fN b : Int) := by omega
  clear hz h hbl hkd hkk hzd h19
  go_enter Try.func42, Try.ntmps42
  go_wp2_with (first
    | (go_at_call 63; (with_reducible refine (HAZ.out _ (by exact HR.out.alloc _)).mono ?_); rintro e w1 ⟨rfl, rfl⟩)
    | (go_at_call 34; (with_reducible refine (HG2.out _ (by exact HR.out.alloc _)).mono ?_); rintro e w3 ⟨rfl, rfl⟩)
    | (go_at_call 34; (with_reducible refine (HG8.out _ (by exact HR.out.alloc _)).mono ?_); rintro e w2 ⟨rfl, rfl⟩))
  exact bodyPost_ret (res_cell_tmp rfl _ w.heap.size 90 [.int .u8 0, .int .u64 0, .int .i64 0, .int .i64 0, .slice none 0 0] rfl (Blk.new' rfl rfl) _ Try.underlying90 rfl (by kernel_rfl)) rfl ⟨rfl, (Below.refl _ _).alloc (Nat.le_refl _) _⟩

theorem part_one (k i c : Int) (id : Int) (A : Option Addr) (n m : Nat) : ∀ v ∈ ([.int .u8 k, .int .u64 id, .int .i64 i, .int .i64 c, .slice A n m] : List Value), v.oneCell' = true := by
  intro v hv
  simp only [List.mem_cons, List.not_mem_nil, or_false] at hv
  rcases hv with rfl | rfl | rfl | rfl | rfl <;> rfl

set_option maxRecDepth 100000 in
set_option maxHeartbeats 4000000 in
theorem fparse_ok (A : Option Addr) (c : Nat) (b : List UInt8) (w : World) (h : Rd w A 480 (u8s b)) (hc : 480 ≤ c) (hz : allZ (b.take 16) = true) (h1 : 1 ≤ fK b) (h3 : fK b ≤ 3) (h19 : fZ b = 0) (hn : fN b ≤ 450) (hch : chk (fK b) (fI b) (fC b) (fD b) (fN b) = 0) (htl : allZ (b.drop (30 + fN b)) = true) :
    Calls Try.prog 42 #[.slice A 480 c] w fun e w' => ∃ A' n', e = .returned (.tuple #[.agg #[.int .u8 (fK b), .int .u64 (fD b), .int .i64 (fI b), .int .i64 (fC b), .slice A' (fN b) n'], .int .i64 0]) ∧ Rd w' A' (fN b) (u8s (fData b)) ∧ Below w.heap.size w w' := by
  obtain ⟨bb, bo, rfl, hbb, _⟩ := h.2 (by omega)
  have HR := Lib.hid h
  have hbl : b.length = 480 := h.len
  have HAZ : Hid (∀ W, Rd W (some ⟨bb, bo, none⟩) 480 (u8s b) → Calls Try.prog 63 #[.slice (some ⟨bb, bo, none⟩) 16 c] W fun e w' => e = .returned (.bool true) ∧ W = w') := fun W hr => by
    have h5 := rd_part hr 0 16 (by omega)
    rw [List.drop_zero] at h5
    have h6 := allZero_any (some ⟨bb, bo + 0, none⟩) 16 c (b.take 16) W h5 (by omega)
    rw [hz] at h6
    exact h6
  have k16 := h.get (i := 16) (by omega)
  have hkd : (b.getD 16 0).toNat = fK b := rfl
  rw [hkd] at k16
  have HG8 : Hid (∀ W, Rd W (some ⟨bb, bo, none⟩) 480 (u8s b) → Calls Try.prog 34 #[.int .i64 2, .slice (some ⟨bb, bo, none⟩) 480 c, .int .i64 20, .int .i64 8] W fun e w' => e = .returned (.tuple #[.int .u64 (fD b), .int .i64 0]) ∧ W = w') := fun W hr => get_2 _ 480 c 20 8 b W hr (by omega) (by omega) (by omega) (by omega)
  have HG2 : Hid (∀ W, Rd W (some ⟨bb, bo, none⟩) 480 (u8s b) → Calls Try.prog 34 #[.int .i64 2, .slice (some ⟨bb, bo, none⟩) 480 c, .int .i64 28, .int .i64 2] W fun e w' => e = .returned (.tuple #[.int .u64 (fN b), .int .i64 0]) ∧ W = w') := fun W hr => get_2 _ 480 c 28 2 b W hr (by omega) (by omega) (by omega) (by omega)
  have k19 := h.get (i := 19) (by omega)
  have hzd : (b.getD 19 0).toNat = fZ b := rfl
  rw [hzd] at k19
  have hk1 : ¬ (fK b : Int) < 1 := by omega
  have hk3 : ¬ (3 : Int) < (fK b : Int) := by omega
  have hn4 : ¬ (450 : Int) < (fN b : Int) := by omega
  have hid : (b.getD 17 0).toNat = fI b := rfl
  have hcd : (b.getD 18 0).toNat = fC b := rfl
  have hwi : IntKind.i64.wrap ((b.getD 17 0).toNat : Int) = ((b.getD 17 0).toNat : Int) := IntWalk.i64_in _ (by have := (b.getD 17 0).toNat_lt; omega)
  have hwc : IntKind.i64.wrap ((b.getD 18 0).toNat : Int) = ((b.getD 18 0).toNat : Int) := IntWalk.i64_in _ (by have := (b.getD 18 0).toNat_lt; omega)
  have HID := Lib.hid hid
  have HCD := Lib.hid hcd
  have HKD := Lib.hid hkd
  have HWI := Lib.hid hwi
  have HWC := Lib.hid hwc
  rw [h19] at k19
  have HR0 : Hid (Rd (w.alloc (.cells #[.int .u8 0, .int .u64 0, .int .i64 0, .int .i64 0, .slice none 0 0] 90)).drew (some ⟨bb, bo, none⟩) 480 (u8s b) ∧ Below w.heap.size w (w.alloc (.cells #[.int .u8 0, .int .u64 0, .int .i64 0, .int .i64 0, .slice none 0 0] 90)).drew ∧ Blk (w.alloc (.cells #[.int .u8 0, .int .u64 0, .int .i64 0, .int .i64 0, .slice none 0 0] 90)).drew w.heap.size 90 [.int .u8 0, .int .u64 0, .int .i64 0, .int .i64 0, .slice none 0 0] ∧ w.heap.size + 1 ≤ (w.alloc (.cells #[.int .u8 0, .int .u64 0, .int .i64 0, .int .i64 0, .slice none 0 0] 90)).drew.heap.size) := ⟨(h.alloc _).drew, ((Below.refl _ _).alloc (Nat.le_refl _) _).drew, (Blk.new' rfl rfl : Blk _ _ _ _).drew, by simp⟩
  clear hz h hbl hkd hzd h19 hid hcd hwi hwc
  go_enter Try.func42, Try.ntmps42
  go_wp2_with (first
    | (go_at_call 63; (with_reducible refine (HAZ.out _ (by exact HR.out.alloc _)).mono ?_); rintro e w1 ⟨rfl, rfl⟩)
    | (go_at_call 34; (with_reducible refine (HG2.out _ (by exact HR.out.alloc _)).mono ?_); rintro e w3 ⟨rfl, rfl⟩)
    | (go_at_call 34; (with_reducible refine (HG8.out _ (by exact HR.out.alloc _)).mono ?_); rintro e w2 ⟨rfl, rfl⟩))
  have hwi := HWI.out
  have hwc := HWC.out
  have hkd := HKD.out
  have hid := HID.out
  have hcd := HCD.out
  refine region_K (by kernel_rfl) 14 (fun W => Rd W (some ⟨bb, bo, none⟩) 480 (u8s b)) ?_
  refine AnyF.start 13 8 (w.heap.size + 1) 90 [.int .u8 0, .int .u64 0, .int .i64 0, .int .i64 0, .slice none 0 0] (fun W => Rd W (some ⟨bb, bo, none⟩) 480 (u8s b) ∧ Below w.heap.size w W ∧ Blk W w.heap.size 90 [.int .u8 0, .int .u64 0, .int .i64 0, .int .i64 0, .slice none 0 0] ∧ w.heap.size + 1 ≤ W.heap.size) HR0.out ?_
  refine AnyF.pure 0 (v := .slice (some ⟨bb, bo, none⟩) 480 c) rfl (by decide) (fun g => by cases g <;> kernel_rfl) (fun _ _ _ h => h) rfl (by decide) (fun st _ => by cases st <;> kernel_rfl) (fun _ h => h.1) ?_
  refine AnyF.pure 1 (v := .pointer (some ⟨bb, bo + 16, none⟩)) rfl (by decide) (fun g => by cases g <;> kernel_rfl) (fun _ _ _ h => h) rfl (by decide) (fun st _ => by cases st <;> kernel_rfl) (fun _ h => h.1) ?_
  refine AnyF.load 2 (v := .int .u8 ((b.getD 16 0).toNat : Int)) rfl (by decide) (fun g => by cases g <;> kernel_rfl) (by kernel_rfl) (fun g => by cases g <;> kernel_rfl) (fun _ _ _ h => h) rfl (by decide) (fun st w' hw' => ex_load (p := ⟨bb, bo + 16, none⟩) rfl (by cases st <;> kernel_rfl) agU8 (hw'.get (i := 16) (by omega))) (fun _ h => h.1) ?_
  refine AnyF.pure 3 (v := .int .u64 (fD b : Int)) rfl (by decide) (fun g => by cases g <;> kernel_rfl) (fun _ _ _ h => h) rfl (by decide) (fun st _ => by cases st <;> kernel_rfl) (fun _ h => h.1) ?_
  refine AnyF.pure 4 (v := .slice (some ⟨bb, bo, none⟩) 480 c) rfl (by decide) (fun g => by cases g <;> kernel_rfl) (fun _ _ _ h => h) rfl (by decide) (fun st _ => by cases st <;> kernel_rfl) (fun _ h => h.1) ?_
  refine AnyF.pure 5 (v := .pointer (some ⟨bb, bo + 17, none⟩)) rfl (by decide) (fun g => by cases g <;> kernel_rfl) (fun _ _ _ h => h) rfl (by decide) (fun st _ => by cases st <;> kernel_rfl) (fun _ h => h.1) ?_
  refine AnyF.load 6 (v := .int .u8 ((b.getD 17 0).toNat : Int)) rfl (by decide) (fun g => by cases g <;> kernel_rfl) (by kernel_rfl) (fun g => by cases g <;> kernel_rfl) (fun _ _ _ h => h) rfl (by decide) (fun st w' hw' => ex_load (p := ⟨bb, bo + 17, none⟩) rfl (by cases st <;> kernel_rfl) agU8 (hw'.get (i := 17) (by omega))) (fun _ h => h.1) ?_
  refine AnyF.pure 7 (v := .int .i64 (IntKind.i64.wrap ((b.getD 17 0).toNat : Int))) rfl (by decide) (fun g => by cases g <;> kernel_rfl) (fun _ _ _ h => h) rfl (by decide) (fun st _ => by cases st <;> kernel_rfl) (fun _ h => h.1) ?_
  refine AnyF.pure 8 (v := .slice (some ⟨bb, bo, none⟩) 480 c) rfl (by decide) (fun g => by cases g <;> kernel_rfl) (fun _ _ _ h => h) rfl (by decide) (fun st _ => by cases st <;> kernel_rfl) (fun _ h => h.1) ?_
  refine AnyF.pure 9 (v := .pointer (some ⟨bb, bo + 18, none⟩)) rfl (by decide) (fun g => by cases g <;> kernel_rfl) (fun _ _ _ h => h) rfl (by decide) (fun st _ => by cases st <;> kernel_rfl) (fun _ h => h.1) ?_
  refine AnyF.load 10 (v := .int .u8 ((b.getD 18 0).toNat : Int)) rfl (by decide) (fun g => by cases g <;> kernel_rfl) (by kernel_rfl) (fun g => by cases g <;> kernel_rfl) (fun _ _ _ h => h) rfl (by decide) (fun st w' hw' => ex_load (p := ⟨bb, bo + 18, none⟩) rfl (by cases st <;> kernel_rfl) agU8 (hw'.get (i := 18) (by omega))) (fun _ h => h.1) ?_
  refine AnyF.pure 11 (v := .int .i64 (IntKind.i64.wrap ((b.getD 18 0).toNat : Int))) rfl (by decide) (fun g => by cases g <;> kernel_rfl) (fun _ _ _ h => h) rfl (by decide) (fun st _ => by cases st <;> kernel_rfl) (fun _ h => h.1) ?_
  refine AnyF.pure 12 (v := .agg #[.int .u8 ((b.getD 16 0).toNat : Int), .int .u64 (fD b : Int), .int .i64 (IntKind.i64.wrap ((b.getD 17 0).toNat : Int)), .int .i64 (IntKind.i64.wrap ((b.getD 18 0).toNat : Int)), .slice none 0 0]) rfl (by decide) (fun g => by cases g <;> kernel_rfl) (fun _ _ _ h => h) rfl (by decide) (fun st _ => by cases st <;> kernel_rfl) (fun _ h => h.1) ?_
  refine AnyF.fin rfl rfl rfl (fun _ _ => by kernel_rfl) (by kernel_rfl) (fun _ o h => ⟨h.1.alloc o, h.2.1.alloc h.2.1.size o, h.2.2.1.alloc o, Nat.le_trans h.2.2.2 (by simp)⟩) (fun _ h => h.2.2.2) (fun _ h => h.1) ?_
  intro gp w7 hgp hp7 hU7
  refine AnyK.storeAll 14 (t := 90) (x := .tmp 8) (y := .tmp 71) gp [.int .u8 ((b.getD 16 0).toNat : Int), .int .u64 (fD b : Int), .int .i64 (IntKind.i64.wrap ((b.getD 17 0).toNat : Int)), .int .i64 (IntKind.i64.wrap ((b.getD 18 0).toNat : Int)), .slice none 0 0] 90 [.int .u8 0, .int .u64 0, .int .i64 0, .int .i64 0, .slice none 0 0] rfl rfl rfl rfl (by kernel_rfl) (by kernel_rfl) (by kernel_rfl) hp7 (by kernel_rfl) (part_one _ _ _ _ _ _ _) rfl (fun _ _ _ h => (by cases h)) ?_
  intro w8 hb8 ho8
  refine AnyK.done (by kernel_rfl) ?_
  rw [hwi, hwc, hkd, hid, hcd] at hb8
  have hgw : w.heap.size + 1 ≤ gp := hgp
  have HB8 := Lib.hid hb8
  have HE8 := Lib.hid (ho8.below hU7.2.1 (by omega) hU7.2.1.size)
  have HZ8 := Lib.hid (ho8.blk hU7.2.2.1 (by omega))
  have hR8 : Rd w8 (some ⟨bb, bo, none⟩) 480 (u8s b) := HR.out.below HE8.out
  have HR8 := Lib.hid hR8
  have hgl8 := HB8.out.lt
  have c84 := HB8.out.cell 4
  have f84 := HB8.out.frozen 4
  simp only [List.getElem?_cons_zero, List.getElem?_cons_succ] at c84
  clear hb8 ho8 hU7 hp7 hR8 HR0 HAZ HG8 HG2 k16 k19 hwi hwc hkd hid hcd
  have HBL := Lib.hid (fN_data b)
  have hn450 : (fN b : Int) ≤ 450 := by omega
  have hn0 : (0 : Int) ≤ (fN b : Int) := by omega
  have HCP : Hid (∀ W, Rd W (some ⟨bb, bo, none⟩) 480 (u8s b) → Calls Try.prog 64 #[.slice (some ⟨bb, bo + 30, none⟩) (fN b) (c - 30)] W fun e w' => e = .returned (.slice (some ⟨W.heap.size, 0, none⟩) (fN b) (fN b)) ∧ Blk w' W.heap.size 5 (u8s (fData b)) ∧ Below W.heap.size W w') := fun W hr => copied_any _ _ _ _ W (rd_part hr 30 (fN b) (by omega)) (by omega)
  have HCK := Lib.hid (fun A W => fcheck_any A (fN b) (fN b) (fK b) (fD b) (fI b) (fC b) W h1 h3 hn)
  rw [hch] at HCK
  have HAT : Hid (∀ W, Rd W (some ⟨bb, bo, none⟩) 480 (u8s b) → Calls Try.prog 63 #[.slice (some ⟨bb, bo + (30 + fN b), none⟩) (480 - (30 + fN b)) (c - (30 + fN b))] W fun e w' => e = .returned (.bool true) ∧ W = w') := fun W hr => by
    have h5 := rd_part hr (30 + fN b) (480 - (30 + fN b)) (by omega)
    rw [List.take_of_length_le (by rw [List.length_drop, hr.len]; exact Nat.le_refl _)] at h5
    have h6 := allZero_any _ _ (c - (30 + fN b)) _ W h5 (by omega)
    rw [htl] at h6
    exact h6
  have HAU : Hid (480 ≤ 30 + fN b → ∀ W, Calls Try.prog 63 #[.slice (some ⟨bb, bo, none⟩) (480 - (30 + fN b)) 0] W fun e w' => e = .returned (.bool true) ∧ W = w') := fun hle W => by
    rw [show 480 - (30 + fN b) = 0 by omega]
    have h6 := allZero_any (some ⟨bb, bo, none⟩) 0 0 [] W (Rd.nil _ _) (by omega)
    have e7 : b.drop (30 + fN b) = [] := List.drop_eq_nil_of_le (by rw [HR.out.len]; exact hle)
    rw [e7] at htl
    rw [htl] at h6
    exact h6
  have n30 : ¬ c = 30 := by omega
  have e30 : (30 : Int) ≤ (c : Int) := by omega
  have eC : (30 : Int) + (fN b : Int) ≤ (c : Int) := by omega
  have e4 : (30 : Int) + (fN b : Int) ≤ 480 := by omega
  have e5 : (30 : Int) + (fN b : Int) - 30 = (fN b : Int) := by omega
  clear hch htl
  go_wp2_with (first
    | (go_at_call 64; (with_reducible refine (HCP.out _ (by exact HR8.out)).mono ?_); rintro e w9 ⟨rfl, hb9, hB9⟩
       have HB9 := Lib.hid (HB8.out.below hB9 HB8.out.lt)
       have c94 := (hB9.cell (p := ⟨gp, 4, none⟩) hgl8).trans c84
       have f94 := (hB9.frozen (p := ⟨gp, 4, none⟩) hgl8).trans f84
       have HE9 := Lib.hid (HE8.out.trans (hB9.mono HE8.out.size))
       have HZ9 := Lib.hid (HZ8.out.below hB9 HZ8.out.lt)
       have HD9 := Lib.hid hb9
       have HB10 : Hid (Blk (w9.setCell ⟨gp, 4, none⟩ (.slice (some ⟨w8.heap.size, 0, none⟩) (fN b) (fN b))) gp 90 [.int .u8 (fK b), .int .u64 (fD b), .int .i64 (fI b), .int .i64 (fC b), .slice (some ⟨w8.heap.size, 0, none⟩) (fN b) (fN b)]) := HB9.out.set_ 4 (.slice (some ⟨w8.heap.size, 0, none⟩) (fN b) (fN b))
       have HE10 := Lib.hid (HE9.out.setCell (p := ⟨gp, 4, none⟩) (by show _ ≤ gp; omega) (.slice (some ⟨w8.heap.size, 0, none⟩) (fN b) (fN b)))
       have HZ10 := Lib.hid (HZ9.out.far (p := ⟨gp, 4, none⟩) (by show _ ≠ gp; omega) (.slice (some ⟨w8.heap.size, 0, none⟩) (fN b) (fN b)))
       have HD10 := Lib.hid (HD9.out.far (p := ⟨gp, 4, none⟩) (by show _ ≠ gp; omega) (.slice (some ⟨w8.heap.size, 0, none⟩) (fN b) (fN b)))
       clear hb9 hB9)
    | refine wpList_load_mid rfl 90 (.tmp 8) rfl gp 0 (by rfl) [.int .u8 (fK b), .int .u64 (fD b), .int .i64 (fI b), .int .i64 (fC b), .slice (some ⟨w8.heap.size, 0, none⟩) (fN b) (fN b)] _ HB10.out.range Try.underlying90 rfl (by kernel_rfl) ?_
    | (go_at_call 57; (with_reducible refine (HCK.out _ _).mono ?_); rintro e w11 ⟨rfl, hB11⟩
       have hs10 := HE10.out.size
       have HB11 := Lib.hid (HB10.out.below hB11 HB10.out.lt)
       have HE11 := Lib.hid (HE10.out.trans (hB11.mono hs10))
       have HZ11 := Lib.hid (HZ10.out.below hB11 HZ10.out.lt)
       have HD11 := Lib.hid (HD10.out.below hB11 HD10.out.lt)
       have HR11 := Lib.hid (HR.out.below HE11.out)
       clear hB11)
    | (go_at_call 63; (with_reducible refine (HAT.out _ (by exact HR11.out)).mono ?_); rintro e w12 ⟨rfl, rfl⟩)
    | (go_at_call 63; (with_reducible refine (HAU.out (by omega) _).mono ?_); rintro e w12 ⟨rfl, rfl⟩)
    | refine wpList_load_mid rfl 90 (.tmp 8) rfl gp 0 (by rfl) [.int .u8 (fK b), .int .u64 (fD b), .int .i64 (fI b), .int .i64 (fC b), .slice (some ⟨w8.heap.size, 0, none⟩) (fN b) (fN b)] _ HB11.out.range Try.underlying90 rfl (by kernel_rfl) ?_
    | (refine wpList_store_all rfl 90 (.tmp 2) (.tmp 88) rfl w.heap.size [.int .u8 (fK b), .int .u64 (fD b), .int .i64 (fI b), .int .i64 (fC b), .slice (some ⟨w8.heap.size, 0, none⟩) (fN b) (fN b)] (by rfl) (by rfl) 90 _ HZ11.out (by kernel_rfl) (part_one _ _ _ _ _ _ _) rfl ?_
       intro w13 hb13 ho13
       have hlw := HD10.out.lt
       have HB13 := Lib.hid hb13
       have HE13 := Lib.hid (ho13.below HE11.out (Nat.le_refl _) HE11.out.size)
       have HD13 := Lib.hid (ho13.blk HD11.out (by have := HE8.out.size; omega))
       clear hb13 ho13))
  all_goals
    refine bodyPost_ret (res_cell_tmp rfl _ w.heap.size 90 _ rfl HB13.out _ Try.underlying90 rfl (by kernel_rfl)) rfl ⟨_, _, rfl, ?_, HE13.out⟩
    have h6 := HD13.out.rd 0 (fN b) (by rw [u8s_length, fData_len b HR.out.len hn]; omega)
    rw [List.drop_zero, List.take_of_length_le (by rw [u8s_length, fData_len b HR.out.len hn]; exact Nat.le_refl _)] at h6
    exact h6

set_option maxRecDepth 100000 in
set_option maxHeartbeats 4000000 in
theorem fparse_3c (A : Option Addr) (c : Nat) (b : List UInt8) (w : World) (h : Rd w A 480 (u8s b)) (hc : 480 ≤ c) (hz : allZ (b.take 16) = true) (h1 : 1 ≤ fK b) (h3 : fK b ≤ 3) (h19 : fZ b = 0) (hn : fN b ≤ 450) (hch : chk (fK b) (fI b) (fC b) (fD b) (fN b) = 3) (htl : allZ (b.drop (30 + fN b)) = true) :
    Calls Try.prog 42 #[.slice A 480 c] w fun e w' => e = .returned (.tuple #[partZ, .int .i64 3]) ∧ Below w.heap.size w w' := by
  obtain ⟨bb, bo, rfl, hbb, _⟩ := h.2 (by omega)
  have HR := Lib.hid h
  have hbl : b.length = 480 := h.len
  have HAZ : Hid (∀ W, Rd W (some ⟨bb, bo, none⟩) 480 (u8s b) → Calls Try.prog 63 #[.slice (some ⟨bb, bo, none⟩) 16 c] W fun e w' => e = .returned (.bool true) ∧ W = w') := fun W hr => by
    have h5 := rd_part hr 0 16 (by omega)
    rw [List.drop_zero] at h5
    have h6 := allZero_any (some ⟨bb, bo + 0, none⟩) 16 c (b.take 16) W h5 (by omega)
    rw [hz] at h6
    exact h6
  have k16 := h.get (i := 16) (by omega)
  have hkd : (b.getD 16 0).toNat = fK b := rfl
  rw [hkd] at k16
  have HG8 : Hid (∀ W, Rd W (some ⟨bb, bo, none⟩) 480 (u8s b) → Calls Try.prog 34 #[.int .i64 2, .slice (some ⟨bb, bo, none⟩) 480 c, .int .i64 20, .int .i64 8] W fun e w' => e = .returned (.tuple #[.int .u64 (fD b), .int .i64 0]) ∧ W = w') := fun W hr => get_2 _ 480 c 20 8 b W hr (by omega) (by omega) (by omega) (by omega)
  have HG2 : Hid (∀ W, Rd W (some ⟨bb, bo, none⟩) 480 (u8s b) → Calls Try.prog 34 #[.int .i64 2, .slice (some ⟨bb, bo, none⟩) 480 c, .int .i64 28, .int .i64 2] W fun e w' => e = .returned (.tuple #[.int .u64 (fN b), .int .i64 0]) ∧ W = w') := fun W hr => get_2 _ 480 c 28 2 b W hr (by omega) (by omega) (by omega) (by omega)
  have k19 := h.get (i := 19) (by omega)
  have hzd : (b.getD 19 0).toNat = fZ b := rfl
  rw [hzd] at k19
  have hk1 : ¬ (fK b : Int) < 1 := by omega
  have hk3 : ¬ (3 : Int) < (fK b : Int) := by omega
  have hn4 : ¬ (450 : Int) < (fN b : Int) := by omega
  have hid : (b.getD 17 0).toNat = fI b := rfl
  have hcd : (b.getD 18 0).toNat = fC b := rfl
  have hwi : IntKind.i64.wrap ((b.getD 17 0).toNat : Int) = ((b.getD 17 0).toNat : Int) := IntWalk.i64_in _ (by have := (b.getD 17 0).toNat_lt; omega)
  have hwc : IntKind.i64.wrap ((b.getD 18 0).toNat : Int) = ((b.getD 18 0).toNat : Int) := IntWalk.i64_in _ (by have := (b.getD 18 0).toNat_lt; omega)
  have HID := Lib.hid hid
  have HCD := Lib.hid hcd
  have HKD := Lib.hid hkd
  have HWI := Lib.hid hwi
  have HWC := Lib.hid hwc
  rw [h19] at k19
  have HR0 : Hid (Rd (w.alloc (.cells #[.int .u8 0, .int .u64 0, .int .i64 0, .int .i64 0, .slice none 0 0] 90)).drew (some ⟨bb, bo, none⟩) 480 (u8s b) ∧ Below w.heap.size w (w.alloc (.cells #[.int .u8 0, .int .u64 0, .int .i64 0, .int .i64 0, .slice none 0 0] 90)).drew ∧ Blk (w.alloc (.cells #[.int .u8 0, .int .u64 0, .int .i64 0, .int .i64 0, .slice none 0 0] 90)).drew w.heap.size 90 [.int .u8 0, .int .u64 0, .int .i64 0, .int .i64 0, .slice none 0 0] ∧ w.heap.size + 1 ≤ (w.alloc (.cells #[.int .u8 0, .int .u64 0, .int .i64 0, .int .i64 0, .slice none 0 0] 90)).drew.heap.size) := ⟨(h.alloc _).drew, ((Below.refl _ _).alloc (Nat.le_refl _) _).drew, (Blk.new' rfl rfl : Blk _ _ _ _).drew, by simp⟩
  clear hz h hbl hkd hzd h19 hid hcd hwi hwc
  go_enter Try.func42, Try.ntmps42
  go_wp2_with (first
    | (go_at_call 63; (with_reducible refine (HAZ.out _ (by exact HR.out.alloc _)).mono ?_); rintro e w1 ⟨rfl, rfl⟩)
    | (go_at_call 34; (with_reducible refine (HG2.out _ (by exact HR.out.alloc _)).mono ?_); rintro e w3 ⟨rfl, rfl⟩)
    | (go_at_call 34; (with_reducible refine (HG8.out _ (by exact HR.out.alloc _)).mono ?_); rintro e w2 ⟨rfl, rfl⟩))
  have hwi := HWI.out
  have hwc := HWC.out
  have hkd := HKD.out
  have hid := HID.out
  have hcd := HCD.out
  refine region_K (by kernel_rfl) 14 (fun W => Rd W (some ⟨bb, bo, none⟩) 480 (u8s b)) ?_
  refine AnyF.start 13 8 (w.heap.size + 1) 90 [.int .u8 0, .int .u64 0, .int .i64 0, .int .i64 0, .slice none 0 0] (fun W => Rd W (some ⟨bb, bo, none⟩) 480 (u8s b) ∧ Below w.heap.size w W ∧ Blk W w.heap.size 90 [.int .u8 0, .int .u64 0, .int .i64 0, .int .i64 0, .slice none 0 0] ∧ w.heap.size + 1 ≤ W.heap.size) HR0.out ?_
  refine AnyF.pure 0 (v := .slice (some ⟨bb, bo, none⟩) 480 c) rfl (by decide) (fun g => by cases g <;> kernel_rfl) (fun _ _ _ h => h) rfl (by decide) (fun st _ => by cases st <;> kernel_rfl) (fun _ h => h.1) ?_
  refine AnyF.pure 1 (v := .pointer (some ⟨bb, bo + 16, none⟩)) rfl (by decide) (fun g => by cases g <;> kernel_rfl) (fun _ _ _ h => h) rfl (by decide) (fun st _ => by cases st <;> kernel_rfl) (fun _ h => h.1) ?_
  refine AnyF.load 2 (v := .int .u8 ((b.getD 16 0).toNat : Int)) rfl (by decide) (fun g => by cases g <;> kernel_rfl) (by kernel_rfl) (fun g => by cases g <;> kernel_rfl) (fun _ _ _ h => h) rfl (by decide) (fun st w' hw' => ex_load (p := ⟨bb, bo + 16, none⟩) rfl (by cases st <;> kernel_rfl) agU8 (hw'.get (i := 16) (by omega))) (fun _ h => h.1) ?_
  refine AnyF.pure 3 (v := .int .u64 (fD b : Int)) rfl (by decide) (fun g => by cases g <;> kernel_rfl) (fun _ _ _ h => h) rfl (by decide) (fun st _ => by cases st <;> kernel_rfl) (fun _ h => h.1) ?_
  refine AnyF.pure 4 (v := .slice (some ⟨bb, bo, none⟩) 480 c) rfl (by decide) (fun g => by cases g <;> kernel_rfl) (fun _ _ _ h => h) rfl (by decide) (fun st _ => by cases st <;> kernel_rfl) (fun _ h => h.1) ?_
  refine AnyF.pure 5 (v := .pointer (some ⟨bb, bo + 17, none⟩)) rfl (by decide) (fun g => by cases g <;> kernel_rfl) (fun _ _ _ h => h) rfl (by decide) (fun st _ => by cases st <;> kernel_rfl) (fun _ h => h.1) ?_
  refine AnyF.load 6 (v := .int .u8 ((b.getD 17 0).toNat : Int)) rfl (by decide) (fun g => by cases g <;> kernel_rfl) (by kernel_rfl) (fun g => by cases g <;> kernel_rfl) (fun _ _ _ h => h) rfl (by decide) (fun st w' hw' => ex_load (p := ⟨bb, bo + 17, none⟩) rfl (by cases st <;> kernel_rfl) agU8 (hw'.get (i := 17) (by omega))) (fun _ h => h.1) ?_
  refine AnyF.pure 7 (v := .int .i64 (IntKind.i64.wrap ((b.getD 17 0).toNat : Int))) rfl (by decide) (fun g => by cases g <;> kernel_rfl) (fun _ _ _ h => h) rfl (by decide) (fun st _ => by cases st <;> kernel_rfl) (fun _ h => h.1) ?_
  refine AnyF.pure 8 (v := .slice (some ⟨bb, bo, none⟩) 480 c) rfl (by decide) (fun g => by cases g <;> kernel_rfl) (fun _ _ _ h => h) rfl (by decide) (fun st _ => by cases st <;> kernel_rfl) (fun _ h => h.1) ?_
  refine AnyF.pure 9 (v := .pointer (some ⟨bb, bo + 18, none⟩)) rfl (by decide) (fun g => by cases g <;> kernel_rfl) (fun _ _ _ h => h) rfl (by decide) (fun st _ => by cases st <;> kernel_rfl) (fun _ h => h.1) ?_
  refine AnyF.load 10 (v := .int .u8 ((b.getD 18 0).toNat : Int)) rfl (by decide) (fun g => by cases g <;> kernel_rfl) (by kernel_rfl) (fun g => by cases g <;> kernel_rfl) (fun _ _ _ h => h) rfl (by decide) (fun st w' hw' => ex_load (p := ⟨bb, bo + 18, none⟩) rfl (by cases st <;> kernel_rfl) agU8 (hw'.get (i := 18) (by omega))) (fun _ h => h.1) ?_
  refine AnyF.pure 11 (v := .int .i64 (IntKind.i64.wrap ((b.getD 18 0).toNat : Int))) rfl (by decide) (fun g => by cases g <;> kernel_rfl) (fun _ _ _ h => h) rfl (by decide) (fun st _ => by cases st <;> kernel_rfl) (fun _ h => h.1) ?_
  refine AnyF.pure 12 (v := .agg #[.int .u8 ((b.getD 16 0).toNat : Int), .int .u64 (fD b : Int), .int .i64 (IntKind.i64.wrap ((b.getD 17 0).toNat : Int)), .int .i64 (IntKind.i64.wrap ((b.getD 18 0).toNat : Int)), .slice none 0 0]) rfl (by decide) (fun g => by cases g <;> kernel_rfl) (fun _ _ _ h => h) rfl (by decide) (fun st _ => by cases st <;> kernel_rfl) (fun _ h => h.1) ?_
  refine AnyF.fin rfl rfl rfl (fun _ _ => by kernel_rfl) (by kernel_rfl) (fun _ o h => ⟨h.1.alloc o, h.2.1.alloc h.2.1.size o, h.2.2.1.alloc o, Nat.le_trans h.2.2.2 (by simp)⟩) (fun _ h => h.2.2.2) (fun _ h => h.1) ?_
  intro gp w7 hgp hp7 hU7
  refine AnyK.storeAll 14 (t := 90) (x := .tmp 8) (y := .tmp 71) gp [.int .u8 ((b.getD 16 0).toNat : Int), .int .u64 (fD b : Int), .int .i64 (IntKind.i64.wrap ((b.getD 17 0).toNat : Int)), .int .i64 (IntKind.i64.wrap ((b.getD 18 0).toNat : Int)), .slice none 0 0] 90 [.int .u8 0, .int .u64 0, .int .i64 0, .int .i64 0, .slice none 0 0] rfl rfl rfl rfl (by kernel_rfl) (by kernel_rfl) (by kernel_rfl) hp7 (by kernel_rfl) (part_one _ _ _ _ _ _ _) rfl (fun _ _ _ h => (by cases h)) ?_
  intro w8 hb8 ho8
  refine AnyK.done (by kernel_rfl) ?_
  rw [hwi, hwc, hkd, hid, hcd] at hb8
  have hgw : w.heap.size + 1 ≤ gp := hgp
  have HB8 := Lib.hid hb8
  have HE8 := Lib.hid (ho8.below hU7.2.1 (by omega) hU7.2.1.size)
  have HZ8 := Lib.hid (ho8.blk hU7.2.2.1 (by omega))
  have hR8 : Rd w8 (some ⟨bb, bo, none⟩) 480 (u8s b) := HR.out.below HE8.out
  have HR8 := Lib.hid hR8
  have hgl8 := HB8.out.lt
  have c84 := HB8.out.cell 4
  have f84 := HB8.out.frozen 4
  simp only [List.getElem?_cons_zero, List.getElem?_cons_succ] at c84
  clear hb8 ho8 hU7 hp7 hR8 HR0 HAZ HG8 HG2 k16 k19 hwi hwc hkd hid hcd
  have HBL := Lib.hid (fN_data b)
  have hn450 : (fN b : Int) ≤ 450 := by omega
  have hn0 : (0 : Int) ≤ (fN b : Int) := by omega
  have HCP : Hid (∀ W, Rd W (some ⟨bb, bo, none⟩) 480 (u8s b) → Calls Try.prog 64 #[.slice (some ⟨bb, bo + 30, none⟩) (fN b) (c - 30)] W fun e w' => e = .returned (.slice (some ⟨W.heap.size, 0, none⟩) (fN b) (fN b)) ∧ Blk w' W.heap.size 5 (u8s (fData b)) ∧ Below W.heap.size W w') := fun W hr => copied_any _ _ _ _ W (rd_part hr 30 (fN b) (by omega)) (by omega)
  have HCK := Lib.hid (fun A W => fcheck_any A (fN b) (fN b) (fK b) (fD b) (fI b) (fC b) W h1 h3 hn)
  rw [hch] at HCK
  have HAT : Hid (∀ W, Rd W (some ⟨bb, bo, none⟩) 480 (u8s b) → Calls Try.prog 63 #[.slice (some ⟨bb, bo + (30 + fN b), none⟩) (480 - (30 + fN b)) (c - (30 + fN b))] W fun e w' => e = .returned (.bool true) ∧ W = w') := fun W hr => by
    have h5 := rd_part hr (30 + fN b) (480 - (30 + fN b)) (by omega)
    rw [List.take_of_length_le (by rw [List.length_drop, hr.len]; exact Nat.le_refl _)] at h5
    have h6 := allZero_any _ _ (c - (30 + fN b)) _ W h5 (by omega)
    rw [htl] at h6
    exact h6
  have HAU : Hid (480 ≤ 30 + fN b → ∀ W, Calls Try.prog 63 #[.slice (some ⟨bb, bo, none⟩) (480 - (30 + fN b)) 0] W fun e w' => e = .returned (.bool true) ∧ W = w') := fun hle W => by
    rw [show 480 - (30 + fN b) = 0 by omega]
    have h6 := allZero_any (some ⟨bb, bo, none⟩) 0 0 [] W (Rd.nil _ _) (by omega)
    have e7 : b.drop (30 + fN b) = [] := List.drop_eq_nil_of_le (by rw [HR.out.len]; exact hle)
    rw [e7] at htl
    rw [htl] at h6
    exact h6
  have n30 : ¬ c = 30 := by omega
  have e30 : (30 : Int) ≤ (c : Int) := by omega
  have eC : (30 : Int) + (fN b : Int) ≤ (c : Int) := by omega
  have e4 : (30 : Int) + (fN b : Int) ≤ 480 := by omega
  have e5 : (30 : Int) + (fN b : Int) - 30 = (fN b : Int) := by omega
  clear hch htl
  go_wp2_with (first
    | (go_at_call 64; (with_reducible refine (HCP.out _ (by exact HR8.out)).mono ?_); rintro e w9 ⟨rfl, hb9, hB9⟩
       have HB9 := Lib.hid (HB8.out.below hB9 HB8.out.lt)
       have c94 := (hB9.cell (p := ⟨gp, 4, none⟩) hgl8).trans c84
       have f94 := (hB9.frozen (p := ⟨gp, 4, none⟩) hgl8).trans f84
       have HE9 := Lib.hid (HE8.out.trans (hB9.mono HE8.out.size))
       have HZ9 := Lib.hid (HZ8.out.below hB9 HZ8.out.lt)
       have HD9 := Lib.hid hb9
       have HB10 : Hid (Blk (w9.setCell ⟨gp, 4, none⟩ (.slice (some ⟨w8.heap.size, 0, none⟩) (fN b) (fN b))) gp 90 [.int .u8 (fK b), .int .u64 (fD b), .int .i64 (fI b), .int .i64 (fC b), .slice (some ⟨w8.heap.size, 0, none⟩) (fN b) (fN b)]) := HB9.out.set_ 4 (.slice (some ⟨w8.heap.size, 0, none⟩) (fN b) (fN b))
       have HE10 := Lib.hid (HE9.out.setCell (p := ⟨gp, 4, none⟩) (by show _ ≤ gp; omega) (.slice (some ⟨w8.heap.size, 0, none⟩) (fN b) (fN b)))
       have HZ10 := Lib.hid (HZ9.out.far (p := ⟨gp, 4, none⟩) (by show _ ≠ gp; omega) (.slice (some ⟨w8.heap.size, 0, none⟩) (fN b) (fN b)))
       have HD10 := Lib.hid (HD9.out.far (p := ⟨gp, 4, none⟩) (by show _ ≠ gp; omega) (.slice (some ⟨w8.heap.size, 0, none⟩) (fN b) (fN b)))
       clear hb9 hB9)
    | refine wpList_load_mid rfl 90 (.tmp 8) rfl gp 0 (by rfl) [.int .u8 (fK b), .int .u64 (fD b), .int .i64 (fI b), .int .i64 (fC b), .slice (some ⟨w8.heap.size, 0, none⟩) (fN b) (fN b)] _ HB10.out.range Try.underlying90 rfl (by kernel_rfl) ?_
    | (go_at_call 57; (with_reducible refine (HCK.out _ _).mono ?_); rintro e w11 ⟨rfl, hB11⟩
       have hs10 := HE10.out.size
       have HB11 := Lib.hid (HB10.out.below hB11 HB10.out.lt)
       have HE11 := Lib.hid (HE10.out.trans (hB11.mono hs10))
       have HZ11 := Lib.hid (HZ10.out.below hB11 HZ10.out.lt)
       have HD11 := Lib.hid (HD10.out.below hB11 HD10.out.lt)
       have HR11 := Lib.hid (HR.out.below HE11.out)
       clear hB11)
    | (go_at_call 63; (with_reducible refine (HAT.out _ (by exact HR11.out)).mono ?_); rintro e w12 ⟨rfl, rfl⟩)
    | (go_at_call 63; (with_reducible refine (HAU.out (by omega) _).mono ?_); rintro e w12 ⟨rfl, rfl⟩)
    | (refine wpList_store_all rfl 90 (.tmp 2) (.tmp 87) rfl w.heap.size [.int .u8 0, .int .u64 0, .int .i64 0, .int .i64 0, .slice none 0 0] (by rfl) (by rfl) 90 _ HZ11.out (by kernel_rfl) (part_one _ _ _ _ _ _ _) rfl ?_
       intro w13 hb13 ho13
       have HB13 := Lib.hid hb13
       have HE13 := Lib.hid (ho13.below HE11.out (Nat.le_refl _) HE11.out.size)
       clear hb13 ho13))
  all_goals exact bodyPost_ret (res_cell_tmp rfl _ w.heap.size 90 _ rfl HB13.out _ Try.underlying90 rfl (by kernel_rfl)) rfl ⟨rfl, HE13.out⟩

set_option maxRecDepth 100000 in
set_option maxHeartbeats 4000000 in
theorem fparse_3d (A : Option Addr) (c : Nat) (b : List UInt8) (w : World) (h : Rd w A 480 (u8s b)) (hc : 480 ≤ c) (hz : allZ (b.take 16) = true) (h1 : 1 ≤ fK b) (h3 : fK b ≤ 3) (h19 : fZ b = 0) (hn : fN b ≤ 450) (hch : chk (fK b) (fI b) (fC b) (fD b) (fN b) = 0) (htl : allZ (b.drop (30 + fN b)) = false) :
    Calls Try.prog 42 #[.slice A 480 c] w fun e w' => e = .returned (.tuple #[partZ, .int .i64 3]) ∧ Below w.heap.size w w' := by
  obtain ⟨bb, bo, rfl, hbb, _⟩ := h.2 (by omega)
  have HR := Lib.hid h
  have hbl : b.length = 480 := h.len
  have HAZ : Hid (∀ W, Rd W (some ⟨bb, bo, none⟩) 480 (u8s b) → Calls Try.prog 63 #[.slice (some ⟨bb, bo, none⟩) 16 c] W fun e w' => e = .returned (.bool true) ∧ W = w') := fun W hr => by
    have h5 := rd_part hr 0 16 (by omega)
    rw [List.drop_zero] at h5
    have h6 := allZero_any (some ⟨bb, bo + 0, none⟩) 16 c (b.take 16) W h5 (by omega)
    rw [hz] at h6
    exact h6
  have k16 := h.get (i := 16) (by omega)
  have hkd : (b.getD 16 0).toNat = fK b := rfl
  rw [hkd] at k16
  have HG8 : Hid (∀ W, Rd W (some ⟨bb, bo, none⟩) 480 (u8s b) → Calls Try.prog 34 #[.int .i64 2, .slice (some ⟨bb, bo, none⟩) 480 c, .int .i64 20, .int .i64 8] W fun e w' => e = .returned (.tuple #[.int .u64 (fD b), .int .i64 0]) ∧ W = w') := fun W hr => get_2 _ 480 c 20 8 b W hr (by omega) (by omega) (by omega) (by omega)
  have HG2 : Hid (∀ W, Rd W (some ⟨bb, bo, none⟩) 480 (u8s b) → Calls Try.prog 34 #[.int .i64 2, .slice (some ⟨bb, bo, none⟩) 480 c, .int .i64 28, .int .i64 2] W fun e w' => e = .returned (.tuple #[.int .u64 (fN b), .int .i64 0]) ∧ W = w') := fun W hr => get_2 _ 480 c 28 2 b W hr (by omega) (by omega) (by omega) (by omega)
  have k19 := h.get (i := 19) (by omega)
  have hzd : (b.getD 19 0).toNat = fZ b := rfl
  rw [hzd] at k19
  have hk1 : ¬ (fK b : Int) < 1 := by omega
  have hk3 : ¬ (3 : Int) < (fK b : Int) := by omega
  have hn4 : ¬ (450 : Int) < (fN b : Int) := by omega
  have hid : (b.getD 17 0).toNat = fI b := rfl
  have hcd : (b.getD 18 0).toNat = fC b := rfl
  have hwi : IntKind.i64.wrap ((b.getD 17 0).toNat : Int) = ((b.getD 17 0).toNat : Int) := IntWalk.i64_in _ (by have := (b.getD 17 0).toNat_lt; omega)
  have hwc : IntKind.i64.wrap ((b.getD 18 0).toNat : Int) = ((b.getD 18 0).toNat : Int) := IntWalk.i64_in _ (by have := (b.getD 18 0).toNat_lt; omega)
  have HID := Lib.hid hid
  have HCD := Lib.hid hcd
  have HKD := Lib.hid hkd
  have HWI := Lib.hid hwi
  have HWC := Lib.hid hwc
  rw [h19] at k19
  have HR0 : Hid (Rd (w.alloc (.cells #[.int .u8 0, .int .u64 0, .int .i64 0, .int .i64 0, .slice none 0 0] 90)).drew (some ⟨bb, bo, none⟩) 480 (u8s b) ∧ Below w.heap.size w (w.alloc (.cells #[.int .u8 0, .int .u64 0, .int .i64 0, .int .i64 0, .slice none 0 0] 90)).drew ∧ Blk (w.alloc (.cells #[.int .u8 0, .int .u64 0, .int .i64 0, .int .i64 0, .slice none 0 0] 90)).drew w.heap.size 90 [.int .u8 0, .int .u64 0, .int .i64 0, .int .i64 0, .slice none 0 0] ∧ w.heap.size + 1 ≤ (w.alloc (.cells #[.int .u8 0, .int .u64 0, .int .i64 0, .int .i64 0, .slice none 0 0] 90)).drew.heap.size) := ⟨(h.alloc _).drew, ((Below.refl _ _).alloc (Nat.le_refl _) _).drew, (Blk.new' rfl rfl : Blk _ _ _ _).drew, by simp⟩
  clear hz h hbl hkd hzd h19 hid hcd hwi hwc
  go_enter Try.func42, Try.ntmps42
  go_wp2_with (first
    | (go_at_call 63; (with_reducible refine (HAZ.out _ (by exact HR.out.alloc _)).mono ?_); rintro e w1 ⟨rfl, rfl⟩)
    | (go_at_call 34; (with_reducible refine (HG2.out _ (by exact HR.out.alloc _)).mono ?_); rintro e w3 ⟨rfl, rfl⟩)
    | (go_at_call 34; (with_reducible refine (HG8.out _ (by exact HR.out.alloc _)).mono ?_); rintro e w2 ⟨rfl, rfl⟩))
  have hwi := HWI.out
  have hwc := HWC.out
  have hkd := HKD.out
  have hid := HID.out
  have hcd := HCD.out
  refine region_K (by kernel_rfl) 14 (fun W => Rd W (some ⟨bb, bo, none⟩) 480 (u8s b)) ?_
  refine AnyF.start 13 8 (w.heap.size + 1) 90 [.int .u8 0, .int .u64 0, .int .i64 0, .int .i64 0, .slice none 0 0] (fun W => Rd W (some ⟨bb, bo, none⟩) 480 (u8s b) ∧ Below w.heap.size w W ∧ Blk W w.heap.size 90 [.int .u8 0, .int .u64 0, .int .i64 0, .int .i64 0, .slice none 0 0] ∧ w.heap.size + 1 ≤ W.heap.size) HR0.out ?_
  refine AnyF.pure 0 (v := .slice (some ⟨bb, bo, none⟩) 480 c) rfl (by decide) (fun g => by cases g <;> kernel_rfl) (fun _ _ _ h => h) rfl (by decide) (fun st _ => by cases st <;> kernel_rfl) (fun _ h => h.1) ?_
  refine AnyF.pure 1 (v := .pointer (some ⟨bb, bo + 16, none⟩)) rfl (by decide) (fun g => by cases g <;> kernel_rfl) (fun _ _ _ h => h) rfl (by decide) (fun st _ => by cases st <;> kernel_rfl) (fun _ h => h.1) ?_
  refine AnyF.load 2 (v := .int .u8 ((b.getD 16 0).toNat : Int)) rfl (by decide) (fun g => by cases g <;> kernel_rfl) (by kernel_rfl) (fun g => by cases g <;> kernel_rfl) (fun _ _ _ h => h) rfl (by decide) (fun st w' hw' => ex_load (p := ⟨bb, bo + 16, none⟩) rfl (by cases st <;> kernel_rfl) agU8 (hw'.get (i := 16) (by omega))) (fun _ h => h.1) ?_
  refine AnyF.pure 3 (v := .int .u64 (fD b : Int)) rfl (by decide) (fun g => by cases g <;> kernel_rfl) (fun _ _ _ h => h) rfl (by decide) (fun st _ => by cases st <;> kernel_rfl) (fun _ h => h.1) ?_
  refine AnyF.pure 4 (v := .slice (some ⟨bb, bo, none⟩) 480 c) rfl (by decide) (fun g => by cases g <;> kernel_rfl) (fun _ _ _ h => h) rfl (by decide) (fun st _ => by cases st <;> kernel_rfl) (fun _ h => h.1) ?_
  refine AnyF.pure 5 (v := .pointer (some ⟨bb, bo + 17, none⟩)) rfl (by decide) (fun g => by cases g <;> kernel_rfl) (fun _ _ _ h => h) rfl (by decide) (fun st _ => by cases st <;> kernel_rfl) (fun _ h => h.1) ?_
  refine AnyF.load 6 (v := .int .u8 ((b.getD 17 0).toNat : Int)) rfl (by decide) (fun g => by cases g <;> kernel_rfl) (by kernel_rfl) (fun g => by cases g <;> kernel_rfl) (fun _ _ _ h => h) rfl (by decide) (fun st w' hw' => ex_load (p := ⟨bb, bo + 17, none⟩) rfl (by cases st <;> kernel_rfl) agU8 (hw'.get (i := 17) (by omega))) (fun _ h => h.1) ?_
  refine AnyF.pure 7 (v := .int .i64 (IntKind.i64.wrap ((b.getD 17 0).toNat : Int))) rfl (by decide) (fun g => by cases g <;> kernel_rfl) (fun _ _ _ h => h) rfl (by decide) (fun st _ => by cases st <;> kernel_rfl) (fun _ h => h.1) ?_
  refine AnyF.pure 8 (v := .slice (some ⟨bb, bo, none⟩) 480 c) rfl (by decide) (fun g => by cases g <;> kernel_rfl) (fun _ _ _ h => h) rfl (by decide) (fun st _ => by cases st <;> kernel_rfl) (fun _ h => h.1) ?_
  refine AnyF.pure 9 (v := .pointer (some ⟨bb, bo + 18, none⟩)) rfl (by decide) (fun g => by cases g <;> kernel_rfl) (fun _ _ _ h => h) rfl (by decide) (fun st _ => by cases st <;> kernel_rfl) (fun _ h => h.1) ?_
  refine AnyF.load 10 (v := .int .u8 ((b.getD 18 0).toNat : Int)) rfl (by decide) (fun g => by cases g <;> kernel_rfl) (by kernel_rfl) (fun g => by cases g <;> kernel_rfl) (fun _ _ _ h => h) rfl (by decide) (fun st w' hw' => ex_load (p := ⟨bb, bo + 18, none⟩) rfl (by cases st <;> kernel_rfl) agU8 (hw'.get (i := 18) (by omega))) (fun _ h => h.1) ?_
  refine AnyF.pure 11 (v := .int .i64 (IntKind.i64.wrap ((b.getD 18 0).toNat : Int))) rfl (by decide) (fun g => by cases g <;> kernel_rfl) (fun _ _ _ h => h) rfl (by decide) (fun st _ => by cases st <;> kernel_rfl) (fun _ h => h.1) ?_
  refine AnyF.pure 12 (v := .agg #[.int .u8 ((b.getD 16 0).toNat : Int), .int .u64 (fD b : Int), .int .i64 (IntKind.i64.wrap ((b.getD 17 0).toNat : Int)), .int .i64 (IntKind.i64.wrap ((b.getD 18 0).toNat : Int)), .slice none 0 0]) rfl (by decide) (fun g => by cases g <;> kernel_rfl) (fun _ _ _ h => h) rfl (by decide) (fun st _ => by cases st <;> kernel_rfl) (fun _ h => h.1) ?_
  refine AnyF.fin rfl rfl rfl (fun _ _ => by kernel_rfl) (by kernel_rfl) (fun _ o h => ⟨h.1.alloc o, h.2.1.alloc h.2.1.size o, h.2.2.1.alloc o, Nat.le_trans h.2.2.2 (by simp)⟩) (fun _ h => h.2.2.2) (fun _ h => h.1) ?_
  intro gp w7 hgp hp7 hU7
  refine AnyK.storeAll 14 (t := 90) (x := .tmp 8) (y := .tmp 71) gp [.int .u8 ((b.getD 16 0).toNat : Int), .int .u64 (fD b : Int), .int .i64 (IntKind.i64.wrap ((b.getD 17 0).toNat : Int)), .int .i64 (IntKind.i64.wrap ((b.getD 18 0).toNat : Int)), .slice none 0 0] 90 [.int .u8 0, .int .u64 0, .int .i64 0, .int .i64 0, .slice none 0 0] rfl rfl rfl rfl (by kernel_rfl) (by kernel_rfl) (by kernel_rfl) hp7 (by kernel_rfl) (part_one _ _ _ _ _ _ _) rfl (fun _ _ _ h => (by cases h)) ?_
  intro w8 hb8 ho8
  refine AnyK.done (by kernel_rfl) ?_
  rw [hwi, hwc, hkd, hid, hcd] at hb8
  have hgw : w.heap.size + 1 ≤ gp := hgp
  have HB8 := Lib.hid hb8
  have HE8 := Lib.hid (ho8.below hU7.2.1 (by omega) hU7.2.1.size)
  have HZ8 := Lib.hid (ho8.blk hU7.2.2.1 (by omega))
  have hR8 : Rd w8 (some ⟨bb, bo, none⟩) 480 (u8s b) := HR.out.below HE8.out
  have HR8 := Lib.hid hR8
  have hgl8 := HB8.out.lt
  have c84 := HB8.out.cell 4
  have f84 := HB8.out.frozen 4
  simp only [List.getElem?_cons_zero, List.getElem?_cons_succ] at c84
  clear hb8 ho8 hU7 hp7 hR8 HR0 HAZ HG8 HG2 k16 k19 hwi hwc hkd hid hcd
  have HBL := Lib.hid (fN_data b)
  have hn450 : (fN b : Int) ≤ 450 := by omega
  have hn0 : (0 : Int) ≤ (fN b : Int) := by omega
  have HCP : Hid (∀ W, Rd W (some ⟨bb, bo, none⟩) 480 (u8s b) → Calls Try.prog 64 #[.slice (some ⟨bb, bo + 30, none⟩) (fN b) (c - 30)] W fun e w' => e = .returned (.slice (some ⟨W.heap.size, 0, none⟩) (fN b) (fN b)) ∧ Blk w' W.heap.size 5 (u8s (fData b)) ∧ Below W.heap.size W w') := fun W hr => copied_any _ _ _ _ W (rd_part hr 30 (fN b) (by omega)) (by omega)
  have HCK := Lib.hid (fun A W => fcheck_any A (fN b) (fN b) (fK b) (fD b) (fI b) (fC b) W h1 h3 hn)
  rw [hch] at HCK
  have HAT : Hid (∀ W, Rd W (some ⟨bb, bo, none⟩) 480 (u8s b) → Calls Try.prog 63 #[.slice (some ⟨bb, bo + (30 + fN b), none⟩) (480 - (30 + fN b)) (c - (30 + fN b))] W fun e w' => e = .returned (.bool false) ∧ W = w') := fun W hr => by
    have h5 := rd_part hr (30 + fN b) (480 - (30 + fN b)) (by omega)
    rw [List.take_of_length_le (by rw [List.length_drop, hr.len]; exact Nat.le_refl _)] at h5
    have h6 := allZero_any _ _ (c - (30 + fN b)) _ W h5 (by omega)
    rw [htl] at h6
    exact h6
  have HAU : Hid (480 ≤ 30 + fN b → ∀ W, Calls Try.prog 63 #[.slice (some ⟨bb, bo, none⟩) (480 - (30 + fN b)) 0] W fun e w' => e = .returned (.bool false) ∧ W = w') := fun hle W => by
    rw [show 480 - (30 + fN b) = 0 by omega]
    have h6 := allZero_any (some ⟨bb, bo, none⟩) 0 0 [] W (Rd.nil _ _) (by omega)
    have e7 : b.drop (30 + fN b) = [] := List.drop_eq_nil_of_le (by rw [HR.out.len]; exact hle)
    rw [e7] at htl
    rw [htl] at h6
    exact h6
  have n30 : ¬ c = 30 := by omega
  have e30 : (30 : Int) ≤ (c : Int) := by omega
  have eC : (30 : Int) + (fN b : Int) ≤ (c : Int) := by omega
  have e4 : (30 : Int) + (fN b : Int) ≤ 480 := by omega
  have e5 : (30 : Int) + (fN b : Int) - 30 = (fN b : Int) := by omega
  clear hch htl
  go_wp2_with (first
    | (go_at_call 64; (with_reducible refine (HCP.out _ (by exact HR8.out)).mono ?_); rintro e w9 ⟨rfl, hb9, hB9⟩
       have HB9 := Lib.hid (HB8.out.below hB9 HB8.out.lt)
       have c94 := (hB9.cell (p := ⟨gp, 4, none⟩) hgl8).trans c84
       have f94 := (hB9.frozen (p := ⟨gp, 4, none⟩) hgl8).trans f84
       have HE9 := Lib.hid (HE8.out.trans (hB9.mono HE8.out.size))
       have HZ9 := Lib.hid (HZ8.out.below hB9 HZ8.out.lt)
       have HD9 := Lib.hid hb9
       have HB10 : Hid (Blk (w9.setCell ⟨gp, 4, none⟩ (.slice (some ⟨w8.heap.size, 0, none⟩) (fN b) (fN b))) gp 90 [.int .u8 (fK b), .int .u64 (fD b), .int .i64 (fI b), .int .i64 (fC b), .slice (some ⟨w8.heap.size, 0, none⟩) (fN b) (fN b)]) := HB9.out.set_ 4 (.slice (some ⟨w8.heap.size, 0, none⟩) (fN b) (fN b))
       have HE10 := Lib.hid (HE9.out.setCell (p := ⟨gp, 4, none⟩) (by show _ ≤ gp; omega) (.slice (some ⟨w8.heap.size, 0, none⟩) (fN b) (fN b)))
       have HZ10 := Lib.hid (HZ9.out.far (p := ⟨gp, 4, none⟩) (by show _ ≠ gp; omega) (.slice (some ⟨w8.heap.size, 0, none⟩) (fN b) (fN b)))
       have HD10 := Lib.hid (HD9.out.far (p := ⟨gp, 4, none⟩) (by show _ ≠ gp; omega) (.slice (some ⟨w8.heap.size, 0, none⟩) (fN b) (fN b)))
       clear hb9 hB9)
    | refine wpList_load_mid rfl 90 (.tmp 8) rfl gp 0 (by rfl) [.int .u8 (fK b), .int .u64 (fD b), .int .i64 (fI b), .int .i64 (fC b), .slice (some ⟨w8.heap.size, 0, none⟩) (fN b) (fN b)] _ HB10.out.range Try.underlying90 rfl (by kernel_rfl) ?_
    | (go_at_call 57; (with_reducible refine (HCK.out _ _).mono ?_); rintro e w11 ⟨rfl, hB11⟩
       have hs10 := HE10.out.size
       have HB11 := Lib.hid (HB10.out.below hB11 HB10.out.lt)
       have HE11 := Lib.hid (HE10.out.trans (hB11.mono hs10))
       have HZ11 := Lib.hid (HZ10.out.below hB11 HZ10.out.lt)
       have HD11 := Lib.hid (HD10.out.below hB11 HD10.out.lt)
       have HR11 := Lib.hid (HR.out.below HE11.out)
       clear hB11)
    | (go_at_call 63; (with_reducible refine (HAT.out _ (by exact HR11.out)).mono ?_); rintro e w12 ⟨rfl, rfl⟩)
    | (go_at_call 63; (with_reducible refine (HAU.out (by omega) _).mono ?_); rintro e w12 ⟨rfl, rfl⟩)
    | (refine wpList_store_all rfl 90 (.tmp 2) (.tmp 87) rfl w.heap.size [.int .u8 0, .int .u64 0, .int .i64 0, .int .i64 0, .slice none 0 0] (by rfl) (by rfl) 90 _ HZ11.out (by kernel_rfl) (part_one _ _ _ _ _ _ _) rfl ?_
       intro w13 hb13 ho13
       have HB13 := Lib.hid hb13
       have HE13 := Lib.hid (ho13.below HE11.out (Nat.le_refl _) HE11.out.size)
       clear hb13 ho13))
  all_goals exact bodyPost_ret (res_cell_tmp rfl _ w.heap.size 90 _ rfl HB13.out _ Try.underlying90 rfl (by kernel_rfl)) rfl ⟨rfl, HE13.out⟩

set_option maxRecDepth 100000 in
set_option maxHeartbeats 4000000 in
theorem fparse_3e (A : Option Addr) (c : Nat) (b : List UInt8) (w : World) (h : Rd w A 480 (u8s b)) (hc : 480 ≤ c) (hz : allZ (b.take 16) = true) (h1 : 1 ≤ fK b) (h3 : fK b ≤ 3) (h19 : fZ b = 0) (hn : fN b ≤ 450) (hch : chk (fK b) (fI b) (fC b) (fD b) (fN b) = 3) (htl : allZ (b.drop (30 + fN b)) = false) :
    Calls Try.prog 42 #[.slice A 480 c] w fun e w' => e = .returned (.tuple #[partZ, .int .i64 3]) ∧ Below w.heap.size w w' := by
  obtain ⟨bb, bo, rfl, hbb, _⟩ := h.2 (by omega)
  have HR := Lib.hid h
  have hbl : b.length = 480 := h.len
  have HAZ : Hid (∀ W, Rd W (some ⟨bb, bo, none⟩) 480 (u8s b) → Calls Try.prog 63 #[.slice (some ⟨bb, bo, none⟩) 16 c] W fun e w' => e = .returned (.bool true) ∧ W = w') := fun W hr => by
    have h5 := rd_part hr 0 16 (by omega)
    rw [List.drop_zero] at h5
    have h6 := allZero_any (some ⟨bb, bo + 0, none⟩) 16 c (b.take 16) W h5 (by omega)
    rw [hz] at h6
    exact h6
  have k16 := h.get (i := 16) (by omega)
  have hkd : (b.getD 16 0).toNat = fK b := rfl
  rw [hkd] at k16
  have HG8 : Hid (∀ W, Rd W (some ⟨bb, bo, none⟩) 480 (u8s b) → Calls Try.prog 34 #[.int .i64 2, .slice (some ⟨bb, bo, none⟩) 480 c, .int .i64 20, .int .i64 8] W fun e w' => e = .returned (.tuple #[.int .u64 (fD b), .int .i64 0]) ∧ W = w') := fun W hr => get_2 _ 480 c 20 8 b W hr (by omega) (by omega) (by omega) (by omega)
  have HG2 : Hid (∀ W, Rd W (some ⟨bb, bo, none⟩) 480 (u8s b) → Calls Try.prog 34 #[.int .i64 2, .slice (some ⟨bb, bo, none⟩) 480 c, .int .i64 28, .int .i64 2] W fun e w' => e = .returned (.tuple #[.int .u64 (fN b), .int .i64 0]) ∧ W = w') := fun W hr => get_2 _ 480 c 28 2 b W hr (by omega) (by omega) (by omega) (by omega)
  have k19 := h.get (i := 19) (by omega)
  have hzd : (b.getD 19 0).toNat = fZ b := rfl
  rw [hzd] at k19
  have hk1 : ¬ (fK b : Int) < 1 := by omega
  have hk3 : ¬ (3 : Int) < (fK b : Int) := by omega
  have hn4 : ¬ (450 : Int) < (fN b : Int) := by omega
  have hid : (b.getD 17 0).toNat = fI b := rfl
  have hcd : (b.getD 18 0).toNat = fC b := rfl
  have hwi : IntKind.i64.wrap ((b.getD 17 0).toNat : Int) = ((b.getD 17 0).toNat : Int) := IntWalk.i64_in _ (by have := (b.getD 17 0).toNat_lt; omega)
  have hwc : IntKind.i64.wrap ((b.getD 18 0).toNat : Int) = ((b.getD 18 0).toNat : Int) := IntWalk.i64_in _ (by have := (b.getD 18 0).toNat_lt; omega)
  have HID := Lib.hid hid
  have HCD := Lib.hid hcd
  have HKD := Lib.hid hkd
  have HWI := Lib.hid hwi
  have HWC := Lib.hid hwc
  rw [h19] at k19
  have HR0 : Hid (Rd (w.alloc (.cells #[.int .u8 0, .int .u64 0, .int .i64 0, .int .i64 0, .slice none 0 0] 90)).drew (some ⟨bb, bo, none⟩) 480 (u8s b) ∧ Below w.heap.size w (w.alloc (.cells #[.int .u8 0, .int .u64 0, .int .i64 0, .int .i64 0, .slice none 0 0] 90)).drew ∧ Blk (w.alloc (.cells #[.int .u8 0, .int .u64 0, .int .i64 0, .int .i64 0, .slice none 0 0] 90)).drew w.heap.size 90 [.int .u8 0, .int .u64 0, .int .i64 0, .int .i64 0, .slice none 0 0] ∧ w.heap.size + 1 ≤ (w.alloc (.cells #[.int .u8 0, .int .u64 0, .int .i64 0, .int .i64 0, .slice none 0 0] 90)).drew.heap.size) := ⟨(h.alloc _).drew, ((Below.refl _ _).alloc (Nat.le_refl _) _).drew, (Blk.new' rfl rfl : Blk _ _ _ _).drew, by simp⟩
  clear hz h hbl hkd hzd h19 hid hcd hwi hwc
  go_enter Try.func42, Try.ntmps42
  go_wp2_with (first
    | (go_at_call 63; (with_reducible refine (HAZ.out _ (by exact HR.out.alloc _)).mono ?_); rintro e w1 ⟨rfl, rfl⟩)
    | (go_at_call 34; (with_reducible refine (HG2.out _ (by exact HR.out.alloc _)).mono ?_); rintro e w3 ⟨rfl, rfl⟩)
    | (go_at_call 34; (with_reducible refine (HG8.out _ (by exact HR.out.alloc _)).mono ?_); rintro e w2 ⟨rfl, rfl⟩))
  have hwi := HWI.out
  have hwc := HWC.out
  have hkd := HKD.out
  have hid := HID.out
  have hcd := HCD.out
  refine region_K (by kernel_rfl) 14 (fun W => Rd W (some ⟨bb, bo, none⟩) 480 (u8s b)) ?_
  refine AnyF.start 13 8 (w.heap.size + 1) 90 [.int .u8 0, .int .u64 0, .int .i64 0, .int .i64 0, .slice none 0 0] (fun W => Rd W (some ⟨bb, bo, none⟩) 480 (u8s b) ∧ Below w.heap.size w W ∧ Blk W w.heap.size 90 [.int .u8 0, .int .u64 0, .int .i64 0, .int .i64 0, .slice none 0 0] ∧ w.heap.size + 1 ≤ W.heap.size) HR0.out ?_
  refine AnyF.pure 0 (v := .slice (some ⟨bb, bo, none⟩) 480 c) rfl (by decide) (fun g => by cases g <;> kernel_rfl) (fun _ _ _ h => h) rfl (by decide) (fun st _ => by cases st <;> kernel_rfl) (fun _ h => h.1) ?_
  refine AnyF.pure 1 (v := .pointer (some ⟨bb, bo + 16, none⟩)) rfl (by decide) (fun g => by cases g <;> kernel_rfl) (fun _ _ _ h => h) rfl (by decide) (fun st _ => by cases st <;> kernel_rfl) (fun _ h => h.1) ?_
  refine AnyF.load 2 (v := .int .u8 ((b.getD 16 0).toNat : Int)) rfl (by decide) (fun g => by cases g <;> kernel_rfl) (by kernel_rfl) (fun g => by cases g <;> kernel_rfl) (fun _ _ _ h => h) rfl (by decide) (fun st w' hw' => ex_load (p := ⟨bb, bo + 16, none⟩) rfl (by cases st <;> kernel_rfl) agU8 (hw'.get (i := 16) (by omega))) (fun _ h => h.1) ?_
  refine AnyF.pure 3 (v := .int .u64 (fD b : Int)) rfl (by decide) (fun g => by cases g <;> kernel_rfl) (fun _ _ _ h => h) rfl (by decide) (fun st _ => by cases st <;> kernel_rfl) (fun _ h => h.1) ?_
  refine AnyF.pure 4 (v := .slice (some ⟨bb, bo, none⟩) 480 c) rfl (by decide) (fun g => by cases g <;> kernel_rfl) (fun _ _ _ h => h) rfl (by decide) (fun st _ => by cases st <;> kernel_rfl) (fun _ h => h.1) ?_
  refine AnyF.pure 5 (v := .pointer (some ⟨bb, bo + 17, none⟩)) rfl (by decide) (fun g => by cases g <;> kernel_rfl) (fun _ _ _ h => h) rfl (by decide) (fun st _ => by cases st <;> kernel_rfl) (fun _ h => h.1) ?_
  refine AnyF.load 6 (v := .int .u8 ((b.getD 17 0).toNat : Int)) rfl (by decide) (fun g => by cases g <;> kernel_rfl) (by kernel_rfl) (fun g => by cases g <;> kernel_rfl) (fun _ _ _ h => h) rfl (by decide) (fun st w' hw' => ex_load (p := ⟨bb, bo + 17, none⟩) rfl (by cases st <;> kernel_rfl) agU8 (hw'.get (i := 17) (by omega))) (fun _ h => h.1) ?_
  refine AnyF.pure 7 (v := .int .i64 (IntKind.i64.wrap ((b.getD 17 0).toNat : Int))) rfl (by decide) (fun g => by cases g <;> kernel_rfl) (fun _ _ _ h => h) rfl (by decide) (fun st _ => by cases st <;> kernel_rfl) (fun _ h => h.1) ?_
  refine AnyF.pure 8 (v := .slice (some ⟨bb, bo, none⟩) 480 c) rfl (by decide) (fun g => by cases g <;> kernel_rfl) (fun _ _ _ h => h) rfl (by decide) (fun st _ => by cases st <;> kernel_rfl) (fun _ h => h.1) ?_
  refine AnyF.pure 9 (v := .pointer (some ⟨bb, bo + 18, none⟩)) rfl (by decide) (fun g => by cases g <;> kernel_rfl) (fun _ _ _ h => h) rfl (by decide) (fun st _ => by cases st <;> kernel_rfl) (fun _ h => h.1) ?_
  refine AnyF.load 10 (v := .int .u8 ((b.getD 18 0).toNat : Int)) rfl (by decide) (fun g => by cases g <;> kernel_rfl) (by kernel_rfl) (fun g => by cases g <;> kernel_rfl) (fun _ _ _ h => h) rfl (by decide) (fun st w' hw' => ex_load (p := ⟨bb, bo + 18, none⟩) rfl (by cases st <;> kernel_rfl) agU8 (hw'.get (i := 18) (by omega))) (fun _ h => h.1) ?_
  refine AnyF.pure 11 (v := .int .i64 (IntKind.i64.wrap ((b.getD 18 0).toNat : Int))) rfl (by decide) (fun g => by cases g <;> kernel_rfl) (fun _ _ _ h => h) rfl (by decide) (fun st _ => by cases st <;> kernel_rfl) (fun _ h => h.1) ?_
  refine AnyF.pure 12 (v := .agg #[.int .u8 ((b.getD 16 0).toNat : Int), .int .u64 (fD b : Int), .int .i64 (IntKind.i64.wrap ((b.getD 17 0).toNat : Int)), .int .i64 (IntKind.i64.wrap ((b.getD 18 0).toNat : Int)), .slice none 0 0]) rfl (by decide) (fun g => by cases g <;> kernel_rfl) (fun _ _ _ h => h) rfl (by decide) (fun st _ => by cases st <;> kernel_rfl) (fun _ h => h.1) ?_
  refine AnyF.fin rfl rfl rfl (fun _ _ => by kernel_rfl) (by kernel_rfl) (fun _ o h => ⟨h.1.alloc o, h.2.1.alloc h.2.1.size o, h.2.2.1.alloc o, Nat.le_trans h.2.2.2 (by simp)⟩) (fun _ h => h.2.2.2) (fun _ h => h.1) ?_
  intro gp w7 hgp hp7 hU7
  refine AnyK.storeAll 14 (t := 90) (x := .tmp 8) (y := .tmp 71) gp [.int .u8 ((b.getD 16 0).toNat : Int), .int .u64 (fD b : Int), .int .i64 (IntKind.i64.wrap ((b.getD 17 0).toNat : Int)), .int .i64 (IntKind.i64.wrap ((b.getD 18 0).toNat : Int)), .slice none 0 0] 90 [.int .u8 0, .int .u64 0, .int .i64 0, .int .i64 0, .slice none 0 0] rfl rfl rfl rfl (by kernel_rfl) (by kernel_rfl) (by kernel_rfl) hp7 (by kernel_rfl) (part_one _ _ _ _ _ _ _) rfl (fun _ _ _ h => (by cases h)) ?_
  intro w8 hb8 ho8
  refine AnyK.done (by kernel_rfl) ?_
  rw [hwi, hwc, hkd, hid, hcd] at hb8
  have hgw : w.heap.size + 1 ≤ gp := hgp
  have HB8 := Lib.hid hb8
  have HE8 := Lib.hid (ho8.below hU7.2.1 (by omega) hU7.2.1.size)
  have HZ8 := Lib.hid (ho8.blk hU7.2.2.1 (by omega))
  have hR8 : Rd w8 (some ⟨bb, bo, none⟩) 480 (u8s b) := HR.out.below HE8.out
  have HR8 := Lib.hid hR8
  have hgl8 := HB8.out.lt
  have c84 := HB8.out.cell 4
  have f84 := HB8.out.frozen 4
  simp only [List.getElem?_cons_zero, List.getElem?_cons_succ] at c84
  clear hb8 ho8 hU7 hp7 hR8 HR0 HAZ HG8 HG2 k16 k19 hwi hwc hkd hid hcd
  have HBL := Lib.hid (fN_data b)
  have hn450 : (fN b : Int) ≤ 450 := by omega
  have hn0 : (0 : Int) ≤ (fN b : Int) := by omega
  have HCP : Hid (∀ W, Rd W (some ⟨bb, bo, none⟩) 480 (u8s b) → Calls Try.prog 64 #[.slice (some ⟨bb, bo + 30, none⟩) (fN b) (c - 30)] W fun e w' => e = .returned (.slice (some ⟨W.heap.size, 0, none⟩) (fN b) (fN b)) ∧ Blk w' W.heap.size 5 (u8s (fData b)) ∧ Below W.heap.size W w') := fun W hr => copied_any _ _ _ _ W (rd_part hr 30 (fN b) (by omega)) (by omega)
  have HCK := Lib.hid (fun A W => fcheck_any A (fN b) (fN b) (fK b) (fD b) (fI b) (fC b) W h1 h3 hn)
  rw [hch] at HCK
  have HAT : Hid (∀ W, Rd W (some ⟨bb, bo, none⟩) 480 (u8s b) → Calls Try.prog 63 #[.slice (some ⟨bb, bo + (30 + fN b), none⟩) (480 - (30 + fN b)) (c - (30 + fN b))] W fun e w' => e = .returned (.bool false) ∧ W = w') := fun W hr => by
    have h5 := rd_part hr (30 + fN b) (480 - (30 + fN b)) (by omega)
    rw [List.take_of_length_le (by rw [List.length_drop, hr.len]; exact Nat.le_refl _)] at h5
    have h6 := allZero_any _ _ (c - (30 + fN b)) _ W h5 (by omega)
    rw [htl] at h6
    exact h6
  have HAU : Hid (480 ≤ 30 + fN b → ∀ W, Calls Try.prog 63 #[.slice (some ⟨bb, bo, none⟩) (480 - (30 + fN b)) 0] W fun e w' => e = .returned (.bool false) ∧ W = w') := fun hle W => by
    rw [show 480 - (30 + fN b) = 0 by omega]
    have h6 := allZero_any (some ⟨bb, bo, none⟩) 0 0 [] W (Rd.nil _ _) (by omega)
    have e7 : b.drop (30 + fN b) = [] := List.drop_eq_nil_of_le (by rw [HR.out.len]; exact hle)
    rw [e7] at htl
    rw [htl] at h6
    exact h6
  have n30 : ¬ c = 30 := by omega
  have e30 : (30 : Int) ≤ (c : Int) := by omega
  have eC : (30 : Int) + (fN b : Int) ≤ (c : Int) := by omega
  have e4 : (30 : Int) + (fN b : Int) ≤ 480 := by omega
  have e5 : (30 : Int) + (fN b : Int) - 30 = (fN b : Int) := by omega
  clear hch htl
  go_wp2_with (first
    | (go_at_call 64; (with_reducible refine (HCP.out _ (by exact HR8.out)).mono ?_); rintro e w9 ⟨rfl, hb9, hB9⟩
       have HB9 := Lib.hid (HB8.out.below hB9 HB8.out.lt)
       have c94 := (hB9.cell (p := ⟨gp, 4, none⟩) hgl8).trans c84
       have f94 := (hB9.frozen (p := ⟨gp, 4, none⟩) hgl8).trans f84
       have HE9 := Lib.hid (HE8.out.trans (hB9.mono HE8.out.size))
       have HZ9 := Lib.hid (HZ8.out.below hB9 HZ8.out.lt)
       have HD9 := Lib.hid hb9
       have HB10 : Hid (Blk (w9.setCell ⟨gp, 4, none⟩ (.slice (some ⟨w8.heap.size, 0, none⟩) (fN b) (fN b))) gp 90 [.int .u8 (fK b), .int .u64 (fD b), .int .i64 (fI b), .int .i64 (fC b), .slice (some ⟨w8.heap.size, 0, none⟩) (fN b) (fN b)]) := HB9.out.set_ 4 (.slice (some ⟨w8.heap.size, 0, none⟩) (fN b) (fN b))
       have HE10 := Lib.hid (HE9.out.setCell (p := ⟨gp, 4, none⟩) (by show _ ≤ gp; omega) (.slice (some ⟨w8.heap.size, 0, none⟩) (fN b) (fN b)))
       have HZ10 := Lib.hid (HZ9.out.far (p := ⟨gp, 4, none⟩) (by show _ ≠ gp; omega) (.slice (some ⟨w8.heap.size, 0, none⟩) (fN b) (fN b)))
       have HD10 := Lib.hid (HD9.out.far (p := ⟨gp, 4, none⟩) (by show _ ≠ gp; omega) (.slice (some ⟨w8.heap.size, 0, none⟩) (fN b) (fN b)))
       clear hb9 hB9)
    | refine wpList_load_mid rfl 90 (.tmp 8) rfl gp 0 (by rfl) [.int .u8 (fK b), .int .u64 (fD b), .int .i64 (fI b), .int .i64 (fC b), .slice (some ⟨w8.heap.size, 0, none⟩) (fN b) (fN b)] _ HB10.out.range Try.underlying90 rfl (by kernel_rfl) ?_
    | (go_at_call 57; (with_reducible refine (HCK.out _ _).mono ?_); rintro e w11 ⟨rfl, hB11⟩
       have hs10 := HE10.out.size
       have HB11 := Lib.hid (HB10.out.below hB11 HB10.out.lt)
       have HE11 := Lib.hid (HE10.out.trans (hB11.mono hs10))
       have HZ11 := Lib.hid (HZ10.out.below hB11 HZ10.out.lt)
       have HD11 := Lib.hid (HD10.out.below hB11 HD10.out.lt)
       have HR11 := Lib.hid (HR.out.below HE11.out)
       clear hB11)
    | (go_at_call 63; (with_reducible refine (HAT.out _ (by exact HR11.out)).mono ?_); rintro e w12 ⟨rfl, rfl⟩)
    | (go_at_call 63; (with_reducible refine (HAU.out (by omega) _).mono ?_); rintro e w12 ⟨rfl, rfl⟩)
    | (refine wpList_store_all rfl 90 (.tmp 2) (.tmp 87) rfl w.heap.size [.int .u8 0, .int .u64 0, .int .i64 0, .int .i64 0, .slice none 0 0] (by rfl) (by rfl) 90 _ HZ11.out (by kernel_rfl) (part_one _ _ _ _ _ _ _) rfl ?_
       intro w13 hb13 ho13
       have HB13 := Lib.hid hb13
       have HE13 := Lib.hid (ho13.below HE11.out (Nat.le_refl _) HE11.out.size)
       clear hb13 ho13))
  all_goals exact bodyPost_ret (res_cell_tmp rfl _ w.heap.size 90 _ rfl HB13.out _ Try.underlying90 rfl (by kernel_rfl)) rfl ⟨rfl, HE13.out⟩

theorem fparse_err (A : Option Addr) (c : Nat) (b : List UInt8) (w : World) (h : Rd w A 480 (u8s b)) (hc : 480 ≤ c) (he : perr b ≠ 0) :
    Calls Try.prog 42 #[.slice A 480 c] w fun e w' => e = .returned (.tuple #[partZ, .int .i64 (perr b)]) ∧ Below w.heap.size w w' := by
  by_cases hz : allZ (b.take 16) = false
  · rw [show perr b = 7 by unfold perr; rw [if_pos hz]]
    exact fparse_7 A c b w h hc hz
  · have hz1 : allZ (b.take 16) = true := by simpa using hz
    by_cases hk : fK b < 1 ∨ 3 < fK b
    · rw [show perr b = 1 by unfold perr; rw [if_neg hz, if_pos hk]]
      exact fparse_1 A c b w h hc hz1 hk
    · have h1 : 1 ≤ fK b := by omega
      have h3 : fK b ≤ 3 := by omega
      by_cases hn : fZ b ≠ 0 ∨ 450 < fN b
      · rw [show perr b = 3 by unfold perr; rw [if_neg hz, if_neg hk, if_pos hn]]
        by_cases h19 : fZ b = 0
        · exact fparse_3b A c b w h hc hz1 h1 h3 h19 (by omega)
        · exact fparse_3a A c b w h hc hz1 h1 h3 h19
      · have h19 : fZ b = 0 := by omega
        have hn2 : fN b ≤ 450 := by omega
        by_cases hch : chk (fK b) (fI b) (fC b) (fD b) (fN b) = 0
        · by_cases htl : allZ (b.drop (30 + fN b)) = false
          · rw [show perr b = 3 by unfold perr; rw [if_neg hz, if_neg hk, if_neg hn, if_neg (by simpa using hch), if_pos htl]]
            exact fparse_3d A c b w h hc hz1 h1 h3 h19 hn2 hch htl
          · exact absurd (by unfold perr; rw [if_neg hz, if_neg hk, if_neg hn, if_neg (by simpa using hch), if_neg htl]) he
        · rw [show perr b = 3 by unfold perr; rw [if_neg hz, if_neg hk, if_neg hn, if_pos hch]]
          have hch3 : chk (fK b) (fI b) (fC b) (fD b) (fN b) = 3 := by
            have : ¬ 450 < fN b := by omega
            revert hch
            unfold chk
            rw [if_neg this]
            repeat' split
            all_goals simp
          by_cases htl : allZ (b.drop (30 + fN b)) = false
          · exact fparse_3e A c b w h hc hz1 h1 h3 h19 hn2 hch3 htl
          · exact fparse_3c A c b w h hc hz1 h1 h3 h19 hn2 hch3 (by simpa using htl)
theorem perr_ok {b : List UInt8} (he : perr b = 0) : allZ (b.take 16) = true ∧ 1 ≤ fK b ∧ fK b ≤ 3 ∧ fZ b = 0 ∧ fN b ≤ 450 ∧ chk (fK b) (fI b) (fC b) (fD b) (fN b) = 0 ∧ allZ (b.drop (30 + fN b)) = true := by
  unfold perr at he
  split at he
  · omega
  · split at he
    · omega
    · split at he
      · omega
      · split at he
        · omega
        · split at he
          · omega
          · refine ⟨?_, ?_, ?_, ?_, ?_, ?_, ?_⟩ <;> first | omega | (simp_all; done)
theorem fparse_okk (A : Option Addr) (c : Nat) (b : List UInt8) (w : World) (h : Rd w A 480 (u8s b)) (hc : 480 ≤ c) (he : perr b = 0) :
    Calls Try.prog 42 #[.slice A 480 c] w fun e w' => ∃ A' n', e = .returned (.tuple #[.agg #[.int .u8 (fK b), .int .u64 (fD b), .int .i64 (fI b), .int .i64 (fC b), .slice A' (fN b) n'], .int .i64 0]) ∧ Rd w' A' (fN b) (u8s (fData b)) ∧ Below w.heap.size w w' := by
  obtain ⟨hz, h1, h3, h19, hn, hch, htl⟩ := perr_ok he
  exact fparse_ok A c b w h hc hz h1 h3 h19 hn hch htl

end Go.Proofs.Ytgkhglnfbhdkeaa
