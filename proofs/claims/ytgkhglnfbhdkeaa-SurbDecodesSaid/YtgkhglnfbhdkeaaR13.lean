/- shallotref11.Parse of any 480 bytes. -/
import Derived.Test.YtgkhglnfbhdkeaaR12
import Derived.Test.YtgkhglnfbhdkeaaFrm3
namespace Go.Proofs.Ytgkhglnfbhdkeaa
open Go.RowKit

theorem zlo {b : List UInt8} (hz : allZ (b.take 16) = true) (hb : b.length = 480) (k : Nat) (hk : k < 16) : b.getD k 0 = 0 := by
  unfold allZ at hz
  rw [List.all_eq_true] at hz
  have h1 : (b.take 16)[k]? = some (b.getD k 0) := by rw [List.getElem?_take, if_pos hk]; exact getD_get (by omega)
  simpa using hz _ (List.mem_of_getElem? h1)
theorem szU64 (w : World) : (sizeOf 29).run Try.prog w = .ok 1 w := by kernel_rfl
theorem agU64 (w : World) : (isAgg 29).run Try.prog w = .ok false w := by kernel_rfl
theorem be_step (b : List UInt8) (hb : b.length = 480) (j : Nat) (hj : j < 8) : beNat ((b.drop 20).take (j + 1)) = beNat ((b.drop 20).take j) * 256 + (b.getD (20 + j) 0).toNat := by
  have h1 : (b.drop 20)[j]? = some (b.getD (20 + j) 0) := by rw [List.getElem?_drop]; exact getD_get (by omega)
  rw [List.take_add_one, h1]
  unfold beNat
  rw [List.foldl_append]
  rfl
theorem be_bd (b : List UInt8) (j : Nat) (hj : j < 8) : beNat ((b.drop 20).take j) < 72057594037927936 := by
  have h1 := beNat_lt ((b.drop 20).take j)
  have h2 : ((b.drop 20).take j).length ≤ 7 := by rw [List.length_take]; omega
  exact Nat.lt_of_lt_of_le h1 (Nat.le_trans (Nat.pow_le_pow_right (by omega) h2) (by decide))
theorem rfr_len (k i c : UInt8) (id : Nat) (d : List UInt8) (h : d.length ≤ 450) : (Wd.frame k i c id d).length = 480 := by
  simp [Wd.frame, beBytes_len, Ch.zeros]; omega
theorem beBytes_at (n k : Nat) : ∀ i, i < k → (Sh.beBytes n k)[i]? = some (UInt8.ofNat (n / 256 ^ (k - 1 - i))) := by
  induction k with
  | zero => intro i hi; omega
  | succ k ih =>
    intro i hi
    cases i with
    | zero => rfl
    | succ i =>
      show (Sh.beBytes n k)[i]? = _
      rw [ih i (by omega), show k - 1 - i = k + 1 - 1 - (i + 1) by omega]
theorem beBytes_snoc (n k : Nat) : Sh.beBytes n (k + 1) = Sh.beBytes (n / 256) k ++ [UInt8.ofNat n] := by
  induction k with
  | zero => show [UInt8.ofNat (n / 256 ^ 0)] = _; rw [Nat.pow_zero, Nat.div_one]; rfl
  | succ k ih =>
    show UInt8.ofNat (n / 256 ^ (k + 1)) :: Sh.beBytes n (k + 1) = (UInt8.ofNat (n / 256 / 256 ^ k) :: Sh.beBytes (n / 256) k) ++ [UInt8.ofNat n]
    rw [ih, Nat.div_div_eq_div_mul, Nat.pow_succ, Nat.mul_comm (256 ^ k) 256]
    rfl
theorem be_back (l : List UInt8) (n : Nat) (h : l.length = n) : Sh.beBytes (beNat l) n = l := by
  subst h
  have key : ∀ (r : List UInt8), Sh.beBytes (beNat r.reverse) r.reverse.length = r.reverse := by
    intro r
    induction r with
    | nil => rfl
    | cons x r ih =>
      rw [List.reverse_cons, beNat_snoc, List.length_append, List.length_singleton, beBytes_snoc]
      have hx := x.toNat_lt
      rw [show (beNat r.reverse * 256 + x.toNat) / 256 = beNat r.reverse by omega, ih]
      congr 2
      apply UInt8.toNat_inj.1
      rw [UInt8.toNat_ofNat']
      omega
  have := key l.reverse
  rwa [List.reverse_reverse] at this
theorem b_parts (b : List UInt8) (hb : b.length = 480) : b = b.take 16 ++ ([b.getD 16 0, b.getD 17 0, b.getD 18 0, b.getD 19 0] ++ ((b.drop 20).take 8 ++ ((b.drop 28).take 2 ++ (fData b ++ b.drop (30 + fN b))))) := by
  have e4 : (b.drop 16).take 4 = [b.getD 16 0, b.getD 17 0, b.getD 18 0, b.getD 19 0] := by
    have h0 : (b.drop 16)[0]? = some (b.getD 16 0) := by rw [List.getElem?_drop]; exact getD_get (by omega)
    have h1 : (b.drop 16)[1]? = some (b.getD 17 0) := by rw [List.getElem?_drop]; exact getD_get (by omega)
    have h2 : (b.drop 16)[2]? = some (b.getD 18 0) := by rw [List.getElem?_drop]; exact getD_get (by omega)
    have h3 : (b.drop 16)[3]? = some (b.getD 19 0) := by rw [List.getElem?_drop]; exact getD_get (by omega)
    rw [show 4 = 3 + 1 from rfl, List.take_add_one, h3, show 3 = 2 + 1 from rfl, List.take_add_one, h2, show 2 = 1 + 1 from rfl, List.take_add_one, h1, show 1 = 0 + 1 from rfl, List.take_add_one, h0]
    rfl
  have s1 : fData b ++ b.drop (30 + fN b) = b.drop 30 := by
    unfold fData
    rw [← List.drop_drop, List.take_append_drop]
  have s2 : (b.drop 28).take 2 ++ b.drop 30 = b.drop 28 := by rw [show b.drop 30 = (b.drop 28).drop 2 from by rw [List.drop_drop], List.take_append_drop]
  have s3 : (b.drop 20).take 8 ++ b.drop 28 = b.drop 20 := by rw [show b.drop 28 = (b.drop 20).drop 8 from by rw [List.drop_drop], List.take_append_drop]
  have s4 : (b.drop 16).take 4 ++ b.drop 20 = b.drop 16 := by rw [show b.drop 20 = (b.drop 16).drop 4 from by rw [List.drop_drop], List.take_append_drop]
  rw [s1, s2, s3, ← e4, s4, List.take_append_drop]
theorem ofNat_toNat' (x : UInt8) : UInt8.ofNat x.toNat = x := by apply UInt8.toNat_inj.1; rw [UInt8.toNat_ofNat']; have := x.toNat_lt; omega
theorem frame_eq (b : List UInt8) (hb : b.length = 480) (hz : allZ (b.take 16) = true) (hn : fN b ≤ 450) :
    Wd.frame (UInt8.ofNat (fK b)) (UInt8.ofNat (fI b)) (UInt8.ofNat (fC b)) (fD b) (fData b) = b ↔ fZ b = 0 ∧ allZ (b.drop (30 + fN b)) = true := by
  have hp := b_parts b hb
  have h16 : b.take 16 = Ch.zeros 16 := by have := allZ_zeros hz; rw [List.length_take, hb] at this; exact this
  have h8 : Sh.beBytes (fD b) 8 = (b.drop 20).take 8 := be_back _ 8 (by rw [List.length_take, List.length_drop]; omega)
  have h2 : Sh.beBytes (fData b).length 2 = (b.drop 28).take 2 := by rw [fData_len b hb hn]; exact be_back _ 2 (by rw [List.length_take, List.length_drop]; omega)
  have hF : Wd.frame (UInt8.ofNat (fK b)) (UInt8.ofNat (fI b)) (UInt8.ofNat (fC b)) (fD b) (fData b) = b.take 16 ++ ([b.getD 16 0, b.getD 17 0, b.getD 18 0, 0] ++ ((b.drop 20).take 8 ++ ((b.drop 28).take 2 ++ (fData b ++ Ch.zeros (450 - fN b))))) := by
    unfold Wd.frame
    rw [h8, h2, h16, fData_len b hb hn, show UInt8.ofNat (fK b) = b.getD 16 0 from ofNat_toNat' _, show UInt8.ofNat (fI b) = b.getD 17 0 from ofNat_toNat' _, show UInt8.ofNat (fC b) = b.getD 18 0 from ofNat_toNat' _]
  have hdl : (b.drop (30 + fN b)).length = 450 - fN b := by rw [List.length_drop]; omega
  rw [hF]
  constructor
  · intro h
    have e1 := List.append_cancel_left (h.trans hp)
    obtain ⟨e2, e3⟩ := List.append_inj e1 rfl
    have e4 := List.append_cancel_left (List.append_cancel_left (List.append_cancel_left e3))
    simp only [List.cons.injEq, and_true] at e2
    refine ⟨?_, ?_⟩
    · show (b.getD 19 0).toNat = 0
      rw [← e2.2.2.2]
      rfl
    · rw [← e4]
      exact zeros_allZ _
  · rintro ⟨hz0, ht⟩
    have e19 : b.getD 19 0 = 0 := UInt8.toNat_inj.1 hz0
    have et := allZ_zeros ht
    rw [hdl] at et
    have hp2 := hp
    rw [e19, et] at hp2
    exact hp2.symm
theorem wrap_two (x y : Nat) (hx : x < 256) (hy : y < 256) : IntKind.i64.wrap (IntKind.i64.wrap (IntKind.i64.wrap (x : Int) * 256) + IntKind.i64.wrap (y : Int)) = ((x * 256 + y : Nat) : Int) := by
  rw [IntWalk.i64_in (x : Int) (by omega), IntWalk.i64_in ((x : Int) * 256) (by omega), IntWalk.i64_in (y : Int) (by omega), IntWalk.i64_in _ (by omega)]
  omega
theorem wrap_id (x y : Nat) (hx : x < 72057594037927936) (hy : y < 256) : IntKind.u64.wrap (IntKind.u64.wrap ((x : Int) * 256) + IntKind.u64.wrap (y : Int)) = ((x * 256 + y : Nat) : Int) := by
  rw [IntWalk.u64_in ((x : Int) * 256) (by omega), IntWalk.u64_in (y : Int) (by omega), IntWalk.u64_in _ (by omega)]
  omega
theorem fN_two (b : List UInt8) (hb : b.length = 480) : fN b = (b.getD 28 0).toNat * 256 + (b.getD 29 0).toNat := by
  have h1 : (b.drop 28)[0]? = some (b.getD 28 0) := by rw [List.getElem?_drop]; exact getD_get (by omega)
  have h2 : (b.drop 28)[1]? = some (b.getD 29 0) := by rw [List.getElem?_drop]; exact getD_get (by omega)
  have e : (b.drop 28).take 2 = [b.getD 28 0, b.getD 29 0] := by
    rw [show 2 = 1 + 1 from rfl, List.take_add_one, h2, show 1 = 0 + 1 from rfl, List.take_add_one, h1]
    rfl
  unfold fN
  rw [e]
  show (0 * 256 + (b.getD 28 0).toNat) * 256 + (b.getD 29 0).toNat = _
  omega

set_option maxRecDepth 100000 in
set_option maxHeartbeats 4000000 in
theorem rparse_7 (A : Option Addr) (c : Nat) (b : List UInt8) (w : World) (h : Rd w A 480 (u8s b)) (hz : allZ (b.take 16) = false) :
    Calls Try.prog 44 #[.slice A 480 c] w fun e w' => e = .returned (.tuple #[partZ, .int .i64 7]) ∧ Below w.heap.size w w' := by
  obtain ⟨bb, bo, rfl, hbb, _⟩ := h.2 (by omega)
  have HR := Lib.hid h
  have hbl : b.length = 480 := h.len
  have HBL := Lib.hid hbl
  have HZF := Lib.hid hz
  clear hz h hbl
  go_enter Try.func44, Try.ntmps44
  go_wp2_with fail
  obtain ⟨W0, hW0⟩ : ∃ W0, W0 = w.alloc (.cells #[.int .u8 0, .int .u64 0, .int .i64 0, .int .i64 0, .slice none 0 0] 90) := ⟨_, rfl⟩
  rw [← hW0]
  have HE0 : Hid (Below w.heap.size w W0) := by rw [hW0]; exact (Below.refl _ _).alloc (Nat.le_refl _) _
  have HZ0 : Hid (Blk W0 w.heap.size 90 [.int .u8 0, .int .u64 0, .int .i64 0, .int .i64 0, .slice none 0 0]) := by rw [hW0]; exact Blk.new' rfl rfl
  have HR0 : Hid (Rd W0 (some ⟨bb, bo, none⟩) 480 (u8s b)) := HR.out.below HE0.out
  have hws0 : w.heap.size + 1 ≤ W0.heap.size := by rw [hW0]; simp
  clear hW0
  go_loopg [4] 16 (fun kk q wr => ∃ k : Nat, k ≤ 16 ∧ kk = 16 - k ∧ q = .int .i64 k ∧ allZ (b.take k) = true ∧ W0 = wr)
  case atStart => exact ⟨0, by omega, rfl, rfl, rfl, rfl⟩
  case round =>
    obtain ⟨k, hk, hgk, rfl, hz, rfl⟩ := hrel
    have HGK := Lib.hid hgk
    have HZK := Lib.hid hz
    clear hgk hz
    by_cases hlt : k < 16
    · have hlt2 : (k : Int) < 16 := by omega
      have ck := HR0.out.get (i := k) (by omega)
      have HS := Lib.hid (allZ_take_succ (getD_get (b := b) (i := k) (by rw [HBL.out]; omega)))
      have hbs : bb < W0.heap.size := Nat.lt_of_lt_of_le hbb (Nat.le_trans (Nat.le_succ _) hws0)
      by_cases hx : b.getD k 0 = 0
      · rw [hx] at HS
        rw [hx] at ck
        have ck0 : W0.cell? ⟨bb, bo + k, none⟩ = some (.int .u8 0) := ck
        clear ck hx
        go_wp2_with fail
        go_roundg (16 - (k + 1))
        case measure => have := HGK.out; omega
        case rel => exact ⟨k + 1, by omega, rfl, by go_num, by rw [HS.out, HZK.out]; rfl, rfl⟩
      · have hne : (((b.getD k 0).toNat : Int) != 0) = true := by
          rw [bne_iff_ne]
          intro e
          exact hx (UInt8.toNat_inj.1 (by simpa using e))
        obtain ⟨x, hxe⟩ : ∃ x, x = (b.getD k 0).toNat := ⟨_, rfl⟩
        rw [← hxe] at hne ck
        clear hx HS hxe
        go_wp2_with (refine wpList_store_all rfl 90 (.tmp 2) (.tmp 23) rfl w.heap.size [.int .u8 0, .int .u64 0, .int .i64 0, .int .i64 0, .slice none 0 0] (by rfl) (by rfl) 90 _ HZ0.out (by kernel_rfl) (part_one _ _ _ _ _ _ _) rfl ?_
                     intro w13 hb13 ho13
                     have HB13 := Lib.hid hb13
                     have HE13 := Lib.hid (ho13.below HE0.out (Nat.le_refl _) HE0.out.size)
                     clear hb13 ho13)
        exact bodyPost_ret (res_cell_tmp rfl _ w.heap.size 90 _ rfl HB13.out _ Try.underlying90 rfl (by kernel_rfl)) rfl ⟨rfl, HE13.out⟩
    · obtain rfl : k = 16 := by omega
      have e1 := HZF.out
      rw [HZK.out] at e1
      cases e1

set_option maxRecDepth 100000 in
set_option maxHeartbeats 4000000 in
theorem rparse_1 (A : Option Addr) (c : Nat) (b : List UInt8) (w : World) (h : Rd w A 480 (u8s b)) (hz : allZ (b.take 16) = true) (hk : fK b < 1 ∨ 3 < fK b) :
    Calls Try.prog 44 #[.slice A 480 c] w fun e w' => e = .returned (.tuple #[partZ, .int .i64 1]) ∧ Below w.heap.size w w' := by
  obtain ⟨bb, bo, rfl, hbb, _⟩ := h.2 (by omega)
  have HR := Lib.hid h
  have hbl : b.length = 480 := h.len
  have HBL := Lib.hid hbl
  have hid : (b.getD 17 0).toNat = fI b := rfl
  have hcd : (b.getD 18 0).toNat = fC b := rfl
  have hkd : (b.getD 16 0).toNat = fK b := rfl
  have hwi : IntKind.i64.wrap ((b.getD 17 0).toNat : Int) = ((b.getD 17 0).toNat : Int) := IntWalk.i64_in _ (by have := (b.getD 17 0).toNat_lt; omega)
  have hwc : IntKind.i64.wrap ((b.getD 18 0).toNat : Int) = ((b.getD 18 0).toNat : Int) := IntWalk.i64_in _ (by have := (b.getD 18 0).toNat_lt; omega)
  have HID := Lib.hid hid
  have HCD := Lib.hid hcd
  have HKD := Lib.hid hkd
  have HWI := Lib.hid hwi
  have HWC := Lib.hid hwc
  have HZT := Lib.hid hz
  clear hz h hbl hid hcd hkd hwi hwc
  go_enter Try.func44, Try.ntmps44
  go_wp2_with fail
  obtain ⟨W0, hW0⟩ : ∃ W0, W0 = w.alloc (.cells #[.int .u8 0, .int .u64 0, .int .i64 0, .int .i64 0, .slice none 0 0] 90) := ⟨_, rfl⟩
  rw [← hW0]
  have HE0 : Hid (Below w.heap.size w W0) := by rw [hW0]; exact (Below.refl _ _).alloc (Nat.le_refl _) _
  have HZ0 : Hid (Blk W0 w.heap.size 90 [.int .u8 0, .int .u64 0, .int .i64 0, .int .i64 0, .slice none 0 0]) := by rw [hW0]; exact Blk.new' rfl rfl
  have HR0 : Hid (Rd W0 (some ⟨bb, bo, none⟩) 480 (u8s b)) := HR.out.below HE0.out
  have hws0 : w.heap.size + 1 ≤ W0.heap.size := by rw [hW0]; simp
  clear hW0
  go_loopg [4] 16 (fun kk q wr => ∃ k : Nat, k ≤ 16 ∧ kk = 16 - k ∧ q = .int .i64 k ∧ W0 = wr)
  case atStart => exact ⟨0, by omega, rfl, rfl, rfl⟩
  case round =>
    obtain ⟨k, hk, hgk, rfl, rfl⟩ := hrel
    have HGK := Lib.hid hgk
    clear hgk
    by_cases hlt : k < 16
    · have hlt2 : (k : Int) < 16 := by omega
      have ck := HR0.out.get (i := k) (by omega)
      rw [zlo HZT.out HBL.out k hlt] at ck
      have ck0 : W0.cell? ⟨bb, bo + k, none⟩ = some (.int .u8 0) := ck
      clear ck
      go_wp2_with fail
      go_roundg (16 - (k + 1))
      case measure => have := HGK.out; omega
      case rel => exact ⟨k + 1, by omega, rfl, by go_num, rfl⟩
    · obtain rfl : k = 16 := by omega
      have hlt2 : ¬ ((16 : Nat) : Int) < 16 := by omega
      clear HGK hlt hk
      go_wp2_with fail
      have hwi := HWI.out
      have hwc := HWC.out
      have hkd := HKD.out
      have hid := HID.out
      have hcd := HCD.out
      refine region_K (by kernel_rfl) 13 (fun W => Rd W (some ⟨bb, bo, none⟩) 480 (u8s b)) ?_
      refine AnyF.start 12 5 (w.heap.size + 1) 90 [.int .u8 0, .int .u64 0, .int .i64 0, .int .i64 0, .slice none 0 0] (fun W => Rd W (some ⟨bb, bo, none⟩) 480 (u8s b) ∧ Below w.heap.size w W ∧ Blk W w.heap.size 90 [.int .u8 0, .int .u64 0, .int .i64 0, .int .i64 0, .slice none 0 0] ∧ w.heap.size + 1 ≤ W.heap.size) ⟨HR0.out.drew, HE0.out.drew, HZ0.out.drew, hws0⟩ ?_
      refine AnyF.pure 0 (v := .slice (some ⟨bb, bo, none⟩) 480 c) rfl (by decide) (fun g => by cases g <;> kernel_rfl) (fun _ _ _ h => h) rfl (by decide) (fun st _ => by cases st <;> kernel_rfl) (fun _ h => h.1) ?_
      refine AnyF.pure 1 (v := .pointer (some ⟨bb, bo + 16, none⟩)) rfl (by decide) (fun g => by cases g <;> kernel_rfl) (fun _ _ _ h => h) rfl (by decide) (fun st _ => by cases st <;> kernel_rfl) (fun _ h => h.1) ?_
      refine AnyF.load 2 (v := .int .u8 ((b.getD 16 0).toNat : Int)) rfl (by decide) (fun g => by cases g <;> kernel_rfl) (by kernel_rfl) (fun g => by cases g <;> kernel_rfl) (fun _ _ _ h => h) rfl (by decide) (fun st w' hw' => ex_load (p := ⟨bb, bo + 16, none⟩) rfl (by cases st <;> kernel_rfl) agU8 (hw'.get (i := 16) (by omega))) (fun _ h => h.1) ?_
      refine AnyF.pure 3 (v := .slice (some ⟨bb, bo, none⟩) 480 c) rfl (by decide) (fun g => by cases g <;> kernel_rfl) (fun _ _ _ h => h) rfl (by decide) (fun st _ => by cases st <;> kernel_rfl) (fun _ h => h.1) ?_
      refine AnyF.pure 4 (v := .pointer (some ⟨bb, bo + 17, none⟩)) rfl (by decide) (fun g => by cases g <;> kernel_rfl) (fun _ _ _ h => h) rfl (by decide) (fun st _ => by cases st <;> kernel_rfl) (fun _ h => h.1) ?_
      refine AnyF.load 5 (v := .int .u8 ((b.getD 17 0).toNat : Int)) rfl (by decide) (fun g => by cases g <;> kernel_rfl) (by kernel_rfl) (fun g => by cases g <;> kernel_rfl) (fun _ _ _ h => h) rfl (by decide) (fun st w' hw' => ex_load (p := ⟨bb, bo + 17, none⟩) rfl (by cases st <;> kernel_rfl) agU8 (hw'.get (i := 17) (by omega))) (fun _ h => h.1) ?_
      refine AnyF.pure 6 (v := .int .i64 (IntKind.i64.wrap ((b.getD 17 0).toNat : Int))) rfl (by decide) (fun g => by cases g <;> kernel_rfl) (fun _ _ _ h => h) rfl (by decide) (fun st _ => by cases st <;> kernel_rfl) (fun _ h => h.1) ?_
      refine AnyF.pure 7 (v := .slice (some ⟨bb, bo, none⟩) 480 c) rfl (by decide) (fun g => by cases g <;> kernel_rfl) (fun _ _ _ h => h) rfl (by decide) (fun st _ => by cases st <;> kernel_rfl) (fun _ h => h.1) ?_
      refine AnyF.pure 8 (v := .pointer (some ⟨bb, bo + 18, none⟩)) rfl (by decide) (fun g => by cases g <;> kernel_rfl) (fun _ _ _ h => h) rfl (by decide) (fun st _ => by cases st <;> kernel_rfl) (fun _ h => h.1) ?_
      refine AnyF.load 9 (v := .int .u8 ((b.getD 18 0).toNat : Int)) rfl (by decide) (fun g => by cases g <;> kernel_rfl) (by kernel_rfl) (fun g => by cases g <;> kernel_rfl) (fun _ _ _ h => h) rfl (by decide) (fun st w' hw' => ex_load (p := ⟨bb, bo + 18, none⟩) rfl (by cases st <;> kernel_rfl) agU8 (hw'.get (i := 18) (by omega))) (fun _ h => h.1) ?_
      refine AnyF.pure 10 (v := .int .i64 (IntKind.i64.wrap ((b.getD 18 0).toNat : Int))) rfl (by decide) (fun g => by cases g <;> kernel_rfl) (fun _ _ _ h => h) rfl (by decide) (fun st _ => by cases st <;> kernel_rfl) (fun _ h => h.1) ?_
      refine AnyF.pure 11 (v := .agg #[.int .u8 ((b.getD 16 0).toNat : Int), .int .u64 0, .int .i64 (IntKind.i64.wrap ((b.getD 17 0).toNat : Int)), .int .i64 (IntKind.i64.wrap ((b.getD 18 0).toNat : Int)), .slice none 0 0]) rfl (by decide) (fun g => by cases g <;> kernel_rfl) (fun _ _ _ h => h) rfl (by decide) (fun st _ => by cases st <;> kernel_rfl) (fun _ h => h.1) ?_
      refine AnyF.fin rfl rfl rfl (fun _ _ => by kernel_rfl) (by kernel_rfl) (fun _ o h => ⟨h.1.alloc o, h.2.1.alloc h.2.1.size o, h.2.2.1.alloc o, Nat.le_trans h.2.2.2 (by simp)⟩) (fun _ h => h.2.2.2) (fun _ h => h.1) ?_
      intro gp w7 hgp hp7 hU7
      refine AnyK.storeAll 13 (t := 90) (x := .tmp 5) (y := .tmp 35) gp [.int .u8 ((b.getD 16 0).toNat : Int), .int .u64 0, .int .i64 (IntKind.i64.wrap ((b.getD 17 0).toNat : Int)), .int .i64 (IntKind.i64.wrap ((b.getD 18 0).toNat : Int)), .slice none 0 0] 90 [.int .u8 0, .int .u64 0, .int .i64 0, .int .i64 0, .slice none 0 0] rfl rfl rfl rfl (by kernel_rfl) (by kernel_rfl) (by kernel_rfl) hp7 (by kernel_rfl) (part_one _ _ _ _ _ _ _) rfl (fun _ _ _ h => (by cases h)) ?_
      intro w8 hb8 ho8
      refine AnyK.done (by kernel_rfl) ?_
      rw [hwi, hwc, hkd, hid, hcd] at hb8
      have hgw : w.heap.size + 1 ≤ gp := hgp
      have HB8 := Lib.hid hb8
      have HE8 := Lib.hid (ho8.below hU7.2.1 (by omega) hU7.2.1.size)
      have HZ8 := Lib.hid (ho8.blk hU7.2.2.1 (by omega))
      have HR8 := Lib.hid (HR.out.below HE8.out)
      have hgl8 := HB8.out.lt
      have c80 := HB8.out.cell 0
      simp only [List.getElem?_cons_zero] at c80
      clear hb8 ho8 hU7 hp7 hwi hwc hkd hid hcd HR0 HZ0 HE0
      by_cases h1 : fK b < 1
      · have hk1 : (fK b : Int) < 1 := by omega
        clear hk h1
        go_wp2_with ((with_reducible refine wpList_store_all rfl 90 (.tmp 2) (.tmp 44) rfl w.heap.size [.int .u8 0, .int .u64 0, .int .i64 0, .int .i64 0, .slice none 0 0] ?_ ?_ 90 _ HZ8.out ?_ ?_ ?_ ?_); (· rfl); (· rfl); (· kernel_rfl); (· exact part_one _ _ _ _ _ _ _); (· rfl); intro w13 hb13 ho13; have HB13 := Lib.hid hb13; have HE13 := Lib.hid (ho13.below HE8.out (Nat.le_refl _) HE8.out.size); clear hb13 ho13)
        exact bodyPost_ret (res_cell_tmp rfl _ w.heap.size 90 _ rfl HB13.out _ Try.underlying90 rfl (by kernel_rfl)) rfl ⟨rfl, HE13.out⟩
      · have hk1 : ¬ (fK b : Int) < 1 := by omega
        have hk3 : (3 : Int) < (fK b : Int) := by omega
        clear hk h1
        go_wp2_with ((with_reducible refine wpList_store_all rfl 90 (.tmp 2) (.tmp 44) rfl w.heap.size [.int .u8 0, .int .u64 0, .int .i64 0, .int .i64 0, .slice none 0 0] ?_ ?_ 90 _ HZ8.out ?_ ?_ ?_ ?_); (· rfl); (· rfl); (· kernel_rfl); (· exact part_one _ _ _ _ _ _ _); (· rfl); intro w13 hb13 ho13; have HB13 := Lib.hid hb13; have HE13 := Lib.hid (ho13.below HE8.out (Nat.le_refl _) HE8.out.size); clear hb13 ho13)
        exact bodyPost_ret (res_cell_tmp rfl _ w.heap.size 90 _ rfl HB13.out _ Try.underlying90 rfl (by kernel_rfl)) rfl ⟨rfl, HE13.out⟩

set_option maxRecDepth 100000 in
set_option maxHeartbeats 4000000 in
theorem rparse_3n (A : Option Addr) (c : Nat) (b : List UInt8) (w : World) (h : Rd w A 480 (u8s b)) (hz : allZ (b.take 16) = true) (h1 : 1 ≤ fK b) (h3 : fK b ≤ 3) (hn : 450 < fN b) :
    Calls Try.prog 44 #[.slice A 480 c] w fun e w' => e = .returned (.tuple #[partZ, .int .i64 3]) ∧ Below w.heap.size w w' := by
  obtain ⟨bb, bo, rfl, hbb, _⟩ := h.2 (by omega)
  have HR := Lib.hid h
  have hbl : b.length = 480 := h.len
  have HBL := Lib.hid hbl
  have hid : (b.getD 17 0).toNat = fI b := rfl
  have hcd : (b.getD 18 0).toNat = fC b := rfl
  have hkd : (b.getD 16 0).toNat = fK b := rfl
  have hwi : IntKind.i64.wrap ((b.getD 17 0).toNat : Int) = ((b.getD 17 0).toNat : Int) := IntWalk.i64_in _ (by have := (b.getD 17 0).toNat_lt; omega)
  have hwc : IntKind.i64.wrap ((b.getD 18 0).toNat : Int) = ((b.getD 18 0).toNat : Int) := IntWalk.i64_in _ (by have := (b.getD 18 0).toNat_lt; omega)
  have HID := Lib.hid hid
  have HCD := Lib.hid hcd
  have HKD := Lib.hid hkd
  have HWI := Lib.hid hwi
  have HWC := Lib.hid hwc
  have HZT := Lib.hid hz
  clear hz h hbl hid hcd hkd hwi hwc
  go_enter Try.func44, Try.ntmps44
  go_wp2_with fail
  obtain ⟨W0, hW0⟩ : ∃ W0, W0 = w.alloc (.cells #[.int .u8 0, .int .u64 0, .int .i64 0, .int .i64 0, .slice none 0 0] 90) := ⟨_, rfl⟩
  rw [← hW0]
  have HE0 : Hid (Below w.heap.size w W0) := by rw [hW0]; exact (Below.refl _ _).alloc (Nat.le_refl _) _
  have HZ0 : Hid (Blk W0 w.heap.size 90 [.int .u8 0, .int .u64 0, .int .i64 0, .int .i64 0, .slice none 0 0]) := by rw [hW0]; exact Blk.new' rfl rfl
  have HR0 : Hid (Rd W0 (some ⟨bb, bo, none⟩) 480 (u8s b)) := HR.out.below HE0.out
  have hws0 : w.heap.size + 1 ≤ W0.heap.size := by rw [hW0]; simp
  clear hW0
  go_loopg [4] 16 (fun kk q wr => ∃ k : Nat, k ≤ 16 ∧ kk = 16 - k ∧ q = .int .i64 k ∧ W0 = wr)
  case atStart => exact ⟨0, by omega, rfl, rfl, rfl⟩
  case round =>
    obtain ⟨k, hk, hgk, rfl, rfl⟩ := hrel
    have HGK := Lib.hid hgk
    clear hgk
    by_cases hlt : k < 16
    · have hlt2 : (k : Int) < 16 := by omega
      have ck := HR0.out.get (i := k) (by omega)
      rw [zlo HZT.out HBL.out k hlt] at ck
      have ck0 : W0.cell? ⟨bb, bo + k, none⟩ = some (.int .u8 0) := ck
      clear ck
      go_wp2_with fail
      go_roundg (16 - (k + 1))
      case measure => have := HGK.out; omega
      case rel => exact ⟨k + 1, by omega, rfl, by go_num, rfl⟩
    · obtain rfl : k = 16 := by omega
      have hlt2 : ¬ ((16 : Nat) : Int) < 16 := by omega
      clear HGK hlt hk
      go_wp2_with fail
      have hwi := HWI.out
      have hwc := HWC.out
      have hkd := HKD.out
      have hid := HID.out
      have hcd := HCD.out
      refine region_K (by kernel_rfl) 13 (fun W => Rd W (some ⟨bb, bo, none⟩) 480 (u8s b)) ?_
      refine AnyF.start 12 5 (w.heap.size + 1) 90 [.int .u8 0, .int .u64 0, .int .i64 0, .int .i64 0, .slice none 0 0] (fun W => Rd W (some ⟨bb, bo, none⟩) 480 (u8s b) ∧ Below w.heap.size w W ∧ Blk W w.heap.size 90 [.int .u8 0, .int .u64 0, .int .i64 0, .int .i64 0, .slice none 0 0] ∧ w.heap.size + 1 ≤ W.heap.size) ⟨HR0.out.drew, HE0.out.drew, HZ0.out.drew, hws0⟩ ?_
      refine AnyF.pure 0 (v := .slice (some ⟨bb, bo, none⟩) 480 c) rfl (by decide) (fun g => by cases g <;> kernel_rfl) (fun _ _ _ h => h) rfl (by decide) (fun st _ => by cases st <;> kernel_rfl) (fun _ h => h.1) ?_
      refine AnyF.pure 1 (v := .pointer (some ⟨bb, bo + 16, none⟩)) rfl (by decide) (fun g => by cases g <;> kernel_rfl) (fun _ _ _ h => h) rfl (by decide) (fun st _ => by cases st <;> kernel_rfl) (fun _ h => h.1) ?_
      refine AnyF.load 2 (v := .int .u8 ((b.getD 16 0).toNat : Int)) rfl (by decide) (fun g => by cases g <;> kernel_rfl) (by kernel_rfl) (fun g => by cases g <;> kernel_rfl) (fun _ _ _ h => h) rfl (by decide) (fun st w' hw' => ex_load (p := ⟨bb, bo + 16, none⟩) rfl (by cases st <;> kernel_rfl) agU8 (hw'.get (i := 16) (by omega))) (fun _ h => h.1) ?_
      refine AnyF.pure 3 (v := .slice (some ⟨bb, bo, none⟩) 480 c) rfl (by decide) (fun g => by cases g <;> kernel_rfl) (fun _ _ _ h => h) rfl (by decide) (fun st _ => by cases st <;> kernel_rfl) (fun _ h => h.1) ?_
      refine AnyF.pure 4 (v := .pointer (some ⟨bb, bo + 17, none⟩)) rfl (by decide) (fun g => by cases g <;> kernel_rfl) (fun _ _ _ h => h) rfl (by decide) (fun st _ => by cases st <;> kernel_rfl) (fun _ h => h.1) ?_
      refine AnyF.load 5 (v := .int .u8 ((b.getD 17 0).toNat : Int)) rfl (by decide) (fun g => by cases g <;> kernel_rfl) (by kernel_rfl) (fun g => by cases g <;> kernel_rfl) (fun _ _ _ h => h) rfl (by decide) (fun st w' hw' => ex_load (p := ⟨bb, bo + 17, none⟩) rfl (by cases st <;> kernel_rfl) agU8 (hw'.get (i := 17) (by omega))) (fun _ h => h.1) ?_
      refine AnyF.pure 6 (v := .int .i64 (IntKind.i64.wrap ((b.getD 17 0).toNat : Int))) rfl (by decide) (fun g => by cases g <;> kernel_rfl) (fun _ _ _ h => h) rfl (by decide) (fun st _ => by cases st <;> kernel_rfl) (fun _ h => h.1) ?_
      refine AnyF.pure 7 (v := .slice (some ⟨bb, bo, none⟩) 480 c) rfl (by decide) (fun g => by cases g <;> kernel_rfl) (fun _ _ _ h => h) rfl (by decide) (fun st _ => by cases st <;> kernel_rfl) (fun _ h => h.1) ?_
      refine AnyF.pure 8 (v := .pointer (some ⟨bb, bo + 18, none⟩)) rfl (by decide) (fun g => by cases g <;> kernel_rfl) (fun _ _ _ h => h) rfl (by decide) (fun st _ => by cases st <;> kernel_rfl) (fun _ h => h.1) ?_
      refine AnyF.load 9 (v := .int .u8 ((b.getD 18 0).toNat : Int)) rfl (by decide) (fun g => by cases g <;> kernel_rfl) (by kernel_rfl) (fun g => by cases g <;> kernel_rfl) (fun _ _ _ h => h) rfl (by decide) (fun st w' hw' => ex_load (p := ⟨bb, bo + 18, none⟩) rfl (by cases st <;> kernel_rfl) agU8 (hw'.get (i := 18) (by omega))) (fun _ h => h.1) ?_
      refine AnyF.pure 10 (v := .int .i64 (IntKind.i64.wrap ((b.getD 18 0).toNat : Int))) rfl (by decide) (fun g => by cases g <;> kernel_rfl) (fun _ _ _ h => h) rfl (by decide) (fun st _ => by cases st <;> kernel_rfl) (fun _ h => h.1) ?_
      refine AnyF.pure 11 (v := .agg #[.int .u8 ((b.getD 16 0).toNat : Int), .int .u64 0, .int .i64 (IntKind.i64.wrap ((b.getD 17 0).toNat : Int)), .int .i64 (IntKind.i64.wrap ((b.getD 18 0).toNat : Int)), .slice none 0 0]) rfl (by decide) (fun g => by cases g <;> kernel_rfl) (fun _ _ _ h => h) rfl (by decide) (fun st _ => by cases st <;> kernel_rfl) (fun _ h => h.1) ?_
      refine AnyF.fin rfl rfl rfl (fun _ _ => by kernel_rfl) (by kernel_rfl) (fun _ o h => ⟨h.1.alloc o, h.2.1.alloc h.2.1.size o, h.2.2.1.alloc o, Nat.le_trans h.2.2.2 (by simp)⟩) (fun _ h => h.2.2.2) (fun _ h => h.1) ?_
      intro gp w7 hgp hp7 hU7
      refine AnyK.storeAll 13 (t := 90) (x := .tmp 5) (y := .tmp 35) gp [.int .u8 ((b.getD 16 0).toNat : Int), .int .u64 0, .int .i64 (IntKind.i64.wrap ((b.getD 17 0).toNat : Int)), .int .i64 (IntKind.i64.wrap ((b.getD 18 0).toNat : Int)), .slice none 0 0] 90 [.int .u8 0, .int .u64 0, .int .i64 0, .int .i64 0, .slice none 0 0] rfl rfl rfl rfl (by kernel_rfl) (by kernel_rfl) (by kernel_rfl) hp7 (by kernel_rfl) (part_one _ _ _ _ _ _ _) rfl (fun _ _ _ h => (by cases h)) ?_
      intro w8 hb8 ho8
      refine AnyK.done (by kernel_rfl) ?_
      rw [hwi, hwc, hkd, hid, hcd] at hb8
      have hgw : w.heap.size + 1 ≤ gp := hgp
      have HB8 := Lib.hid hb8
      have HE8 := Lib.hid (ho8.below hU7.2.1 (by omega) hU7.2.1.size)
      have HZ8 := Lib.hid (ho8.blk hU7.2.2.1 (by omega))
      have HR8 := Lib.hid (HR.out.below HE8.out)
      have hgl8 := HB8.out.lt
      have c80 := HB8.out.cell 0
      simp only [List.getElem?_cons_zero] at c80
      clear hb8 ho8 hU7 hp7 hwi hwc hkd hid hcd HR0 HZ0 HE0
      have hk1 : ¬ (fK b : Int) < 1 := by omega
      have hk3 : ¬ (3 : Int) < (fK b : Int) := by omega
      have HB8' : Hid (Blk w8 gp 90 [.int .u8 (fK b), .int .u64 (0 : Nat), .int .i64 (fI b), .int .i64 (fC b), .slice none 0 0]) := HB8.out
      have hgl0 : bb < w.heap.size := hbb
      go_wp2_with fail
      clear c80
      go_loopg [6] 8 (fun kk q wr => ∃ j m : Nat, j ≤ 8 ∧ kk = 8 - j ∧ m = 20 + j ∧ q = .int .i64 m ∧ Blk wr gp 90 [.int .u8 (fK b), .int .u64 (beNat ((b.drop 20).take j) : Nat), .int .i64 (fI b), .int .i64 (fC b), .slice none 0 0] ∧ Blk wr w.heap.size 90 [.int .u8 0, .int .u64 0, .int .i64 0, .int .i64 0, .slice none 0 0] ∧ Below w.heap.size w wr)
      case atStart => exact ⟨0, 20, by omega, rfl, rfl, rfl, HB8'.out, HZ8.out, HE8.out⟩
      case round =>
        clear HB8 HB8' HZ8 HE8 HR8 hgl8
        obtain ⟨j, m, hj, hgk, hm, rfl, hb, hz, hB⟩ := hrel
        have HGK := Lib.hid hgk
        have HM := Lib.hid hm
        clear hgk
        by_cases hlt : j < 8
        · have hlt2 : (m : Int) < 28 := by omega
          have hm480 : m < 480 := by omega
          have h1c := hb.cell 1
          simp only [List.getElem?_cons_zero, List.getElem?_cons_succ] at h1c
          have hst := be_step b HBL.out j hlt
          have hbd := be_bd b j hlt
          rw [← hm] at hst
          have hxb := (HR.out.below hB).get (i := m) hm480
          have hx256 := (b.getD m 0).toNat_lt
          obtain ⟨x, hx⟩ : ∃ x, x = (b.getD m 0).toNat := ⟨_, rfl⟩
          rw [← hx] at hst hxb hx256
          obtain ⟨v, hv⟩ : ∃ v, v = beNat ((b.drop 20).take j) := ⟨_, rfl⟩
          rw [← hv] at hst hbd h1c hb
          have HEV : Hid ((IntKind.u64.wrap ((IntKind.u64.wrap ((v : Int) * 256)) + (IntKind.u64.wrap (x : Int)))) = ((beNat ((b.drop 20).take (j + 1)) : Nat) : Int)) := by
            show _ = _
            rw [hst]
            exact wrap_id v x hbd hx256
          have hb2 := (hb.drew).set_ 1 (.int .u64 ((beNat ((b.drop 20).take (j + 1)) : Nat) : Int))
          have HB2 : Hid (Blk (wr.drew.setCell ⟨gp, 1, none⟩ (.int .u64 ((beNat ((b.drop 20).take (j + 1)) : Nat) : Int))) gp 90 [.int .u8 (fK b), .int .u64 (beNat ((b.drop 20).take (j + 1)) : Nat), .int .i64 (fI b), .int .i64 (fC b), .slice none 0 0]) := hb2
          have HZ2 := Lib.hid (hz.drew.far (p := ⟨gp, 1, none⟩) (by show _ ≠ gp; omega) (.int .u64 ((beNat ((b.drop 20).take (j + 1)) : Nat) : Int)))
          have HE2 := Lib.hid (hB.drew.setCell (p := ⟨gp, 1, none⟩) (by show _ ≤ gp; omega) (.int .u64 ((beNat ((b.drop 20).take (j + 1)) : Nat) : Int)))
          have HF1 := Lib.hid (hb.frozen 1)
          have HC1 := Lib.hid h1c
          have HXB := Lib.hid hxb
          clear hb hz hB hb2 hx hv hst hbd h1c hxb hm
          go_wp2_with fail
          have hT : wr.drew.cell? ⟨gp, 1, none⟩ = some (.int .u64 (v : Int)) ∧ wr.drew.cell? ⟨bb, bo + m, none⟩ = some (.int .u8 (x : Int)) := ⟨HC1.out, HXB.out⟩
          refine region_K (by kernel_rfl) 10 (fun w' => w'.cell? ⟨gp, 1, none⟩ = some (.int .u64 (v : Int)) ∧ w'.cell? ⟨bb, bo + m, none⟩ = some (.int .u8 (x : Int))) ?_
          refine AnyK.pure 0 (v := .pointer (some ⟨gp, 1, none⟩)) rfl (by kernel_rfl) (fun _ _ _ h => h) rfl (fun _ => by kernel_rfl) (fun _ => hT) ?_
          refine AnyK.load 1 (v := .int .u64 (v : Int)) rfl (by kernel_rfl) (by kernel_rfl) (by kernel_rfl) (fun _ _ _ h => h) rfl (fun w' hw' => ex_load (t := 29) (x := .tmp 49) (p := ⟨gp, 1, none⟩) (by rfl) (by kernel_rfl) agU64 hw'.1) hT ?_
          refine AnyK.pure 2 (v := .int .u64 (IntKind.u64.wrap ((v : Int) * 256))) rfl (by kernel_rfl) (fun _ _ _ h => h) rfl (fun _ => by kernel_rfl) (fun _ => hT) ?_
          refine AnyK.pure 3 (v := .slice (some ⟨bb, bo, none⟩) 480 c) rfl (by kernel_rfl) (fun _ _ _ h => h) rfl (fun _ => by kernel_rfl) (fun _ => hT) ?_
          refine AnyK.pure 4 (v := .int .i64 m) rfl (by kernel_rfl) (fun _ _ _ h => h) rfl (fun _ => by kernel_rfl) (fun _ => hT) ?_
          refine AnyK.pure 5 (v := .pointer (some ⟨bb, bo + m, none⟩)) rfl (by kernel_rfl) (fun _ _ _ h => h) rfl (fun _ => ex_idxO (t := 22) (x := .tmp 52) (y := .tmp 53) (g := bb) (off := bo) (n := 480) (c := c) (p := m) (by rfl) (by kernel_rfl) (by kernel_rfl) hm480 Try.underlying22 szU8) (fun _ => hT) ?_
          refine AnyK.load 6 (v := .int .u8 (x : Int)) rfl (by kernel_rfl) (by kernel_rfl) (by kernel_rfl) (fun _ _ _ h => h) rfl (fun w' hw' => ex_load (t := 5) (x := .tmp 54) (p := ⟨bb, bo + m, none⟩) (by rfl) (by kernel_rfl) agU8 hw'.2) hT ?_
          refine AnyK.pure 7 (v := .int .u64 (IntKind.u64.wrap (x : Int))) rfl (by kernel_rfl) (fun _ _ _ h => h) rfl (fun _ => by kernel_rfl) (fun _ => hT) ?_
          refine AnyK.pure 8 (v := .int .u64 (IntKind.u64.wrap ((IntKind.u64.wrap ((v : Int) * 256)) + (IntKind.u64.wrap (x : Int))))) rfl (by kernel_rfl) (fun _ _ _ h => h) rfl (fun _ => by kernel_rfl) (fun _ => hT) ?_
          refine AnyK.pure 9 (v := .pointer (some ⟨gp, 1, none⟩)) rfl (by kernel_rfl) (fun _ _ _ h => h) rfl (fun _ => by kernel_rfl) (fun _ => hT) ?_
          refine AnyK.store 10 (d := none) (op := .store 29 (.tmp 58) (.tmp 57)) (by kernel_rfl) (fun o ho => ex_store (p := ⟨gp, 1, none⟩) (k := .u64) (n := (IntKind.u64.wrap ((IntKind.u64.wrap ((v : Int) * 256)) + (IntKind.u64.wrap (x : Int))))) ho (by kernel_rfl) (by kernel_rfl) szU64 hT.1 HF1.out) (by kernel_rfl) (fun h => (by cases h)) ?_
          refine AnyK.done (by kernel_rfl) ?_
          rw [HEV.out]
          clear hT
          go_wp2_with fail
          go_roundg (8 - (j + 1))
          case measure => have := HGK.out; omega
          case rel => exact ⟨j + 1, m + 1, by omega, rfl, by have := HM.out; omega, by go_num, HB2.out, HZ2.out, HE2.out⟩
        · obtain rfl : j = 8 := by omega
          have hlt2 : ¬ (m : Int) < 28 := by omega
          have hfd : beNat ((b.drop 20).take 8) = fD b := rfl
          rw [hfd] at hb
          have HB8 := Lib.hid hb
          have HZ8 := Lib.hid hz
          have HE8 := Lib.hid hB
          have HR8 := Lib.hid (HR.out.below hB)
          have hgl8 := hb.lt
          have HNW : Hid (IntKind.i64.wrap (IntKind.i64.wrap (IntKind.i64.wrap ((b.getD 28 0).toNat : Int) * 256) + IntKind.i64.wrap ((b.getD 29 0).toNat : Int)) = (fN b : Int)) := by
            show _ = _
            rw [fN_two b HBL.out]
            exact wrap_two _ _ (b.getD 28 0).toNat_lt (b.getD 29 0).toNat_lt
          clear hb hz hB hfd hm
          go_wp2_with fail
          have hT : Rd wr.drew (some ⟨bb, bo, none⟩) 480 (u8s b) := HR8.out.drew
          refine region_K (by kernel_rfl) 10 (fun w' => Rd w' (some ⟨bb, bo, none⟩) 480 (u8s b)) ?_
          refine AnyK.pure 0 (v := .slice (some ⟨bb, bo, none⟩) 480 c) rfl (by kernel_rfl) (fun _ _ _ h => h) rfl (fun _ => by kernel_rfl) (fun _ => hT) ?_
          refine AnyK.pure 1 (v := .pointer (some ⟨bb, bo + 28, none⟩)) rfl (by kernel_rfl) (fun _ _ _ h => h) rfl (fun _ => by kernel_rfl) (fun _ => hT) ?_
          refine AnyK.load 2 (v := .int .u8 ((b.getD 28 0).toNat : Int)) rfl (by kernel_rfl) (by kernel_rfl) (by kernel_rfl) (fun _ _ _ h => h) rfl (fun w' hw' => ex_load (t := 5) (x := .tmp 60) (p := ⟨bb, bo + 28, none⟩) (by rfl) (by kernel_rfl) agU8 (hw'.get (i := 28) (by omega))) hT ?_
          refine AnyK.pure 3 (v := .int .i64 (IntKind.i64.wrap ((b.getD 28 0).toNat : Int))) rfl (by kernel_rfl) (fun _ _ _ h => h) rfl (fun _ => by kernel_rfl) (fun _ => hT) ?_
          refine AnyK.pure 4 (v := .int .i64 (IntKind.i64.wrap (IntKind.i64.wrap ((b.getD 28 0).toNat : Int) * 256))) rfl (by kernel_rfl) (fun _ _ _ h => h) rfl (fun _ => by kernel_rfl) (fun _ => hT) ?_
          refine AnyK.pure 5 (v := .slice (some ⟨bb, bo, none⟩) 480 c) rfl (by kernel_rfl) (fun _ _ _ h => h) rfl (fun _ => by kernel_rfl) (fun _ => hT) ?_
          refine AnyK.pure 6 (v := .pointer (some ⟨bb, bo + 29, none⟩)) rfl (by kernel_rfl) (fun _ _ _ h => h) rfl (fun _ => by kernel_rfl) (fun _ => hT) ?_
          refine AnyK.load 7 (v := .int .u8 ((b.getD 29 0).toNat : Int)) rfl (by kernel_rfl) (by kernel_rfl) (by kernel_rfl) (fun _ _ _ h => h) rfl (fun w' hw' => ex_load (t := 5) (x := .tmp 65) (p := ⟨bb, bo + 29, none⟩) (by rfl) (by kernel_rfl) agU8 (hw'.get (i := 29) (by omega))) hT ?_
          refine AnyK.pure 8 (v := .int .i64 (IntKind.i64.wrap ((b.getD 29 0).toNat : Int))) rfl (by kernel_rfl) (fun _ _ _ h => h) rfl (fun _ => by kernel_rfl) (fun _ => hT) ?_
          refine AnyK.pure 9 (v := .int .i64 (fN b : Int)) rfl (by kernel_rfl) (fun _ _ _ h => h) rfl (fun _ => by show _ = Result.ok (Next.value (.int .i64 (fN b : Int))) _; rw [← HNW.out]; kernel_rfl) (fun _ => hT) ?_
          refine AnyK.val 10 (v := .int .i64 (fN b : Int)) rfl (by kernel_rfl) rfl (by kernel_rfl) (fun h => (by cases h)) ?_
          refine AnyK.done (by kernel_rfl) ?_
          clear hT HNW
          have HB9 := Lib.hid HB8.out.drew
          have HZ9 := Lib.hid HZ8.out.drew
          have HE9 := Lib.hid HE8.out.drew
          have HR9 := Lib.hid HR8.out.drew
          obtain ⟨w9, hw9⟩ : ∃ w9, w9 = wr.drew := ⟨_, rfl⟩
          have hgl9 : gp < w9.heap.size := by rw [hw9]; exact hgl8
          have hwq : ({ wr with drawn := wr.drawn + 1 } : World) = w9 := hw9.symm
          rw [← hw9] at HB9 HZ9 HE9 HR9
          clear HB8 HZ8 HE8 HR8 hgl8 hw9
          have hn4 : (450 : Int) < (fN b : Int) := by omega
          clear h1 h3 hn
          rw [hwq]
          clear hwq
          go_wp2_with ((with_reducible refine wpList_store_all rfl 90 (.tmp 2) (.tmp 71) rfl w.heap.size [.int .u8 0, .int .u64 0, .int .i64 0, .int .i64 0, .slice none 0 0] ?_ ?_ 90 _ HZ9.out ?_ ?_ ?_ ?_); (· rfl); (· rfl); (· kernel_rfl); (· exact part_one _ _ _ _ _ _ _); (· rfl); intro w13 hb13 ho13; have HB13 := Lib.hid hb13; have HE13 := Lib.hid (ho13.below HE9.out (Nat.le_refl _) HE9.out.size); clear hb13 ho13)
          exact bodyPost_ret (res_cell_tmp rfl _ w.heap.size 90 _ rfl HB13.out _ Try.underlying90 rfl (by kernel_rfl)) rfl ⟨rfl, HE13.out⟩

set_option maxRecDepth 100000 in
set_option maxHeartbeats 4000000 in
theorem rparse_3c (A : Option Addr) (c : Nat) (b : List UInt8) (w : World) (h : Rd w A 480 (u8s b)) (hc : 480 ≤ c) (hz : allZ (b.take 16) = true) (h1 : 1 ≤ fK b) (h3 : fK b ≤ 3) (hn : fN b ≤ 450) (hch : chk (fK b) (fI b) (fC b) (fD b) (fN b) = 3) :
    Calls Try.prog 44 #[.slice A 480 c] w fun e w' => e = .returned (.tuple #[partZ, .int .i64 3]) ∧ Below w.heap.size w w' := by
  obtain ⟨bb, bo, rfl, hbb, _⟩ := h.2 (by omega)
  have HR := Lib.hid h
  have hbl : b.length = 480 := h.len
  have HBL := Lib.hid hbl
  have hid : (b.getD 17 0).toNat = fI b := rfl
  have hcd : (b.getD 18 0).toNat = fC b := rfl
  have hkd : (b.getD 16 0).toNat = fK b := rfl
  have hwi : IntKind.i64.wrap ((b.getD 17 0).toNat : Int) = ((b.getD 17 0).toNat : Int) := IntWalk.i64_in _ (by have := (b.getD 17 0).toNat_lt; omega)
  have hwc : IntKind.i64.wrap ((b.getD 18 0).toNat : Int) = ((b.getD 18 0).toNat : Int) := IntWalk.i64_in _ (by have := (b.getD 18 0).toNat_lt; omega)
  have HID := Lib.hid hid
  have HCD := Lib.hid hcd
  have HKD := Lib.hid hkd
  have HWI := Lib.hid hwi
  have HWC := Lib.hid hwc
  have HZT := Lib.hid hz
  clear hz h hbl hid hcd hkd hwi hwc
  go_enter Try.func44, Try.ntmps44
  go_wp2_with fail
  obtain ⟨W0, hW0⟩ : ∃ W0, W0 = w.alloc (.cells #[.int .u8 0, .int .u64 0, .int .i64 0, .int .i64 0, .slice none 0 0] 90) := ⟨_, rfl⟩
  rw [← hW0]
  have HE0 : Hid (Below w.heap.size w W0) := by rw [hW0]; exact (Below.refl _ _).alloc (Nat.le_refl _) _
  have HZ0 : Hid (Blk W0 w.heap.size 90 [.int .u8 0, .int .u64 0, .int .i64 0, .int .i64 0, .slice none 0 0]) := by rw [hW0]; exact Blk.new' rfl rfl
  have HR0 : Hid (Rd W0 (some ⟨bb, bo, none⟩) 480 (u8s b)) := HR.out.below HE0.out
  have hws0 : w.heap.size + 1 ≤ W0.heap.size := by rw [hW0]; simp
  clear hW0
  go_loopg [4] 16 (fun kk q wr => ∃ k : Nat, k ≤ 16 ∧ kk = 16 - k ∧ q = .int .i64 k ∧ W0 = wr)
  case atStart => exact ⟨0, by omega, rfl, rfl, rfl⟩
  case round =>
    obtain ⟨k, hk, hgk, rfl, rfl⟩ := hrel
    have HGK := Lib.hid hgk
    clear hgk
    by_cases hlt : k < 16
    · have hlt2 : (k : Int) < 16 := by omega
      have ck := HR0.out.get (i := k) (by omega)
      rw [zlo HZT.out HBL.out k hlt] at ck
      have ck0 : W0.cell? ⟨bb, bo + k, none⟩ = some (.int .u8 0) := ck
      clear ck
      go_wp2_with fail
      go_roundg (16 - (k + 1))
      case measure => have := HGK.out; omega
      case rel => exact ⟨k + 1, by omega, rfl, by go_num, rfl⟩
    · obtain rfl : k = 16 := by omega
      have hlt2 : ¬ ((16 : Nat) : Int) < 16 := by omega
      clear HGK hlt hk
      go_wp2_with fail
      have hwi := HWI.out
      have hwc := HWC.out
      have hkd := HKD.out
      have hid := HID.out
      have hcd := HCD.out
      refine region_K (by kernel_rfl) 13 (fun W => Rd W (some ⟨bb, bo, none⟩) 480 (u8s b)) ?_
      refine AnyF.start 12 5 (w.heap.size + 1) 90 [.int .u8 0, .int .u64 0, .int .i64 0, .int .i64 0, .slice none 0 0] (fun W => Rd W (some ⟨bb, bo, none⟩) 480 (u8s b) ∧ Below w.heap.size w W ∧ Blk W w.heap.size 90 [.int .u8 0, .int .u64 0, .int .i64 0, .int .i64 0, .slice none 0 0] ∧ w.heap.size + 1 ≤ W.heap.size) ⟨HR0.out.drew, HE0.out.drew, HZ0.out.drew, hws0⟩ ?_
      refine AnyF.pure 0 (v := .slice (some ⟨bb, bo, none⟩) 480 c) rfl (by decide) (fun g => by cases g <;> kernel_rfl) (fun _ _ _ h => h) rfl (by decide) (fun st _ => by cases st <;> kernel_rfl) (fun _ h => h.1) ?_
      refine AnyF.pure 1 (v := .pointer (some ⟨bb, bo + 16, none⟩)) rfl (by decide) (fun g => by cases g <;> kernel_rfl) (fun _ _ _ h => h) rfl (by decide) (fun st _ => by cases st <;> kernel_rfl) (fun _ h => h.1) ?_
      refine AnyF.load 2 (v := .int .u8 ((b.getD 16 0).toNat : Int)) rfl (by decide) (fun g => by cases g <;> kernel_rfl) (by kernel_rfl) (fun g => by cases g <;> kernel_rfl) (fun _ _ _ h => h) rfl (by decide) (fun st w' hw' => ex_load (p := ⟨bb, bo + 16, none⟩) rfl (by cases st <;> kernel_rfl) agU8 (hw'.get (i := 16) (by omega))) (fun _ h => h.1) ?_
      refine AnyF.pure 3 (v := .slice (some ⟨bb, bo, none⟩) 480 c) rfl (by decide) (fun g => by cases g <;> kernel_rfl) (fun _ _ _ h => h) rfl (by decide) (fun st _ => by cases st <;> kernel_rfl) (fun _ h => h.1) ?_
      refine AnyF.pure 4 (v := .pointer (some ⟨bb, bo + 17, none⟩)) rfl (by decide) (fun g => by cases g <;> kernel_rfl) (fun _ _ _ h => h) rfl (by decide) (fun st _ => by cases st <;> kernel_rfl) (fun _ h => h.1) ?_
      refine AnyF.load 5 (v := .int .u8 ((b.getD 17 0).toNat : Int)) rfl (by decide) (fun g => by cases g <;> kernel_rfl) (by kernel_rfl) (fun g => by cases g <;> kernel_rfl) (fun _ _ _ h => h) rfl (by decide) (fun st w' hw' => ex_load (p := ⟨bb, bo + 17, none⟩) rfl (by cases st <;> kernel_rfl) agU8 (hw'.get (i := 17) (by omega))) (fun _ h => h.1) ?_
      refine AnyF.pure 6 (v := .int .i64 (IntKind.i64.wrap ((b.getD 17 0).toNat : Int))) rfl (by decide) (fun g => by cases g <;> kernel_rfl) (fun _ _ _ h => h) rfl (by decide) (fun st _ => by cases st <;> kernel_rfl) (fun _ h => h.1) ?_
      refine AnyF.pure 7 (v := .slice (some ⟨bb, bo, none⟩) 480 c) rfl (by decide) (fun g => by cases g <;> kernel_rfl) (fun _ _ _ h => h) rfl (by decide) (fun st _ => by cases st <;> kernel_rfl) (fun _ h => h.1) ?_
      refine AnyF.pure 8 (v := .pointer (some ⟨bb, bo + 18, none⟩)) rfl (by decide) (fun g => by cases g <;> kernel_rfl) (fun _ _ _ h => h) rfl (by decide) (fun st _ => by cases st <;> kernel_rfl) (fun _ h => h.1) ?_
      refine AnyF.load 9 (v := .int .u8 ((b.getD 18 0).toNat : Int)) rfl (by decide) (fun g => by cases g <;> kernel_rfl) (by kernel_rfl) (fun g => by cases g <;> kernel_rfl) (fun _ _ _ h => h) rfl (by decide) (fun st w' hw' => ex_load (p := ⟨bb, bo + 18, none⟩) rfl (by cases st <;> kernel_rfl) agU8 (hw'.get (i := 18) (by omega))) (fun _ h => h.1) ?_
      refine AnyF.pure 10 (v := .int .i64 (IntKind.i64.wrap ((b.getD 18 0).toNat : Int))) rfl (by decide) (fun g => by cases g <;> kernel_rfl) (fun _ _ _ h => h) rfl (by decide) (fun st _ => by cases st <;> kernel_rfl) (fun _ h => h.1) ?_
      refine AnyF.pure 11 (v := .agg #[.int .u8 ((b.getD 16 0).toNat : Int), .int .u64 0, .int .i64 (IntKind.i64.wrap ((b.getD 17 0).toNat : Int)), .int .i64 (IntKind.i64.wrap ((b.getD 18 0).toNat : Int)), .slice none 0 0]) rfl (by decide) (fun g => by cases g <;> kernel_rfl) (fun _ _ _ h => h) rfl (by decide) (fun st _ => by cases st <;> kernel_rfl) (fun _ h => h.1) ?_
      refine AnyF.fin rfl rfl rfl (fun _ _ => by kernel_rfl) (by kernel_rfl) (fun _ o h => ⟨h.1.alloc o, h.2.1.alloc h.2.1.size o, h.2.2.1.alloc o, Nat.le_trans h.2.2.2 (by simp)⟩) (fun _ h => h.2.2.2) (fun _ h => h.1) ?_
      intro gp w7 hgp hp7 hU7
      refine AnyK.storeAll 13 (t := 90) (x := .tmp 5) (y := .tmp 35) gp [.int .u8 ((b.getD 16 0).toNat : Int), .int .u64 0, .int .i64 (IntKind.i64.wrap ((b.getD 17 0).toNat : Int)), .int .i64 (IntKind.i64.wrap ((b.getD 18 0).toNat : Int)), .slice none 0 0] 90 [.int .u8 0, .int .u64 0, .int .i64 0, .int .i64 0, .slice none 0 0] rfl rfl rfl rfl (by kernel_rfl) (by kernel_rfl) (by kernel_rfl) hp7 (by kernel_rfl) (part_one _ _ _ _ _ _ _) rfl (fun _ _ _ h => (by cases h)) ?_
      intro w8 hb8 ho8
      refine AnyK.done (by kernel_rfl) ?_
      rw [hwi, hwc, hkd, hid, hcd] at hb8
      have hgw : w.heap.size + 1 ≤ gp := hgp
      have HB8 := Lib.hid hb8
      have HE8 := Lib.hid (ho8.below hU7.2.1 (by omega) hU7.2.1.size)
      have HZ8 := Lib.hid (ho8.blk hU7.2.2.1 (by omega))
      have HR8 := Lib.hid (HR.out.below HE8.out)
      have hgl8 := HB8.out.lt
      have c80 := HB8.out.cell 0
      simp only [List.getElem?_cons_zero] at c80
      clear hb8 ho8 hU7 hp7 hwi hwc hkd hid hcd HR0 HZ0 HE0
      have hk1 : ¬ (fK b : Int) < 1 := by omega
      have hk3 : ¬ (3 : Int) < (fK b : Int) := by omega
      have HB8' : Hid (Blk w8 gp 90 [.int .u8 (fK b), .int .u64 (0 : Nat), .int .i64 (fI b), .int .i64 (fC b), .slice none 0 0]) := HB8.out
      have hgl0 : bb < w.heap.size := hbb
      go_wp2_with fail
      clear c80
      go_loopg [6] 8 (fun kk q wr => ∃ j m : Nat, j ≤ 8 ∧ kk = 8 - j ∧ m = 20 + j ∧ q = .int .i64 m ∧ Blk wr gp 90 [.int .u8 (fK b), .int .u64 (beNat ((b.drop 20).take j) : Nat), .int .i64 (fI b), .int .i64 (fC b), .slice none 0 0] ∧ Blk wr w.heap.size 90 [.int .u8 0, .int .u64 0, .int .i64 0, .int .i64 0, .slice none 0 0] ∧ Below w.heap.size w wr)
      case atStart => exact ⟨0, 20, by omega, rfl, rfl, rfl, HB8'.out, HZ8.out, HE8.out⟩
      case round =>
        clear HB8 HB8' HZ8 HE8 HR8 hgl8
        obtain ⟨j, m, hj, hgk, hm, rfl, hb, hz, hB⟩ := hrel
        have HGK := Lib.hid hgk
        have HM := Lib.hid hm
        clear hgk
        by_cases hlt : j < 8
        · have hlt2 : (m : Int) < 28 := by omega
          have hm480 : m < 480 := by omega
          have h1c := hb.cell 1
          simp only [List.getElem?_cons_zero, List.getElem?_cons_succ] at h1c
          have hst := be_step b HBL.out j hlt
          have hbd := be_bd b j hlt
          rw [← hm] at hst
          have hxb := (HR.out.below hB).get (i := m) hm480
          have hx256 := (b.getD m 0).toNat_lt
          obtain ⟨x, hx⟩ : ∃ x, x = (b.getD m 0).toNat := ⟨_, rfl⟩
          rw [← hx] at hst hxb hx256
          obtain ⟨v, hv⟩ : ∃ v, v = beNat ((b.drop 20).take j) := ⟨_, rfl⟩
          rw [← hv] at hst hbd h1c hb
          have HEV : Hid ((IntKind.u64.wrap ((IntKind.u64.wrap ((v : Int) * 256)) + (IntKind.u64.wrap (x : Int)))) = ((beNat ((b.drop 20).take (j + 1)) : Nat) : Int)) := by
            show _ = _
            rw [hst]
            exact wrap_id v x hbd hx256
          have hb2 := (hb.drew).set_ 1 (.int .u64 ((beNat ((b.drop 20).take (j + 1)) : Nat) : Int))
          have HB2 : Hid (Blk (wr.drew.setCell ⟨gp, 1, none⟩ (.int .u64 ((beNat ((b.drop 20).take (j + 1)) : Nat) : Int))) gp 90 [.int .u8 (fK b), .int .u64 (beNat ((b.drop 20).take (j + 1)) : Nat), .int .i64 (fI b), .int .i64 (fC b), .slice none 0 0]) := hb2
          have HZ2 := Lib.hid (hz.drew.far (p := ⟨gp, 1, none⟩) (by show _ ≠ gp; omega) (.int .u64 ((beNat ((b.drop 20).take (j + 1)) : Nat) : Int)))
          have HE2 := Lib.hid (hB.drew.setCell (p := ⟨gp, 1, none⟩) (by show _ ≤ gp; omega) (.int .u64 ((beNat ((b.drop 20).take (j + 1)) : Nat) : Int)))
          have HF1 := Lib.hid (hb.frozen 1)
          have HC1 := Lib.hid h1c
          have HXB := Lib.hid hxb
          clear hb hz hB hb2 hx hv hst hbd h1c hxb hm
          go_wp2_with fail
          have hT : wr.drew.cell? ⟨gp, 1, none⟩ = some (.int .u64 (v : Int)) ∧ wr.drew.cell? ⟨bb, bo + m, none⟩ = some (.int .u8 (x : Int)) := ⟨HC1.out, HXB.out⟩
          refine region_K (by kernel_rfl) 10 (fun w' => w'.cell? ⟨gp, 1, none⟩ = some (.int .u64 (v : Int)) ∧ w'.cell? ⟨bb, bo + m, none⟩ = some (.int .u8 (x : Int))) ?_
          refine AnyK.pure 0 (v := .pointer (some ⟨gp, 1, none⟩)) rfl (by kernel_rfl) (fun _ _ _ h => h) rfl (fun _ => by kernel_rfl) (fun _ => hT) ?_
          refine AnyK.load 1 (v := .int .u64 (v : Int)) rfl (by kernel_rfl) (by kernel_rfl) (by kernel_rfl) (fun _ _ _ h => h) rfl (fun w' hw' => ex_load (t := 29) (x := .tmp 49) (p := ⟨gp, 1, none⟩) (by rfl) (by kernel_rfl) agU64 hw'.1) hT ?_
          refine AnyK.pure 2 (v := .int .u64 (IntKind.u64.wrap ((v : Int) * 256))) rfl (by kernel_rfl) (fun _ _ _ h => h) rfl (fun _ => by kernel_rfl) (fun _ => hT) ?_
          refine AnyK.pure 3 (v := .slice (some ⟨bb, bo, none⟩) 480 c) rfl (by kernel_rfl) (fun _ _ _ h => h) rfl (fun _ => by kernel_rfl) (fun _ => hT) ?_
          refine AnyK.pure 4 (v := .int .i64 m) rfl (by kernel_rfl) (fun _ _ _ h => h) rfl (fun _ => by kernel_rfl) (fun _ => hT) ?_
          refine AnyK.pure 5 (v := .pointer (some ⟨bb, bo + m, none⟩)) rfl (by kernel_rfl) (fun _ _ _ h => h) rfl (fun _ => ex_idxO (t := 22) (x := .tmp 52) (y := .tmp 53) (g := bb) (off := bo) (n := 480) (c := c) (p := m) (by rfl) (by kernel_rfl) (by kernel_rfl) hm480 Try.underlying22 szU8) (fun _ => hT) ?_
          refine AnyK.load 6 (v := .int .u8 (x : Int)) rfl (by kernel_rfl) (by kernel_rfl) (by kernel_rfl) (fun _ _ _ h => h) rfl (fun w' hw' => ex_load (t := 5) (x := .tmp 54) (p := ⟨bb, bo + m, none⟩) (by rfl) (by kernel_rfl) agU8 hw'.2) hT ?_
          refine AnyK.pure 7 (v := .int .u64 (IntKind.u64.wrap (x : Int))) rfl (by kernel_rfl) (fun _ _ _ h => h) rfl (fun _ => by kernel_rfl) (fun _ => hT) ?_
          refine AnyK.pure 8 (v := .int .u64 (IntKind.u64.wrap ((IntKind.u64.wrap ((v : Int) * 256)) + (IntKind.u64.wrap (x : Int))))) rfl (by kernel_rfl) (fun _ _ _ h => h) rfl (fun _ => by kernel_rfl) (fun _ => hT) ?_
          refine AnyK.pure 9 (v := .pointer (some ⟨gp, 1, none⟩)) rfl (by kernel_rfl) (fun _ _ _ h => h) rfl (fun _ => by kernel_rfl) (fun _ => hT) ?_
          refine AnyK.store 10 (d := none) (op := .store 29 (.tmp 58) (.tmp 57)) (by kernel_rfl) (fun o ho => ex_store (p := ⟨gp, 1, none⟩) (k := .u64) (n := (IntKind.u64.wrap ((IntKind.u64.wrap ((v : Int) * 256)) + (IntKind.u64.wrap (x : Int))))) ho (by kernel_rfl) (by kernel_rfl) szU64 hT.1 HF1.out) (by kernel_rfl) (fun h => (by cases h)) ?_
          refine AnyK.done (by kernel_rfl) ?_
          rw [HEV.out]
          clear hT
          go_wp2_with fail
          go_roundg (8 - (j + 1))
          case measure => have := HGK.out; omega
          case rel => exact ⟨j + 1, m + 1, by omega, rfl, by have := HM.out; omega, by go_num, HB2.out, HZ2.out, HE2.out⟩
        · obtain rfl : j = 8 := by omega
          have hlt2 : ¬ (m : Int) < 28 := by omega
          have hfd : beNat ((b.drop 20).take 8) = fD b := rfl
          rw [hfd] at hb
          have HB8 := Lib.hid hb
          have HZ8 := Lib.hid hz
          have HE8 := Lib.hid hB
          have HR8 := Lib.hid (HR.out.below hB)
          have hgl8 := hb.lt
          have HNW : Hid (IntKind.i64.wrap (IntKind.i64.wrap (IntKind.i64.wrap ((b.getD 28 0).toNat : Int) * 256) + IntKind.i64.wrap ((b.getD 29 0).toNat : Int)) = (fN b : Int)) := by
            show _ = _
            rw [fN_two b HBL.out]
            exact wrap_two _ _ (b.getD 28 0).toNat_lt (b.getD 29 0).toNat_lt
          clear hb hz hB hfd hm
          go_wp2_with fail
          have hT : Rd wr.drew (some ⟨bb, bo, none⟩) 480 (u8s b) := HR8.out.drew
          refine region_K (by kernel_rfl) 10 (fun w' => Rd w' (some ⟨bb, bo, none⟩) 480 (u8s b)) ?_
          refine AnyK.pure 0 (v := .slice (some ⟨bb, bo, none⟩) 480 c) rfl (by kernel_rfl) (fun _ _ _ h => h) rfl (fun _ => by kernel_rfl) (fun _ => hT) ?_
          refine AnyK.pure 1 (v := .pointer (some ⟨bb, bo + 28, none⟩)) rfl (by kernel_rfl) (fun _ _ _ h => h) rfl (fun _ => by kernel_rfl) (fun _ => hT) ?_
          refine AnyK.load 2 (v := .int .u8 ((b.getD 28 0).toNat : Int)) rfl (by kernel_rfl) (by kernel_rfl) (by kernel_rfl) (fun _ _ _ h => h) rfl (fun w' hw' => ex_load (t := 5) (x := .tmp 60) (p := ⟨bb, bo + 28, none⟩) (by rfl) (by kernel_rfl) agU8 (hw'.get (i := 28) (by omega))) hT ?_
          refine AnyK.pure 3 (v := .int .i64 (IntKind.i64.wrap ((b.getD 28 0).toNat : Int))) rfl (by kernel_rfl) (fun _ _ _ h => h) rfl (fun _ => by kernel_rfl) (fun _ => hT) ?_
          refine AnyK.pure 4 (v := .int .i64 (IntKind.i64.wrap (IntKind.i64.wrap ((b.getD 28 0).toNat : Int) * 256))) rfl (by kernel_rfl) (fun _ _ _ h => h) rfl (fun _ => by kernel_rfl) (fun _ => hT) ?_
          refine AnyK.pure 5 (v := .slice (some ⟨bb, bo, none⟩) 480 c) rfl (by kernel_rfl) (fun _ _ _ h => h) rfl (fun _ => by kernel_rfl) (fun _ => hT) ?_
          refine AnyK.pure 6 (v := .pointer (some ⟨bb, bo + 29, none⟩)) rfl (by kernel_rfl) (fun _ _ _ h => h) rfl (fun _ => by kernel_rfl) (fun _ => hT) ?_
          refine AnyK.load 7 (v := .int .u8 ((b.getD 29 0).toNat : Int)) rfl (by kernel_rfl) (by kernel_rfl) (by kernel_rfl) (fun _ _ _ h => h) rfl (fun w' hw' => ex_load (t := 5) (x := .tmp 65) (p := ⟨bb, bo + 29, none⟩) (by rfl) (by kernel_rfl) agU8 (hw'.get (i := 29) (by omega))) hT ?_
          refine AnyK.pure 8 (v := .int .i64 (IntKind.i64.wrap ((b.getD 29 0).toNat : Int))) rfl (by kernel_rfl) (fun _ _ _ h => h) rfl (fun _ => by kernel_rfl) (fun _ => hT) ?_
          refine AnyK.pure 9 (v := .int .i64 (fN b : Int)) rfl (by kernel_rfl) (fun _ _ _ h => h) rfl (fun _ => by show _ = Result.ok (Next.value (.int .i64 (fN b : Int))) _; rw [← HNW.out]; kernel_rfl) (fun _ => hT) ?_
          refine AnyK.val 10 (v := .int .i64 (fN b : Int)) rfl (by kernel_rfl) rfl (by kernel_rfl) (fun h => (by cases h)) ?_
          refine AnyK.done (by kernel_rfl) ?_
          clear hT HNW
          have HB9 := Lib.hid HB8.out.drew
          have HZ9 := Lib.hid HZ8.out.drew
          have HE9 := Lib.hid HE8.out.drew
          have HR9 := Lib.hid HR8.out.drew
          obtain ⟨w9, hw9⟩ : ∃ w9, w9 = wr.drew := ⟨_, rfl⟩
          have hgl9 : gp < w9.heap.size := by rw [hw9]; exact hgl8
          have hwq : ({ wr with drawn := wr.drawn + 1 } : World) = w9 := hw9.symm
          rw [← hw9] at HB9 HZ9 HE9 HR9
          clear HB8 HZ8 HE8 HR8 hgl8 hw9
          have hn4 : ¬ (450 : Int) < (fN b : Int) := by omega
          have hn450 : (fN b : Int) ≤ 450 := by omega
          have hn0 : (0 : Int) ≤ (fN b : Int) := by omega
          have hnn : fN b ≤ 450 := hn
          have HCP : Hid (∀ W, Rd W (some ⟨bb, bo, none⟩) 480 (u8s b) → Calls Try.prog 11 #[.slice (some ⟨bb, bo + 30, none⟩) (fN b) (c - 30)] W fun e w' => ∃ A' c', e = .returned (.slice A' (fN b) c') ∧ fN b ≤ c' ∧ w'.ownsRow W.heap.size 5 1 (.slice A' (fN b) c') (fN b) (u8s (fData b)) ∧ Below W.heap.size W w') := fun W hr => copy_any _ _ _ _ W (rd_part hr 30 (fN b) (by omega)) (by omega)
          have HFR := Lib.hid (fun A cp W => rframe_err A (fN b) cp (fK b) (fD b) (fI b) (fC b) W h1 h3 hn hch)
          clear hch
          have n30 : ¬ c = 30 := by omega
          have e30 : (30 : Int) ≤ (c : Int) := by omega
          have eC : (30 : Int) + (fN b : Int) ≤ (c : Int) := by omega
          have e4 : (30 : Int) + (fN b : Int) ≤ 480 := by omega
          have e5 : (30 : Int) + (fN b : Int) - 30 = (fN b : Int) := by omega
          have c94 := HB9.out.cell 4
          have f94 := HB9.out.frozen 4
          simp only [List.getElem?_cons_zero, List.getElem?_cons_succ] at c94
          clear h1 h3 hn
          rw [hwq]
          clear hwq
          go_wp2_with (first
            | (go_at_call 11; (with_reducible refine (HCP.out _ (by exact HR9.out)).mono ?_); rintro e w10 ⟨A10, c10, rfl, hc10, hown10, hB10⟩
               have HBa := Lib.hid (HB9.out.below hB10 HB9.out.lt)
               have c104 := (hB10.cell (p := ⟨gp, 4, none⟩) hgl9).trans c94
               have f104 := (hB10.frozen (p := ⟨gp, 4, none⟩) hgl9).trans f94
               have HEa := Lib.hid (HE9.out.trans (hB10.mono HE9.out.size))
               have HZa := Lib.hid (HZ9.out.below hB10 HZ9.out.lt)
               have HB11 : Hid (Blk (w10.setCell ⟨gp, 4, none⟩ (.slice A10 (fN b) c10)) gp 90 [.int .u8 (fK b), .int .u64 (fD b), .int .i64 (fI b), .int .i64 (fC b), .slice A10 (fN b) c10]) := HBa.out.set_ 4 (.slice A10 (fN b) c10)
               have HE11 := Lib.hid (HEa.out.setCell (p := ⟨gp, 4, none⟩) (by show _ ≤ gp; omega) (.slice A10 (fN b) c10))
               have HZ11 := Lib.hid (HZa.out.far (p := ⟨gp, 4, none⟩) (by show _ ≠ gp; omega) (.slice A10 (fN b) c10))
               have HD11 : Hid (Rd (w10.setCell ⟨gp, 4, none⟩ (.slice A10 (fN b) c10)) A10 (fN b) (u8s (fData b))) := (Rd.of_own hown10).wrote ((Wrote.refl w10 gp).setCell 4 (.slice A10 (fN b) c10)) (fun h0 ad e => by obtain ⟨g, e2, hg, _⟩ := own_pos hown10 h0; rw [e2] at e; injection e with e; subst e; show g ≠ gp; omega)
               have HNA : Hid (0 < fN b → ∀ ad : Addr, A10 = some ad → ad.block ≠ w.heap.size) := (fun h0 ad e => by obtain ⟨g, e2, hg, _⟩ := own_pos hown10 h0; rw [e2] at e; injection e with e; subst e; show g ≠ w.heap.size; omega)
               have d0 := HB11.out.cell 0
               have d1 := HB11.out.cell 1
               have d2 := HB11.out.cell 2
               have d3 := HB11.out.cell 3
               have d4 := HB11.out.cell 4
               simp only [List.getElem?_cons_zero, List.getElem?_cons_succ] at d0 d1 d2 d3 d4
               clear hown10 hB10)
            | (go_at_call 37; (with_reducible refine (HFR.out _ _ _).mono ?_); rintro e w12 ⟨rfl, hB12⟩
               have HE12 := Lib.hid (HE11.out.trans (hB12.mono HE11.out.size))
               have HZ12 := Lib.hid (HZ11.out.below hB12 HZ11.out.lt)
               clear hB12)
            | ((with_reducible refine wpList_store_all rfl 90 (.tmp 2) (.tmp 91) rfl w.heap.size [.int .u8 0, .int .u64 0, .int .i64 0, .int .i64 0, .slice none 0 0] ?_ ?_ 90 _ HZ12.out ?_ ?_ ?_ ?_); (· rfl); (· rfl); (· kernel_rfl); (· exact part_one _ _ _ _ _ _ _); (· rfl); intro w13 hb13 ho13; have HB13 := Lib.hid hb13; have HE13 := Lib.hid (ho13.below HE12.out (Nat.le_refl _) HE12.out.size); clear hb13 ho13))
          exact bodyPost_ret (res_cell_tmp rfl _ w.heap.size 90 _ rfl HB13.out _ Try.underlying90 rfl (by kernel_rfl)) rfl ⟨rfl, HE13.out⟩

set_option maxRecDepth 100000 in
set_option maxHeartbeats 4000000 in
theorem rparse_3d (A : Option Addr) (c : Nat) (b : List UInt8) (w : World) (h : Rd w A 480 (u8s b)) (hc : 480 ≤ c) (hz : allZ (b.take 16) = true) (h1 : 1 ≤ fK b) (h3 : fK b ≤ 3) (hn : fN b ≤ 450) (hch : chk (fK b) (fI b) (fC b) (fD b) (fN b) = 0) (heq : decide ((Wd.frame (UInt8.ofNat (fK b)) (UInt8.ofNat (fI b)) (UInt8.ofNat (fC b)) (fD b) (fData b)) = b) = false) :
    Calls Try.prog 44 #[.slice A 480 c] w fun e w' => e = .returned (.tuple #[partZ, .int .i64 3]) ∧ Below w.heap.size w w' := by
  obtain ⟨bb, bo, rfl, hbb, _⟩ := h.2 (by omega)
  have HR := Lib.hid h
  have hbl : b.length = 480 := h.len
  have HBL := Lib.hid hbl
  have hid : (b.getD 17 0).toNat = fI b := rfl
  have hcd : (b.getD 18 0).toNat = fC b := rfl
  have hkd : (b.getD 16 0).toNat = fK b := rfl
  have hwi : IntKind.i64.wrap ((b.getD 17 0).toNat : Int) = ((b.getD 17 0).toNat : Int) := IntWalk.i64_in _ (by have := (b.getD 17 0).toNat_lt; omega)
  have hwc : IntKind.i64.wrap ((b.getD 18 0).toNat : Int) = ((b.getD 18 0).toNat : Int) := IntWalk.i64_in _ (by have := (b.getD 18 0).toNat_lt; omega)
  have HID := Lib.hid hid
  have HCD := Lib.hid hcd
  have HKD := Lib.hid hkd
  have HWI := Lib.hid hwi
  have HWC := Lib.hid hwc
  have HZT := Lib.hid hz
  clear hz h hbl hid hcd hkd hwi hwc
  go_enter Try.func44, Try.ntmps44
  go_wp2_with fail
  obtain ⟨W0, hW0⟩ : ∃ W0, W0 = w.alloc (.cells #[.int .u8 0, .int .u64 0, .int .i64 0, .int .i64 0, .slice none 0 0] 90) := ⟨_, rfl⟩
  rw [← hW0]
  have HE0 : Hid (Below w.heap.size w W0) := by rw [hW0]; exact (Below.refl _ _).alloc (Nat.le_refl _) _
  have HZ0 : Hid (Blk W0 w.heap.size 90 [.int .u8 0, .int .u64 0, .int .i64 0, .int .i64 0, .slice none 0 0]) := by rw [hW0]; exact Blk.new' rfl rfl
  have HR0 : Hid (Rd W0 (some ⟨bb, bo, none⟩) 480 (u8s b)) := HR.out.below HE0.out
  have hws0 : w.heap.size + 1 ≤ W0.heap.size := by rw [hW0]; simp
  clear hW0
  go_loopg [4] 16 (fun kk q wr => ∃ k : Nat, k ≤ 16 ∧ kk = 16 - k ∧ q = .int .i64 k ∧ W0 = wr)
  case atStart => exact ⟨0, by omega, rfl, rfl, rfl⟩
  case round =>
    obtain ⟨k, hk, hgk, rfl, rfl⟩ := hrel
    have HGK := Lib.hid hgk
    clear hgk
    by_cases hlt : k < 16
    · have hlt2 : (k : Int) < 16 := by omega
      have ck := HR0.out.get (i := k) (by omega)
      rw [zlo HZT.out HBL.out k hlt] at ck
      have ck0 : W0.cell? ⟨bb, bo + k, none⟩ = some (.int .u8 0) := ck
      clear ck
      go_wp2_with fail
      go_roundg (16 - (k + 1))
      case measure => have := HGK.out; omega
      case rel => exact ⟨k + 1, by omega, rfl, by go_num, rfl⟩
    · obtain rfl : k = 16 := by omega
      have hlt2 : ¬ ((16 : Nat) : Int) < 16 := by omega
      clear HGK hlt hk
      go_wp2_with fail
      have hwi := HWI.out
      have hwc := HWC.out
      have hkd := HKD.out
      have hid := HID.out
      have hcd := HCD.out
      refine region_K (by kernel_rfl) 13 (fun W => Rd W (some ⟨bb, bo, none⟩) 480 (u8s b)) ?_
      refine AnyF.start 12 5 (w.heap.size + 1) 90 [.int .u8 0, .int .u64 0, .int .i64 0, .int .i64 0, .slice none 0 0] (fun W => Rd W (some ⟨bb, bo, none⟩) 480 (u8s b) ∧ Below w.heap.size w W ∧ Blk W w.heap.size 90 [.int .u8 0, .int .u64 0, .int .i64 0, .int .i64 0, .slice none 0 0] ∧ w.heap.size + 1 ≤ W.heap.size) ⟨HR0.out.drew, HE0.out.drew, HZ0.out.drew, hws0⟩ ?_
      refine AnyF.pure 0 (v := .slice (some ⟨bb, bo, none⟩) 480 c) rfl (by decide) (fun g => by cases g <;> kernel_rfl) (fun _ _ _ h => h) rfl (by decide) (fun st _ => by cases st <;> kernel_rfl) (fun _ h => h.1) ?_
      refine AnyF.pure 1 (v := .pointer (some ⟨bb, bo + 16, none⟩)) rfl (by decide) (fun g => by cases g <;> kernel_rfl) (fun _ _ _ h => h) rfl (by decide) (fun st _ => by cases st <;> kernel_rfl) (fun _ h => h.1) ?_
      refine AnyF.load 2 (v := .int .u8 ((b.getD 16 0).toNat : Int)) rfl (by decide) (fun g => by cases g <;> kernel_rfl) (by kernel_rfl) (fun g => by cases g <;> kernel_rfl) (fun _ _ _ h => h) rfl (by decide) (fun st w' hw' => ex_load (p := ⟨bb, bo + 16, none⟩) rfl (by cases st <;> kernel_rfl) agU8 (hw'.get (i := 16) (by omega))) (fun _ h => h.1) ?_
      refine AnyF.pure 3 (v := .slice (some ⟨bb, bo, none⟩) 480 c) rfl (by decide) (fun g => by cases g <;> kernel_rfl) (fun _ _ _ h => h) rfl (by decide) (fun st _ => by cases st <;> kernel_rfl) (fun _ h => h.1) ?_
      refine AnyF.pure 4 (v := .pointer (some ⟨bb, bo + 17, none⟩)) rfl (by decide) (fun g => by cases g <;> kernel_rfl) (fun _ _ _ h => h) rfl (by decide) (fun st _ => by cases st <;> kernel_rfl) (fun _ h => h.1) ?_
      refine AnyF.load 5 (v := .int .u8 ((b.getD 17 0).toNat : Int)) rfl (by decide) (fun g => by cases g <;> kernel_rfl) (by kernel_rfl) (fun g => by cases g <;> kernel_rfl) (fun _ _ _ h => h) rfl (by decide) (fun st w' hw' => ex_load (p := ⟨bb, bo + 17, none⟩) rfl (by cases st <;> kernel_rfl) agU8 (hw'.get (i := 17) (by omega))) (fun _ h => h.1) ?_
      refine AnyF.pure 6 (v := .int .i64 (IntKind.i64.wrap ((b.getD 17 0).toNat : Int))) rfl (by decide) (fun g => by cases g <;> kernel_rfl) (fun _ _ _ h => h) rfl (by decide) (fun st _ => by cases st <;> kernel_rfl) (fun _ h => h.1) ?_
      refine AnyF.pure 7 (v := .slice (some ⟨bb, bo, none⟩) 480 c) rfl (by decide) (fun g => by cases g <;> kernel_rfl) (fun _ _ _ h => h) rfl (by decide) (fun st _ => by cases st <;> kernel_rfl) (fun _ h => h.1) ?_
      refine AnyF.pure 8 (v := .pointer (some ⟨bb, bo + 18, none⟩)) rfl (by decide) (fun g => by cases g <;> kernel_rfl) (fun _ _ _ h => h) rfl (by decide) (fun st _ => by cases st <;> kernel_rfl) (fun _ h => h.1) ?_
      refine AnyF.load 9 (v := .int .u8 ((b.getD 18 0).toNat : Int)) rfl (by decide) (fun g => by cases g <;> kernel_rfl) (by kernel_rfl) (fun g => by cases g <;> kernel_rfl) (fun _ _ _ h => h) rfl (by decide) (fun st w' hw' => ex_load (p := ⟨bb, bo + 18, none⟩) rfl (by cases st <;> kernel_rfl) agU8 (hw'.get (i := 18) (by omega))) (fun _ h => h.1) ?_
      refine AnyF.pure 10 (v := .int .i64 (IntKind.i64.wrap ((b.getD 18 0).toNat : Int))) rfl (by decide) (fun g => by cases g <;> kernel_rfl) (fun _ _ _ h => h) rfl (by decide) (fun st _ => by cases st <;> kernel_rfl) (fun _ h => h.1) ?_
      refine AnyF.pure 11 (v := .agg #[.int .u8 ((b.getD 16 0).toNat : Int), .int .u64 0, .int .i64 (IntKind.i64.wrap ((b.getD 17 0).toNat : Int)), .int .i64 (IntKind.i64.wrap ((b.getD 18 0).toNat : Int)), .slice none 0 0]) rfl (by decide) (fun g => by cases g <;> kernel_rfl) (fun _ _ _ h => h) rfl (by decide) (fun st _ => by cases st <;> kernel_rfl) (fun _ h => h.1) ?_
      refine AnyF.fin rfl rfl rfl (fun _ _ => by kernel_rfl) (by kernel_rfl) (fun _ o h => ⟨h.1.alloc o, h.2.1.alloc h.2.1.size o, h.2.2.1.alloc o, Nat.le_trans h.2.2.2 (by simp)⟩) (fun _ h => h.2.2.2) (fun _ h => h.1) ?_
      intro gp w7 hgp hp7 hU7
      refine AnyK.storeAll 13 (t := 90) (x := .tmp 5) (y := .tmp 35) gp [.int .u8 ((b.getD 16 0).toNat : Int), .int .u64 0, .int .i64 (IntKind.i64.wrap ((b.getD 17 0).toNat : Int)), .int .i64 (IntKind.i64.wrap ((b.getD 18 0).toNat : Int)), .slice none 0 0] 90 [.int .u8 0, .int .u64 0, .int .i64 0, .int .i64 0, .slice none 0 0] rfl rfl rfl rfl (by kernel_rfl) (by kernel_rfl) (by kernel_rfl) hp7 (by kernel_rfl) (part_one _ _ _ _ _ _ _) rfl (fun _ _ _ h => (by cases h)) ?_
      intro w8 hb8 ho8
      refine AnyK.done (by kernel_rfl) ?_
      rw [hwi, hwc, hkd, hid, hcd] at hb8
      have hgw : w.heap.size + 1 ≤ gp := hgp
      have HB8 := Lib.hid hb8
      have HE8 := Lib.hid (ho8.below hU7.2.1 (by omega) hU7.2.1.size)
      have HZ8 := Lib.hid (ho8.blk hU7.2.2.1 (by omega))
      have HR8 := Lib.hid (HR.out.below HE8.out)
      have hgl8 := HB8.out.lt
      have c80 := HB8.out.cell 0
      simp only [List.getElem?_cons_zero] at c80
      clear hb8 ho8 hU7 hp7 hwi hwc hkd hid hcd HR0 HZ0 HE0
      have hk1 : ¬ (fK b : Int) < 1 := by omega
      have hk3 : ¬ (3 : Int) < (fK b : Int) := by omega
      have HB8' : Hid (Blk w8 gp 90 [.int .u8 (fK b), .int .u64 (0 : Nat), .int .i64 (fI b), .int .i64 (fC b), .slice none 0 0]) := HB8.out
      have hgl0 : bb < w.heap.size := hbb
      go_wp2_with fail
      clear c80
      go_loopg [6] 8 (fun kk q wr => ∃ j m : Nat, j ≤ 8 ∧ kk = 8 - j ∧ m = 20 + j ∧ q = .int .i64 m ∧ Blk wr gp 90 [.int .u8 (fK b), .int .u64 (beNat ((b.drop 20).take j) : Nat), .int .i64 (fI b), .int .i64 (fC b), .slice none 0 0] ∧ Blk wr w.heap.size 90 [.int .u8 0, .int .u64 0, .int .i64 0, .int .i64 0, .slice none 0 0] ∧ Below w.heap.size w wr)
      case atStart => exact ⟨0, 20, by omega, rfl, rfl, rfl, HB8'.out, HZ8.out, HE8.out⟩
      case round =>
        clear HB8 HB8' HZ8 HE8 HR8 hgl8
        obtain ⟨j, m, hj, hgk, hm, rfl, hb, hz, hB⟩ := hrel
        have HGK := Lib.hid hgk
        have HM := Lib.hid hm
        clear hgk
        by_cases hlt : j < 8
        · have hlt2 : (m : Int) < 28 := by omega
          have hm480 : m < 480 := by omega
          have h1c := hb.cell 1
          simp only [List.getElem?_cons_zero, List.getElem?_cons_succ] at h1c
          have hst := be_step b HBL.out j hlt
          have hbd := be_bd b j hlt
          rw [← hm] at hst
          have hxb := (HR.out.below hB).get (i := m) hm480
          have hx256 := (b.getD m 0).toNat_lt
          obtain ⟨x, hx⟩ : ∃ x, x = (b.getD m 0).toNat := ⟨_, rfl⟩
          rw [← hx] at hst hxb hx256
          obtain ⟨v, hv⟩ : ∃ v, v = beNat ((b.drop 20).take j) := ⟨_, rfl⟩
          rw [← hv] at hst hbd h1c hb
          have HEV : Hid ((IntKind.u64.wrap ((IntKind.u64.wrap ((v : Int) * 256)) + (IntKind.u64.wrap (x : Int)))) = ((beNat ((b.drop 20).take (j + 1)) : Nat) : Int)) := by
            show _ = _
            rw [hst]
            exact wrap_id v x hbd hx256
          have hb2 := (hb.drew).set_ 1 (.int .u64 ((beNat ((b.drop 20).take (j + 1)) : Nat) : Int))
          have HB2 : Hid (Blk (wr.drew.setCell ⟨gp, 1, none⟩ (.int .u64 ((beNat ((b.drop 20).take (j + 1)) : Nat) : Int))) gp 90 [.int .u8 (fK b), .int .u64 (beNat ((b.drop 20).take (j + 1)) : Nat), .int .i64 (fI b), .int .i64 (fC b), .slice none 0 0]) := hb2
          have HZ2 := Lib.hid (hz.drew.far (p := ⟨gp, 1, none⟩) (by show _ ≠ gp; omega) (.int .u64 ((beNat ((b.drop 20).take (j + 1)) : Nat) : Int)))
          have HE2 := Lib.hid (hB.drew.setCell (p := ⟨gp, 1, none⟩) (by show _ ≤ gp; omega) (.int .u64 ((beNat ((b.drop 20).take (j + 1)) : Nat) : Int)))
          have HF1 := Lib.hid (hb.frozen 1)
          have HC1 := Lib.hid h1c
          have HXB := Lib.hid hxb
          clear hb hz hB hb2 hx hv hst hbd h1c hxb hm
          go_wp2_with fail
          have hT : wr.drew.cell? ⟨gp, 1, none⟩ = some (.int .u64 (v : Int)) ∧ wr.drew.cell? ⟨bb, bo + m, none⟩ = some (.int .u8 (x : Int)) := ⟨HC1.out, HXB.out⟩
          refine region_K (by kernel_rfl) 10 (fun w' => w'.cell? ⟨gp, 1, none⟩ = some (.int .u64 (v : Int)) ∧ w'.cell? ⟨bb, bo + m, none⟩ = some (.int .u8 (x : Int))) ?_
          refine AnyK.pure 0 (v := .pointer (some ⟨gp, 1, none⟩)) rfl (by kernel_rfl) (fun _ _ _ h => h) rfl (fun _ => by kernel_rfl) (fun _ => hT) ?_
          refine AnyK.load 1 (v := .int .u64 (v : Int)) rfl (by kernel_rfl) (by kernel_rfl) (by kernel_rfl) (fun _ _ _ h => h) rfl (fun w' hw' => ex_load (t := 29) (x := .tmp 49) (p := ⟨gp, 1, none⟩) (by rfl) (by kernel_rfl) agU64 hw'.1) hT ?_
          refine AnyK.pure 2 (v := .int .u64 (IntKind.u64.wrap ((v : Int) * 256))) rfl (by kernel_rfl) (fun _ _ _ h => h) rfl (fun _ => by kernel_rfl) (fun _ => hT) ?_
          refine AnyK.pure 3 (v := .slice (some ⟨bb, bo, none⟩) 480 c) rfl (by kernel_rfl) (fun _ _ _ h => h) rfl (fun _ => by kernel_rfl) (fun _ => hT) ?_
          refine AnyK.pure 4 (v := .int .i64 m) rfl (by kernel_rfl) (fun _ _ _ h => h) rfl (fun _ => by kernel_rfl) (fun _ => hT) ?_
          refine AnyK.pure 5 (v := .pointer (some ⟨bb, bo + m, none⟩)) rfl (by kernel_rfl) (fun _ _ _ h => h) rfl (fun _ => ex_idxO (t := 22) (x := .tmp 52) (y := .tmp 53) (g := bb) (off := bo) (n := 480) (c := c) (p := m) (by rfl) (by kernel_rfl) (by kernel_rfl) hm480 Try.underlying22 szU8) (fun _ => hT) ?_
          refine AnyK.load 6 (v := .int .u8 (x : Int)) rfl (by kernel_rfl) (by kernel_rfl) (by kernel_rfl) (fun _ _ _ h => h) rfl (fun w' hw' => ex_load (t := 5) (x := .tmp 54) (p := ⟨bb, bo + m, none⟩) (by rfl) (by kernel_rfl) agU8 hw'.2) hT ?_
          refine AnyK.pure 7 (v := .int .u64 (IntKind.u64.wrap (x : Int))) rfl (by kernel_rfl) (fun _ _ _ h => h) rfl (fun _ => by kernel_rfl) (fun _ => hT) ?_
          refine AnyK.pure 8 (v := .int .u64 (IntKind.u64.wrap ((IntKind.u64.wrap ((v : Int) * 256)) + (IntKind.u64.wrap (x : Int))))) rfl (by kernel_rfl) (fun _ _ _ h => h) rfl (fun _ => by kernel_rfl) (fun _ => hT) ?_
          refine AnyK.pure 9 (v := .pointer (some ⟨gp, 1, none⟩)) rfl (by kernel_rfl) (fun _ _ _ h => h) rfl (fun _ => by kernel_rfl) (fun _ => hT) ?_
          refine AnyK.store 10 (d := none) (op := .store 29 (.tmp 58) (.tmp 57)) (by kernel_rfl) (fun o ho => ex_store (p := ⟨gp, 1, none⟩) (k := .u64) (n := (IntKind.u64.wrap ((IntKind.u64.wrap ((v : Int) * 256)) + (IntKind.u64.wrap (x : Int))))) ho (by kernel_rfl) (by kernel_rfl) szU64 hT.1 HF1.out) (by kernel_rfl) (fun h => (by cases h)) ?_
          refine AnyK.done (by kernel_rfl) ?_
          rw [HEV.out]
          clear hT
          go_wp2_with fail
          go_roundg (8 - (j + 1))
          case measure => have := HGK.out; omega
          case rel => exact ⟨j + 1, m + 1, by omega, rfl, by have := HM.out; omega, by go_num, HB2.out, HZ2.out, HE2.out⟩
        · obtain rfl : j = 8 := by omega
          have hlt2 : ¬ (m : Int) < 28 := by omega
          have hfd : beNat ((b.drop 20).take 8) = fD b := rfl
          rw [hfd] at hb
          have HB8 := Lib.hid hb
          have HZ8 := Lib.hid hz
          have HE8 := Lib.hid hB
          have HR8 := Lib.hid (HR.out.below hB)
          have hgl8 := hb.lt
          have HNW : Hid (IntKind.i64.wrap (IntKind.i64.wrap (IntKind.i64.wrap ((b.getD 28 0).toNat : Int) * 256) + IntKind.i64.wrap ((b.getD 29 0).toNat : Int)) = (fN b : Int)) := by
            show _ = _
            rw [fN_two b HBL.out]
            exact wrap_two _ _ (b.getD 28 0).toNat_lt (b.getD 29 0).toNat_lt
          clear hb hz hB hfd hm
          go_wp2_with fail
          have hT : Rd wr.drew (some ⟨bb, bo, none⟩) 480 (u8s b) := HR8.out.drew
          refine region_K (by kernel_rfl) 10 (fun w' => Rd w' (some ⟨bb, bo, none⟩) 480 (u8s b)) ?_
          refine AnyK.pure 0 (v := .slice (some ⟨bb, bo, none⟩) 480 c) rfl (by kernel_rfl) (fun _ _ _ h => h) rfl (fun _ => by kernel_rfl) (fun _ => hT) ?_
          refine AnyK.pure 1 (v := .pointer (some ⟨bb, bo + 28, none⟩)) rfl (by kernel_rfl) (fun _ _ _ h => h) rfl (fun _ => by kernel_rfl) (fun _ => hT) ?_
          refine AnyK.load 2 (v := .int .u8 ((b.getD 28 0).toNat : Int)) rfl (by kernel_rfl) (by kernel_rfl) (by kernel_rfl) (fun _ _ _ h => h) rfl (fun w' hw' => ex_load (t := 5) (x := .tmp 60) (p := ⟨bb, bo + 28, none⟩) (by rfl) (by kernel_rfl) agU8 (hw'.get (i := 28) (by omega))) hT ?_
          refine AnyK.pure 3 (v := .int .i64 (IntKind.i64.wrap ((b.getD 28 0).toNat : Int))) rfl (by kernel_rfl) (fun _ _ _ h => h) rfl (fun _ => by kernel_rfl) (fun _ => hT) ?_
          refine AnyK.pure 4 (v := .int .i64 (IntKind.i64.wrap (IntKind.i64.wrap ((b.getD 28 0).toNat : Int) * 256))) rfl (by kernel_rfl) (fun _ _ _ h => h) rfl (fun _ => by kernel_rfl) (fun _ => hT) ?_
          refine AnyK.pure 5 (v := .slice (some ⟨bb, bo, none⟩) 480 c) rfl (by kernel_rfl) (fun _ _ _ h => h) rfl (fun _ => by kernel_rfl) (fun _ => hT) ?_
          refine AnyK.pure 6 (v := .pointer (some ⟨bb, bo + 29, none⟩)) rfl (by kernel_rfl) (fun _ _ _ h => h) rfl (fun _ => by kernel_rfl) (fun _ => hT) ?_
          refine AnyK.load 7 (v := .int .u8 ((b.getD 29 0).toNat : Int)) rfl (by kernel_rfl) (by kernel_rfl) (by kernel_rfl) (fun _ _ _ h => h) rfl (fun w' hw' => ex_load (t := 5) (x := .tmp 65) (p := ⟨bb, bo + 29, none⟩) (by rfl) (by kernel_rfl) agU8 (hw'.get (i := 29) (by omega))) hT ?_
          refine AnyK.pure 8 (v := .int .i64 (IntKind.i64.wrap ((b.getD 29 0).toNat : Int))) rfl (by kernel_rfl) (fun _ _ _ h => h) rfl (fun _ => by kernel_rfl) (fun _ => hT) ?_
          refine AnyK.pure 9 (v := .int .i64 (fN b : Int)) rfl (by kernel_rfl) (fun _ _ _ h => h) rfl (fun _ => by show _ = Result.ok (Next.value (.int .i64 (fN b : Int))) _; rw [← HNW.out]; kernel_rfl) (fun _ => hT) ?_
          refine AnyK.val 10 (v := .int .i64 (fN b : Int)) rfl (by kernel_rfl) rfl (by kernel_rfl) (fun h => (by cases h)) ?_
          refine AnyK.done (by kernel_rfl) ?_
          clear hT HNW
          have HB9 := Lib.hid HB8.out.drew
          have HZ9 := Lib.hid HZ8.out.drew
          have HE9 := Lib.hid HE8.out.drew
          have HR9 := Lib.hid HR8.out.drew
          obtain ⟨w9, hw9⟩ : ∃ w9, w9 = wr.drew := ⟨_, rfl⟩
          have hgl9 : gp < w9.heap.size := by rw [hw9]; exact hgl8
          have hwq : ({ wr with drawn := wr.drawn + 1 } : World) = w9 := hw9.symm
          rw [← hw9] at HB9 HZ9 HE9 HR9
          clear HB8 HZ8 HE8 HR8 hgl8 hw9
          have hn4 : ¬ (450 : Int) < (fN b : Int) := by omega
          have hn450 : (fN b : Int) ≤ 450 := by omega
          have hn0 : (0 : Int) ≤ (fN b : Int) := by omega
          have hnn : fN b ≤ 450 := hn
          have HCP : Hid (∀ W, Rd W (some ⟨bb, bo, none⟩) 480 (u8s b) → Calls Try.prog 11 #[.slice (some ⟨bb, bo + 30, none⟩) (fN b) (c - 30)] W fun e w' => ∃ A' c', e = .returned (.slice A' (fN b) c') ∧ fN b ≤ c' ∧ w'.ownsRow W.heap.size 5 1 (.slice A' (fN b) c') (fN b) (u8s (fData b)) ∧ Below W.heap.size W w') := fun W hr => copy_any _ _ _ _ W (rd_part hr 30 (fN b) (by omega)) (by omega)
          have HFR := Lib.hid (fun A cp W (hr : Rd W A (fN b) (u8s (fData b))) => rframe_any A (fN b) cp (fK b) (fD b) (fI b) (fC b) (fData b) W hr h1 h3 hn hch)
          have hfl : (Wd.frame (UInt8.ofNat (fK b)) (UInt8.ofNat (fI b)) (UInt8.ofNat (fC b)) (fD b) (fData b)).length = 480 := rfr_len _ _ _ _ _ (by rw [fData_len b HBL.out hn]; exact hn)
          have HEQ : Hid (∀ g2 W, Rd W (some ⟨g2, 0, none⟩) 480 (u8s (Wd.frame (UInt8.ofNat (fK b)) (UInt8.ofNat (fI b)) (UInt8.ofNat (fC b)) (fD b) (fData b))) → Rd W (some ⟨bb, bo, none⟩) 480 (u8s b) → Calls Try.prog 13 #[.slice (some ⟨g2, 0, none⟩) 480 480, .slice (some ⟨bb, bo, none⟩) 480 c] W fun e w' => e = .returned (.bool false) ∧ ∃ q, w' = W.drewN q) := fun g2 W h5 h6 => by
            have := equal_any (some ⟨g2, 0, none⟩) (some ⟨bb, bo, none⟩) 480 480 480 c _ _ W h5 h6 (by omega) (by omega)
            rw [heq] at this
            exact this
          obtain ⟨F, hF⟩ : ∃ F, F = (Wd.frame (UInt8.ofNat (fK b)) (UInt8.ofNat (fI b)) (UInt8.ofNat (fC b)) (fD b) (fData b)) := ⟨_, rfl⟩
          rw [← hF] at HFR hfl HEQ
          have HFL := Lib.hid hfl
          clear hch heq hfl hF
          have n30 : ¬ c = 30 := by omega
          have e30 : (30 : Int) ≤ (c : Int) := by omega
          have eC : (30 : Int) + (fN b : Int) ≤ (c : Int) := by omega
          have e4 : (30 : Int) + (fN b : Int) ≤ 480 := by omega
          have e5 : (30 : Int) + (fN b : Int) - 30 = (fN b : Int) := by omega
          have c94 := HB9.out.cell 4
          have f94 := HB9.out.frozen 4
          simp only [List.getElem?_cons_zero, List.getElem?_cons_succ] at c94
          clear h1 h3 hn
          rw [hwq]
          clear hwq
          go_wp2_with (first
            | (go_at_call 11; (with_reducible refine (HCP.out _ (by exact HR9.out)).mono ?_); rintro e w10 ⟨A10, c10, rfl, hc10, hown10, hB10⟩
               have HBa := Lib.hid (HB9.out.below hB10 HB9.out.lt)
               have c104 := (hB10.cell (p := ⟨gp, 4, none⟩) hgl9).trans c94
               have f104 := (hB10.frozen (p := ⟨gp, 4, none⟩) hgl9).trans f94
               have HEa := Lib.hid (HE9.out.trans (hB10.mono HE9.out.size))
               have HZa := Lib.hid (HZ9.out.below hB10 HZ9.out.lt)
               have HB11 : Hid (Blk (w10.setCell ⟨gp, 4, none⟩ (.slice A10 (fN b) c10)) gp 90 [.int .u8 (fK b), .int .u64 (fD b), .int .i64 (fI b), .int .i64 (fC b), .slice A10 (fN b) c10]) := HBa.out.set_ 4 (.slice A10 (fN b) c10)
               have HE11 := Lib.hid (HEa.out.setCell (p := ⟨gp, 4, none⟩) (by show _ ≤ gp; omega) (.slice A10 (fN b) c10))
               have HZ11 := Lib.hid (HZa.out.far (p := ⟨gp, 4, none⟩) (by show _ ≠ gp; omega) (.slice A10 (fN b) c10))
               have HD11 : Hid (Rd (w10.setCell ⟨gp, 4, none⟩ (.slice A10 (fN b) c10)) A10 (fN b) (u8s (fData b))) := (Rd.of_own hown10).wrote ((Wrote.refl w10 gp).setCell 4 (.slice A10 (fN b) c10)) (fun h0 ad e => by obtain ⟨g, e2, hg, _⟩ := own_pos hown10 h0; rw [e2] at e; injection e with e; subst e; show g ≠ gp; omega)
               have HNA : Hid (0 < fN b → ∀ ad : Addr, A10 = some ad → ad.block ≠ w.heap.size) := (fun h0 ad e => by obtain ⟨g, e2, hg, _⟩ := own_pos hown10 h0; rw [e2] at e; injection e with e; subst e; show g ≠ w.heap.size; omega)
               have d0 := HB11.out.cell 0
               have d1 := HB11.out.cell 1
               have d2 := HB11.out.cell 2
               have d3 := HB11.out.cell 3
               have d4 := HB11.out.cell 4
               simp only [List.getElem?_cons_zero, List.getElem?_cons_succ] at d0 d1 d2 d3 d4
               clear hown10 hB10)
            | (go_at_call 37; (with_reducible refine (HFR.out _ _ _ (by exact HD11.out)).mono ?_); rintro e w12 ⟨g2, rfl, hg2, hb2, hB12⟩
               have HE12 := Lib.hid (HE11.out.trans (hB12.mono HE11.out.size))
               have HZ12 := Lib.hid (HZ11.out.below hB12 HZ11.out.lt)
               have HB12 := Lib.hid (HB11.out.below hB12 HB11.out.lt)
               have HD12 := Lib.hid (HD11.out.below hB12)
               have HR12 := Lib.hid (HR.out.below HE12.out)
               have HF12 : Hid (Rd w12 (some ⟨g2, 0, none⟩) 480 (u8s F)) := (by have h6 := hb2.rdAll; rw [HFL.out] at h6; exact h6)
               have q0 := HB12.out.cell 0
               have q1 := HB12.out.cell 1
               have q2 := HB12.out.cell 2
               have q3 := HB12.out.cell 3
               have q4 := HB12.out.cell 4
               simp only [List.getElem?_cons_zero, List.getElem?_cons_succ] at q0 q1 q2 q3 q4
               clear hB12 hb2 d0 d1 d2 d3 d4)
            | (go_at_call 13; (with_reducible refine (HEQ.out g2 _ (by exact HF12.out) (by exact HR12.out)).mono ?_); rintro e w13 ⟨rfl, q13, rfl⟩
               have HE13 := Lib.hid (below_drewN HE12.out q13)
               have HZ13 := Lib.hid (HZ12.out.drewN q13)
               have HD13 := Lib.hid (HD12.out.drewN q13))
            | ((with_reducible refine wpList_store_all rfl 90 (.tmp 2) (.tmp 91) rfl w.heap.size [.int .u8 0, .int .u64 0, .int .i64 0, .int .i64 0, .slice none 0 0] ?_ ?_ 90 _ HZ13.out ?_ ?_ ?_ ?_); (· rfl); (· rfl); (· kernel_rfl); (· exact part_one _ _ _ _ _ _ _); (· rfl); intro w14 hb14 ho14; have HB14 := Lib.hid hb14; have HE14 := Lib.hid (ho14.below HE13.out (Nat.le_refl _) HE13.out.size); clear hb14 ho14))
          exact bodyPost_ret (res_cell_tmp rfl _ w.heap.size 90 _ rfl HB14.out _ Try.underlying90 rfl (by kernel_rfl)) rfl ⟨rfl, HE14.out⟩

set_option maxRecDepth 100000 in
set_option maxHeartbeats 4000000 in
theorem rparse_ok (A : Option Addr) (c : Nat) (b : List UInt8) (w : World) (h : Rd w A 480 (u8s b)) (hc : 480 ≤ c) (hz : allZ (b.take 16) = true) (h1 : 1 ≤ fK b) (h3 : fK b ≤ 3) (hn : fN b ≤ 450) (hch : chk (fK b) (fI b) (fC b) (fD b) (fN b) = 0) (heq : decide ((Wd.frame (UInt8.ofNat (fK b)) (UInt8.ofNat (fI b)) (UInt8.ofNat (fC b)) (fD b) (fData b)) = b) = true) :
    Calls Try.prog 44 #[.slice A 480 c] w fun e w' => ∃ A' n', e = .returned (.tuple #[.agg #[.int .u8 (fK b), .int .u64 (fD b), .int .i64 (fI b), .int .i64 (fC b), .slice A' (fN b) n'], .int .i64 0]) ∧ Rd w' A' (fN b) (u8s (fData b)) ∧ Below w.heap.size w w' := by
  obtain ⟨bb, bo, rfl, hbb, _⟩ := h.2 (by omega)
  have HR := Lib.hid h
  have hbl : b.length = 480 := h.len
  have HBL := Lib.hid hbl
  have hid : (b.getD 17 0).toNat = fI b := rfl
  have hcd : (b.getD 18 0).toNat = fC b := rfl
  have hkd : (b.getD 16 0).toNat = fK b := rfl
  have hwi : IntKind.i64.wrap ((b.getD 17 0).toNat : Int) = ((b.getD 17 0).toNat : Int) := IntWalk.i64_in _ (by have := (b.getD 17 0).toNat_lt; omega)
  have hwc : IntKind.i64.wrap ((b.getD 18 0).toNat : Int) = ((b.getD 18 0).toNat : Int) := IntWalk.i64_in _ (by have := (b.getD 18 0).toNat_lt; omega)
  have HID := Lib.hid hid
  have HCD := Lib.hid hcd
  have HKD := Lib.hid hkd
  have HWI := Lib.hid hwi
  have HWC := Lib.hid hwc
  have HZT := Lib.hid hz
  clear hz h hbl hid hcd hkd hwi hwc
  go_enter Try.func44, Try.ntmps44
  go_wp2_with fail
  obtain ⟨W0, hW0⟩ : ∃ W0, W0 = w.alloc (.cells #[.int .u8 0, .int .u64 0, .int .i64 0, .int .i64 0, .slice none 0 0] 90) := ⟨_, rfl⟩
  rw [← hW0]
  have HE0 : Hid (Below w.heap.size w W0) := by rw [hW0]; exact (Below.refl _ _).alloc (Nat.le_refl _) _
  have HZ0 : Hid (Blk W0 w.heap.size 90 [.int .u8 0, .int .u64 0, .int .i64 0, .int .i64 0, .slice none 0 0]) := by rw [hW0]; exact Blk.new' rfl rfl
  have HR0 : Hid (Rd W0 (some ⟨bb, bo, none⟩) 480 (u8s b)) := HR.out.below HE0.out
  have hws0 : w.heap.size + 1 ≤ W0.heap.size := by rw [hW0]; simp
  clear hW0
  go_loopg [4] 16 (fun kk q wr => ∃ k : Nat, k ≤ 16 ∧ kk = 16 - k ∧ q = .int .i64 k ∧ W0 = wr)
  case atStart => exact ⟨0, by omega, rfl, rfl, rfl⟩
  case round =>
    obtain ⟨k, hk, hgk, rfl, rfl⟩ := hrel
    have HGK := Lib.hid hgk
    clear hgk
    by_cases hlt : k < 16
    · have hlt2 : (k : Int) < 16 := by omega
      have ck := HR0.out.get (i := k) (by omega)
      rw [zlo HZT.out HBL.out k hlt] at ck
      have ck0 : W0.cell? ⟨bb, bo + k, none⟩ = some (.int .u8 0) := ck
      clear ck
      go_wp2_with fail
      go_roundg (16 - (k + 1))
      case measure => have := HGK.out; omega
      case rel => exact ⟨k + 1, by omega, rfl, by go_num, rfl⟩
    · obtain rfl : k = 16 := by omega
      have hlt2 : ¬ ((16 : Nat) : Int) < 16 := by omega
      clear HGK hlt hk
      go_wp2_with fail
      have hwi := HWI.out
      have hwc := HWC.out
      have hkd := HKD.out
      have hid := HID.out
      have hcd := HCD.out
      refine region_K (by kernel_rfl) 13 (fun W => Rd W (some ⟨bb, bo, none⟩) 480 (u8s b)) ?_
      refine AnyF.start 12 5 (w.heap.size + 1) 90 [.int .u8 0, .int .u64 0, .int .i64 0, .int .i64 0, .slice none 0 0] (fun W => Rd W (some ⟨bb, bo, none⟩) 480 (u8s b) ∧ Below w.heap.size w W ∧ Blk W w.heap.size 90 [.int .u8 0, .int .u64 0, .int .i64 0, .int .i64 0, .slice none 0 0] ∧ w.heap.size + 1 ≤ W.heap.size) ⟨HR0.out.drew, HE0.out.drew, HZ0.out.drew, hws0⟩ ?_
      refine AnyF.pure 0 (v := .slice (some ⟨bb, bo, none⟩) 480 c) rfl (by decide) (fun g => by cases g <;> kernel_rfl) (fun _ _ _ h => h) rfl (by decide) (fun st _ => by cases st <;> kernel_rfl) (fun _ h => h.1) ?_
      refine AnyF.pure 1 (v := .pointer (some ⟨bb, bo + 16, none⟩)) rfl (by decide) (fun g => by cases g <;> kernel_rfl) (fun _ _ _ h => h) rfl (by decide) (fun st _ => by cases st <;> kernel_rfl) (fun _ h => h.1) ?_
      refine AnyF.load 2 (v := .int .u8 ((b.getD 16 0).toNat : Int)) rfl (by decide) (fun g => by cases g <;> kernel_rfl) (by kernel_rfl) (fun g => by cases g <;> kernel_rfl) (fun _ _ _ h => h) rfl (by decide) (fun st w' hw' => ex_load (p := ⟨bb, bo + 16, none⟩) rfl (by cases st <;> kernel_rfl) agU8 (hw'.get (i := 16) (by omega))) (fun _ h => h.1) ?_
      refine AnyF.pure 3 (v := .slice (some ⟨bb, bo, none⟩) 480 c) rfl (by decide) (fun g => by cases g <;> kernel_rfl) (fun _ _ _ h => h) rfl (by decide) (fun st _ => by cases st <;> kernel_rfl) (fun _ h => h.1) ?_
      refine AnyF.pure 4 (v := .pointer (some ⟨bb, bo + 17, none⟩)) rfl (by decide) (fun g => by cases g <;> kernel_rfl) (fun _ _ _ h => h) rfl (by decide) (fun st _ => by cases st <;> kernel_rfl) (fun _ h => h.1) ?_
      refine AnyF.load 5 (v := .int .u8 ((b.getD 17 0).toNat : Int)) rfl (by decide) (fun g => by cases g <;> kernel_rfl) (by kernel_rfl) (fun g => by cases g <;> kernel_rfl) (fun _ _ _ h => h) rfl (by decide) (fun st w' hw' => ex_load (p := ⟨bb, bo + 17, none⟩) rfl (by cases st <;> kernel_rfl) agU8 (hw'.get (i := 17) (by omega))) (fun _ h => h.1) ?_
      refine AnyF.pure 6 (v := .int .i64 (IntKind.i64.wrap ((b.getD 17 0).toNat : Int))) rfl (by decide) (fun g => by cases g <;> kernel_rfl) (fun _ _ _ h => h) rfl (by decide) (fun st _ => by cases st <;> kernel_rfl) (fun _ h => h.1) ?_
      refine AnyF.pure 7 (v := .slice (some ⟨bb, bo, none⟩) 480 c) rfl (by decide) (fun g => by cases g <;> kernel_rfl) (fun _ _ _ h => h) rfl (by decide) (fun st _ => by cases st <;> kernel_rfl) (fun _ h => h.1) ?_
      refine AnyF.pure 8 (v := .pointer (some ⟨bb, bo + 18, none⟩)) rfl (by decide) (fun g => by cases g <;> kernel_rfl) (fun _ _ _ h => h) rfl (by decide) (fun st _ => by cases st <;> kernel_rfl) (fun _ h => h.1) ?_
      refine AnyF.load 9 (v := .int .u8 ((b.getD 18 0).toNat : Int)) rfl (by decide) (fun g => by cases g <;> kernel_rfl) (by kernel_rfl) (fun g => by cases g <;> kernel_rfl) (fun _ _ _ h => h) rfl (by decide) (fun st w' hw' => ex_load (p := ⟨bb, bo + 18, none⟩) rfl (by cases st <;> kernel_rfl) agU8 (hw'.get (i := 18) (by omega))) (fun _ h => h.1) ?_
      refine AnyF.pure 10 (v := .int .i64 (IntKind.i64.wrap ((b.getD 18 0).toNat : Int))) rfl (by decide) (fun g => by cases g <;> kernel_rfl) (fun _ _ _ h => h) rfl (by decide) (fun st _ => by cases st <;> kernel_rfl) (fun _ h => h.1) ?_
      refine AnyF.pure 11 (v := .agg #[.int .u8 ((b.getD 16 0).toNat : Int), .int .u64 0, .int .i64 (IntKind.i64.wrap ((b.getD 17 0).toNat : Int)), .int .i64 (IntKind.i64.wrap ((b.getD 18 0).toNat : Int)), .slice none 0 0]) rfl (by decide) (fun g => by cases g <;> kernel_rfl) (fun _ _ _ h => h) rfl (by decide) (fun st _ => by cases st <;> kernel_rfl) (fun _ h => h.1) ?_
      refine AnyF.fin rfl rfl rfl (fun _ _ => by kernel_rfl) (by kernel_rfl) (fun _ o h => ⟨h.1.alloc o, h.2.1.alloc h.2.1.size o, h.2.2.1.alloc o, Nat.le_trans h.2.2.2 (by simp)⟩) (fun _ h => h.2.2.2) (fun _ h => h.1) ?_
      intro gp w7 hgp hp7 hU7
      refine AnyK.storeAll 13 (t := 90) (x := .tmp 5) (y := .tmp 35) gp [.int .u8 ((b.getD 16 0).toNat : Int), .int .u64 0, .int .i64 (IntKind.i64.wrap ((b.getD 17 0).toNat : Int)), .int .i64 (IntKind.i64.wrap ((b.getD 18 0).toNat : Int)), .slice none 0 0] 90 [.int .u8 0, .int .u64 0, .int .i64 0, .int .i64 0, .slice none 0 0] rfl rfl rfl rfl (by kernel_rfl) (by kernel_rfl) (by kernel_rfl) hp7 (by kernel_rfl) (part_one _ _ _ _ _ _ _) rfl (fun _ _ _ h => (by cases h)) ?_
      intro w8 hb8 ho8
      refine AnyK.done (by kernel_rfl) ?_
      rw [hwi, hwc, hkd, hid, hcd] at hb8
      have hgw : w.heap.size + 1 ≤ gp := hgp
      have HB8 := Lib.hid hb8
      have HE8 := Lib.hid (ho8.below hU7.2.1 (by omega) hU7.2.1.size)
      have HZ8 := Lib.hid (ho8.blk hU7.2.2.1 (by omega))
      have HR8 := Lib.hid (HR.out.below HE8.out)
      have hgl8 := HB8.out.lt
      have c80 := HB8.out.cell 0
      simp only [List.getElem?_cons_zero] at c80
      clear hb8 ho8 hU7 hp7 hwi hwc hkd hid hcd HR0 HZ0 HE0
      have hk1 : ¬ (fK b : Int) < 1 := by omega
      have hk3 : ¬ (3 : Int) < (fK b : Int) := by omega
      have HB8' : Hid (Blk w8 gp 90 [.int .u8 (fK b), .int .u64 (0 : Nat), .int .i64 (fI b), .int .i64 (fC b), .slice none 0 0]) := HB8.out
      have hgl0 : bb < w.heap.size := hbb
      go_wp2_with fail
      clear c80
      go_loopg [6] 8 (fun kk q wr => ∃ j m : Nat, j ≤ 8 ∧ kk = 8 - j ∧ m = 20 + j ∧ q = .int .i64 m ∧ Blk wr gp 90 [.int .u8 (fK b), .int .u64 (beNat ((b.drop 20).take j) : Nat), .int .i64 (fI b), .int .i64 (fC b), .slice none 0 0] ∧ Blk wr w.heap.size 90 [.int .u8 0, .int .u64 0, .int .i64 0, .int .i64 0, .slice none 0 0] ∧ Below w.heap.size w wr)
      case atStart => exact ⟨0, 20, by omega, rfl, rfl, rfl, HB8'.out, HZ8.out, HE8.out⟩
      case round =>
        clear HB8 HB8' HZ8 HE8 HR8 hgl8
        obtain ⟨j, m, hj, hgk, hm, rfl, hb, hz, hB⟩ := hrel
        have HGK := Lib.hid hgk
        have HM := Lib.hid hm
        clear hgk
        by_cases hlt : j < 8
        · have hlt2 : (m : Int) < 28 := by omega
          have hm480 : m < 480 := by omega
          have h1c := hb.cell 1
          simp only [List.getElem?_cons_zero, List.getElem?_cons_succ] at h1c
          have hst := be_step b HBL.out j hlt
          have hbd := be_bd b j hlt
          rw [← hm] at hst
          have hxb := (HR.out.below hB).get (i := m) hm480
          have hx256 := (b.getD m 0).toNat_lt
          obtain ⟨x, hx⟩ : ∃ x, x = (b.getD m 0).toNat := ⟨_, rfl⟩
          rw [← hx] at hst hxb hx256
          obtain ⟨v, hv⟩ : ∃ v, v = beNat ((b.drop 20).take j) := ⟨_, rfl⟩
          rw [← hv] at hst hbd h1c hb
          have HEV : Hid ((IntKind.u64.wrap ((IntKind.u64.wrap ((v : Int) * 256)) + (IntKind.u64.wrap (x : Int)))) = ((beNat ((b.drop 20).take (j + 1)) : Nat) : Int)) := by
            show _ = _
            rw [hst]
            exact wrap_id v x hbd hx256
          have hb2 := (hb.drew).set_ 1 (.int .u64 ((beNat ((b.drop 20).take (j + 1)) : Nat) : Int))
          have HB2 : Hid (Blk (wr.drew.setCell ⟨gp, 1, none⟩ (.int .u64 ((beNat ((b.drop 20).take (j + 1)) : Nat) : Int))) gp 90 [.int .u8 (fK b), .int .u64 (beNat ((b.drop 20).take (j + 1)) : Nat), .int .i64 (fI b), .int .i64 (fC b), .slice none 0 0]) := hb2
          have HZ2 := Lib.hid (hz.drew.far (p := ⟨gp, 1, none⟩) (by show _ ≠ gp; omega) (.int .u64 ((beNat ((b.drop 20).take (j + 1)) : Nat) : Int)))
          have HE2 := Lib.hid (hB.drew.setCell (p := ⟨gp, 1, none⟩) (by show _ ≤ gp; omega) (.int .u64 ((beNat ((b.drop 20).take (j + 1)) : Nat) : Int)))
          have HF1 := Lib.hid (hb.frozen 1)
          have HC1 := Lib.hid h1c
          have HXB := Lib.hid hxb
          clear hb hz hB hb2 hx hv hst hbd h1c hxb hm
          go_wp2_with fail
          have hT : wr.drew.cell? ⟨gp, 1, none⟩ = some (.int .u64 (v : Int)) ∧ wr.drew.cell? ⟨bb, bo + m, none⟩ = some (.int .u8 (x : Int)) := ⟨HC1.out, HXB.out⟩
          refine region_K (by kernel_rfl) 10 (fun w' => w'.cell? ⟨gp, 1, none⟩ = some (.int .u64 (v : Int)) ∧ w'.cell? ⟨bb, bo + m, none⟩ = some (.int .u8 (x : Int))) ?_
          refine AnyK.pure 0 (v := .pointer (some ⟨gp, 1, none⟩)) rfl (by kernel_rfl) (fun _ _ _ h => h) rfl (fun _ => by kernel_rfl) (fun _ => hT) ?_
          refine AnyK.load 1 (v := .int .u64 (v : Int)) rfl (by kernel_rfl) (by kernel_rfl) (by kernel_rfl) (fun _ _ _ h => h) rfl (fun w' hw' => ex_load (t := 29) (x := .tmp 49) (p := ⟨gp, 1, none⟩) (by rfl) (by kernel_rfl) agU64 hw'.1) hT ?_
          refine AnyK.pure 2 (v := .int .u64 (IntKind.u64.wrap ((v : Int) * 256))) rfl (by kernel_rfl) (fun _ _ _ h => h) rfl (fun _ => by kernel_rfl) (fun _ => hT) ?_
          refine AnyK.pure 3 (v := .slice (some ⟨bb, bo, none⟩) 480 c) rfl (by kernel_rfl) (fun _ _ _ h => h) rfl (fun _ => by kernel_rfl) (fun _ => hT) ?_
          refine AnyK.pure 4 (v := .int .i64 m) rfl (by kernel_rfl) (fun _ _ _ h => h) rfl (fun _ => by kernel_rfl) (fun _ => hT) ?_
          refine AnyK.pure 5 (v := .pointer (some ⟨bb, bo + m, none⟩)) rfl (by kernel_rfl) (fun _ _ _ h => h) rfl (fun _ => ex_idxO (t := 22) (x := .tmp 52) (y := .tmp 53) (g := bb) (off := bo) (n := 480) (c := c) (p := m) (by rfl) (by kernel_rfl) (by kernel_rfl) hm480 Try.underlying22 szU8) (fun _ => hT) ?_
          refine AnyK.load 6 (v := .int .u8 (x : Int)) rfl (by kernel_rfl) (by kernel_rfl) (by kernel_rfl) (fun _ _ _ h => h) rfl (fun w' hw' => ex_load (t := 5) (x := .tmp 54) (p := ⟨bb, bo + m, none⟩) (by rfl) (by kernel_rfl) agU8 hw'.2) hT ?_
          refine AnyK.pure 7 (v := .int .u64 (IntKind.u64.wrap (x : Int))) rfl (by kernel_rfl) (fun _ _ _ h => h) rfl (fun _ => by kernel_rfl) (fun _ => hT) ?_
          refine AnyK.pure 8 (v := .int .u64 (IntKind.u64.wrap ((IntKind.u64.wrap ((v : Int) * 256)) + (IntKind.u64.wrap (x : Int))))) rfl (by kernel_rfl) (fun _ _ _ h => h) rfl (fun _ => by kernel_rfl) (fun _ => hT) ?_
          refine AnyK.pure 9 (v := .pointer (some ⟨gp, 1, none⟩)) rfl (by kernel_rfl) (fun _ _ _ h => h) rfl (fun _ => by kernel_rfl) (fun _ => hT) ?_
          refine AnyK.store 10 (d := none) (op := .store 29 (.tmp 58) (.tmp 57)) (by kernel_rfl) (fun o ho => ex_store (p := ⟨gp, 1, none⟩) (k := .u64) (n := (IntKind.u64.wrap ((IntKind.u64.wrap ((v : Int) * 256)) + (IntKind.u64.wrap (x : Int))))) ho (by kernel_rfl) (by kernel_rfl) szU64 hT.1 HF1.out) (by kernel_rfl) (fun h => (by cases h)) ?_
          refine AnyK.done (by kernel_rfl) ?_
          rw [HEV.out]
          clear hT
          go_wp2_with fail
          go_roundg (8 - (j + 1))
          case measure => have := HGK.out; omega
          case rel => exact ⟨j + 1, m + 1, by omega, rfl, by have := HM.out; omega, by go_num, HB2.out, HZ2.out, HE2.out⟩
        · obtain rfl : j = 8 := by omega
          have hlt2 : ¬ (m : Int) < 28 := by omega
          have hfd : beNat ((b.drop 20).take 8) = fD b := rfl
          rw [hfd] at hb
          have HB8 := Lib.hid hb
          have HZ8 := Lib.hid hz
          have HE8 := Lib.hid hB
          have HR8 := Lib.hid (HR.out.below hB)
          have hgl8 := hb.lt
          have HNW : Hid (IntKind.i64.wrap (IntKind.i64.wrap (IntKind.i64.wrap ((b.getD 28 0).toNat : Int) * 256) + IntKind.i64.wrap ((b.getD 29 0).toNat : Int)) = (fN b : Int)) := by
            show _ = _
            rw [fN_two b HBL.out]
            exact wrap_two _ _ (b.getD 28 0).toNat_lt (b.getD 29 0).toNat_lt
          clear hb hz hB hfd hm
          go_wp2_with fail
          have hT : Rd wr.drew (some ⟨bb, bo, none⟩) 480 (u8s b) := HR8.out.drew
          refine region_K (by kernel_rfl) 10 (fun w' => Rd w' (some ⟨bb, bo, none⟩) 480 (u8s b)) ?_
          refine AnyK.pure 0 (v := .slice (some ⟨bb, bo, none⟩) 480 c) rfl (by kernel_rfl) (fun _ _ _ h => h) rfl (fun _ => by kernel_rfl) (fun _ => hT) ?_
          refine AnyK.pure 1 (v := .pointer (some ⟨bb, bo + 28, none⟩)) rfl (by kernel_rfl) (fun _ _ _ h => h) rfl (fun _ => by kernel_rfl) (fun _ => hT) ?_
          refine AnyK.load 2 (v := .int .u8 ((b.getD 28 0).toNat : Int)) rfl (by kernel_rfl) (by kernel_rfl) (by kernel_rfl) (fun _ _ _ h => h) rfl (fun w' hw' => ex_load (t := 5) (x := .tmp 60) (p := ⟨bb, bo + 28, none⟩) (by rfl) (by kernel_rfl) agU8 (hw'.get (i := 28) (by omega))) hT ?_
          refine AnyK.pure 3 (v := .int .i64 (IntKind.i64.wrap ((b.getD 28 0).toNat : Int))) rfl (by kernel_rfl) (fun _ _ _ h => h) rfl (fun _ => by kernel_rfl) (fun _ => hT) ?_
          refine AnyK.pure 4 (v := .int .i64 (IntKind.i64.wrap (IntKind.i64.wrap ((b.getD 28 0).toNat : Int) * 256))) rfl (by kernel_rfl) (fun _ _ _ h => h) rfl (fun _ => by kernel_rfl) (fun _ => hT) ?_
          refine AnyK.pure 5 (v := .slice (some ⟨bb, bo, none⟩) 480 c) rfl (by kernel_rfl) (fun _ _ _ h => h) rfl (fun _ => by kernel_rfl) (fun _ => hT) ?_
          refine AnyK.pure 6 (v := .pointer (some ⟨bb, bo + 29, none⟩)) rfl (by kernel_rfl) (fun _ _ _ h => h) rfl (fun _ => by kernel_rfl) (fun _ => hT) ?_
          refine AnyK.load 7 (v := .int .u8 ((b.getD 29 0).toNat : Int)) rfl (by kernel_rfl) (by kernel_rfl) (by kernel_rfl) (fun _ _ _ h => h) rfl (fun w' hw' => ex_load (t := 5) (x := .tmp 65) (p := ⟨bb, bo + 29, none⟩) (by rfl) (by kernel_rfl) agU8 (hw'.get (i := 29) (by omega))) hT ?_
          refine AnyK.pure 8 (v := .int .i64 (IntKind.i64.wrap ((b.getD 29 0).toNat : Int))) rfl (by kernel_rfl) (fun _ _ _ h => h) rfl (fun _ => by kernel_rfl) (fun _ => hT) ?_
          refine AnyK.pure 9 (v := .int .i64 (fN b : Int)) rfl (by kernel_rfl) (fun _ _ _ h => h) rfl (fun _ => by show _ = Result.ok (Next.value (.int .i64 (fN b : Int))) _; rw [← HNW.out]; kernel_rfl) (fun _ => hT) ?_
          refine AnyK.val 10 (v := .int .i64 (fN b : Int)) rfl (by kernel_rfl) rfl (by kernel_rfl) (fun h => (by cases h)) ?_
          refine AnyK.done (by kernel_rfl) ?_
          clear hT HNW
          have HB9 := Lib.hid HB8.out.drew
          have HZ9 := Lib.hid HZ8.out.drew
          have HE9 := Lib.hid HE8.out.drew
          have HR9 := Lib.hid HR8.out.drew
          obtain ⟨w9, hw9⟩ : ∃ w9, w9 = wr.drew := ⟨_, rfl⟩
          have hgl9 : gp < w9.heap.size := by rw [hw9]; exact hgl8
          have hwq : ({ wr with drawn := wr.drawn + 1 } : World) = w9 := hw9.symm
          rw [← hw9] at HB9 HZ9 HE9 HR9
          clear HB8 HZ8 HE8 HR8 hgl8 hw9
          have hn4 : ¬ (450 : Int) < (fN b : Int) := by omega
          have hn450 : (fN b : Int) ≤ 450 := by omega
          have hn0 : (0 : Int) ≤ (fN b : Int) := by omega
          have hnn : fN b ≤ 450 := hn
          have HCP : Hid (∀ W, Rd W (some ⟨bb, bo, none⟩) 480 (u8s b) → Calls Try.prog 11 #[.slice (some ⟨bb, bo + 30, none⟩) (fN b) (c - 30)] W fun e w' => ∃ A' c', e = .returned (.slice A' (fN b) c') ∧ fN b ≤ c' ∧ w'.ownsRow W.heap.size 5 1 (.slice A' (fN b) c') (fN b) (u8s (fData b)) ∧ Below W.heap.size W w') := fun W hr => copy_any _ _ _ _ W (rd_part hr 30 (fN b) (by omega)) (by omega)
          have HFR := Lib.hid (fun A cp W (hr : Rd W A (fN b) (u8s (fData b))) => rframe_any A (fN b) cp (fK b) (fD b) (fI b) (fC b) (fData b) W hr h1 h3 hn hch)
          have hfl : (Wd.frame (UInt8.ofNat (fK b)) (UInt8.ofNat (fI b)) (UInt8.ofNat (fC b)) (fD b) (fData b)).length = 480 := rfr_len _ _ _ _ _ (by rw [fData_len b HBL.out hn]; exact hn)
          have HEQ : Hid (∀ g2 W, Rd W (some ⟨g2, 0, none⟩) 480 (u8s (Wd.frame (UInt8.ofNat (fK b)) (UInt8.ofNat (fI b)) (UInt8.ofNat (fC b)) (fD b) (fData b))) → Rd W (some ⟨bb, bo, none⟩) 480 (u8s b) → Calls Try.prog 13 #[.slice (some ⟨g2, 0, none⟩) 480 480, .slice (some ⟨bb, bo, none⟩) 480 c] W fun e w' => e = .returned (.bool true) ∧ ∃ q, w' = W.drewN q) := fun g2 W h5 h6 => by
            have := equal_any (some ⟨g2, 0, none⟩) (some ⟨bb, bo, none⟩) 480 480 480 c _ _ W h5 h6 (by omega) (by omega)
            rw [heq] at this
            exact this
          obtain ⟨F, hF⟩ : ∃ F, F = (Wd.frame (UInt8.ofNat (fK b)) (UInt8.ofNat (fI b)) (UInt8.ofNat (fC b)) (fD b) (fData b)) := ⟨_, rfl⟩
          rw [← hF] at HFR hfl HEQ
          have HFL := Lib.hid hfl
          clear hch heq hfl hF
          have n30 : ¬ c = 30 := by omega
          have e30 : (30 : Int) ≤ (c : Int) := by omega
          have eC : (30 : Int) + (fN b : Int) ≤ (c : Int) := by omega
          have e4 : (30 : Int) + (fN b : Int) ≤ 480 := by omega
          have e5 : (30 : Int) + (fN b : Int) - 30 = (fN b : Int) := by omega
          have c94 := HB9.out.cell 4
          have f94 := HB9.out.frozen 4
          simp only [List.getElem?_cons_zero, List.getElem?_cons_succ] at c94
          clear h1 h3 hn
          rw [hwq]
          clear hwq
          go_wp2_with (first
            | (go_at_call 11; (with_reducible refine (HCP.out _ (by exact HR9.out)).mono ?_); rintro e w10 ⟨A10, c10, rfl, hc10, hown10, hB10⟩
               have HBa := Lib.hid (HB9.out.below hB10 HB9.out.lt)
               have c104 := (hB10.cell (p := ⟨gp, 4, none⟩) hgl9).trans c94
               have f104 := (hB10.frozen (p := ⟨gp, 4, none⟩) hgl9).trans f94
               have HEa := Lib.hid (HE9.out.trans (hB10.mono HE9.out.size))
               have HZa := Lib.hid (HZ9.out.below hB10 HZ9.out.lt)
               have HB11 : Hid (Blk (w10.setCell ⟨gp, 4, none⟩ (.slice A10 (fN b) c10)) gp 90 [.int .u8 (fK b), .int .u64 (fD b), .int .i64 (fI b), .int .i64 (fC b), .slice A10 (fN b) c10]) := HBa.out.set_ 4 (.slice A10 (fN b) c10)
               have HE11 := Lib.hid (HEa.out.setCell (p := ⟨gp, 4, none⟩) (by show _ ≤ gp; omega) (.slice A10 (fN b) c10))
               have HZ11 := Lib.hid (HZa.out.far (p := ⟨gp, 4, none⟩) (by show _ ≠ gp; omega) (.slice A10 (fN b) c10))
               have HD11 : Hid (Rd (w10.setCell ⟨gp, 4, none⟩ (.slice A10 (fN b) c10)) A10 (fN b) (u8s (fData b))) := (Rd.of_own hown10).wrote ((Wrote.refl w10 gp).setCell 4 (.slice A10 (fN b) c10)) (fun h0 ad e => by obtain ⟨g, e2, hg, _⟩ := own_pos hown10 h0; rw [e2] at e; injection e with e; subst e; show g ≠ gp; omega)
               have HNA : Hid (0 < fN b → ∀ ad : Addr, A10 = some ad → ad.block ≠ w.heap.size) := (fun h0 ad e => by obtain ⟨g, e2, hg, _⟩ := own_pos hown10 h0; rw [e2] at e; injection e with e; subst e; show g ≠ w.heap.size; omega)
               have d0 := HB11.out.cell 0
               have d1 := HB11.out.cell 1
               have d2 := HB11.out.cell 2
               have d3 := HB11.out.cell 3
               have d4 := HB11.out.cell 4
               simp only [List.getElem?_cons_zero, List.getElem?_cons_succ] at d0 d1 d2 d3 d4
               clear hown10 hB10)
            | (go_at_call 37; (with_reducible refine (HFR.out _ _ _ (by exact HD11.out)).mono ?_); rintro e w12 ⟨g2, rfl, hg2, hb2, hB12⟩
               have HE12 := Lib.hid (HE11.out.trans (hB12.mono HE11.out.size))
               have HZ12 := Lib.hid (HZ11.out.below hB12 HZ11.out.lt)
               have HB12 := Lib.hid (HB11.out.below hB12 HB11.out.lt)
               have HD12 := Lib.hid (HD11.out.below hB12)
               have HR12 := Lib.hid (HR.out.below HE12.out)
               have HF12 : Hid (Rd w12 (some ⟨g2, 0, none⟩) 480 (u8s F)) := (by have h6 := hb2.rdAll; rw [HFL.out] at h6; exact h6)
               have q0 := HB12.out.cell 0
               have q1 := HB12.out.cell 1
               have q2 := HB12.out.cell 2
               have q3 := HB12.out.cell 3
               have q4 := HB12.out.cell 4
               simp only [List.getElem?_cons_zero, List.getElem?_cons_succ] at q0 q1 q2 q3 q4
               clear hB12 hb2 d0 d1 d2 d3 d4)
            | (go_at_call 13; (with_reducible refine (HEQ.out g2 _ (by exact HF12.out) (by exact HR12.out)).mono ?_); rintro e w13 ⟨rfl, q13, rfl⟩
               have HE13 := Lib.hid (below_drewN HE12.out q13)
               have HZ13 := Lib.hid (HZ12.out.drewN q13)
               have HD13 := Lib.hid (HD12.out.drewN q13))
            | ((with_reducible refine wpList_store_all rfl 90 (.tmp 2) (.tmp 92) rfl w.heap.size [.int .u8 (fK b), .int .u64 (fD b), .int .i64 (fI b), .int .i64 (fC b), .slice A10 (fN b) c10] ?_ ?_ 90 _ HZ13.out ?_ ?_ ?_ ?_); (· rfl); (· rfl); (· kernel_rfl); (· exact part_one _ _ _ _ _ _ _); (· rfl); intro w14 hb14 ho14; have HB14 := Lib.hid hb14; have HD14 := Lib.hid (HD13.out.wrote ((Wrote.refl _ _).only ho14) HNA.out); have HE14 := Lib.hid (ho14.below HE13.out (Nat.le_refl _) HE13.out.size); clear hb14 ho14))
          exact bodyPost_ret (res_cell_tmp rfl _ w.heap.size 90 _ rfl HB14.out _ Try.underlying90 rfl (by kernel_rfl)) rfl ⟨_, _, rfl, HD14.out, HE14.out⟩

/- the cases joined -/
theorem rfparse_err (A : Option Addr) (c : Nat) (b : List UInt8) (w : World) (h : Rd w A 480 (u8s b)) (hc : 480 ≤ c) (he : perr b ≠ 0) :
    Calls Try.prog 44 #[.slice A 480 c] w fun e w' => e = .returned (.tuple #[partZ, .int .i64 (perr b)]) ∧ Below w.heap.size w w' := by
  have hb := h.len
  by_cases hz : allZ (b.take 16) = false
  · rw [show perr b = 7 by unfold perr; rw [if_pos hz]]
    exact rparse_7 A c b w h hz
  · have hz1 : allZ (b.take 16) = true := by simpa using hz
    by_cases hk : fK b < 1 ∨ 3 < fK b
    · rw [show perr b = 1 by unfold perr; rw [if_neg hz, if_pos hk]]
      exact rparse_1 A c b w h hz1 hk
    · have h1 : 1 ≤ fK b := by omega
      have h3 : fK b ≤ 3 := by omega
      have hp3 : perr b = 3 := by
        unfold perr at he ⊢
        rw [if_neg hz, if_neg hk] at he ⊢
        split
        · rfl
        · rename_i hq
          rw [if_neg hq] at he
          split
          · rfl
          · rename_i hq2
            rw [if_neg hq2] at he
            split
            · rfl
            · rename_i hq3
              rw [if_neg hq3] at he
              exact absurd rfl he
      rw [hp3]
      by_cases hn : 450 < fN b
      · exact rparse_3n A c b w h hz1 h1 h3 hn
      · have hn2 : fN b ≤ 450 := by omega
        by_cases hch : chk (fK b) (fI b) (fC b) (fD b) (fN b) = 0
        · refine rparse_3d A c b w h hc hz1 h1 h3 hn2 hch ?_
          rw [decide_eq_false_iff_not, frame_eq b hb hz1 hn2]
          rintro ⟨h19, htl⟩
          apply he
          unfold perr
          rw [if_neg hz, if_neg hk, if_neg (by omega), if_neg (by simpa using hch), if_neg (by rw [htl]; decide)]
        · have hch3 : chk (fK b) (fI b) (fC b) (fD b) (fN b) = 3 := by
            revert hch
            unfold chk
            rw [if_neg hn]
            repeat' split
            all_goals simp
          exact rparse_3c A c b w h hc hz1 h1 h3 hn2 hch3
theorem rfparse_ok (A : Option Addr) (c : Nat) (b : List UInt8) (w : World) (h : Rd w A 480 (u8s b)) (hc : 480 ≤ c) (he : perr b = 0) :
    Calls Try.prog 44 #[.slice A 480 c] w fun e w' => ∃ A' n', e = .returned (.tuple #[.agg #[.int .u8 (fK b), .int .u64 (fD b), .int .i64 (fI b), .int .i64 (fC b), .slice A' (fN b) n'], .int .i64 0]) ∧ Rd w' A' (fN b) (u8s (fData b)) ∧ Below w.heap.size w w' := by
  have hb := h.len
  obtain ⟨hz, h1, h3, h19, hn, hch, htl⟩ := perr_ok he
  exact rparse_ok A c b w h hc hz h1 h3 hn hch (by rw [decide_eq_true_eq, frame_eq b hb hz hn]; exact ⟨h19, htl⟩)

end Go.Proofs.Ytgkhglnfbhdkeaa
