/- command.Encode of a command in order. -/
import Derived.Test.YtgkhglnfbhdkeaaCmd
import Derived.Test.YtgkhglnfbhdkeaaPut
import Derived.Test.YtgkhglnfbhdkeaaMcR
namespace Go.Proofs.Ytgkhglnfbhdkeaa
open Go.RowKit

/-- the bytes of a command -/
def Cm.enc (c : Cm) : List UInt8 := [c.k, c.f] ++ (Sh.beBytes c.d 4 ++ (Sh.beBytes c.n 8 ++ (c.m ++ [0, 0])))
theorem Cm.enc_len {c : Cm} (h : c.ok) : c.enc.length = 32 := by simp [Cm.enc, beBytes_len, h.2.2]
attribute [local go_sem ↓] ldq_16c eqq_16c bldq_16c ldq_cm

theorem Below.al {w w' : World} (h : Below w.heap.size w w') (o : Obj) : Below w.heap.size w (w'.alloc o) := h.alloc h.size o
set_option maxRecDepth 100000 in
set_option maxHeartbeats 4000000 in
theorem enc_any (c : Cm) (hc : c.ok) (h0 : c.check = 0) (w : World) :
    Calls Try.prog 46 #[.agg c.cells.toArray] w fun e w' => ∃ A' c', e = .returned (.tuple #[.slice A' 32 c', .int .i64 0]) ∧ 32 ≤ c' ∧ w'.ownsRow w.heap.size 5 1 (.slice A' 32 c') 32 (u8s c.enc) ∧ Below w.heap.size w w' := by
  have HCK := Lib.hid (fun W => check_cm c hc W)
  have hl := Cm.cells_len hc
  have HEL := Lib.hid (Cm.enc_len hc)
  have HEN : Hid ([[c.k, c.f], Sh.beBytes c.d 4, Sh.beBytes c.n 8, c.m, [0, 0]].flatten = c.enc) := by show _ = _; simp [Cm.enc]
  have HP4 := Lib.hid (fun W => put_4 c.d W (by have := hc.1; omega) hc.1)
  have HP8 := Lib.hid (fun W => put_8 c.n W hc.2.1)
  have hd1 : (0 : Int) ≤ (c.d : Int) := by omega
  have hd2 : (c.d : Int) < 4294967296 := by have := hc.1; omega
  have HML := Lib.hid hc.2.2
  obtain ⟨C, hC⟩ : ∃ C, C = c.cells := ⟨_, rfl⟩
  have hb : Blk (w.alloc (.cells C.toArray 76)) w.heap.size 76 C := Blk.new w _ _
  rw [← hC] at hl HCK ⊢
  have hld : (ldAt 76 (.pointer (some ⟨w.heap.size, 0, none⟩))).run Try.prog (w.alloc (.cells C.toArray 76)) = .ok (.agg C.toArray) (w.alloc (.cells C.toArray 76)) := cm_ld hb hl
  have HC0 : Hid (C[0]? = some (.int .u8 c.k.toNat)) := by rw [hC]; rfl
  have HC1 : Hid (C[1]? = some (.int .u8 c.f.toNat)) := by rw [hC]; rfl
  have HC2 : Hid (C[2]? = some (.int .u32 (c.d : Int))) := by rw [hC]; rfl
  have HC3 : Hid (C[3]? = some (.int .u64 (c.n : Int))) := by rw [hC]; rfl
  have HC4 : Hid (C.drop 4 = u8s c.m) := by rw [hC]; rfl
  have HCL := Lib.hid hl
  have HE := Lib.hid ((Below.refl w.heap.size w).alloc (Nat.le_refl _) (.cells C.toArray 76))
  have HB := Lib.hid hb
  rw [h0] at HCK
  clear hb hl hC h0 hc
  go_enter Try.func46, Try.ntmps46
  go_wp2_with (first
    | (go_at_call 66; (with_reducible refine (HCK.out _).mono ?_); rintro e w1 ⟨rfl, hB1⟩
       have HE1 := Lib.hid (HE.out.trans (hB1.mono (by simp)))
       have HB1 := Lib.hid (HB.out.below hB1 HB.out.lt)
       have c2 : w1.cell? ⟨w.heap.size, 2, none⟩ = some (.int .u32 (c.d : Int)) := by rw [HB1.out.cell]; exact HC2.out
       clear hB1)
    | (go_at_call 58; (with_reducible refine (HP4.out w1).mono ?_); rintro e w2 ⟨rfl, hb2, hB2⟩
       have HE2 := Lib.hid (HE1.out.trans (hB2.mono HE1.out.size))
       have HB2 := Lib.hid (HB1.out.below hB2 HB1.out.lt)
       have HF2 := Lib.hid hb2
       have c3 : w2.cell? ⟨w.heap.size, 3, none⟩ = some (.int .u64 (c.n : Int)) := by rw [HB2.out.cell]; exact HC3.out
       clear hb2 hB2)
    | (go_at_call 58; (with_reducible refine (HP8.out w2).mono ?_); rintro e w3 ⟨rfl, hb3, hB3⟩
       have HE3 := Lib.hid (HE2.out.trans (hB3.mono HE2.out.size))
       have HB3 := Lib.hid (HB2.out.below hB3 HB2.out.lt)
       have HF3 := Lib.hid (HF2.out.below hB3 HF2.out.lt)
       have HG3 := Lib.hid hb3
       clear hb3 hB3))
  have HQ : Hid (∀ (W : World) (gk gz gl : Nat),
      Blk W gl 22 [.slice (some ⟨gk, 0, none⟩) 2 2, .slice (some ⟨w1.heap.size, 0, none⟩) 4 4, .slice (some ⟨w2.heap.size, 0, none⟩) 8 8, .slice (some ⟨w.heap.size, 4, none⟩) 16 16, .slice (some ⟨gz, 0, none⟩) 2 2] →
      Blk W w.heap.size 76 C → Blk W w1.heap.size 5 (u8s (Sh.beBytes c.d 4)) → Blk W w2.heap.size 5 (u8s (Sh.beBytes c.n 8)) →
      Blk W gk 5 [.int .u8 c.k.toNat, .int .u8 c.f.toNat] → Blk W gz 5 [.int .u8 0, .int .u8 0] →
      Calls Try.prog 39 #[.slice (some ⟨gl, 0, none⟩) 5 5] W fun e w' => ∃ A' c', e = .returned (.slice A' 32 c') ∧ 32 ≤ c' ∧ w'.ownsRow W.heap.size 5 1 (.slice A' 32 c') 32 (u8s c.enc) ∧ Below W.heap.size W w') := fun W gk gz gl h6 h1 h2 h3 h4 h5 =>
    join_to _ 5 5 [[c.k, c.f], Sh.beBytes c.d 4, Sh.beBytes c.n 8, c.m, [0, 0]] W (RdB.of_blk h6 ⟨.of_blk h4 0 2 2 [c.k, c.f] (by simp) (by omega) rfl, .of_blk h2 0 4 4 (Sh.beBytes c.d 4) (by simp [u8s_length, beBytes_len]) (by omega) (by rw [List.drop_zero, List.take_of_length_le (by simp [u8s_length, beBytes_len])]),
      .of_blk h3 0 8 8 (Sh.beBytes c.n 8) (by simp [u8s_length, beBytes_len]) (by omega) (by rw [List.drop_zero, List.take_of_length_le (by simp [u8s_length, beBytes_len])]), .of_blk h1 4 16 16 c.m (by rw [HCL.out]; omega) (by omega) (by rw [HC4.out, List.take_of_length_le (by rw [u8s_length, HML.out]; omega)]), .of_blk h5 0 2 2 [0, 0] (by simp) (by omega) rfl, trivial⟩) (by omega) c.enc 32 HEN.out HEL.out (by omega)
  have hmk : ∀ W, (Instr.makeSlice 22 (.int .i64 2) (.int .i64 2)).run Try.prog W = .ok (.slice (some ⟨W.heap.size, 0, none⟩) 2 2) (W.alloc (.cells #[.int .u8 0, .int .u8 0] 5)) := fun W => by kernel_rfl
  have HKP : Hid (∀ W, Below w3.heap.size w3 W → W.cell? ⟨w.heap.size, 0, none⟩ = some (.int .u8 c.k.toNat) ∧ W.cell? ⟨w.heap.size, 1, none⟩ = some (.int .u8 c.f.toNat)) := fun W h => by
    have h5 := HB3.out.below h HB3.out.lt
    exact ⟨(h5.cell 0).trans HC0.out, (h5.cell 1).trans HC1.out⟩
  go_region_held3 (fun W' => W'.cell? ⟨w.heap.size, 0, none⟩ = some (.int .u8 c.k.toNat) ∧ W'.cell? ⟨w.heap.size, 1, none⟩ = some (.int .u8 c.f.toNat)) (exact HKP.out _ (by repeat (first | exact HS4 | exact Below.refl _ _ | apply Below.drew | apply Below.al))) ((go_at_call 39; (refine (HQ.out _ _ _ _ (by repeat (first | exact Blk.new' (by simp) rfl | apply Blk.drew | apply Blk.alloc)) (by repeat (first | exact HB3.out | apply Blk.drew | apply Blk.alloc)) (by repeat (first | exact HF3.out | apply Blk.drew | apply Blk.alloc)) (by repeat (first | exact HG3.out | apply Blk.drew | apply Blk.alloc)) (by repeat (first | exact Blk.new' (by simp) rfl | apply Blk.drew | apply Blk.alloc)) (by repeat (first | exact Blk.new' (by simp) rfl | apply Blk.drew | apply Blk.alloc))).mono ?_); rintro e w4 ⟨A4, c4, rfl, hc4, hown4, hB4⟩; have HS4 : Below w3.heap.size w3 w4 := Below.trans (by repeat (first | exact Below.refl _ _ | apply Below.drew | apply Below.al)) (hB4.mono (by simp; omega)); have HO4 := Lib.hid (own_mono hown4 (base' := w.heap.size) (by have := HE3.out.size; simp; omega)); clear hown4 hB4))
  all_goals (go_wp2_with fail)
  all_goals go_ret2
  all_goals exact ⟨A4, c4, rfl, hc4, HO4.out, HE3.out.trans (HS4.mono HE3.out.size)⟩
end Go.Proofs.Ytgkhglnfbhdkeaa
