/- Part of the proof: Ppz, Akz, SqE, Pkz. -/
import Derived.Test.YtpgpaenloaphaaaGreatPpx03
import Derived.Test.YtpgpaenloaphaaaGreatPpx26
import Derived.Test.YtpgpaenloaphaaaGreatPpx42
namespace Go.Proofs.YtpgpaenloaphaaaGreat
open Go.RowKit
set_option maxRecDepth 100000 in
set_option maxHeartbeats 400000 in
theorem pparse_yes (A : Option Addr) (c : Nat) (l : List UInt8) (w : World) (h : Rd w A 768 (u8s l)) (hc : 768 ≤ c) :
   Calls Tryz.prog 11 #[.slice A 768 c] w fun e w' => e = .returned (.tuple #[.agg (u8s l).toArray, .int .i64 0]) ∧ Below w.heap.size w w' := by
 have hl := h.len
 obtain ⟨b, off, rfl, hb, hcell⟩ := h.2 (by omega)
 obtain ⟨Z, HZ, HZl⟩ : ∃ Z : List Value, Hid (Tryz.zeroCells35 = Z.toArray) ∧ Hid (Z.length = 768) := ⟨_, zc76, by show (u8s _).length = _; rw [u8s_length]; simp⟩
 obtain ⟨Y, HY, HYl⟩ : ∃ Z : List Value, Hid (Tryz.zeroCells32 = Z.toArray) ∧ Hid (Z.length = 288) := ⟨_, zc34', by show (u8s _).length = _; rw [u8s_length]; simp⟩
 have Hl := qh hl
 clear hl hcell
 have hh : (l.take 288).length = 288 := by rw [List.length_take, Hl.out]; rfl
 have HH := qh hh
 have hz : ((u8s (l.take 288)).length = 288) := by rw [u8s_length, hh]
 have HZ3 := qh hz
 clear hh hz
 have hrd : ∀ W, Rd W (some ⟨b, off, none⟩) 768 (u8s l) → Rd W (some ⟨b, off, none⟩) 288 (u8s (l.take 288)) := fun W h => by
   have := h.cut (A' := some ⟨b, off, none⟩) (m := 288) (k := 0) (by omega) (by omega) (fun _ b' off' e => by injection e with e; injection e with e1 e2; subst e1; subst e2; rfl)
   rwa [List.drop_zero, u8s_take] at this
 have HR := qh hrd
 clear hrd
 go_enter Tryz.func11, Tryz.ntmps11
 have hi34 : (Tryz.prog.info? 32).map (·.size) = some (u8s (l.take 288)).length := by rw [HZ3.out]; exact hd34
 have H34 := qh hi34
 have hf34 : (u8s (l.take 288)).length = Y.length := by rw [HZ3.out, HYl.out]
 have HF34 := qh hf34
 obtain ⟨X, HX, HXl, HX1⟩ : ∃ X : List Value, Hid (X = splice Z 0 (u8s (l.take 288))) ∧ Hid (X.length = 768) ∧ Hid (∀ v ∈ X, v.oneCell' = true) := ⟨_, rfl, by
   show (splice _ _ _).length = _
   rw [length_splice _ _ _ (by rw [HZ3.out, HZl.out]; omega), HZl.out], by
   show ∀ v ∈ splice _ _ _, _
   have hz1 : ∀ v ∈ Z, v.oneCell' = true := by
     have := zc76.symm.trans HZ.out
     have h2 : u8s (List.replicate 768 0) = Z := by simpa using congrArg Array.toList this
     rw [← h2]; exact u8s_one _
   intro v hv
   simp only [splice, List.mem_append] at hv
   rcases hv with hv | hv | hv
   · exact hz1 v (List.mem_of_mem_take hv)
   · exact u8s_one _ v hv
   · exact hz1 v (List.mem_of_mem_drop hv)⟩
 have hbuild : ∀ W, (Instr.build 35 #[(0, .agg (u8s (l.take 288)).toArray)]).run Tryz.prog W = .ok (.agg X.toArray) W := fun W =>
   run_build Tryz.zeroValue35 Tryz.underlying35 (pl76 _ Tryz.underlying35) (by
     rw [HZ.out]
     show Instr.fill _ _ [(0, _)] = _
     rw [fill_cons (cs := u8s (l.take 288)) rfl (by rw [HZ3.out]; rfl) (by rw [HZ3.out, HZl.out]; omega), HX.out]
     rfl) W
 have HBU := qh hbuild
 have hi76 : (Tryz.prog.info? 35).map (·.size) = some X.length := by rw [HXl.out]; exact hd76
 have H76 := qh hi76
 have hf76 : X.length = Z.length := by rw [HXl.out, HZl.out]
 have HF76 := qh hf76
 clear hi34 hf34 hbuild hi76 hf76
 go_wp2_with (first
   | (go_at_call 21; refine (hparse_yes _ c (l.take 288) _ (HR.out _ (h.alloc _)) (by omega)).mono ?_; rintro e w1 ⟨rfl, hB1⟩)
   | (refine wpList_store_all rfl 32 (.tmp 4) (.tmp 15) rfl w1.heap.size (u8s (l.take 288)) (by rfl) (by rfl) 32 Y (Blk.new' rfl HY.out) H34.out (u8s_one _) HF34.out ?_
      intro w2 hb2 ho2
      have hs1 : w.heap.size + 1 ≤ w1.heap.size := by have := hB1.size; simp at this; omega
      have hB2 : Below (w.heap.size + 1) (w.alloc (.cells Tryz.zeroCells35 35)) w2 := ho2.below ((hB1.mono (by simp)).alloc hs1 _) hs1 (by simp; omega)
      have hs2 : w.heap.size + 1 ≤ w2.heap.size := by have := hB2.size; simp at this; omega
      clear ho2 hB1 hs1)
   | (refine wpList_load_mid rfl 32 (.tmp 4) rfl _ 0 (by rfl) (u8s (l.take 288)) _ hb2.range Tryz.underlying32 rfl H34.out ?_)
   | (refine wpList_build rfl 35 [(0, .tmp 21)] rfl [(0, .agg (u8s (l.take 288)).toArray)] (by rfl) (.agg X.toArray) (HBU.out _) ?_)
   | (refine wpList_store_all rfl 35 (.tmp 6) (.tmp 22) rfl w2.heap.size X (by rfl) (by rfl) 35 Z (Blk.new' rfl HZ.out) H76.out HX1.out HF76.out ?_
      intro w3 hb3 ho3
      have hB3 : Below (w.heap.size + 1) (w.alloc (.cells Tryz.zeroCells35 35)) w3 := ho3.below (hB2.alloc hs2 _) hs2 (by simp; omega)
      have hs3 : w.heap.size + 1 ≤ w3.heap.size := by have := hB3.size; simp at this; omega
      clear ho3 hB2 hb2))
 have hrest : ∀ W, Rd W (some ⟨b, off, none⟩) 768 (u8s l) → Rd W (some ⟨b, off + 288, none⟩) 480 (u8s (l.drop 288)) := fun W h => by
   have := h.cut (A' := some ⟨b, off + 288, none⟩) (m := 768) (k := 288) (by omega) (by omega) (fun _ b' off' e => by injection e with e; injection e with e1 e2; subst e1; subst e2; rfl)
   rwa [List.take_of_length_le (by rw [u8s_length, Hl.out]; omega), u8s_drop] at this
 have hBw3 : Below w.heap.size w w3 := ((Below.refl _ _).alloc (Nat.le_refl _) _).trans (hB3.mono (by omega))
 have hr3 := hrest _ ((h.below hBw3).drew)
 have HR3 := qh hr3
 have n288 : ¬ c = 288 := by omega
 have hfx : 288 + 480 ≤ X.length := by rw [HXl.out]; omega
 have hz3 : Blk w3 w.heap.size 35 Z := (Blk.new' (g := w.heap.size) rfl HZ.out).below hB3 (by omega)
 have hs4 : w.heap.size < w2.heap.size := by omega
 clear hrest hr3 hBw3
 go_frame
 go_region_held3 (fun _ => True) (trivial) ((refine step_copy rfl (.tmp 24) (.tmp 26) 22 rfl 5 Tryz.underlying22 u8_size1 w2.heap.size 288 480 480 (by rfl) (some ⟨b, off + 288, none⟩) 480 (c - 288) (by rfl) 35 X (by exact hb3) (u8s (l.drop 288)) HR3.out (u8s_one _) hfx ?_; intro w4 hb4 ho4))
 have hB4 : Below (w.heap.size + 1) (w.alloc (.cells Tryz.zeroCells35 35)) w4 := ho4.below hB3.drew hs2 hs3
 have hz4 : Blk w4 w.heap.size 35 Z := ho4.blk hz3.drew (by omega)
 have HF : splice X 288 (List.take 480 (u8s (l.drop 288))) = u8s l := by
   rw [HX.out]
   have hZ := HZl.out
   have hl := Hl.out
   rw [splice_two Z (u8s (l.take 288)) _ 288 HZ3.out (by simp [u8s_length]; omega), u8s_take, ← u8s_append]
   congr 1
   rw [List.take_of_length_le (l := l.drop 288) (by simp; omega), List.take_append_drop]
 rw [HF] at hb4
 have hi : (Tryz.prog.info? 35).map (·.size) = some (u8s l).length := by rw [u8s_length, Hl.out]; exact hd76
 have HI := qh hi
 have hfz : (u8s l).length = Z.length := by rw [u8s_length, Hl.out, HZl.out]
 have HFZ := qh hfz
 clear ho4 hB3 hb3 hz3 HF HR3 hi hfz hfx
 go_wp2_with (first
   | refine wpList_load_mid rfl 35 (.tmp 6) rfl w2.heap.size 0 (by rfl) (u8s l) _ hb4.range Tryz.underlying35 rfl HI.out ?_
   | (refine wpList_store_all rfl 35 (.tmp 2) (.tmp 28) rfl w.heap.size (u8s l) (by rfl) (by rfl) 35 Z hz4 HI.out (u8s_one _) HFZ.out ?_; intro w5 hb5 ho5))
 have hB5 : Below w.heap.size w w5 := ho5.below (((Below.refl _ _).alloc (Nat.le_refl _) _).trans (hB4.mono (by omega))) (Nat.le_refl _) (by have := hB4.size; simp at this; omega)
 exact bodyPost_ret (res_cell_tmp rfl _ _ _ _ rfl hb5 _ Tryz.underlying35 rfl HI.out) rfl ⟨rfl, hB5⟩
theorem build76_00 (w : World) : (Instr.build 35 #[]).run Tryz.prog w = .ok (.agg Tryz.zeroCells35) w := by kernel_rfl
set_option maxRecDepth 100000 in
set_option maxHeartbeats 400000 in
theorem pparse_no (A : Option Addr) (n c : Nat) (w : World) (hn : ¬ n = 768) :
   Calls Tryz.prog 11 #[.slice A n c] w fun e w' => e = .returned (.tuple #[.agg Tryz.zeroCells35, .int .i64 2]) ∧ Below w.heap.size w w' := by
 obtain ⟨Z, HZ, HZl⟩ : ∃ Z : List Value, Hid (Tryz.zeroCells35 = Z.toArray) ∧ Hid (Z.length = 768) := ⟨_, zc76, by show (u8s _).length = _; rw [u8s_length]; simp⟩
 have H1 : ∀ v ∈ Z, v.oneCell' = true := by
   have := zc76.symm.trans HZ.out
   have h2 : u8s (List.replicate 768 0) = Z := by simpa using congrArg Array.toList this
   rw [← h2]; exact u8s_one _
 have hi : (Tryz.prog.info? 35).map (·.size) = some Z.length := by rw [HZl.out]; exact hd76
 have HI := qh hi
 have hne : ((n : Int) != 768) = true := by rw [bne_iff_ne]; omega
 clear hi hn
 go_enter Tryz.func11, Tryz.ntmps11
 go_wp2_with (first
   | refine wpList_build rfl 35 [] rfl [] (by rfl) _ (build76_00 _) ?_
   | (refine wpList_store rfl 35 (.tmp 2) (.tmp 10) rfl w.heap.size 0 Z (by rfl) (by exact congrArg Value.agg HZ.out) 35 Z (Blk.new' rfl HZ.out) HI.out H1 (by omega) ?_; intro w4 hb4 ho4))
 have hB4 : Below w.heap.size w w4 := ho4.below ((Below.refl _ _).alloc (Nat.le_refl _) _) (Nat.le_refl _) (by simp)
 rw [splice_whole _ _ rfl] at hb4
 exact bodyPost_ret (res_cell_tmp rfl _ _ _ _ rfl hb4 _ Tryz.underlying35 rfl HI.out) rfl ⟨by rw [HZ.out]; rfl, hB4⟩
end Go.Proofs.YtpgpaenloaphaaaGreat
namespace Go.Proofs.YtpgpaenloaphaaaGreat
open Go.RowKit
theorem ldq_76 (v : Value) : Instr.loadAt 35 v = ldAt 35 v := rfl
theorem stq_76 (p v : Value) : Instr.storeAt 35 p v = stAt 35 p v := rfl
attribute [local go_sem ↓] ldq_76 stq_76
def fixed14 : List UInt8 := ((((((rep 768 (0 : UInt8)).set 0 1).set 32 2).set 48 3).set 288 4).set 767 5)
theorem fixed14_len : fixed14.length = 768 := by unfold fixed14; simp only [List.length_set]; exact rep_length _ _
set_option maxRecDepth 100000 in
set_option maxHeartbeats 1000000 in
theorem awake14 (w : World) : Calls Tryz.prog 10 #[] w fun e w' => e = .returned (.bool true) ∧ Below w.heap.size w w' := by
 go_enter Tryz.func10, Tryz.ntmps10
 go_wp2_with (at_make; refine wpList_make1 rfl _ _ 22 rfl 5 (.int .u8 0) 1 Tryz.underlying22 iU8 rfl _ _ _ _ rfl rfl 768 768 rfl rfl (by omega) (by omega) (by omega) ?_)
 intro w1 hb1 hg1 hs1
 have hB1 : Below w.heap.size w w1 := grown_below hg1
 have hf : ∀ i, w1.frozen? ⟨w.heap.size, i, none⟩ = false := fun i => hb1.frozen i
 have hcell : ∀ i, i < 768 → w1.cell? ⟨w.heap.size, i, none⟩ = some (.int .u8 0) := fun i hi => by rw [hb1.cell, rep_get hi]
 have c0 := hcell 0 (by omega)
 have c1 := hcell 32 (by omega)
 have c2 := hcell 48 (by omega)
 have c3 := hcell 288 (by omega)
 have c4 := hcell 767 (by omega)
 clear hcell hg1
 have HS := qh hs1
 clear hs1
 have hset : ∀ (l : List UInt8) i c, (u8s l).set i (.int .u8 (c : UInt8).toNat) = u8s (l.set i c) := fun l i c => by unfold u8s; rw [List.map_set]; rfl
 have hbf : Blk (((((w1.setCell ⟨w.heap.size, 0, none⟩ (.int .u8 1)).setCell ⟨w.heap.size, 32, none⟩ (.int .u8 2)).setCell ⟨w.heap.size, 48, none⟩ (.int .u8 3)).setCell ⟨w.heap.size, 288, none⟩ (.int .u8 4)).setCell ⟨w.heap.size, 767, none⟩ (.int .u8 5)) w.heap.size 5 (u8s fixed14) := by
   have h5 := ((((hb1.set_ 0 (.int .u8 1)).set_ 32 (.int .u8 2)).set_ 48 (.int .u8 3)).set_ 288 (.int .u8 4)).set_ 767 (.int .u8 5)
   have e0 : rep 768 (Value.int .u8 0) = u8s (rep 768 0) := rep_u8s 768 0
   rw [e0] at h5
   have e := hset (rep 768 0) 0 1
   rw [show (Value.int .u8 1) = .int .u8 ((1 : UInt8).toNat) from rfl, hset, show (Value.int .u8 2) = .int .u8 ((2 : UInt8).toNat) from rfl, hset, show (Value.int .u8 3) = .int .u8 ((3 : UInt8).toNat) from rfl, hset,
     show (Value.int .u8 4) = .int .u8 ((4 : UInt8).toNat) from rfl, hset, show (Value.int .u8 5) = .int .u8 ((5 : UInt8).toNat) from rfl, hset] at h5
   exact h5
 have hBf : Below w.heap.size w (((((w1.setCell ⟨w.heap.size, 0, none⟩ (.int .u8 1)).setCell ⟨w.heap.size, 32, none⟩ (.int .u8 2)).setCell ⟨w.heap.size, 48, none⟩ (.int .u8 3)).setCell ⟨w.heap.size, 288, none⟩ (.int .u8 4)).setCell ⟨w.heap.size, 767, none⟩ (.int .u8 5)) :=
   ((((hB1.setCell (Nat.le_refl _) _).setCell (Nat.le_refl _) _).setCell (Nat.le_refl _) _).setCell (Nat.le_refl _) _).setCell (Nat.le_refl _) _
 clear hset hb1 hB1
 obtain ⟨Z, HZ, HZl⟩ : ∃ Z : List Value, Hid (Tryz.zeroCells35 = Z.toArray) ∧ Hid (Z.length = 768) := ⟨_, zc76, by show (u8s _).length = _; rw [u8s_length]; simp⟩
 have hi : (Tryz.prog.info? 35).map (·.size) = some (u8s fixed14).length := by rw [u8s_length, fixed14_len]; exact hd76
 have HI := qh hi
 have hfz : (u8s fixed14).length = Z.length := by rw [u8s_length, fixed14_len, HZl.out]
 have HFZ := qh hfz
 have hat : ∀ (i : Nat) (c : UInt8), fixed14[i]? = some c → (u8s fixed14)[i]? = some (.int .u8 c.toNat) := fun i c h => by rw [u8s_getElem?, h]; rfl
 have HAT := qh hat
 clear hi hfz hat
 go_wp2_with (first
   | (go_at_call 11; refine (pparse_yes _ 768 fixed14 _ (by have := hbf.rd 0 768 (by rw [u8s_length, fixed14_len]; omega); rwa [List.drop_zero, List.take_of_length_le (by rw [u8s_length, fixed14_len]; omega)] at this) (by omega)).mono ?_; rintro e w2 ⟨rfl, hB2⟩)
   | (refine wpList_store_all rfl 35 (.tmp 2) (.tmp 18) rfl w2.heap.size (u8s fixed14) (by rfl) (by rfl) 35 Z (Blk.new' rfl HZ.out) HI.out (u8s_one _) HFZ.out ?_
      intro w3 hb3 ho3
      have hBw2 : Below w.heap.size w w2 := hBf.trans (hB2.mono hBf.size)
      have hlt : w.heap.size < w2.heap.size := Nat.lt_of_lt_of_le hbf.lt hB2.size
      have hBw3 : Below w.heap.size w w3 := ho3.below (hBw2.alloc hBw2.size _) hBw2.size (by simp; omega)
      have hk3 : Blk w3 w.heap.size 5 (u8s fixed14) := ho3.blk ((hbf.below hB2 hbf.lt).alloc _) (by omega)
      have d0 : w3.cell? ⟨w2.heap.size, 0, none⟩ = some (.int .u8 1) := by rw [hb3.cell]; exact HAT.out 0 1 (by decide +kernel)
      have d1 : w3.cell? ⟨w2.heap.size, 32, none⟩ = some (.int .u8 2) := by rw [hb3.cell]; exact HAT.out 32 2 (by decide +kernel)
      have d2 : w3.cell? ⟨w2.heap.size, 48, none⟩ = some (.int .u8 3) := by rw [hb3.cell]; exact HAT.out 48 3 (by decide +kernel)
      have d3 : w3.cell? ⟨w2.heap.size, 288, none⟩ = some (.int .u8 4) := by rw [hb3.cell]; exact HAT.out 288 4 (by decide +kernel)
      have d4 : w3.cell? ⟨w2.heap.size, 767, none⟩ = some (.int .u8 5) := by rw [hb3.cell]; exact HAT.out 767 5 (by decide +kernel)
      have hld : (ldAt 35 (.pointer (some ⟨w2.heap.size, 0, none⟩))).run Tryz.prog w3 = .ok (.agg (u8s fixed14).toArray) w3 := ldAt_run hb3 _ 0 (u8s fixed14) (by rw [List.drop_zero, List.take_of_length_le (Nat.le_refl _)]) _ Tryz.underlying35 rfl HI.out
      clear ho3 hB2 hbf hBf hBw2 c0 c1 c2 c3 c4 hf)
   | (go_at_call 14; refine (pbytes_any fixed14 _ fixed14_len).mono ?_; rintro e w4 ⟨A4, c4, rfl, hc4, hown4, hB4⟩
      have hk4 := hk3.below hB4 hk3.lt
      clear d0 d1 d2 d3 d4 hld)
   | (go_at_call 13; refine (equal_any A4 (some ⟨w.heap.size, 0, none⟩) 768 768 c4 768 fixed14 fixed14 _ (Rd.of_own hown4) (by have := hk4.rd 0 768 (by rw [u8s_length, fixed14_len]; omega); rwa [List.drop_zero, List.take_of_length_le (by rw [u8s_length, fixed14_len]; omega)] at this) (by omega) (by omega)).mono ?_; rintro e w5 ⟨rfl, q5, rfl⟩)
   | (go_at_call 41; refine (least_any (some ⟨w4.heap.size, 0, none⟩) 3 3 [0, 3, 2] _ (by have := (Blk.new w4 36 (i64s [0, 3, 2])).rd 0 3 (by simp [i64s]); exact this) (by omega)).mono ?_; rintro e w6 ⟨rfl, rfl⟩))
 rw [show (leastOf [0, 3, 2] == 2) = true from by decide]
 go_ret
 refine ⟨rfl, ?_⟩
 have h4 : Below w.heap.size w w4 := hBw3.trans (hB4.mono hBw3.size)
 exact below_drewN (h4.alloc h4.size _) _
end Go.Proofs.YtpgpaenloaphaaaGreat
namespace Go.Proofs.YtpgpaenloaphaaaGreat
open Go.RowKit
section
variable {P : Program}
theorem part_row {e : TypeId} {sz : Nat} (ha : ∀ w, (isAgg e).run P w = .ok true w) (hs : ∀ w, (sizeOf e).run P w = .ok sz w) (l : List UInt8) (off : Nat) (w : World) : (part e (u8s l).toArray off).run P w = .ok (.agg (u8s ((l.drop off).take sz)).toArray) w := by
 unfold part
 simp only [Sem.run_bind, ha, hs, Result.andThen_ok, if_true, Sem.run_pure]
 congr 2
 rw [List.extract_toArray, List.extract_eq_take_drop, Nat.add_sub_cancel_left, u8s_drop, u8s_take]
theorem eqFields_same (d : Nat) (xs : Array Value) (w : World) : ∀ fs : List Field, (∀ f ∈ fs, ∃ v, (part f.type xs f.offset).run P w = .ok v w ∧ (Op.equalIn d f.type v v).run P w = .ok true w) → (Op.eqFields d xs xs fs).run P w = .ok true w
 | [], _ => by simp [Op.eqFields]
 | f :: fs, h => by
   obtain ⟨v, h1, h2⟩ := h f (by simp)
   have ih := eqFields_same d xs w fs (fun g hg => h g (by simp [hg]))
   unfold Op.eqFields
   split
   · simp only [Sem.run_bind, h1, h2, Result.andThen_ok, Bool.not_true, Bool.false_eq_true, if_false, ih]
   · exact ih
end
theorem eqIn16 (d : Nat) (x : List UInt8) (hx : x.length = 16) (w : World) : (Op.equalIn (d + 2) 29 (.agg (u8s x).toArray) (.agg (u8s x).toArray)).run Tryz.prog w = .ok true w := by
 obtain ⟨i, hi⟩ : ∃ i, Tryz.prog.info? 5 = some i := Option.isSome_iff_exists.1 (by kernel_rfl)
 have hc : Tryz.prog.cellsOf 5 = 1 := by kernel_rfl
 rw [run_equalIn_array w (d + 1) _ _ Tryz.underlying29 hi, hc, List.range_eq_range', ← hx, eqItems_bytes d 5 (by kernel_rfl) Tryz.underlying5 x x rfl w x.length 0 (by omega)]
 simp
theorem ag16e (w : World) : (isAgg 29).run Tryz.prog w = .ok true w := by kernel_rfl
theorem sz16e (w : World) : (sizeOf 29).run Tryz.prog w = .ok 16 w := by kernel_rfl
theorem part_cm16 (c : Cm) (h : c.ok) (w : World) : (part 29 c.cells.toArray 4).run Tryz.prog w = .ok (.agg (u8s c.m).toArray) w := by
 unfold part
 simp only [Sem.run_bind, ag16e, sz16e, Result.andThen_ok, if_true, Sem.run_pure]
 congr 2
 rw [List.extract_toArray, List.extract_eq_take_drop, Nat.add_sub_cancel_left, Cm.cells_mark, List.take_of_length_le (by rw [u8s_length, h.2.2]; exact Nat.le_refl _)]
set_option maxRecDepth 100000 in
theorem eqInCm (d : Nat) (c : Cm) (h : c.ok) (w : World) : (Op.equalIn (d + 3) 47 (.agg c.cells.toArray) (.agg c.cells.toArray)).run Tryz.prog w = .ok true w := by
 have hf : Tryz.prog.underlying 47 = some (.struct (Tryz.prog.fieldsOf 47)) := by kernel_rfl
 rw [run_equalIn_struct w (d + 2) _ _ _ hf (by kernel_rfl)]
 refine eqFields_same (d + 2) _ w _ fun f hf => ?_
 unfold Program.fieldsOf at hf
 rw [Tryz.underlying47] at hf
 simp only [List.mem_cons, List.not_mem_nil, or_false] at hf
 rcases hf with rfl | rfl | rfl | rfl | rfl
 · exact ⟨.int .u8 c.k.toNat, run_part_plain w (by kernel_rfl) rfl, by rw [run_equalIn_int w (d + 1) _ .u8 .u8 _ _ Tryz.underlying5]; simp⟩
 · exact ⟨.int .u8 c.f.toNat, run_part_plain w (by kernel_rfl) rfl, by rw [run_equalIn_int w (d + 1) _ .u8 .u8 _ _ Tryz.underlying5]; simp⟩
 · exact ⟨.int .u32 (c.d : Int), run_part_plain w (by kernel_rfl) rfl, by rw [run_equalIn_int w (d + 1) _ .u32 .u32 _ _ Tryz.underlying44]; simp⟩
 · exact ⟨.int .u64 (c.n : Int), run_part_plain w (by kernel_rfl) rfl, by rw [run_equalIn_int w (d + 1) _ .u64 .u64 _ _ Tryz.underlying45]; simp⟩
 · exact ⟨_, part_cm16 c h w, eqIn16 d _ h.2.2 w⟩
set_option maxRecDepth 100000 in
theorem neCm (c : Cm) (h : c.ok) (w : World) : (neAt 47 (.agg c.cells.toArray) (.agg c.cells.toArray)).run Tryz.prog w = .ok (.bool false) w := by
 unfold neAt
 rw [run_neq_struct]
 have h5 := eqInCm 9997 c h w
 show (((Op.equalIn (9997 + 3) 47 (.agg c.cells.toArray) (.agg c.cells.toArray)).run Tryz.prog w).andThen _) = _
 rw [h5]
 rfl
theorem neq_cm (x y : Value) : binOp .neq 47 x y = neAt 47 x y := rfl
end Go.Proofs.YtpgpaenloaphaaaGreat
namespace Go.Proofs.YtpgpaenloaphaaaGreat
open Go.RowKit
def z768 : List UInt8 := List.replicate 768 0
theorem z768_length : z768.length = 768 := List.length_replicate
theorem zc76z : Tryz.zeroCells35 = (u8s z768).toArray := zc76
theorem eqq_76 (x y : Value) : binOp .eql 35 x y = eqAt 35 x y := rfl
theorem eqInA {t : TypeId} {n : Nat} (hu : Tryz.prog.underlying t = some (.array n 5)) (d : Nat) (x : List UInt8) (hx : x.length = n) (w : World) : (Op.equalIn (d + 2) t (.agg (u8s x).toArray) (.agg (u8s x).toArray)).run Tryz.prog w = .ok true w := by
 obtain ⟨i, hi⟩ : ∃ i, Tryz.prog.info? 5 = some i := Option.isSome_iff_exists.1 (by kernel_rfl)
 have hc : Tryz.prog.cellsOf 5 = 1 := by kernel_rfl
 rw [run_equalIn_array w (d + 1) _ _ hu hi, hc, List.range_eq_range', ← hx, eqItems_bytes d 5 (by kernel_rfl) Tryz.underlying5 x x rfl w x.length 0 (by omega)]
 simp
theorem cutN {x : List UInt8} {o n : Nat} (h : o + n ≤ x.length) : ((x.drop o).take n).length = n := by rw [List.length_take, List.length_drop]; omega
set_option maxRecDepth 100000 in
theorem eqIn34 (d : Nat) (x : List UInt8) (hx : x.length = 288) (w : World) : (Op.equalIn (d + 3) 32 (.agg (u8s x).toArray) (.agg (u8s x).toArray)).run Tryz.prog w = .ok true w := by
 have hf : Tryz.prog.underlying 32 = some (.struct (Tryz.prog.fieldsOf 32)) := by kernel_rfl
 rw [run_equalIn_struct w (d + 2) _ _ _ hf (by kernel_rfl)]
 refine eqFields_same (d + 2) _ w _ fun f hf => ?_
 unfold Program.fieldsOf at hf
 rw [Tryz.underlying32] at hf
 simp only [List.mem_cons, List.not_mem_nil, or_false] at hf
 rcases hf with rfl | rfl | rfl
 · exact ⟨_, part_row (sz := 32) (fun w => by kernel_rfl) (fun w => by kernel_rfl) x _ w, eqInA Tryz.underlying23 d _ (cutN (by rw [hx]; decide)) w⟩
 · exact ⟨_, part_row (sz := 16) (fun w => by kernel_rfl) (fun w => by kernel_rfl) x _ w, eqInA Tryz.underlying29 d _ (cutN (by rw [hx]; decide)) w⟩
 · exact ⟨_, part_row (sz := 240) (fun w => by kernel_rfl) (fun w => by kernel_rfl) x _ w, eqInA Tryz.underlying30 d _ (cutN (by rw [hx]; decide)) w⟩
set_option maxRecDepth 100000 in
theorem eqIn76 (d : Nat) (x : List UInt8) (hx : x.length = 768) (w : World) : (Op.equalIn (d + 4) 35 (.agg (u8s x).toArray) (.agg (u8s x).toArray)).run Tryz.prog w = .ok true w := by
 have hf : Tryz.prog.underlying 35 = some (.struct (Tryz.prog.fieldsOf 35)) := by kernel_rfl
 rw [run_equalIn_struct w (d + 3) _ _ _ hf (by kernel_rfl)]
 refine eqFields_same (d + 3) _ w _ fun f hf => ?_
 unfold Program.fieldsOf at hf
 rw [Tryz.underlying35] at hf
 simp only [List.mem_cons, List.not_mem_nil, or_false] at hf
 rcases hf with rfl | rfl
 · exact ⟨_, part_row (sz := 288) (fun w => by kernel_rfl) (fun w => by kernel_rfl) x _ w, eqIn34 d _ (by rw [List.length_take, List.length_drop, hx]; rfl) w⟩
 · exact ⟨_, part_row (sz := 480) (fun w => by kernel_rfl) (fun w => by kernel_rfl) x _ w, eqInA Tryz.underlying33 (d + 1) _ (cutN (by rw [hx]; decide)) w⟩
set_option maxRecDepth 100000 in
theorem eq76s (x : List UInt8) (hx : x.length = 768) (w : World) : (eqAt 35 (.agg (u8s x).toArray) (.agg (u8s x).toArray)).run Tryz.prog w = .ok (.bool true) w := by
 unfold eqAt
 rw [run_eql_struct]
 have h5 := eqIn76 9996 x hx w
 show (((Op.equalIn (9996 + 4) 35 (.agg (u8s x).toArray) (.agg (u8s x).toArray)).run Tryz.prog w).andThen _) = _
 rw [h5]
 rfl
theorem eq76z (w : World) : (eqAt 35 (.agg (u8s z768).toArray) (.agg (u8s z768).toArray)).run Tryz.prog w = .ok (.bool true) w := eq76s z768 z768_length w
theorem eq76y (w : World) : (eqAt 35 (.agg (u8s z768).toArray) (.agg Tryz.zeroCells35)).run Tryz.prog w = .ok (.bool true) w := by rw [zc76z]; exact eq76z w
theorem pk_ld {w : World} {g : Nat} {t : TypeId} {l : List UInt8} (hb : Blk w g t (u8s l)) (hl : l.length = 768) : (ldAt 35 (.pointer (some ⟨g, 0, none⟩))).run Tryz.prog w = .ok (.agg (u8s l).toArray) w :=
 ldAt_run hb _ 0 (u8s l) (by rw [List.drop_zero, List.take_of_length_le (Nat.le_refl _)]) _ Tryz.underlying35 rfl (by rw [u8s_length, hl]; exact hd76)
theorem pkh_ld {w : World} {g : Nat} {t : TypeId} {l : List UInt8} (hb : Blk w g t (u8s l)) (hl : l.length = 768) : (ldAt 32 (.pointer (some ⟨g, 0, none⟩))).run Tryz.prog w = .ok (.agg (u8s (l.take 288)).toArray) w :=
 ldAt_run hb _ 0 (u8s (l.take 288)) (by rw [List.drop_zero, u8s_take, u8s_length, List.length_take, hl]; rfl) _ Tryz.underlying32 rfl (by rw [u8s_length, List.length_take, hl]; exact hd34)
end Go.Proofs.YtpgpaenloaphaaaGreat
