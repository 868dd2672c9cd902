/- packet.Parse and Packet.Bytes: 768 bytes become a packet, and its bytes are the same. -/
import Derived.Test.YtkpacpkldjfbhaaHb
namespace Go.Proofs.Ytkpacpkldjfbhaa
open Go.RowKit

theorem hd76 : (Try.prog.info? 76).map (·.size) = some 768 := by kernel_rfl
theorem zc76 : Try.zeroCells76 = (u8s (List.replicate 768 0)).toArray := by kernel_rfl
theorem zc34' : Try.zeroCells34 = (u8s (List.replicate 288 0)).toArray := by kernel_rfl
def places76 : Array (Nat × Nat) := #[(0, 288), (288, 480)]
theorem pl76 (fields : Array Field) (h : Try.prog.underlying 76 = some (.struct fields)) (w : World) : (fields.mapM (fun f => do pure (f.offset, ← sizeOf f.type)) : Sem (Array (Nat × Nat))).run Try.prog w = .ok places76 w := by
  rw [Try.underlying76] at h
  injection h with h
  injection h with h
  subst h
  kernel_rfl

set_option maxRecDepth 100000 in
set_option maxHeartbeats 400000 in
theorem pparse_yes (A : Option Addr) (c : Nat) (l : List UInt8) (w : World) (h : Rd w A 768 (u8s l)) (hc : 768 ≤ c) :
    Calls Try.prog 34 #[.slice A 768 c] w fun e w' => e = .returned (.tuple #[.agg (u8s l).toArray, .int .i64 0]) ∧ Below w.heap.size w w' := by
  have hl := h.len
  obtain ⟨b, off, rfl, hb, hcell⟩ := h.2 (by omega)
  obtain ⟨Z, HZ, HZl⟩ : ∃ Z : List Value, Hid (Try.zeroCells76 = Z.toArray) ∧ Hid (Z.length = 768) := ⟨_, zc76, by show (u8s _).length = _; rw [u8s_length]; simp⟩
  obtain ⟨Y, HY, HYl⟩ : ∃ Z : List Value, Hid (Try.zeroCells34 = Z.toArray) ∧ Hid (Z.length = 288) := ⟨_, zc34', by show (u8s _).length = _; rw [u8s_length]; simp⟩
  have Hl := Lib.hid hl
  clear hl hcell
  have hh : (l.take 288).length = 288 := by rw [List.length_take, Hl.out]; rfl
  have HH := Lib.hid hh
  have hz : ((u8s (l.take 288)).length = 288) := by rw [u8s_length, hh]
  have HZ3 := Lib.hid hz
  clear hh hz
  have hrd : ∀ W, Rd W (some ⟨b, off, none⟩) 768 (u8s l) → Rd W (some ⟨b, off, none⟩) 288 (u8s (l.take 288)) := fun W h => by
    have := h.cut (A' := some ⟨b, off, none⟩) (m := 288) (k := 0) (by omega) (by omega) (fun _ b' off' e => by injection e with e; injection e with e1 e2; subst e1; subst e2; rfl)
    rwa [List.drop_zero, u8s_take] at this
  have HR := Lib.hid hrd
  clear hrd
  go_enter Try.func34, Try.ntmps34
  have hi34 : (Try.prog.info? 34).map (·.size) = some (u8s (l.take 288)).length := by rw [HZ3.out]; exact hd34
  have H34 := Lib.hid hi34
  have hf34 : (u8s (l.take 288)).length = Y.length := by rw [HZ3.out, HYl.out]
  have HF34 := Lib.hid hf34
  obtain ⟨X, HX, HXl, HX1⟩ : ∃ X : List Value, Hid (X = splice Z 0 (u8s (l.take 288))) ∧ Hid (X.length = 768) ∧ Hid (∀ v ∈ X, v.oneCell' = true) := ⟨_, rfl, by
    show (splice _ _ _).length = _
    rw [length_splice _ _ _ (by rw [HZ3.out, HZl.out]; omega), HZl.out], by
    show ∀ v ∈ splice _ _ _, _
    have hz1 : ∀ v ∈ Z, v.oneCell' = true := by
      have := zc76.symm.trans HZ.out
      have h2 : u8s (List.replicate 768 0) = Z := by simpa using congrArg Array.toList this
      rw [← h2]; exact u8s_one _
    intro v hv
    simp only [splice, List.mem_append] at hv
    rcases hv with hv | hv | hv
    · exact hz1 v (List.mem_of_mem_take hv)
    · exact u8s_one _ v hv
    · exact hz1 v (List.mem_of_mem_drop hv)⟩
  have hbuild : ∀ W, (Instr.build 76 #[(0, .agg (u8s (l.take 288)).toArray)]).run Try.prog W = .ok (.agg X.toArray) W := fun W =>
    run_build Try.zeroValue76 Try.underlying76 (pl76 _ Try.underlying76) (by
      rw [HZ.out]
      show Instr.fill _ _ [(0, _)] = _
      rw [fill_cons (cs := u8s (l.take 288)) rfl (by rw [HZ3.out]; rfl) (by rw [HZ3.out, HZl.out]; omega), HX.out]
      rfl) W
  have HBU := Lib.hid hbuild
  have hi76 : (Try.prog.info? 76).map (·.size) = some X.length := by rw [HXl.out]; exact hd76
  have H76 := Lib.hid hi76
  have hf76 : X.length = Z.length := by rw [HXl.out, HZl.out]
  have HF76 := Lib.hid hf76
  clear hi34 hf34 hbuild hi76 hf76
  go_wp2_with (first
    | (go_at_call 37; refine (hparse_yes _ c (l.take 288) _ (HR.out _ (h.alloc _)) (by omega)).mono ?_; rintro e w1 ⟨rfl, hB1⟩)
    | (refine wpList_store_all rfl 34 (.tmp 4) (.tmp 15) rfl w1.heap.size (u8s (l.take 288)) (by rfl) (by rfl) 34 Y (Blk.new' rfl HY.out) H34.out (u8s_one _) HF34.out ?_
       intro w2 hb2 ho2
       have hs1 : w.heap.size + 1 ≤ w1.heap.size := by have := hB1.size; simp at this; omega
       have hB2 : Below (w.heap.size + 1) (w.alloc (.cells Try.zeroCells76 76)) w2 := ho2.below ((hB1.mono (by simp)).alloc hs1 _) hs1 (by simp; omega)
       have hs2 : w.heap.size + 1 ≤ w2.heap.size := by have := hB2.size; simp at this; omega
       clear ho2 hB1 hs1)
    | (refine wpList_load_mid rfl 34 (.tmp 4) rfl _ 0 (by rfl) (u8s (l.take 288)) _ hb2.range Try.underlying34 rfl H34.out ?_)
    | (refine wpList_build rfl 76 [(0, .tmp 21)] rfl [(0, .agg (u8s (l.take 288)).toArray)] (by rfl) (.agg X.toArray) (HBU.out _) ?_)
    | (refine wpList_store_all rfl 76 (.tmp 6) (.tmp 22) rfl w2.heap.size X (by rfl) (by rfl) 76 Z (Blk.new' rfl HZ.out) H76.out HX1.out HF76.out ?_
       intro w3 hb3 ho3
       have hB3 : Below (w.heap.size + 1) (w.alloc (.cells Try.zeroCells76 76)) w3 := ho3.below (hB2.alloc hs2 _) hs2 (by simp; omega)
       have hs3 : w.heap.size + 1 ≤ w3.heap.size := by have := hB3.size; simp at this; omega
       clear ho3 hB2 hb2))
  have hrest : ∀ W, Rd W (some ⟨b, off, none⟩) 768 (u8s l) → Rd W (some ⟨b, off + 288, none⟩) 480 (u8s (l.drop 288)) := fun W h => by
    have := h.cut (A' := some ⟨b, off + 288, none⟩) (m := 768) (k := 288) (by omega) (by omega) (fun _ b' off' e => by injection e with e; injection e with e1 e2; subst e1; subst e2; rfl)
    rwa [List.take_of_length_le (by rw [u8s_length, Hl.out]; omega), u8s_drop] at this
  have hBw3 : Below w.heap.size w w3 := ((Below.refl _ _).alloc (Nat.le_refl _) _).trans (hB3.mono (by omega))
  have hr3 := hrest _ ((h.below hBw3).drew)
  have HR3 := Lib.hid hr3
  have n288 : ¬ c = 288 := by omega
  have hfx : 288 + 480 ≤ X.length := by rw [HXl.out]; omega
  have hz3 : Blk w3 w.heap.size 76 Z := (Blk.new' (g := w.heap.size) rfl HZ.out).below hB3 (by omega)
  have hs4 : w.heap.size < w2.heap.size := by omega
  clear hrest hr3 hBw3
  go_frame
  go_region_held3 (fun _ => True) (trivial) ((refine step_copy rfl (.tmp 24) (.tmp 26) 29 rfl 5 Try.underlying29 u8_size1 w2.heap.size 288 480 480 (by rfl) (some ⟨b, off + 288, none⟩) 480 (c - 288) (by rfl) 76 X (by exact hb3) (u8s (l.drop 288)) HR3.out (u8s_one _) hfx ?_; intro w4 hb4 ho4))
  have hB4 : Below (w.heap.size + 1) (w.alloc (.cells Try.zeroCells76 76)) w4 := ho4.below hB3.drew hs2 hs3
  have hz4 : Blk w4 w.heap.size 76 Z := ho4.blk hz3.drew (by omega)
  have HF : splice X 288 (List.take 480 (u8s (l.drop 288))) = u8s l := by
    rw [HX.out]
    have hZ := HZl.out
    have hl := Hl.out
    rw [splice_two Z (u8s (l.take 288)) _ 288 HZ3.out (by simp [u8s_length]; omega), u8s_take, ← u8s_append]
    congr 1
    rw [List.take_of_length_le (l := l.drop 288) (by simp; omega), List.take_append_drop]
  rw [HF] at hb4
  have hi : (Try.prog.info? 76).map (·.size) = some (u8s l).length := by rw [u8s_length, Hl.out]; exact hd76
  have HI := Lib.hid hi
  have hfz : (u8s l).length = Z.length := by rw [u8s_length, Hl.out, HZl.out]
  have HFZ := Lib.hid hfz
  clear ho4 hB3 hb3 hz3 HF HR3 hi hfz hfx
  go_wp2_with (first
    | refine wpList_load_mid rfl 76 (.tmp 6) rfl w2.heap.size 0 (by rfl) (u8s l) _ hb4.range Try.underlying76 rfl HI.out ?_
    | (refine wpList_store_all rfl 76 (.tmp 2) (.tmp 28) rfl w.heap.size (u8s l) (by rfl) (by rfl) 76 Z hz4 HI.out (u8s_one _) HFZ.out ?_; intro w5 hb5 ho5))
  have hB5 : Below w.heap.size w w5 := ho5.below (((Below.refl _ _).alloc (Nat.le_refl _) _).trans (hB4.mono (by omega))) (Nat.le_refl _) (by have := hB4.size; simp at this; omega)
  exact bodyPost_ret (res_cell_tmp rfl _ _ _ _ rfl hb5 _ Try.underlying76 rfl HI.out) rfl ⟨rfl, hB5⟩

end Go.Proofs.Ytkpacpkldjfbhaa
