/- surb.Parse: 328 bytes with a number ahead become a reply block; else it is refused. -/
import Derived.Test.YtkpacpkldjfbhaaHb
import Derived.Test.YtkpacpkldjfbhaaGet
import Derived.Test.YtkpacpkldjfbhaaBaseb
namespace Go.Proofs.Ytkpacpkldjfbhaa
open Go.RowKit

theorem hd37 : (Try.prog.info? 37).map (·.size) = some 321 := by kernel_rfl
def z37 : List Value := u8s (rep 288 0) ++ ([.int .u64 0] ++ u8s (rep 32 0))
theorem z37_len : z37.length = 321 := by simp [z37, u8s_length, rep_length]
theorem zc37 : Try.zeroCells37 = z37.toArray := by kernel_rfl
theorem zc34r : Try.zeroCells34 = (u8s (rep 288 0)).toArray := by kernel_rfl
theorem z37_one : ∀ v ∈ z37, v.oneCell' = true := by
  intro v hv
  simp only [z37, List.mem_append, List.mem_singleton] at hv
  rcases hv with hv | hv | hv
  · exact u8s_one _ v hv
  · subst hv; rfl
  · exact u8s_one _ v hv
def blkCells (l : List UInt8) : List Value := u8s ((l.drop 8).take 288) ++ ([.int .u64 (beNat (l.take 8))] ++ u8s (l.drop 296))
theorem blkCells_len (l : List UInt8) (h : l.length = 328) : (blkCells l).length = 321 := by simp [blkCells, u8s_length, h]
theorem blkCells_one (l : List UInt8) : ∀ v ∈ blkCells l, v.oneCell' = true := by
  intro v hv
  simp only [blkCells, List.mem_append, List.mem_singleton] at hv
  rcases hv with hv | hv | hv
  · exact u8s_one _ v hv
  · subst hv; rfl
  · exact u8s_one _ v hv

def places37 : Array (Nat × Nat) := #[(0, 288), (288, 1), (289, 32)]
theorem pl37 (fields : Array Field) (h : Try.prog.underlying 37 = some (.struct fields)) (w : World) : (fields.mapM (fun f => do pure (f.offset, ← sizeOf f.type)) : Sem (Array (Nat × Nat))).run Try.prog w = .ok places37 w := by
  rw [Try.underlying37] at h
  injection h with h
  injection h with h
  subst h
  kernel_rfl
theorem build37_0 (w : World) : (Instr.build 37 #[]).run Try.prog w = .ok (.agg z37.toArray) w := by rw [← zc37]; kernel_rfl

theorem ldq_37 (v : Value) : Instr.loadAt 37 v = ldAt 37 v := rfl
theorem stq_37 (p v : Value) : Instr.storeAt 37 p v = stAt 37 p v := rfl
theorem ldq_34s (v : Value) : Instr.loadAt 34 v = ldAt 34 v := rfl
theorem stq_34s (p v : Value) : Instr.storeAt 34 p v = stAt 34 p v := rfl
attribute [local go_sem ↓] ldq_37 stq_37 ldq_34s stq_34s

set_option maxRecDepth 100000 in
set_option maxHeartbeats 400000 in
theorem sparse_no (A : Option Addr) (n c : Nat) (w : World) (hn : ¬ n = 328) :
    Calls Try.prog 14 #[.slice A n c] w fun e w' => e = .returned (.tuple #[.agg z37.toArray, .int .i64 2]) ∧ Below w.heap.size w w' := by
  have hne : ((n : Int) != 328) = true := by rw [bne_iff_ne]; omega
  clear hn
  go_enter Try.func14, Try.ntmps14
  go_wp2_with (first
    | refine wpList_build rfl 37 [] rfl [] (by rfl) _ (build37_0 _) ?_
    | (refine wpList_store_all rfl 37 (.tmp 2) (.tmp 11) rfl w.heap.size z37 (by rfl) (by rfl) 37 z37 (Blk.new' rfl zc37) (by rw [z37_len]; exact hd37) z37_one rfl ?_; intro w4 hb4 ho4))
  have hB4 : Below w.heap.size w w4 := ho4.below ((Below.refl _ _).alloc (Nat.le_refl _) _) (Nat.le_refl _) (by simp)
  exact bodyPost_ret (res_cell_tmp rfl _ _ _ _ rfl hb4 _ Try.underlying37 rfl (by rw [z37_len]; exact hd37)) rfl ⟨rfl, hB4⟩

set_option maxRecDepth 100000 in
set_option maxHeartbeats 400000 in
theorem sparse_zero (A : Option Addr) (c : Nat) (l : List UInt8) (w : World) (h : Rd w A 328 (u8s l)) (h0 : beNat (l.take 8) = 0) :
    Calls Try.prog 14 #[.slice A 328 c] w fun e w' => e = .returned (.tuple #[.agg z37.toArray, .int .i64 3]) ∧ Below w.heap.size w w' := by
  have H0 := Lib.hid h0
  clear h0
  have hg := get_2 A 328 c 0 8 l (w.alloc (.cells Try.zeroCells37 37)) (h.alloc _) (by omega) (by omega) (by omega) (by omega)
  rw [List.drop_zero, H0.out] at hg
  have HG := Lib.hid hg
  clear hg
  go_enter Try.func14, Try.ntmps14
  go_wp2_with (first
    | (go_at_call 36; refine HG.out.mono ?_; rintro e w1 ⟨rfl, rfl⟩)
    | refine wpList_build rfl 37 [] rfl [] (by rfl) _ (build37_0 _) ?_
    | (refine wpList_store_all rfl 37 (.tmp 2) (.tmp 23) rfl w.heap.size z37 (by rfl) (by rfl) 37 z37 (Blk.new' rfl zc37) (by rw [z37_len]; exact hd37) z37_one rfl ?_; intro w4 hb4 ho4))
  have hB4 : Below w.heap.size w w4 := ho4.below ((Below.refl _ _).alloc (Nat.le_refl _) _) (Nat.le_refl _) (by simp)
  exact bodyPost_ret (res_cell_tmp rfl _ _ _ _ rfl hb4 _ Try.underlying37 rfl (by rw [z37_len]; exact hd37)) rfl ⟨rfl, hB4⟩

def halfCells (l : List UInt8) : List Value := u8s ((l.drop 8).take 288) ++ ([.int .u64 (beNat (l.take 8))] ++ u8s (rep 32 0))
theorem halfCells_len (l : List UInt8) (h : l.length = 328) : (halfCells l).length = 321 := by simp [halfCells, u8s_length, h, rep_length]
theorem halfCells_one (l : List UInt8) : ∀ v ∈ halfCells l, v.oneCell' = true := by
  intro v hv
  simp only [halfCells, List.mem_append, List.mem_singleton] at hv
  rcases hv with hv | hv | hv
  · exact u8s_one _ v hv
  · subst hv; rfl
  · exact u8s_one _ v hv
theorem splice_mid {α : Type} (A B C B' : List α) (k : Nat) (hk : A.length = k) (hb : B'.length = B.length) : splice (A ++ (B ++ C)) k B' = A ++ (B' ++ C) := by
  subst hk
  unfold splice
  rw [List.take_left, hb, ← List.append_assoc A B C, show A.length + B.length = (A ++ B).length from by simp, List.drop_left]
theorem splice_front {α : Type} (A B A' : List α) (h : A'.length = A.length) : splice (A ++ B) 0 A' = A' ++ B := by
  have := splice_mid ([] : List α) A B A' 0 rfl h
  simpa using this
theorem splice_back {α : Type} (A B B' : List α) (k : Nat) (hk : A.length = k) (h : B'.length = B.length) : splice (A ++ B) k B' = A ++ B' := by
  have := splice_mid A B [] B' k hk h
  simpa using this
theorem build37_2 (l : List UInt8) (h : l.length = 328) (w : World) : (Instr.build 37 #[(0, .agg (u8s ((l.drop 8).take 288)).toArray), (1, .int .u64 (beNat (l.take 8)))]).run Try.prog w = .ok (.agg (halfCells l).toArray) w := by
  have e0 : (u8s ((l.drop 8).take 288)).length = 288 := by simp [u8s_length, h]
  refine run_build Try.zeroValue37 Try.underlying37 (pl37 _ Try.underlying37) ?_ w
  rw [zc37]
  show Instr.fill _ _ [(0, _), (1, _)] = _
  rw [fill_cons (cs := u8s ((l.drop 8).take 288)) rfl (by rw [e0]; rfl) (by rw [e0, z37_len]; omega), z37, splice_front _ _ _ (by rw [e0, u8s_length, rep_length]),
    fill_cons (cs := [.int .u64 (beNat (l.take 8))]) rfl rfl (by simp [u8s_length, rep_length, h]), splice_mid _ [.int .u64 0] _ [.int .u64 (beNat (l.take 8))] 288 e0 (by simp)]
  rfl

set_option maxRecDepth 100000 in
set_option maxHeartbeats 400000 in
theorem sparse_yes (A : Option Addr) (c : Nat) (l : List UInt8) (w : World) (h : Rd w A 328 (u8s l)) (hc : 328 ≤ c) (h0 : beNat (l.take 8) ≠ 0) :
    Calls Try.prog 14 #[.slice A 328 c] w fun e w' => e = .returned (.tuple #[.agg (blkCells l).toArray, .int .i64 0]) ∧ Below w.heap.size w w' := by
  have hl := h.len
  obtain ⟨b, off, rfl, hb, hcell⟩ := h.2 (by omega)
  have Hl := Lib.hid hl
  clear hl hcell
  have hg := get_2 (some ⟨b, off, none⟩) 328 c 0 8 l (w.alloc (.cells Try.zeroCells37 37)) (h.alloc _) (by omega) (by omega) (by omega) (by omega)
  rw [List.drop_zero] at hg
  have HBU := Lib.hid (build37_2 l Hl.out)
  obtain ⟨X, HX, HXl, HX1⟩ : ∃ X : List Value, Hid (X = halfCells l) ∧ Hid (X.length = 321) ∧ Hid (∀ v ∈ X, v.oneCell' = true) := ⟨_, rfl, halfCells_len l Hl.out, halfCells_one l⟩
  have hbu := HBU.out
  rw [← HX.out] at hbu
  have HBV := Lib.hid hbu
  clear hbu HBU
  have hz0 : ((beNat (l.take 8) : Int) == 0) = false := by simpa using h0
  generalize beNat (l.take 8) = F at hg HBV hz0
  have HG := Lib.hid hg
  clear hg h0
  have hh : ((l.drop 8).take 288).length = 288 := by rw [List.length_take, List.length_drop, Hl.out]; rfl
  have hrd : ∀ W, Rd W (some ⟨b, off, none⟩) 328 (u8s l) → Rd W (some ⟨b, off + 8, none⟩) 288 (u8s ((l.drop 8).take 288)) := fun W h => by
    have := h.cut (A' := some ⟨b, off + 8, none⟩) (m := 296) (k := 8) (by omega) (by omega) (fun _ b' off' e => by injection e with e; injection e with e1 e2; subst e1; subst e2; rfl)
    rw [u8s_take, u8s_drop, List.drop_take] at this
    exact this
  have hrk : ∀ W, Rd W (some ⟨b, off, none⟩) 328 (u8s l) → Rd W (some ⟨b, off + 296, none⟩) 32 (u8s (l.drop 296)) := fun W h => by
    have := h.cut (A' := some ⟨b, off + 296, none⟩) (m := 328) (k := 296) (by omega) (by omega) (fun _ b' off' e => by injection e with e; injection e with e1 e2; subst e1; subst e2; rfl)
    rwa [List.take_of_length_le (by rw [u8s_length, Hl.out]; omega), u8s_drop] at this
  have HR := Lib.hid hrd
  have HRK := Lib.hid hrk
  have hi34 : (Try.prog.info? 34).map (·.size) = some (u8s ((l.drop 8).take 288)).length := by rw [u8s_length, hh]; exact hd34
  have H34 := Lib.hid hi34
  have hf34 : (u8s ((l.drop 8).take 288)).length = (u8s (rep 288 0)).length := by rw [u8s_length, hh, u8s_length, rep_length]
  have HF34 := Lib.hid hf34
  have hi37 : (Try.prog.info? 37).map (·.size) = some X.length := by rw [HXl.out]; exact hd37
  have H37 := Lib.hid hi37
  have hf37 : X.length = z37.length := by rw [HXl.out, z37_len]
  have HF37 := Lib.hid hf37
  have n8 : ¬ c = 8 := by omega
  have n296 : ¬ c = 296 := by omega
  clear hh hrd hrk hi34 hf34 hi37 hf37
  go_enter Try.func14, Try.ntmps14
  go_wp2_with (first
    | (go_at_call 36; refine HG.out.mono ?_; rintro e w0 ⟨rfl, rfl⟩)
    | (go_at_call 37; refine (hparse_yes _ (c - 8) ((l.drop 8).take 288) _ (HR.out _ (h.alloc _)) (by omega)).mono ?_; rintro e w1 ⟨rfl, hB1⟩)
    | (refine wpList_store_all rfl 34 (.tmp 6) (.tmp 28) rfl w1.heap.size (u8s ((l.drop 8).take 288)) (by rfl) (by rfl) 34 (u8s (rep 288 0)) (Blk.new' rfl zc34r) H34.out (u8s_one _) HF34.out ?_
       intro w2 hb2 ho2
       have hs1 : w.heap.size + 1 ≤ w1.heap.size := by have := hB1.size; simp at this; omega
       have hB2 : Below (w.heap.size + 1) (w.alloc (.cells Try.zeroCells37 37)) w2 := ho2.below ((hB1.mono (by simp)).alloc hs1 _) hs1 (by simp; omega)
       have hs2 : w.heap.size + 1 ≤ w2.heap.size := by have := hB2.size; simp at this; omega
       clear ho2 hB1 hs1)
    | (refine wpList_load_mid rfl 34 (.tmp 6) rfl _ 0 (by rfl) (u8s ((l.drop 8).take 288)) _ hb2.range Try.underlying34 rfl H34.out ?_)
    | (refine wpList_build rfl 37 [(0, .tmp 34), (1, .tmp 35)] rfl _ (by rfl) (.agg X.toArray) (HBV.out _) ?_)
    | (refine wpList_store_all rfl 37 (.tmp 7) (.tmp 36) rfl w2.heap.size X (by rfl) (by rfl) 37 z37 (Blk.new' rfl zc37) H37.out HX1.out HF37.out ?_
       intro w3 hb3 ho3
       have hB3 : Below (w.heap.size + 1) (w.alloc (.cells Try.zeroCells37 37)) w3 := ho3.below (hB2.alloc hs2 _) hs2 (by simp; omega)
       have hs3 : w.heap.size + 1 ≤ w3.heap.size := by have := hB3.size; simp at this; omega
       clear ho3 hB2 hb2))
  have hBw3 : Below w.heap.size w w3 := ((Below.refl _ _).alloc (Nat.le_refl _) _).trans (hB3.mono (by omega))
  have HR3 := Lib.hid (HRK.out _ ((h.below hBw3).drew))
  have hfx : 289 + 32 ≤ X.length := by rw [HXl.out]; omega
  have hz3 : Blk w3 w.heap.size 37 z37 := (Blk.new' (g := w.heap.size) rfl zc37).below hB3 (by omega)
  have hs4 : w.heap.size < w2.heap.size := by omega
  clear hBw3
  go_frame
  go_region_held3 (fun _ => True) (trivial) ((refine step_copy rfl (.tmp 38) (.tmp 40) 29 rfl 5 Try.underlying29 u8_size1 w2.heap.size 289 32 32 (by rfl) (some ⟨b, off + 296, none⟩) 32 (c - 296) (by rfl) 37 X (by exact hb3) (u8s (l.drop 296)) HR3.out (u8s_one _) hfx ?_; intro w4 hb4 ho4))
  have hB4 : Below (w.heap.size + 1) (w.alloc (.cells Try.zeroCells37 37)) w4 := ho4.below hB3.drew hs2 hs3
  have hz4 : Blk w4 w.heap.size 37 z37 := ho4.blk hz3.drew (by omega)
  have HF : splice X 289 (List.take 32 (u8s (l.drop 296))) = blkCells l := by
    have hl := Hl.out
    rw [HX.out, List.take_of_length_le (by rw [u8s_length, List.length_drop, hl]; omega), halfCells, ← List.append_assoc, splice_back _ _ _ _ (by simp [u8s_length, hl]) (by simp [u8s_length, hl, rep_length]), blkCells, List.append_assoc]
  rw [HF] at hb4
  have HI : Hid ((Try.prog.info? 37).map (·.size) = some (blkCells l).length) := by show _ = _; rw [blkCells_len l Hl.out]; exact hd37
  have HFZ : Hid ((blkCells l).length = z37.length) := by show _ = _; rw [blkCells_len l Hl.out, z37_len]
  clear ho4 hB3 hb3 hz3 HF HR3 hfx
  go_wp2_with (first
    | refine wpList_load_mid rfl 37 (.tmp 7) rfl w2.heap.size 0 (by rfl) (blkCells l) _ hb4.range Try.underlying37 rfl HI.out ?_
    | (refine wpList_store_all rfl 37 (.tmp 2) (.tmp 42) rfl w.heap.size (blkCells l) (by rfl) (by rfl) 37 z37 hz4 HI.out (blkCells_one l) HFZ.out ?_; intro w5 hb5 ho5))
  have hB5 : Below w.heap.size w w5 := ho5.below (((Below.refl _ _).alloc (Nat.le_refl _) _).trans (hB4.mono (by omega))) (Nat.le_refl _) (by have := hB4.size; simp at this; omega)
  exact bodyPost_ret (res_cell_tmp rfl _ _ _ _ rfl hb5 _ Try.underlying37 rfl HI.out) rfl ⟨rfl, hB5⟩

end Go.Proofs.Ytkpacpkldjfbhaa
