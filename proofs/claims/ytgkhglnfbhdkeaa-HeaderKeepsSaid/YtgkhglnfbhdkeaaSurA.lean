/- surb.Parse: 328 bytes with a number ahead become a reply block; else it is refused. -/
import Derived.Test.YtgkhglnfbhdkeaaHdA
import Derived.Test.YtgkhglnfbhdkeaaGet
import Derived.Test.YtgkhglnfbhdkeaaRg
namespace Go.Proofs.Ytgkhglnfbhdkeaa
open Go.RowKit

theorem hd37 : (Try.prog.info? 31).map (·.size) = some 321 := by kernel_rfl
def z37 : List Value := u8s (rep 288 0) ++ ([.int .u64 0] ++ u8s (rep 32 0))
theorem z37_len : z37.length = 321 := by simp [z37, u8s_length, rep_length]
theorem zc37 : Try.zeroCells31 = z37.toArray := by kernel_rfl
theorem zc34r : Try.zeroCells28 = (u8s (rep 288 0)).toArray := by kernel_rfl
theorem z37_one : ∀ v ∈ z37, v.oneCell' = true := by
  intro v hv
  simp only [z37, List.mem_append, List.mem_singleton] at hv
  rcases hv with hv | hv | hv
  · exact u8s_one _ v hv
  · subst hv; rfl
  · exact u8s_one _ v hv
def blkCells (l : List UInt8) : List Value := u8s ((l.drop 8).take 288) ++ ([.int .u64 (beNat (l.take 8))] ++ u8s (l.drop 296))
theorem blkCells_len (l : List UInt8) (h : l.length = 328) : (blkCells l).length = 321 := by simp [blkCells, u8s_length, h]
theorem blkCells_one (l : List UInt8) : ∀ v ∈ blkCells l, v.oneCell' = true := by
  intro v hv
  simp only [blkCells, List.mem_append, List.mem_singleton] at hv
  rcases hv with hv | hv | hv
  · exact u8s_one _ v hv
  · subst hv; rfl
  · exact u8s_one _ v hv

def places37 : Array (Nat × Nat) := #[(0, 288), (288, 1), (289, 32)]
theorem pl37 (fields : Array Field) (h : Try.prog.underlying 31 = some (.struct fields)) (w : World) : (fields.mapM (fun f => do pure (f.offset, ← sizeOf f.type)) : Sem (Array (Nat × Nat))).run Try.prog w = .ok places37 w := by
  rw [Try.underlying31] at h
  injection h with h
  injection h with h
  subst h
  kernel_rfl
theorem build37_0 (w : World) : (Instr.build 31 #[]).run Try.prog w = .ok (.agg z37.toArray) w := by rw [← zc37]; kernel_rfl

theorem ldq_37 (v : Value) : Instr.loadAt 31 v = ldAt 31 v := rfl
theorem stq_37 (p v : Value) : Instr.storeAt 31 p v = stAt 31 p v := rfl
theorem ldq_34s (v : Value) : Instr.loadAt 28 v = ldAt 28 v := rfl
theorem stq_34s (p v : Value) : Instr.storeAt 28 p v = stAt 28 p v := rfl
attribute [local go_sem ↓] ldq_37 stq_37 ldq_34s stq_34s

set_option maxRecDepth 100000 in
set_option maxHeartbeats 400000 in
theorem sparse_no (A : Option Addr) (n c : Nat) (w : World) (hn : ¬ n = 328) :
    Calls Try.prog 9 #[.slice A n c] w fun e w' => e = .returned (.tuple #[.agg z37.toArray, .int .i64 2]) ∧ Below w.heap.size w w' := by
  have hne : ((n : Int) != 328) = true := by rw [bne_iff_ne]; omega
  clear hn
  go_enter Try.func9, Try.ntmps9
  go_wp2_with (first
    | refine wpList_build rfl 31 [] rfl [] (by rfl) _ (build37_0 _) ?_
    | (refine wpList_store_all rfl 31 (.tmp 2) (.tmp 11) rfl w.heap.size z37 (by rfl) (by rfl) 31 z37 (Blk.new' rfl zc37) (by rw [z37_len]; exact hd37) z37_one rfl ?_; intro w4 hb4 ho4))
  have hB4 : Below w.heap.size w w4 := ho4.below ((Below.refl _ _).alloc (Nat.le_refl _) _) (Nat.le_refl _) (by simp)
  exact bodyPost_ret (res_cell_tmp rfl _ _ _ _ rfl hb4 _ Try.underlying31 rfl (by rw [z37_len]; exact hd37)) rfl ⟨rfl, hB4⟩

set_option maxRecDepth 100000 in
set_option maxHeartbeats 400000 in
theorem sparse_zero (A : Option Addr) (c : Nat) (l : List UInt8) (w : World) (h : Rd w A 328 (u8s l)) (h0 : beNat (l.take 8) = 0) :
    Calls Try.prog 9 #[.slice A 328 c] w fun e w' => e = .returned (.tuple #[.agg z37.toArray, .int .i64 3]) ∧ Below w.heap.size w w' := by
  have H0 := Lib.hid h0
  clear h0
  have hg := get_2 A 328 c 0 8 l (w.alloc (.cells Try.zeroCells31 31)) (h.alloc _) (by omega) (by omega) (by omega) (by omega)
  rw [List.drop_zero, H0.out] at hg
  have HG := Lib.hid hg
  clear hg
  go_enter Try.func9, Try.ntmps9
  go_wp2_with (first
    | (go_at_call 34; refine HG.out.mono ?_; rintro e w1 ⟨rfl, rfl⟩)
    | refine wpList_build rfl 31 [] rfl [] (by rfl) _ (build37_0 _) ?_
    | (refine wpList_store_all rfl 31 (.tmp 2) (.tmp 23) rfl w.heap.size z37 (by rfl) (by rfl) 31 z37 (Blk.new' rfl zc37) (by rw [z37_len]; exact hd37) z37_one rfl ?_; intro w4 hb4 ho4))
  have hB4 : Below w.heap.size w w4 := ho4.below ((Below.refl _ _).alloc (Nat.le_refl _) _) (Nat.le_refl _) (by simp)
  exact bodyPost_ret (res_cell_tmp rfl _ _ _ _ rfl hb4 _ Try.underlying31 rfl (by rw [z37_len]; exact hd37)) rfl ⟨rfl, hB4⟩

def halfCells (l : List UInt8) : List Value := u8s ((l.drop 8).take 288) ++ ([.int .u64 (beNat (l.take 8))] ++ u8s (rep 32 0))
theorem halfCells_len (l : List UInt8) (h : l.length = 328) : (halfCells l).length = 321 := by simp [halfCells, u8s_length, h, rep_length]
theorem halfCells_one (l : List UInt8) : ∀ v ∈ halfCells l, v.oneCell' = true := by
  intro v hv
  simp only [halfCells, List.mem_append, List.mem_singleton] at hv
  rcases hv with hv | hv | hv
  · exact u8s_one _ v hv
  · subst hv; rfl
  · exact u8s_one _ v hv
theorem splice_mid {α : Type} (A B C B' : List α) (k : Nat) (hk : A.length = k) (hb : B'.length = B.length) : splice (A ++ (B ++ C)) k B' = A ++ (B' ++ C) := by
  subst hk
  unfold splice
  rw [List.take_left, hb, ← List.append_assoc A B C, show A.length + B.length = (A ++ B).length from by simp, List.drop_left]
theorem splice_front {α : Type} (A B A' : List α) (h : A'.length = A.length) : splice (A ++ B) 0 A' = A' ++ B := by
  have := splice_mid ([] : List α) A B A' 0 rfl h
  simpa using this
theorem splice_back {α : Type} (A B B' : List α) (k : Nat) (hk : A.length = k) (h : B'.length = B.length) : splice (A ++ B) k B' = A ++ B' := by
  have := splice_mid A B [] B' k hk h
  simpa using this
theorem build37_2 (l : List UInt8) (h : l.length = 328) (w : World) : (Instr.build 31 #[(0, .agg (u8s ((l.drop 8).take 288)).toArray), (1, .int .u64 (beNat (l.take 8)))]).run Try.prog w = .ok (.agg (halfCells l).toArray) w := by
  have e0 : (u8s ((l.drop 8).take 288)).length = 288 := by simp [u8s_length, h]
  refine run_build Try.zeroValue31 Try.underlying31 (pl37 _ Try.underlying31) ?_ w
  rw [zc37]
  show Instr.fill _ _ [(0, _), (1, _)] = _
  rw [fill_cons (cs := u8s ((l.drop 8).take 288)) rfl (by rw [e0]; rfl) (by rw [e0, z37_len]; omega), z37, splice_front _ _ _ (by rw [e0, u8s_length, rep_length]),
    fill_cons (cs := [.int .u64 (beNat (l.take 8))]) rfl rfl (by simp [u8s_length, rep_length, h]), splice_mid _ [.int .u64 0] _ [.int .u64 (beNat (l.take 8))] 288 e0 (by simp)]
  rfl

set_option maxRecDepth 100000 in
set_option maxHeartbeats 400000 in
theorem sparse_yes (A : Option Addr) (c : Nat) (l : List UInt8) (w : World) (h : Rd w A 328 (u8s l)) (hc : 328 ≤ c) (h0 : beNat (l.take 8) ≠ 0) :
    Calls Try.prog 9 #[.slice A 328 c] w fun e w' => e = .returned (.tuple #[.agg (blkCells l).toArray, .int .i64 0]) ∧ Below w.heap.size w w' := by
  have hl := h.len
  obtain ⟨b, off, rfl, hb, hcell⟩ := h.2 (by omega)
  have Hl := Lib.hid hl
  clear hl hcell
  have hg := get_2 (some ⟨b, off, none⟩) 328 c 0 8 l (w.alloc (.cells Try.zeroCells31 31)) (h.alloc _) (by omega) (by omega) (by omega) (by omega)
  rw [List.drop_zero] at hg
  have HBU := Lib.hid (build37_2 l Hl.out)
  obtain ⟨X, HX, HXl, HX1⟩ : ∃ X : List Value, Hid (X = halfCells l) ∧ Hid (X.length = 321) ∧ Hid (∀ v ∈ X, v.oneCell' = true) := ⟨_, rfl, halfCells_len l Hl.out, halfCells_one l⟩
  have hbu := HBU.out
  rw [← HX.out] at hbu
  have HBV := Lib.hid hbu
  clear hbu HBU
  have hz0 : ((beNat (l.take 8) : Int) == 0) = false := by simpa using h0
  generalize beNat (l.take 8) = F at hg HBV hz0
  have HG := Lib.hid hg
  clear hg h0
  have hh : ((l.drop 8).take 288).length = 288 := by rw [List.length_take, List.length_drop, Hl.out]; rfl
  have hrd : ∀ W, Rd W (some ⟨b, off, none⟩) 328 (u8s l) → Rd W (some ⟨b, off + 8, none⟩) 288 (u8s ((l.drop 8).take 288)) := fun W h => by
    have := h.cut (A' := some ⟨b, off + 8, none⟩) (m := 296) (k := 8) (by omega) (by omega) (fun _ b' off' e => by injection e with e; injection e with e1 e2; subst e1; subst e2; rfl)
    rw [u8s_take, u8s_drop, List.drop_take] at this
    exact this
  have hrk : ∀ W, Rd W (some ⟨b, off, none⟩) 328 (u8s l) → Rd W (some ⟨b, off + 296, none⟩) 32 (u8s (l.drop 296)) := fun W h => by
    have := h.cut (A' := some ⟨b, off + 296, none⟩) (m := 328) (k := 296) (by omega) (by omega) (fun _ b' off' e => by injection e with e; injection e with e1 e2; subst e1; subst e2; rfl)
    rwa [List.take_of_length_le (by rw [u8s_length, Hl.out]; omega), u8s_drop] at this
  have HR := Lib.hid hrd
  have HRK := Lib.hid hrk
  have hi34 : (Try.prog.info? 28).map (·.size) = some (u8s ((l.drop 8).take 288)).length := by rw [u8s_length, hh]; exact hd34
  have H34 := Lib.hid hi34
  have hf34 : (u8s ((l.drop 8).take 288)).length = (u8s (rep 288 0)).length := by rw [u8s_length, hh, u8s_length, rep_length]
  have HF34 := Lib.hid hf34
  have hi37 : (Try.prog.info? 31).map (·.size) = some X.length := by rw [HXl.out]; exact hd37
  have H37 := Lib.hid hi37
  have hf37 : X.length = z37.length := by rw [HXl.out, z37_len]
  have HF37 := Lib.hid hf37
  have n8 : ¬ c = 8 := by omega
  have n296 : ¬ c = 296 := by omega
  clear hh hrd hrk hi34 hf34 hi37 hf37
  go_enter Try.func9, Try.ntmps9
  go_wp2_with (first
    | (go_at_call 34; refine HG.out.mono ?_; rintro e w0 ⟨rfl, rfl⟩)
    | (go_at_call 21; refine (hparse_yes _ (c - 8) ((l.drop 8).take 288) _ (HR.out _ (h.alloc _)) (by omega)).mono ?_; rintro e w1 ⟨rfl, hB1⟩)
    | (refine wpList_store_all rfl 28 (.tmp 6) (.tmp 28) rfl w1.heap.size (u8s ((l.drop 8).take 288)) (by rfl) (by rfl) 28 (u8s (rep 288 0)) (Blk.new' rfl zc34r) H34.out (u8s_one _) HF34.out ?_
       intro w2 hb2 ho2
       have hs1 : w.heap.size + 1 ≤ w1.heap.size := by have := hB1.size; simp at this; omega
       have hB2 : Below (w.heap.size + 1) (w.alloc (.cells Try.zeroCells31 31)) w2 := ho2.below ((hB1.mono (by simp)).alloc hs1 _) hs1 (by simp; omega)
       have hs2 : w.heap.size + 1 ≤ w2.heap.size := by have := hB2.size; simp at this; omega
       clear ho2 hB1 hs1)
    | (refine wpList_load_mid rfl 28 (.tmp 6) rfl _ 0 (by rfl) (u8s ((l.drop 8).take 288)) _ hb2.range Try.underlying28 rfl H34.out ?_)
    | (refine wpList_build rfl 31 [(0, .tmp 34), (1, .tmp 35)] rfl _ (by rfl) (.agg X.toArray) (HBV.out _) ?_)
    | (refine wpList_store_all rfl 31 (.tmp 7) (.tmp 36) rfl w2.heap.size X (by rfl) (by rfl) 31 z37 (Blk.new' rfl zc37) H37.out HX1.out HF37.out ?_
       intro w3 hb3 ho3
       have hB3 : Below (w.heap.size + 1) (w.alloc (.cells Try.zeroCells31 31)) w3 := ho3.below (hB2.alloc hs2 _) hs2 (by simp; omega)
       have hs3 : w.heap.size + 1 ≤ w3.heap.size := by have := hB3.size; simp at this; omega
       clear ho3 hB2 hb2))
  have hBw3 : Below w.heap.size w w3 := ((Below.refl _ _).alloc (Nat.le_refl _) _).trans (hB3.mono (by omega))
  have HR3 := Lib.hid (HRK.out _ ((h.below hBw3).drew))
  have hfx : 289 + 32 ≤ X.length := by rw [HXl.out]; omega
  have hz3 : Blk w3 w.heap.size 31 z37 := (Blk.new' (g := w.heap.size) rfl zc37).below hB3 (by omega)
  have hs4 : w.heap.size < w2.heap.size := by omega
  clear hBw3
  go_frame
  go_region_held3 (fun _ => True) (trivial) ((refine step_copy rfl (.tmp 38) (.tmp 40) 22 rfl 5 Try.underlying22 u8_size1 w2.heap.size 289 32 32 (by rfl) (some ⟨b, off + 296, none⟩) 32 (c - 296) (by rfl) 31 X (by exact hb3) (u8s (l.drop 296)) HR3.out (u8s_one _) hfx ?_; intro w4 hb4 ho4))
  have hB4 : Below (w.heap.size + 1) (w.alloc (.cells Try.zeroCells31 31)) w4 := ho4.below hB3.drew hs2 hs3
  have hz4 : Blk w4 w.heap.size 31 z37 := ho4.blk hz3.drew (by omega)
  have HF : splice X 289 (List.take 32 (u8s (l.drop 296))) = blkCells l := by
    have hl := Hl.out
    rw [HX.out, List.take_of_length_le (by rw [u8s_length, List.length_drop, hl]; omega), halfCells, ← List.append_assoc, splice_back _ _ _ _ (by simp [u8s_length, hl]) (by simp [u8s_length, hl, rep_length]), blkCells, List.append_assoc]
  rw [HF] at hb4
  have HI : Hid ((Try.prog.info? 31).map (·.size) = some (blkCells l).length) := by show _ = _; rw [blkCells_len l Hl.out]; exact hd37
  have HFZ : Hid ((blkCells l).length = z37.length) := by show _ = _; rw [blkCells_len l Hl.out, z37_len]
  clear ho4 hB3 hb3 hz3 HF HR3 hfx
  go_wp2_with (first
    | refine wpList_load_mid rfl 31 (.tmp 7) rfl w2.heap.size 0 (by rfl) (blkCells l) _ hb4.range Try.underlying31 rfl HI.out ?_
    | (refine wpList_store_all rfl 31 (.tmp 2) (.tmp 42) rfl w.heap.size (blkCells l) (by rfl) (by rfl) 31 z37 hz4 HI.out (blkCells_one l) HFZ.out ?_; intro w5 hb5 ho5))
  have hB5 : Below w.heap.size w w5 := ho5.below (((Below.refl _ _).alloc (Nat.le_refl _) _).trans (hB4.mono (by omega))) (Nat.le_refl _) (by have := hB4.size; simp at this; omega)
  exact bodyPost_ret (res_cell_tmp rfl _ _ _ _ rfl hb5 _ Try.underlying31 rfl HI.out) rfl ⟨rfl, hB5⟩

end Go.Proofs.Ytgkhglnfbhdkeaa

/- Block.Bytes: the 328 bytes of a reply block. -/
namespace Go.Proofs.Ytgkhglnfbhdkeaa
open Go.RowKit

attribute [local go_sem ↓] ldq_37 stq_37 ldq_34s stq_34s

theorem beNat_append (a b : List UInt8) : beNat (a ++ b) = beNat a * 256 ^ b.length + beNat b := by
  rw [← beNat_from]
  simp [beNat]
theorem byte_of_be (l : List UInt8) (k : Nat) (x : UInt8) (hk : k < 8) (hl : 8 ≤ l.length) (hx : l[k]? = some x) : (beNat (l.take 8) : Int) / 2 ^ (8 * (7 - k)) % 256 = (x.toNat : Int) := by
  have e : l.take 8 = l.take (k + 1) ++ (l.take 8).drop (k + 1) := by
    have := (List.take_append_drop (k + 1) (l.take 8)).symm
    rwa [List.take_take, Nat.min_eq_left (by omega)] at this
  have hlen : ((l.take 8).drop (k + 1)).length = 7 - k := by simp; omega
  have h1 := beNat_append (l.take (k + 1)) ((l.take 8).drop (k + 1))
  rw [← e, hlen] at h1
  have h2 := beNat_lt ((l.take 8).drop (k + 1))
  rw [hlen] at h2
  have h3 : beNat (l.take (k + 1)) = beNat (l.take k) * 256 + x.toNat := by rw [List.take_add_one, hx]; exact beNat_snoc _ _
  have h4 : (2 : Nat) ^ (8 * (7 - k)) = 256 ^ (7 - k) := by rw [Nat.pow_mul]
  have h5 : beNat (l.take 8) / 2 ^ (8 * (7 - k)) = beNat (l.take k) * 256 + x.toNat := by
    rw [h1, h4, h3, Nat.mul_comm, Nat.mul_add_div (Nat.pos_of_ne_zero (by simp)), Nat.div_eq_of_lt h2, Nat.add_zero]
  have h6 : ((beNat (l.take 8) / 2 ^ (8 * (7 - k)) % 256 : Nat) : Int) = (x.toNat : Int) := by
    rw [h5]
    have := x.toNat_lt
    omega
  simpa using h6

set_option maxRecDepth 100000 in
set_option maxHeartbeats 400000 in
theorem sbytes_any (l : List UInt8) (w : World) (hl : l.length = 328) :
    Calls Try.prog 33 #[.agg (blkCells l).toArray] w fun e w' => ∃ A' c', e = .returned (.slice A' 328 c') ∧ 328 ≤ c' ∧ w'.ownsRow w.heap.size 5 1 (.slice A' 328 c') 328 (u8s l) ∧ Below w.heap.size w w' := by
  have Hl := Lib.hid hl
  clear hl
  go_enter Try.func33, Try.ntmps33
  have hat : (blkCells l)[288]? = some (.int .u64 (beNat (l.take 8))) := by
    unfold blkCells
    rw [List.getElem?_append_right (by simp [u8s_length]; omega)]
    simp [u8s_length, Hl.out]
  have HAT := Lib.hid hat
  clear hat
  generalize hF : beNat (l.take 8) = F at HAT
  have HF := Lib.hid hF
  clear hF
  go_wp2_with fail
  go_loopw [5] (fun i wr => ∃ k : Nat, k ≤ 8 ∧ i = .int .i64 k ∧ Blk wr (w.heap.size + 1) 111 (u8s (l.take k ++ rep (8 - k) 0)) ∧ Blk wr w.heap.size 31 (blkCells l) ∧ Below w.heap.size w wr) (fun i _ => 8 - (intOf i).toNat)
  case atStart => exact ⟨0, by omega, rfl, Blk.new' (by simp) rfl, (Blk.new w _ _).alloc _, ((Below.refl _ _).alloc (Nat.le_refl _) _).alloc (by simp) _⟩
  case round =>
    obtain ⟨k, hk, rfl, hb1, hb0, hBr⟩ := hrel
    by_cases hlt : k < 8
    · have hc0 : wr.cell? ⟨w.heap.size, 288, none⟩ = some (.int .u64 F) := by rw [hb0.cell]; exact HAT.out
      have hc1 : ∃ u, wr.cell? ⟨w.heap.size + 1, k, none⟩ = some u := by
        rw [hb1.cell]
        exact ⟨_, List.getElem?_eq_getElem (by simp [u8s_length, rep_length, Hl.out]; omega)⟩
      obtain ⟨u, hc1⟩ := hc1
      have hf1 : wr.frozen? ⟨w.heap.size + 1, k, none⟩ = false := hb1.frozen k
      have i0 : (0 : Int) ≤ (k : Int) := by omega
      have i1 : (k : Int) < 8 := by omega
      have hx : l[k]? = some (l[k]'(by rw [Hl.out]; omega)) := List.getElem?_eq_getElem _
      generalize l[k]'(by rw [Hl.out]; omega) = x at hx
      have hby := byte_of_be l k x hlt (by rw [Hl.out]; omega) hx
      rw [HF.out] at hby
      have HBY := Lib.hid hby
      have HX := Lib.hid hx
      clear hx hby
      go_wp2
      go_roundw
      case rel =>
        rw [HBY.out]
        refine ⟨k + 1, by omega, by go_num, ?_, hb0.far (by simp) _, hBr.setCell (by simp) _⟩
        have := hb1.set_ k (.int .u8 x.toNat)
        rwa [u8s_set, set_pad l 0 x k 8 hlt HX.out] at this
      case measure => simp [intOf]; omega
    · have : k = 8 := by omega
      subst this
      clear hlt hk
      have hb2 : Blk wr (w.heap.size + 1) 111 (u8s (l.take 8)) := by have := hb1; rwa [Nat.sub_self, show l.take 8 ++ rep 0 0 = l.take 8 from by simp [rep]] at this
      have hh : ((l.drop 8).take 288).length = 288 := by rw [List.length_take, List.length_drop, Hl.out]; rfl
      have HH := Lib.hid hh
      obtain ⟨cs, Hcs⟩ : ∃ cs, Hid (cs = u8s ((l.drop 8).take 288)) := ⟨_, rfl⟩
      have hld : ∀ W, Blk W w.heap.size 31 (blkCells l) → (ldAt 28 (.pointer (some ⟨w.heap.size, 0, none⟩))).run Try.prog W = .ok (.agg cs.toArray) W := fun W hb =>
        ldAt_run hb _ 0 cs (by rw [Hcs.out, List.drop_zero, blkCells, List.take_left]) _ Try.underlying28 rfl (by rw [Hcs.out, u8s_length, HH.out]; exact hd34)
      have hfl : [l.take 8, (l.drop 8).take 288, l.drop 296].flatten = l := by
        simp only [List.flatten_cons, List.flatten_nil, List.append_nil]
        rw [show l.drop 296 = (l.drop 8).drop 288 from by simp, List.take_append_drop, List.take_append_drop]
      have HFL := Lib.hid hfl
      have hq : ∀ (w1 : World) A1 c1, 288 ≤ c1 → Blk w1 w.heap.size 31 (blkCells l) → Blk w1 (w.heap.size + 1) 111 (u8s (l.take 8)) → Rd w1 A1 288 (u8s ((l.drop 8).take 288)) →
          RdB (w1.alloc (.cells #[.slice (some ⟨w.heap.size + 1, 0, none⟩) 8 8, .slice A1 288 c1, .slice (some ⟨w.heap.size, 289, none⟩) 32 32] 22)) (some ⟨w1.heap.size, 0, none⟩) 3 [l.take 8, (l.drop 8).take 288, l.drop 296] := fun w1 A1 c1 hc1 hk1 hk2 hr1 =>
        RdB.of_blk (Blk.new w1 22 [.slice (some ⟨w.heap.size + 1, 0, none⟩) 8 8, .slice A1 288 c1, .slice (some ⟨w.heap.size, 289, none⟩) 32 32])
          ⟨.of_blk (hk2.alloc _) 0 8 8 _ (by rw [u8s_length, List.length_take, Hl.out]; omega) (by omega) (by rw [List.drop_zero, List.take_of_length_le (by rw [u8s_length, List.length_take]; omega)]), .of_rd (hr1.alloc _) hc1,
           .of_blk (hk1.alloc _) 289 32 32 _ (by rw [blkCells_len l Hl.out]; omega) (by omega) (by
              rw [blkCells, ← List.append_assoc, List.drop_append_of_le_length (by simp [u8s_length, Hl.out]), List.drop_eq_nil_of_le (by simp [u8s_length, Hl.out]), List.nil_append, List.take_of_length_le (by simp [u8s_length, Hl.out])]), trivial⟩
      have HQ := Lib.hid hq
      clear hfl hq hh hb1
      go_wp2_with fail
      go_region_held3 (fun w' => Blk w' w.heap.size 31 (blkCells l) ∧ Blk w' (w.heap.size + 1) 111 (u8s (l.take 8)))
        (first | exact ⟨hb0.drew, hb2.drew⟩ | exact ⟨hk1, hk2⟩ | exact ⟨hk1.alloc _, hk2.alloc _⟩ | exact ⟨hk3, hk4⟩) (first
        | (go_at_call 22; rw [Hcs.out]; refine (hbytes_any ((l.drop 8).take 288) _ HH.out).mono ?_; rintro e w1 ⟨A1, c1, rfl, hc1, hown1, hB1⟩
           have hk1 : Blk w1 w.heap.size 31 (blkCells l) := hb0.drew.below hB1 hb0.lt
           have hk2 : Blk w1 (w.heap.size + 1) 111 (u8s (l.take 8)) := hb2.drew.below hB1 hb2.lt)
        | (go_at_call 39; refine (join_to _ 3 3 _ _ (HQ.out w1 A1 c1 hc1 hk1 hk2 (Rd.of_own hown1)) (by omega) l 328 HFL.out Hl.out (by omega)).mono ?_; rintro e w2 ⟨A2, c2, rfl, hc2, hown2, hB2⟩
           have hs1 : w.heap.size < w1.heap.size := hk1.lt
           have hs2 : w.heap.size + 1 < w1.heap.size := hk2.lt
           have hk3 : Blk w2 w.heap.size 31 (blkCells l) := (hk1.alloc _).below hB2 (by simp; omega)
           have hk4 : Blk w2 (w.heap.size + 1) 111 (u8s (l.take 8)) := (hk2.alloc _).below hB2 (by simp; omega)))
      have hsr := hBr.size
      have hB3 : Below w.heap.size w w2 := ((hBr.drew).trans (hB1.mono hsr)).trans ((((Below.refl _ _).alloc (by omega) _)).trans (hB2.mono (by simp; omega)))
      have hown3 := own_mono hown2 (base' := w.heap.size) (by simp; omega)
      clear hown2 hB2 hown1 hB1 hk1 hk2 hk3 hk4 hld HQ
      go_wp2
      go_ret
      exact ⟨A2, c2, rfl, hc2, hown3, hB3⟩

end Go.Proofs.Ytgkhglnfbhdkeaa

/- The fixed fact of layer 16: it holds. -/
namespace Go.Proofs.Ytgkhglnfbhdkeaa
open Go.RowKit

attribute [local go_sem ↓] ldq_37 stq_37 ldq_34s stq_34s

def fixed16 : List UInt8 := ((((((rep 328 (0 : UInt8)).set 7 9).set 8 1).set 40 2).set 56 3).set 296 4)
theorem fixed16_len : fixed16.length = 328 := by unfold fixed16; simp only [List.length_set]; exact rep_length _ _

theorem Blk.all {w : World} {g : Nat} {t : TypeId} {l : List UInt8} {n : Nat} (h : Blk w g t (u8s l)) (hn : l.length = n) : Rd w (some ⟨g, 0, none⟩) n (u8s l) := by
  have := h.rd 0 n (by rw [u8s_length, hn]; omega)
  rwa [List.drop_zero, List.take_of_length_le (by rw [u8s_length, hn]; omega)] at this

set_option maxRecDepth 100000 in
set_option maxHeartbeats 1000000 in
theorem awake16 (w : World) : Calls Try.prog 8 #[] w fun e w' => e = .returned (.bool true) ∧ Below w.heap.size w w' := by
  go_enter Try.func8, Try.ntmps8
  go_wp2_with (at_make; refine wpList_make1 rfl _ _ 22 rfl 5 (.int .u8 0) 1 Try.underlying22 iU8 rfl _ _ _ _ rfl rfl 328 328 rfl rfl (by omega) (by omega) (by omega) ?_)
  intro w1 hb1 hg1 hs1
  have hB1 : Below w.heap.size w w1 := grown_below hg1
  have hf : ∀ i, w1.frozen? ⟨w.heap.size, i, none⟩ = false := fun i => hb1.frozen i
  have hcell : ∀ i, i < 328 → w1.cell? ⟨w.heap.size, i, none⟩ = some (.int .u8 0) := fun i hi => by rw [hb1.cell, rep_get hi]
  have c0 := hcell 7 (by omega)
  have c1 := hcell 8 (by omega)
  have c2 := hcell 40 (by omega)
  have c3 := hcell 56 (by omega)
  have c4 := hcell 296 (by omega)
  clear hcell hg1
  have HS := Lib.hid hs1
  clear hs1
  have hbf : Blk (((((w1.setCell ⟨w.heap.size, 7, none⟩ (.int .u8 9)).setCell ⟨w.heap.size, 8, none⟩ (.int .u8 1)).setCell ⟨w.heap.size, 40, none⟩ (.int .u8 2)).setCell ⟨w.heap.size, 56, none⟩ (.int .u8 3)).setCell ⟨w.heap.size, 296, none⟩ (.int .u8 4)) w.heap.size 5 (u8s fixed16) := by
    have h5 := ((((hb1.set_ 7 (.int .u8 9)).set_ 8 (.int .u8 1)).set_ 40 (.int .u8 2)).set_ 56 (.int .u8 3)).set_ 296 (.int .u8 4)
    have e0 : rep 328 (Value.int .u8 0) = u8s (rep 328 0) := rep_u8s 328 0
    rw [e0] at h5
    rw [show (Value.int .u8 9) = .int .u8 ((9 : UInt8).toNat) from rfl, u8s_set, show (Value.int .u8 1) = .int .u8 ((1 : UInt8).toNat) from rfl, u8s_set, show (Value.int .u8 2) = .int .u8 ((2 : UInt8).toNat) from rfl, u8s_set,
      show (Value.int .u8 3) = .int .u8 ((3 : UInt8).toNat) from rfl, u8s_set, show (Value.int .u8 4) = .int .u8 ((4 : UInt8).toNat) from rfl, u8s_set] at h5
    exact h5
  have hBf : Below w.heap.size w (((((w1.setCell ⟨w.heap.size, 7, none⟩ (.int .u8 9)).setCell ⟨w.heap.size, 8, none⟩ (.int .u8 1)).setCell ⟨w.heap.size, 40, none⟩ (.int .u8 2)).setCell ⟨w.heap.size, 56, none⟩ (.int .u8 3)).setCell ⟨w.heap.size, 296, none⟩ (.int .u8 4)) :=
    ((((hB1.setCell (Nat.le_refl _) _).setCell (Nat.le_refl _) _).setCell (Nat.le_refl _) _).setCell (Nat.le_refl _) _).setCell (Nat.le_refl _) _
  clear hb1 hB1
  have HI : Hid ((Try.prog.info? 31).map (·.size) = some (blkCells fixed16).length) := by show _ = _; rw [blkCells_len _ fixed16_len]; exact hd37
  have HFZ : Hid ((blkCells fixed16).length = z37.length) := by show _ = _; rw [blkCells_len _ fixed16_len, z37_len]
  have hx0 : (blkCells fixed16)[288]? = some (.int .u64 9) := by kernel_rfl
  have hx1 : (blkCells fixed16)[0]? = some (.int .u8 1) := by kernel_rfl
  have hx2 : (blkCells fixed16)[32]? = some (.int .u8 2) := by kernel_rfl
  have hx3 : (blkCells fixed16)[48]? = some (.int .u8 3) := by kernel_rfl
  have hx4 : (blkCells fixed16)[289]? = some (.int .u8 4) := by kernel_rfl
  have HX0 := Lib.hid hx0
  have HX1 := Lib.hid hx1
  have HX2 := Lib.hid hx2
  have HX3 := Lib.hid hx3
  have HX4 := Lib.hid hx4
  clear hx0 hx1 hx2 hx3 hx4
  go_wp2_with (first
    | (go_at_call 9; refine (sparse_yes _ 328 fixed16 _ (hbf.all fixed16_len) (by omega) (by decide +kernel)).mono ?_; rintro e w2 ⟨rfl, hB2⟩)
    | (refine wpList_store_all rfl 31 (.tmp 2) (.tmp 18) rfl w2.heap.size (blkCells fixed16) (by rfl) (by rfl) 31 z37 (Blk.new' rfl zc37) HI.out (blkCells_one _) HFZ.out ?_
       intro w3 hb3 ho3
       have hBw2 : Below w.heap.size w w2 := hBf.trans (hB2.mono hBf.size)
       have hlt : w.heap.size < w2.heap.size := Nat.lt_of_lt_of_le hbf.lt hB2.size
       have hBw3 : Below w.heap.size w w3 := ho3.below (hBw2.alloc hBw2.size _) hBw2.size (by simp; omega)
       have hk3 : Blk w3 w.heap.size 5 (u8s fixed16) := ho3.blk ((hbf.below hB2 hbf.lt).alloc _) (by omega)
       have d0 : w3.cell? ⟨w2.heap.size, 288, none⟩ = some (.int .u64 9) := by rw [hb3.cell]; exact HX0.out
       have d1 : w3.cell? ⟨w2.heap.size, 0, none⟩ = some (.int .u8 1) := by rw [hb3.cell]; exact HX1.out
       have d2 : w3.cell? ⟨w2.heap.size, 32, none⟩ = some (.int .u8 2) := by rw [hb3.cell]; exact HX2.out
       have d3 : w3.cell? ⟨w2.heap.size, 48, none⟩ = some (.int .u8 3) := by rw [hb3.cell]; exact HX3.out
       have d4 : w3.cell? ⟨w2.heap.size, 289, none⟩ = some (.int .u8 4) := by rw [hb3.cell]; exact HX4.out
       have hld : (ldAt 31 (.pointer (some ⟨w2.heap.size, 0, none⟩))).run Try.prog w3 = .ok (.agg (blkCells fixed16).toArray) w3 := ldAt_run hb3 _ 0 (blkCells fixed16) (by rw [List.drop_zero, List.take_of_length_le (Nat.le_refl _)]) _ Try.underlying31 rfl HI.out
       clear ho3 hB2 hbf hBf hBw2 c0 c1 c2 c3 c4 hf)
    | (go_at_call 33; refine (sbytes_any fixed16 _ fixed16_len).mono ?_; rintro e w4 ⟨A4, c4, rfl, hc4, hown4, hB4⟩
       have hk4 := hk3.below hB4 hk3.lt
       clear d0 d1 d2 d3 d4 hld)
    | (go_at_call 13; refine (equal_any A4 (some ⟨w.heap.size, 0, none⟩) 328 328 c4 328 fixed16 fixed16 _ (Rd.of_own hown4) (hk4.all fixed16_len) (by omega) (by omega)).mono ?_; rintro e w5 ⟨rfl, q5, rfl⟩))
  go_ret
  refine ⟨by simp, ?_⟩
  have h4 : Below w.heap.size w w4 := hBw3.trans (hB4.mono hBw3.size)
  exact below_drewN h4 _

end Go.Proofs.Ytgkhglnfbhdkeaa
