/- Part of the proof: McP, McQ. -/
import Derived.Test.YtlbnibmcflmohaaGreatPlx12
namespace Go.Proofs.YtlbnibmcflmohaaGreat
open Go.RowKit
theorem hd145 : (Tryz.prog.info? 126).map (·.size) = some 64 := by kernel_rfl
theorem splice_pad (s : List UInt8) (h : s.length ≤ 64) : splice (u8s (List.replicate 64 0)) 0 ((u8s s).take 64) = u8s (Mc.padded s) := by
  rw [List.take_of_length_le (by rw [u8s_length]; exact h)]
  unfold splice Mc.padded
  rw [List.take_zero, List.nil_append, Nat.zero_add, u8s_length, u8s_drop, u8s_append, List.drop_replicate]
set_option maxRecDepth 100000 in
set_option maxHeartbeats 1000000 in
theorem block_small (A : Option Addr) (n c : Nat) (k : List UInt8) (w : World) (h : Rd w A n (u8s k)) (hn : n ≤ 64) :
    Calls Tryz.prog 80 #[.slice A n c] w fun e w' => e = .returned (.agg (u8s (Mc.key64 k)).toArray) ∧ Below w.heap.size w w' := by
  have hkl : k.length = n := h.len
  have hK : Mc.key64 k = Mc.padded k := by unfold Mc.key64; rw [if_neg (by omega)]
  have hl64 : (Mc.padded k).length = 64 := Mc.padded_len (by omega)
  have HSP := Lib.hid (splice_pad k (by omega))
  have HI : Hid ((Tryz.prog.info? 126).map (·.size) = some (u8s (Mc.padded k)).length) := by rw [u8s_length, hl64]; exact hd145
  have HL : Hid ((u8s (Mc.padded k)).length = (u8s (List.replicate 64 0)).length) := by show _ = _; rw [u8s_length, hl64]; rfl
  have H1 : Hid (∀ v ∈ u8s (Mc.padded k), v.oneCell' = true) := u8s_one _
  obtain ⟨U, hU⟩ : ∃ U, U = u8s (Mc.padded k) := ⟨_, rfl⟩
  rw [← hU] at HI HL H1 HSP
  have HU : Hid (U = u8s (Mc.key64 k)) := by rw [hK]; exact hU
  have HR := Lib.hid h
  have e64 : ¬ (64 : Int) < (n : Int) := by omega
  clear hkl hK hl64 hU h
  go_enter Tryz.func80, Tryz.ntmps80
  go_wp2_with (first
    | (refine wpList_copy rfl (.tmp 14) (.tmp 15) 23 rfl 5 Tryz.underlying23 u8_one1 (w.heap.size + 1) 0 64 64 (by rfl) A n c (by rfl) 126 (u8s (List.replicate 64 0)) (by exact Blk.new' (by simp) rfl) (u8s k) (by exact (HR.out.alloc _).alloc _) (u8s_one _) (by rw [u8s_length]; exact Nat.le_refl _) ?_
       intro w1 hb1 ho1
       rw [HSP.out] at hb1
       have HB1 : Hid (Below w.heap.size w w1) := ho1.below (((Below.refl _ _).alloc (Nat.le_refl _) _).alloc (by simp) _) (by omega) (by simp; omega)
       have HZ1 : Hid (Blk w1 w.heap.size 126 (u8s (List.replicate 64 0))) := ho1.blk ((Blk.new' rfl rfl).alloc _) (by omega))
    | refine wpList_load_mid rfl 126 (.tmp 3) rfl (w.heap.size + 1) 0 (by rfl) U _ hb1.range Tryz.underlying126 rfl HI.out ?_
    | (refine wpList_store_all rfl 126 (.tmp 2) (.tmp 17) rfl w.heap.size U (by rfl) (by rfl) 126 _ HZ1.out HI.out H1.out HL.out ?_; intro w8 hb8 ho8))
  exact bodyPost_ret (res_cell rfl _ w.heap.size _ U rfl hb8 _ Tryz.underlying126 rfl HI.out) rfl ⟨by rw [HU.out], ho8.below HB1.out (Nat.le_refl _) HB1.out.size⟩
set_option maxRecDepth 100000 in
set_option maxHeartbeats 1000000 in
theorem block_big (A : Option Addr) (n c : Nat) (k : List UInt8) (w : World) (h : Rd w A n (u8s k)) (hc : n ≤ c) (hn : 64 < n) (hn2 : n ≤ 1000000000) :
    Calls Tryz.prog 80 #[.slice A n c] w fun e w' => e = .returned (.agg (u8s (Mc.key64 k)).toArray) ∧ Below w.heap.size w w' := by
  have hkl : k.length = n := h.len
  have hK : Mc.key64 k = Mc.padded (Sh.sha k) := by unfold Mc.key64; rw [if_pos (by omega)]
  have hsl := Sh.sha_len k
  have hl64 : (Mc.padded (Sh.sha k)).length = 64 := Mc.padded_len (by omega)
  have HSP := Lib.hid (splice_pad (Sh.sha k) (by omega))
  have HI : Hid ((Tryz.prog.info? 126).map (·.size) = some (u8s (Mc.padded (Sh.sha k))).length) := by rw [u8s_length, hl64]; exact hd145
  have HL : Hid ((u8s (Mc.padded (Sh.sha k))).length = (u8s (List.replicate 64 0)).length) := by show _ = _; rw [u8s_length, hl64]; rfl
  have H1 : Hid (∀ v ∈ u8s (Mc.padded (Sh.sha k)), v.oneCell' = true) := u8s_one _
  obtain ⟨U, hU⟩ : ∃ U, U = u8s (Mc.padded (Sh.sha k)) := ⟨_, rfl⟩
  rw [← hU] at HI HL H1 HSP
  have HU : Hid (U = u8s (Mc.key64 k)) := by rw [hK]; exact hU
  have HI2 : Hid ((Tryz.prog.info? 26).map (·.size) = some (u8s (Sh.sha k)).length) := by rw [u8s_length, hsl]; exact hd24
  have HL2 : Hid ((u8s (Sh.sha k)).length = (u8s (List.replicate 32 0)).length) := by show _ = _; rw [u8s_length, hsl]; rfl
  have HS := Lib.hid hsl
  have HR := Lib.hid h
  have HSU : Hid (∀ W A1 c1, RdB W A1 1 [k] → Calls Tryz.prog 84 #[.slice A1 1 c1] W fun e w' => e = .returned (.agg (u8s (Sh.sha k)).toArray) ∧ Below W.heap.size W w') := fun W A1 c1 hr => by
    have := sum_any A1 1 c1 [k] W hr (by omega) (by simp; omega)
    simpa using this
  have HRB : Hid (∀ (W : World) (g : Nat), g = W.heap.size → Rd W A n (u8s k) → RdB (W.alloc (.cells #[.slice A n c] 23)) (some ⟨g, 0, none⟩) 1 [k]) := fun W g hg hr => RdB.of_blk (ls := [k]) (Blk.new' (cs := [.slice A n c]) hg rfl) ⟨.of_rd (hr.alloc _) hc, trivial⟩
  have e64 : (64 : Int) < (n : Int) := by omega
  clear hkl hK hl64 hU h hsl
  go_enter Tryz.func80, Tryz.ntmps80
  go_wp2_with (first
    | (go_at_call 84; (with_reducible refine (HSU.out _ _ _ (by exact HRB.out _ _ (by simp) ((HR.out.alloc _).alloc _))).mono ?_); rintro e w1 ⟨rfl, hB1⟩
       have hs1 : w.heap.size + 2 < w1.heap.size + 1 := by have := hB1.size; simp at this; omega
       have HB1 : Hid (Below w.heap.size w w1) := ((((Below.refl _ _).alloc (Nat.le_refl _) _).alloc (by simp) _).alloc (by simp; omega) _).trans (hB1.mono (by simp; omega))
       have HZ1 : Hid (Blk w1 w.heap.size 126 (u8s (List.replicate 64 0))) := (((Blk.new' rfl rfl).alloc _).alloc _).below hB1 (by simp; omega)
       have HY1 : Hid (Blk w1 (w.heap.size + 1) 126 (u8s (List.replicate 64 0))) := ((Blk.new' (by simp) rfl : Blk _ (w.heap.size + 1) _ _).alloc _).below hB1 (by simp)
       clear hB1)
    | (refine wpList_store_all rfl 26 (.tmp 4) (.tmp 10) rfl w1.heap.size (u8s (Sh.sha k)) (by rfl) (by rfl) 26 (u8s (List.replicate 32 0)) (by exact Blk.new' rfl rfl) HI2.out (u8s_one _) HL2.out ?_
       intro w2 hb2 ho2
       have HB2 : Hid (Below w.heap.size w w2) := ho2.below (HB1.out.alloc HB1.out.size _) HB1.out.size (Nat.le_trans HB1.out.size (by simp))
       have HZ2 : Hid (Blk w2 w.heap.size 126 (u8s (List.replicate 64 0))) := ho2.blk (HZ1.out.alloc _) (by omega)
       have HY2 : Hid (Blk w2 (w.heap.size + 1) 126 (u8s (List.replicate 64 0))) := ho2.blk (HY1.out.alloc _) (by omega)
       have HX2 : Hid (Rd w2.drew (some ⟨w1.heap.size, 0, none⟩) 32 (u8s (Sh.sha k))) := by { have h5 := hb2.rdAll; rw [HS.out] at h5; exact h5.drew }
       clear hb2 ho2))
  go_region_held3 (fun _ => True) (trivial) ((refine step_copy rfl (.tmp 11) (.tmp 12) 23 rfl 5 Tryz.underlying23 u8_one1 (w.heap.size + 1) 0 64 64 (by rfl) (some ⟨w1.heap.size, 0, none⟩) 32 32 (by rfl) 126 (u8s (List.replicate 64 0)) (by exact HY2.out.drew) (u8s (Sh.sha k)) (by exact HX2.out) (u8s_one _) (by rw [u8s_length]; exact Nat.le_refl _) ?_; intro w3 hb3 ho3))
  rw [HSP.out] at hb3
  have HB3 : Hid (Below w.heap.size w w3) := ho3.below HB2.out.drew (by omega) HB2.out.size
  have HZ3 : Hid (Blk w3 w.heap.size 126 (u8s (List.replicate 64 0))) := ho3.blk HZ2.out.drew (by omega)
  go_wp2_with (first
    | refine wpList_load_mid rfl 126 (.tmp 3) rfl (w.heap.size + 1) 0 (by rfl) U _ hb3.range Tryz.underlying126 rfl HI.out ?_
    | (refine wpList_store_all rfl 126 (.tmp 2) (.tmp 17) rfl w.heap.size U (by rfl) (by rfl) 126 _ HZ3.out HI.out H1.out HL.out ?_; intro w8 hb8 ho8))
  exact bodyPost_ret (res_cell rfl _ w.heap.size _ U rfl hb8 _ Tryz.underlying126 rfl HI.out) rfl ⟨by rw [HU.out], ho8.below HB3.out (Nat.le_refl _) HB3.out.size⟩
theorem block_any (A : Option Addr) (n c : Nat) (k : List UInt8) (w : World) (h : Rd w A n (u8s k)) (hc : n ≤ c) (hn2 : n ≤ 1000000000) :
    Calls Tryz.prog 80 #[.slice A n c] w fun e w' => e = .returned (.agg (u8s (Mc.key64 k)).toArray) ∧ Below w.heap.size w w' := by
  rcases Nat.lt_or_ge 64 n with h1 | h1
  · exact block_big A n c k w h hc h1 hn2
  · exact block_small A n c k w h h1
end Go.Proofs.YtlbnibmcflmohaaGreat
/- mac.masked: each byte of a block turned. -/
namespace Go.Proofs.YtlbnibmcflmohaaGreat
open Go.RowKit
theorem run_idx {P : Program} {w : World} (t e : TypeId) (n i : Nat) (us : List Value) (x : Value) (h : P.underlying t = some (.array n e)) (hs : ∀ w, (sizeOf e).run P w = .ok 1 w) (hg : ∀ w, (isAgg e).run P w = .ok false w) (hi : i < n) (hx : us[i]? = some x) : (Instr.index t (.agg us.toArray) (.int .i64 i)).run P w = .ok x w := by
  have h1 : (0 : Int) ≤ (i : Int) ∧ (i : Int) < (n : Int) := by omega
  simp only [Instr.index, asIntOf, Sem.run_bind, Sem.run_pure, Result.andThen_ok, run_underlying h, h1, and_self, if_true, hs, Nat.mul_one, Int.toNat_natCast]
  unfold part
  have h2 : us.toArray[i]? = some x := by simpa using hx
  simp only [Sem.run_bind, hg, Result.andThen_ok, Bool.false_eq_true, if_false, h2, Sem.run_pure]
theorem szU8 (w : World) : (sizeOf 5).run Tryz.prog w = .ok 1 w := by kernel_rfl
theorem agU8 (w : World) : (isAgg 5).run Tryz.prog w = .ok false w := by kernel_rfl
theorem mask_step (k : List UInt8) (m x : UInt8) (i : Nat) (hx : k[i]? = some x) : (u8s (Mc.mask (k.take i) m ++ List.replicate (k.length - i) 0)).set i (.int .u8 (x ^^^ m).toNat) = u8s (Mc.mask (k.take (i + 1)) m ++ List.replicate (k.length - (i + 1)) 0) := by
  have hi := (List.getElem?_eq_some_iff.1 hx).1
  obtain ⟨r, hr⟩ : ∃ r, k.length - i = r + 1 := ⟨k.length - i - 1, by omega⟩
  have hl : (Mc.mask (k.take i) m).length = i := by rw [Mc.mask_len, List.length_take]; omega
  rw [hr, show k.length - (i + 1) = r by omega, List.take_add_one, hx]
  unfold Mc.mask at *
  rw [List.map_append, u8s_append, u8s_append, u8s_append, List.set_append_right _ _ (by rw [u8s_length]; omega), u8s_length, hl, Nat.sub_self, List.replicate_succ]
  simp [u8s, u8]
set_option maxRecDepth 100000 in
set_option maxHeartbeats 1000000 in
theorem masked_any (k : List UInt8) (m : UInt8) (w : World) (hk : k.length = 64) :
    Calls Tryz.prog 81 #[.agg (u8s k).toArray, .int .u8 m.toNat] w fun e w' => e = .returned (.slice (some ⟨w.heap.size + 1, 0, none⟩) 64 64) ∧ Blk w' (w.heap.size + 1) 5 (u8s (Mc.mask k m)) ∧ Below w.heap.size w w' := by
  have HI : Hid ((Tryz.prog.info? 126).map (·.size) = some (u8s k).length) := by rw [u8s_length, hk]; exact hd145
  have HK := Lib.hid hk
  have HIX := Lib.hid (fun (W : World) (i : Nat) (x : UInt8) (hi : i < 64) (hx : k[i]? = some x) => run_idx (P := Tryz.prog) (w := W) 126 5 64 i (u8s k) (.int .u8 x.toNat) Tryz.underlying126 szU8 agU8 hi (by rw [u8s_getElem?, hx]; rfl))
  obtain ⟨U, hU⟩ : ∃ U, U = u8s k := ⟨_, rfl⟩
  rw [← hU] at HI HIX ⊢
  clear hk hU
  go_enter Tryz.func81, Tryz.ntmps81
  go_wp2_with (first
    | (refine wpList_make1 rfl (.const (.int .i64 64)) (.const (.int .i64 64)) 23 rfl 5 (.int .u8 0) 1 Tryz.underlying23 iU8 rfl .i64 .i64 64 64 (by rfl) (by rfl) 64 64 rfl rfl (Nat.le_refl _) (by omega) (by omega) ?_
       intro w1 hb1 hg1 hs1
       have HR1 : Hid (w1.rangeAt w.heap.size 0 U) := ((Blk.new w 126 U).below (grown_below hg1) (by simp)).range
       have HB1 : Hid (Below w.heap.size w w1) := ((Below.refl _ _).alloc (Nat.le_refl _) _).trans ((grown_below hg1).mono (by simp))
       have HZ1 : Hid (Blk w1 (w.heap.size + 1) 5 (u8s (Mc.mask (k.take 0) m ++ List.replicate (k.length - 0) 0))) := by { rw [HK.out]; have h5 := hb1; rw [show (w.alloc (.cells U.toArray 126)).heap.size = w.heap.size + 1 by simp] at h5; exact h5 }
       clear hb1 hg1 hs1)
    | (refine wpList_load_mid rfl 126 (.tmp 2) rfl w.heap.size 0 (by rfl) U _ HR1.out Tryz.underlying126 rfl HI.out ?_))
  go_loopg [10] 64 (fun kk q wr => ∃ i : Nat, i ≤ 64 ∧ kk = 64 - i ∧ q = .int .i64 i ∧ Blk wr (w.heap.size + 1) 5 (u8s (Mc.mask (k.take i) m ++ List.replicate (k.length - i) 0)) ∧ Below w.heap.size w wr)
  case atStart => exact ⟨0, by omega, rfl, rfl, HZ1.out, HB1.out⟩
  case round =>
    obtain ⟨i, hi, hgk, rfl, hb, hB⟩ := hrel
    have HGK := Lib.hid hgk
    clear hgk
    by_cases hlt : i < 64
    · obtain ⟨x, hx⟩ : ∃ x, k[i]? = some x := ⟨_, List.getElem?_eq_getElem (by rw [HK.out]; exact hlt)⟩
      have hidx := fun W => HIX.out W i x hlt hx
      have HS := Lib.hid (mask_step k m x i hx)
      have hol : (Mc.mask (k.take i) m ++ List.replicate (k.length - i) 0).length = 64 := by rw [List.length_append, Mc.mask_len, List.length_take, List.length_replicate, HK.out]; omega
      obtain ⟨O, hO⟩ : ∃ O, O = Mc.mask (k.take i) m ++ List.replicate (k.length - i) 0 := ⟨_, rfl⟩
      rw [← hO] at hb HS hol
      obtain ⟨y, hy⟩ : ∃ y, O[i]? = some y := ⟨_, List.getElem?_eq_getElem (by omega)⟩
      have q0 : wr.cell? ⟨w.heap.size + 1, i, none⟩ = some (.int .u8 y.toNat) := by rw [hb.cell, u8s_getElem?, hy]; rfl
      have f0 := hb.frozen i
      have HXR := Lib.hid (w8_xor x m)
      clear hx hO hy hol
      go_wp2_with fail
      rw [HXR.out]
      have hb7 := Lib.hid (hb.set_ i (.int .u8 (x ^^^ m).toNat))
      rw [HS.out] at hb7
      have hB7 := Lib.hid (hB.setCell (p := ⟨w.heap.size + 1, i, none⟩) (Nat.le_succ _) (.int .u8 (x ^^^ m).toNat))
      go_roundg (64 - (i + 1))
      case measure => have := HGK.out; omega
      case rel => exact ⟨i + 1, by omega, rfl, by go_num, hb7.out, hB7.out⟩
    · obtain rfl : i = 64 := by omega
      have hE : Mc.mask (k.take 64) m ++ List.replicate (k.length - 64) 0 = Mc.mask k m := by rw [HK.out, List.take_of_length_le (by rw [HK.out]; exact Nat.le_refl _)]; simp
      rw [hE] at hb
      clear hE
      go_wp2_with fail
      go_ret
      exact ⟨rfl, hb, hB⟩
end Go.Proofs.YtlbnibmcflmohaaGreat
/- mac.NewTagger: a hash that ends in a tag. -/
namespace Go.Proofs.YtlbnibmcflmohaaGreat
open Go.RowKit
def tCells (K : List Value) : List Value := hCells [0, 0, 0, 0, 0, 0, 0, 0] (List.replicate 64 0) 0 K
theorem zc149 : Tryz.zeroCells130 = (tCells (u8s (List.replicate 64 0))).toArray := by kernel_rfl
theorem tCells_len (K : List Value) (h : K.length = 64) : (tCells K).length = 137 := by unfold tCells; rw [hCells_len rfl (by simp), h]
def places149 : Array (Nat × Nat) := #[(0, 73), (73, 64)]
theorem pl149 (fields : Array Field) (h : Tryz.prog.underlying 130 = some (.struct fields)) (w : World) : (fields.mapM (fun f => do pure (f.offset, ← sizeOf f.type)) : Sem (Array (Nat × Nat))).run Tryz.prog w = .ok places149 w := by
  rw [Tryz.underlying130] at h
  injection h with h
  injection h with h
  subst h
  kernel_rfl
theorem tCells_splice (K : List Value) (hK : K.length = 64) : splice (tCells (u8s (List.replicate 64 0))) 73 K = tCells K := by
  have e : ∀ L, tCells L = tCells [] ++ L := fun L => by unfold tCells hCells; simp
  have h73 : (tCells []).length = 73 := rfl
  rw [e (u8s _), e K]
  unfold splice
  rw [List.take_append_of_le_length (by omega), List.take_of_length_le (by omega), List.drop_of_length_le (by rw [List.length_append, h73, u8s_length, hK]; simp), List.append_nil]
theorem build149 (K : List Value) (hK : K.length = 64) (w : World) : (Instr.build 130 #[(1, .agg K.toArray)]).run Tryz.prog w = .ok (.agg (tCells K).toArray) w := by
  refine run_build Tryz.zeroValue130 Tryz.underlying130 (pl149 _ Tryz.underlying130) ?_ w
  rw [zc149]
  show Instr.fill _ _ [(1, _)] = _
  rw [fill_cons (cs := K) rfl (by rw [hK]; rfl) (by rw [hK, tCells_len _ (by simp [u8s_length])]; omega), tCells_splice K hK]
  rfl
theorem tCells_key (st : List UInt32) (op : List UInt8) (n : Nat) (K : List Value) (h1 : st.length = 8) (h2 : op.length = 64) : ((hCells st op n K).drop 73).take K.length = K := by
  have e : hCells st op n K = hCells st op n [] ++ K := by unfold hCells; simp
  have h73 : (hCells st op n []).length = 73 := by rw [hCells_len h1 h2]; rfl
  rw [e, List.drop_append_of_le_length (by omega), List.drop_of_length_le (by omega), List.nil_append, List.take_length]
theorem HashIn.key {w : World} {g : Nat} {T : TypeId} {K : List Value} {l : List UInt8} (h : HashIn w g T K l) : w.rangeAt g 73 K := by
  obtain ⟨st, op, hb, hst⟩ := h
  refine hb.mid 73 K fun j v hv => ?_
  have e := tCells_key st op l.length K hst.len hst.olen
  rw [← e, List.getElem?_take] at hv
  split at hv
  · simpa using hv
  · cases hv
theorem RdX.one {W : World} {g b gp n : Nat} {T : TypeId} {M : List UInt8} (hr : Rd W (some ⟨b, 0, none⟩) n (u8s M)) (hbg : b ≠ g) (hgp : gp = W.heap.size) (hg : g < W.heap.size) : RdX (W.alloc (.cells #[.slice (some ⟨b, 0, none⟩) n n] T)) g (some ⟨gp, 0, none⟩) 1 [M] := by
  refine ⟨[.slice (some ⟨b, 0, none⟩) n n], ?_, fun _ ad e => by injection e with e; subst e; show gp ≠ g; omega, rfl, fun i v hi => ?_⟩
  · have := (Blk.new' (cs := [.slice (some ⟨b, 0, none⟩) n n]) (t := T) hgp rfl).rd 0 1 (by simp)
    simpa using this
  · cases i with
    | zero => simp at hi; subst hi; exact ⟨M, rfl, _, _, _, rfl, Nat.le_refl _, hr.alloc _, fun _ ad e => by injection e with e; subst e; exact hbg⟩
    | succ i => simp at hi
set_option maxRecDepth 100000 in
set_option maxHeartbeats 1000000 in
theorem newTagger_any (A : Option Addr) (n c : Nat) (k : List UInt8) (w : World) (h : Rd w A n (u8s k)) (hc : n ≤ c) (hn2 : n ≤ 1000000000) :
    Calls Tryz.prog 64 #[.slice A n c] w fun e w' => ∃ g, e = .returned (.pointer (some ⟨g, 0, none⟩)) ∧ w.heap.size ≤ g ∧ HashIn w' g 130 (u8s (Mc.key64 k)) (Mc.mask (Mc.key64 k) 54) ∧ Below w.heap.size w w' := by
  have HBL := Lib.hid (block_any A n c k w h hc hn2)
  have hkl := Mc.key64_len k
  have HMK : Hid (∀ W : World, Calls Tryz.prog 81 #[.agg (u8s (Mc.key64 k)).toArray, .int .u8 54] W fun e w' => e = .returned (.slice (some ⟨W.heap.size + 1, 0, none⟩) 64 64) ∧ Blk w' (W.heap.size + 1) 5 (u8s (Mc.mask (Mc.key64 k) 54)) ∧ Below W.heap.size W w') := fun W => masked_any (Mc.key64 k) 54 W hkl
  have HKL : Hid ((u8s (Mc.key64 k)).length = 64) := by show _ = _; rw [u8s_length, hkl]
  have HML : Hid ((Mc.mask (Mc.key64 k) 54).length = 64) := by show _ = _; rw [Mc.mask_len, hkl]
  obtain ⟨K, hK⟩ : ∃ K, K = u8s (Mc.key64 k) := ⟨_, rfl⟩
  rw [← hK] at HBL HMK HKL ⊢
  have HBD := Lib.hid (fun W => build149 K HKL.out W)
  obtain ⟨M, hM⟩ : ∃ M, M = Mc.mask (Mc.key64 k) 54 := ⟨_, rfl⟩
  rw [← hM] at HMK HML ⊢
  clear hkl hK hM h
  go_enter Tryz.func64, Tryz.ntmps64
  go_wp2_with (first
    | (go_at_call 80; (with_reducible refine HBL.out.mono ?_); rintro e w1 ⟨rfl, hB1⟩)
    | (refine wpList_build rfl 130 [(1, .tmp 5)] rfl _ (by rfl) (.agg (tCells K).toArray) (HBD.out _) ?_))
  have HW := Lib.hid (fun W A1 (hin : HashIn W w1.heap.size 130 K []) (hr : RdX W w1.heap.size A1 1 [M]) => write_any w1.heap.size 130 K [] A1 1 1 [M] W hin hr (by omega) (by simp; have := HML.out; omega))
  have hin1 : Hid (HashIn (w1.alloc (.cells (tCells K).toArray 130)) w1.heap.size 130 K []) := ⟨_, _, Blk.new w1 _ _, Sh.hst_nil _ _ rfl (by simp)⟩
  have hld1 := hin1.out.key
  have HB2 : Hid (Below w.heap.size w (w1.alloc (.cells (tCells K).toArray 130))) := hB1.alloc hB1.size _
  obtain ⟨w2, hw2⟩ : ∃ w2, w2 = w1.alloc (.cells (tCells K).toArray 130) := ⟨_, rfl⟩
  have hs2 : w1.heap.size < w2.heap.size := by rw [hw2]; simp
  have hs1 := hB1.size
  rw [← hw2] at hin1 hld1 HB2 ⊢
  clear hw2 hB1
  generalize w1.heap.size = g at *
  have hu145 := Tryz.underlying126
  have hi145 : (Tryz.prog.info? 126).map (·.size) = some K.length := by rw [HKL.out]; exact hd145
  go_region_held3 (fun W' => W'.rangeAt g 73 K) (first | assumption | exact hin1.out.key | exact hk3 | exact rangeAt_alloc hk3 _ | exact hk4) (first
    | (go_at_call 81; (with_reducible refine (HMK.out _).mono ?_); rintro e w3 ⟨rfl, hb3, hB3⟩; have hin3 := Lib.hid ((hin1.out.below (Below.refl _ _).drew).below hB3); have hl3 := hb3.lt; have hk3 := hin3.out.key)
    | (go_at_call 65; refine (HW.out _ _ (by exact hin3.out.below ((Below.refl _ _).alloc (Nat.le_refl _) _)) (by exact RdX.one (by have h5 := hb3.rdAll; rw [HML.out] at h5; exact h5) (by show w2.heap.size + 1 ≠ g; omega) rfl (by have h6 : w2.heap.size + 1 < w3.heap.size := hl3; omega))).mono ?_; rintro e w4 ⟨rfl, hin4', hW4⟩; have hin4 := Lib.hid hin4'; have hk4 := hin4.out.key; clear hin4'))
  have HB3 : Hid (Below w.heap.size w w3) := HB2.out.drew.trans (hB3.mono HB2.out.size)
  have HB4 : Hid (Below w.heap.size w w4) := Wrote.below hW4 (HB3.out.alloc HB3.out.size _) hs1 (Nat.le_trans HB3.out.size (by simp))
  clear hk3 hk4 hu145 hi145 hld1
  go_wp2_with fail
  go_ret
  refine ⟨g, rfl, hs1, ?_, HB4.out⟩
  have := hin4.out
  simpa using this
end Go.Proofs.YtlbnibmcflmohaaGreat
namespace Go.Proofs.YtlbnibmcflmohaaGreat
open Go.RowKit
set_option maxRecDepth 100000 in
set_option maxHeartbeats 1000000 in
theorem tsum_any (g : Nat) (kk l : List UInt8) (w : World) (h : HashIn w g 130 (u8s kk) l) (hkl : kk.length = 64) (hl : l.length ≤ 1000000000) :
    Calls Tryz.prog 66 #[.pointer (some ⟨g, 0, none⟩)] w fun e w' => e = .returned (.agg (u8s (Sh.sha (Mc.mask kk 92 ++ Sh.sha l))).toArray) ∧ Below w.heap.size w w' := by
  have HHS := Lib.hid (fun W (hin : HashIn W g 130 (u8s kk) l) => hsum_any g 130 (u8s kk) l W hin (by omega))
  have HMK : Hid (∀ W : World, Calls Tryz.prog 81 #[.agg (u8s kk).toArray, .int .u8 92] W fun e w' => e = .returned (.slice (some ⟨W.heap.size + 1, 0, none⟩) 64 64) ∧ Blk w' (W.heap.size + 1) 5 (u8s (Mc.mask kk 92)) ∧ Below W.heap.size W w') := fun W => masked_any kk 92 W hkl
  have HKL : Hid ((u8s kk).length = 64) := by show _ = _; rw [u8s_length, hkl]
  have HML : Hid ((Mc.mask kk 92).length = 64) := by show _ = _; rw [Mc.mask_len, hkl]
  have HSL : Hid ((Sh.sha l).length = 32) := Sh.sha_len l
  have HI1 : Hid ((Tryz.prog.info? 26).map (·.size) = some (u8s (Sh.sha l)).length) := by rw [u8s_length, Sh.sha_len]; exact hd24
  have HL1 : Hid ((u8s (Sh.sha l)).length = (u8s (List.replicate 32 0)).length) := by show _ = _; rw [u8s_length, Sh.sha_len]; rfl
  have HI2 : Hid ((Tryz.prog.info? 26).map (·.size) = some (u8s (Sh.sha (Mc.mask kk 92 ++ Sh.sha l))).length) := by rw [u8s_length, Sh.sha_len]; exact hd24
  have HL2 : Hid (0 + (u8s (Sh.sha (Mc.mask kk 92 ++ Sh.sha l))).length ≤ (u8s (List.replicate 32 0)).length) := by rw [u8s_length, Sh.sha_len]; exact Nat.le_refl 32
  have HE2 : Hid (splice (u8s (List.replicate 32 0)) 0 (u8s (Sh.sha (Mc.mask kk 92 ++ Sh.sha l))) = u8s (Sh.sha (Mc.mask kk 92 ++ Sh.sha l))) := splice_whole _ _ (by rw [u8s_length, Sh.sha_len]; rfl)
  have HSU : Hid (∀ W A1, RdB W A1 2 [Mc.mask kk 92, Sh.sha l] → Calls Tryz.prog 84 #[.slice A1 2 2] W fun e w' => e = .returned (.agg (u8s (Sh.sha (Mc.mask kk 92 ++ Sh.sha l))).toArray) ∧ Below W.heap.size W w') := fun W A1 hr => by
    have := sum_any A1 2 2 _ W hr (by omega) (by simp [HML.out, HSL.out])
    simpa using this
  have HRB : Hid (∀ (W : World) (b1 b2 g : Nat), g = W.heap.size → Rd W (some ⟨b1, 0, none⟩) 64 (u8s (Mc.mask kk 92)) → Rd W (some ⟨b2, 0, none⟩) 32 (u8s (Sh.sha l)) → RdB (W.alloc (.cells #[.slice (some ⟨b1, 0, none⟩) 64 64, .slice (some ⟨b2, 0, none⟩) 32 32] 23)) (some ⟨g, 0, none⟩) 2 [Mc.mask kk 92, Sh.sha l]) := fun W b1 b2 g hg h1 h2 =>
    RdB.of_blk (Blk.new' (cs := [.slice (some ⟨b1, 0, none⟩) 64 64, .slice (some ⟨b2, 0, none⟩) 32 32]) hg rfl) ⟨.of_rd (h1.alloc _) (Nat.le_refl _), .of_rd (h2.alloc _) (Nat.le_refl _), trivial⟩
  obtain ⟨S1, hS1⟩ : ∃ S1, S1 = u8s (Sh.sha l) := ⟨_, rfl⟩
  obtain ⟨S2, hS2⟩ : ∃ S2, S2 = u8s (Sh.sha (Mc.mask kk 92 ++ Sh.sha l)) := ⟨_, rfl⟩
  have HO1 : Hid (∀ v ∈ S1, v.oneCell' = true) := by rw [hS1]; exact u8s_one _
  have HO2 : Hid (∀ v ∈ S2, v.oneCell' = true) := by rw [hS2]; exact u8s_one _
  rw [← hS1] at HHS HI1 HL1 HRB
  rw [← hS2] at HI2 HL2 HE2 HSU ⊢
  obtain ⟨K, hK⟩ : ∃ K, K = u8s kk := ⟨_, rfl⟩
  rw [← hK] at h HHS HMK HKL
  have HIN := Lib.hid h
  have hgl := h.lt
  have HS1 := Lib.hid hS1
  clear h hS1 hS2 hK
  go_enter Tryz.func66, Tryz.ntmps66
  go_wp2_with (first
    | (go_at_call 83; refine (HHS.out _ (by exact HIN.out.below ((Below.refl _ _).alloc (Nat.le_refl _) _))).mono ?_; rintro e w1 ⟨rfl, hB1⟩
       have hin1 := Lib.hid ((HIN.out.below ((Below.refl _ _).alloc (Nat.le_refl _) _)).below hB1)
       have HB1 : Hid (Below w.heap.size w w1) := ((Below.refl _ _).alloc (Nat.le_refl _) _).trans (hB1.mono (by simp))
       have HZ1 : Hid (Blk w1 w.heap.size 26 (u8s (List.replicate 32 0))) := (Blk.new' rfl rfl : Blk _ w.heap.size _ _).below hB1 (by simp)
       clear hB1)
    | (refine wpList_store_all rfl 26 (.tmp 3) (.tmp 7) rfl w1.heap.size S1 (by rfl) (by rfl) 26 (u8s (List.replicate 32 0)) (by exact Blk.new' rfl rfl) HI1.out HO1.out HL1.out ?_
       intro w2 hb2 ho2))
  have hin2 : Hid (HashIn w2 g 130 K l) := by
    obtain ⟨st, op, hb, hst⟩ := hin1.out
    exact ⟨st, op, ho2.blk (hb.alloc _) (by have := hb.lt; omega), hst⟩
  have HB2 : Hid (Below w.heap.size w w2) := ho2.below (HB1.out.alloc HB1.out.size _) HB1.out.size (Nat.le_trans HB1.out.size (by simp))
  have HZ2 : Hid (Blk w2 w.heap.size 26 (u8s (List.replicate 32 0))) := ho2.blk (HZ1.out.alloc _) (by have := HZ1.out.lt; omega)
  have HX2 : Hid (Rd w2 (some ⟨w1.heap.size, 0, none⟩) 32 S1) := by have h5 := hb2.rd 0 32 (by rw [HL1.out]; exact Nat.le_refl 32); rwa [List.drop_zero, List.take_of_length_le (by rw [HL1.out]; exact Nat.le_refl 32)] at h5
  have hk2 := hin2.out.key
  have ht2 : w2.there w.heap.size 0 32 := HZ2.out.there 0 32 (by rw [u8s_length]; exact Nat.le_refl 32)
  have hu145 := Tryz.underlying126
  have hi145 : (Tryz.prog.info? 126).map (·.size) = some K.length := by rw [HKL.out]; exact hd145
  have hi24 := HI2.out
  have hl24 : S2.length = 32 := by have := HI2.out; rw [hd24] at this; injection this with this; exact this.symm
  have hone2 := HO2.out
  clear hb2 ho2 hin1 HB1 HZ1
  go_region_held3 (fun W' => W'.rangeAt g 73 K ∧ W'.there w.heap.size 0 32) (first | assumption | exact ⟨hk2, ht2⟩ | exact ⟨hk3, ht3⟩ | exact ⟨rangeAt_alloc hk3 _, (HZ3.out.alloc _).there 0 32 (by rw [u8s_length]; exact Nat.le_refl 32)⟩ | exact ⟨hk4, ht4⟩ | exact ⟨hk5, ht5⟩) (first
    | (go_at_call 81; (with_reducible refine (HMK.out _).mono ?_); rintro e w3 ⟨rfl, hb3, hB3⟩; have hin3 := Lib.hid ((hin2.out.below (Below.refl _ _).drew).below hB3); have hl3 := hb3.lt; have hk3 := hin3.out.key
       have HZ3 : Hid (Blk w3 w.heap.size 26 (u8s (List.replicate 32 0))) := HZ2.out.drew.below hB3 HZ2.out.lt
       have ht3 : w3.there w.heap.size 0 32 := HZ3.out.there 0 32 (by rw [u8s_length]; exact Nat.le_refl 32)
       have hq3 : Hid (Rd w3 (some ⟨w2.heap.size + 1, 0, none⟩) 64 (u8s (Mc.mask kk 92))) := by { have h5 := hb3.rdAll; rw [HML.out] at h5; exact h5 }
       have HX3 : Hid (Rd w3 (some ⟨w1.heap.size, 0, none⟩) 32 S1) := HX2.out.drew.below hB3)
    | (go_at_call 84; (with_reducible refine (HSU.out _ _ (by exact HRB.out _ _ _ _ rfl hq3.out HX3.out)).mono ?_); rintro e w4 ⟨rfl, hB4⟩
       have hin4 := Lib.hid ((hin3.out.below ((Below.refl _ _).alloc (Nat.le_refl _) _)).below hB4)
       have hk4 := hin4.out.key
       have HZ4 : Hid (Blk w4 w.heap.size 26 (u8s (List.replicate 32 0))) := (HZ3.out.alloc _).below hB4 (by have := HZ3.out.lt; simp; omega)
       have ht4 : w4.there w.heap.size 0 32 := HZ4.out.there 0 32 (by rw [u8s_length]; exact Nat.le_refl 32)
       have hb5 : Hid (Blk (w4.setCells w.heap.size 0 S2) w.heap.size 26 S2) := by { have h5 := setCells_heap w.heap.size _ S2 0 _ _ HZ4.out HL2.out; rw [HE2.out] at h5; exact h5 }
       have ht5 : (w4.setCells w.heap.size 0 S2).there w.heap.size 0 32 := hb5.out.there 0 32 (by omega)
       have hk5 : (w4.setCells w.heap.size 0 S2).rangeAt g 73 K := by { obtain ⟨st, op, hb, hst⟩ := hin4.out; exact HashIn.key (l := l) ⟨st, op, (Only.of_setCells w4 w.heap.size 0 S2).blk hb (by omega), hst⟩ }))
  have HB4 : Hid (Below w.heap.size w w4) := ((HB2.out.drew.trans (hB3.mono HB2.out.size)).alloc (Nat.le_trans HB2.out.size hB3.size) _).trans (hB4.mono (Nat.le_trans (Nat.le_trans HB2.out.size hB3.size) (by simp)))
  clear hk2 hk3 hk4 hk5 ht2 ht3 ht4 ht5
  go_wp2_with fail
  exact bodyPost_ret (res_cell rfl _ w.heap.size _ S2 rfl hb5.out _ Tryz.underlying26 rfl HI2.out) rfl ⟨rfl, setCells_below w.heap.size w.heap.size w S2 0 _ HB4.out (Nat.le_refl _)⟩
end Go.Proofs.YtlbnibmcflmohaaGreat
/- mac.Tag: the tag of parts. -/
namespace Go.Proofs.YtlbnibmcflmohaaGreat
open Go.RowKit
set_option maxRecDepth 100000 in
set_option maxHeartbeats 1000000 in
theorem tag_any (A : Option Addr) (n c : Nat) (k : List UInt8) (A2 : Option Addr) (n2 c2 : Nat) (ls : List (List UInt8)) (w : World) (h : Rd w A n (u8s k)) (hc : n ≤ c) (hn : n ≤ 1000000000) (h2 : RdB w A2 n2 ls) (hn2 : n2 ≤ 1000000) (hl : ls.flatten.length ≤ 100000000) :
    Calls Tryz.prog 46 #[.slice A n c, .slice A2 n2 c2] w fun e w' => e = .returned (.agg (u8s (Mc.tag k ls.flatten)).toArray) ∧ Below w.heap.size w w' := by
  have hkl := Mc.key64_len k
  have hml : (Mc.mask (Mc.key64 k) 54).length = 64 := by rw [Mc.mask_len, hkl]
  have HNT := Lib.hid (fun W (h : Rd W A n (u8s k)) => newTagger_any A n c k W h hc hn)
  have HWR := Lib.hid (fun W g (hin : HashIn W g 130 (u8s (Mc.key64 k)) (Mc.mask (Mc.key64 k) 54)) (hr : RdX W g A2 n2 ls) => write_any g 130 _ _ A2 n2 c2 ls W hin hr hn2 (by rw [hml]; omega))
  have HTS := Lib.hid (fun W g (hin : HashIn W g 130 (u8s (Mc.key64 k)) (Mc.mask (Mc.key64 k) 54 ++ ls.flatten)) => tsum_any g (Mc.key64 k) _ W hin hkl (by rw [List.length_append, hml]; omega))
  have HI2 : Hid ((Tryz.prog.info? 26).map (·.size) = some (u8s (Mc.tag k ls.flatten)).length) := by rw [u8s_length, Mc.tag_len]; exact hd24
  have HL2 : Hid ((u8s (Mc.tag k ls.flatten)).length = (u8s (List.replicate 32 0)).length) := by show _ = _; rw [u8s_length, Mc.tag_len]; rfl
  have HO2 : Hid (∀ v ∈ u8s (Mc.tag k ls.flatten), v.oneCell' = true) := u8s_one _
  have HX : Hid (∀ W g, Below w.heap.size w W → w.heap.size ≤ g → RdX W g A2 n2 ls) := fun W g hW hg => (RdX.of h2 hg).below hW
  have HR := Lib.hid h
  obtain ⟨S2, hS2⟩ : ∃ S2, S2 = u8s (Mc.tag k ls.flatten) := ⟨_, rfl⟩
  have HTS' : Hid (∀ W g, HashIn W g 130 (u8s (Mc.key64 k)) (Mc.mask (Mc.key64 k) 54 ++ ls.flatten) → Calls Tryz.prog 66 #[.pointer (some ⟨g, 0, none⟩)] W fun e w' => e = .returned (.agg S2.toArray) ∧ Below W.heap.size W w') := fun W g hin => by rw [hS2]; exact HTS.out W g hin
  rw [← hS2] at HI2 HL2 HO2 ⊢
  clear hkl hml h h2 hS2 HTS
  go_enter Tryz.func46, Tryz.ntmps46
  go_wp2_with (first
    | (go_at_call 64; refine (HNT.out _ (by exact HR.out.alloc _)).mono ?_; rintro e w1 ⟨g, rfl, hg, hin1, hB1⟩
       have hg2 : w.heap.size < g := by have h5 := hg; simp at h5; omega
       have HI1 := Lib.hid hin1
       have HB1 : Hid (Below w.heap.size w w1) := ((Below.refl _ _).alloc (Nat.le_refl _) _).trans (hB1.mono (by simp))
       have HZ1 : Hid (Blk w1 w.heap.size 26 (u8s (List.replicate 32 0))) := (Blk.new' rfl rfl : Blk _ w.heap.size _ _).below hB1 (by simp)
       clear hin1 hB1 hg)
    | (go_at_call 65; refine (HWR.out _ g HI1.out (HX.out _ g HB1.out (by omega))).mono ?_; rintro e w2 ⟨rfl, hin2, hW2⟩
       have HIN2 := Lib.hid hin2
       have HB2 : Hid (Below w.heap.size w w2) := Wrote.below hW2 HB1.out (by omega) HB1.out.size
       have HZ2 : Hid (Blk w2 w.heap.size 26 (u8s (List.replicate 32 0))) := Blk.wrote HZ1.out hW2 (by omega)
       clear hin2 hW2)
    | (go_at_call 66; refine (HTS'.out _ g HIN2.out).mono ?_; rintro e w3 ⟨rfl, hB3⟩
       have HB3 : Hid (Below w.heap.size w w3) := HB2.out.trans (hB3.mono HB2.out.size)
       have HZ3 : Hid (Blk w3 w.heap.size 26 (u8s (List.replicate 32 0))) := HZ2.out.below hB3 HZ2.out.lt
       clear hB3)
    | (refine wpList_store_all rfl 26 (.tmp 4) (.tmp 14) rfl w.heap.size S2 (by rfl) (by rfl) 26 _ HZ3.out HI2.out HO2.out HL2.out ?_; intro w8 hb8 ho8))
  exact bodyPost_ret (res_cell rfl _ w.heap.size _ S2 rfl hb8 _ Tryz.underlying26 rfl HI2.out) rfl ⟨rfl, ho8.below HB3.out (Nat.le_refl _) HB3.out.size⟩
end Go.Proofs.YtlbnibmcflmohaaGreat
/- mac.first, mac.Short: the first 16 bytes of a tag. -/
namespace Go.Proofs.YtlbnibmcflmohaaGreat
open Go.RowKit
set_option maxRecDepth 100000 in
set_option maxHeartbeats 1000000 in
theorem first_any (t : List UInt8) (w : World) (ht : t.length = 32) :
    Calls Tryz.prog 45 #[.agg (u8s t).toArray] w fun e w' => e = .returned (.slice (some ⟨w.heap.size + 1, 0, none⟩) 16 16) ∧ Blk w' (w.heap.size + 1) 5 (u8s (t.take 16)) ∧ Below w.heap.size w w' := by
  have HE : Hid (splice (u8s (List.replicate 16 0)) 0 ((u8s t).take 16) = u8s (t.take 16)) := by
    show _ = _
    rw [u8s_take]
    exact splice_whole _ _ (by rw [u8s_length, u8s_length, List.length_take, ht]; rfl)
  have HT := Lib.hid ht
  obtain ⟨U, hU⟩ : ∃ U, U = u8s t := ⟨_, rfl⟩
  have HU := Lib.hid hU
  have HU1 : Hid (∀ v ∈ U, v.oneCell' = true) := by rw [hU]; exact u8s_one _
  have HUL : Hid (U.length = 32) := by rw [hU]; show _ = _; rw [u8s_length, ht]
  rw [← hU] at HE ⊢
  clear hU ht
  go_enter Tryz.func45, Tryz.ntmps45
  go_wp2_with (first
    | (refine wpList_make1 rfl (.const (.int .i64 16)) (.const (.int .i64 16)) 23 rfl 5 (.int .u8 0) 1 Tryz.underlying23 iU8 rfl .i64 .i64 16 16 (by rfl) (by rfl) 16 16 rfl rfl (Nat.le_refl _) (by omega) (by omega) ?_
       intro w1 hb1 hg1 hs1
       have HR1 : Hid (Rd w1 (some ⟨w.heap.size, 0, none⟩) 32 U) := by { have h5 := ((Blk.new w 26 U).below (grown_below hg1) (by simp)).rd 0 32 (by rw [HUL.out]; exact Nat.le_refl 32); rw [List.drop_zero, List.take_of_length_le (by rw [HUL.out]; exact Nat.le_refl 32)] at h5; exact h5 }
       have HB1 : Hid (Below w.heap.size w w1) := ((Below.refl _ _).alloc (Nat.le_refl _) _).trans ((grown_below hg1).mono (by simp))
       have HZ1 : Hid (Blk w1 (w.heap.size + 1) 5 (u8s (List.replicate 16 0))) := by { have h5 := hb1; rw [show (w.alloc (.cells U.toArray 26)).heap.size = w.heap.size + 1 by simp] at h5; exact h5 }
       clear hb1 hg1 hs1)
    | (refine wpList_copy rfl (.tmp 5) (.tmp 6) 23 rfl 5 Tryz.underlying23 u8_one1 (w.heap.size + 1) 0 16 16 (by rfl) (some ⟨w.heap.size, 0, none⟩) 32 32 (by rfl) 5 (u8s (List.replicate 16 0)) HZ1.out U HR1.out HU1.out (by rw [u8s_length]; exact Nat.le_refl _) ?_
       intro w2 hb2 ho2
       rw [HE.out] at hb2
       have HB2 : Hid (Below w.heap.size w w2) := ho2.below HB1.out (by omega) HB1.out.size))
  go_ret
  exact ⟨rfl, hb2, HB2.out⟩
theorem short_any (A : Option Addr) (n c : Nat) (k : List UInt8) (A2 : Option Addr) (n2 c2 : Nat) (ls : List (List UInt8)) (w : World) (h : Rd w A n (u8s k)) (hc : n ≤ c) (hn : n ≤ 1000000000) (h2 : RdB w A2 n2 ls) (hn2 : n2 ≤ 1000000) (hl : ls.flatten.length ≤ 100000000) :
    Calls Tryz.prog 23 #[.slice A n c, .slice A2 n2 c2] w fun e w' => ∃ g, e = .returned (.slice (some ⟨g, 0, none⟩) 16 16) ∧ w.heap.size ≤ g ∧ Blk w' g 5 (u8s ((Mc.tag k ls.flatten).take 16)) ∧ Below w.heap.size w w' := by
  have HT := Lib.hid (tag_any A n c k A2 n2 c2 ls w h hc hn h2 hn2 hl)
  have HF := Lib.hid (fun W => first_any (Mc.tag k ls.flatten) W (Mc.tag_len _ _))
  clear h h2
  go_enter Tryz.func23, Tryz.ntmps23
  go_wp2_with (first
    | (go_at_call 46; refine HT.out.mono ?_; rintro e w1 ⟨rfl, hB1⟩)
    | (go_at_call 45; refine (HF.out _).mono ?_; rintro e w2 ⟨rfl, hb2, hB2⟩))
  go_ret
  exact ⟨_, rfl, by have := hB1.size; omega, hb2, hB1.trans (hB2.mono hB1.size)⟩
end Go.Proofs.YtlbnibmcflmohaaGreat
/- mac.Extract: the tag of a secret by a salt. -/
namespace Go.Proofs.YtlbnibmcflmohaaGreat
open Go.RowKit
set_option maxRecDepth 100000 in
set_option maxHeartbeats 1000000 in
theorem extract_any (A : Option Addr) (n c : Nat) (k : List UInt8) (A2 : Option Addr) (n2 c2 : Nat) (l : List UInt8) (w : World) (h : Rd w A n (u8s k)) (hc : n ≤ c) (hn : n ≤ 1000000000) (h2 : Rd w A2 n2 (u8s l)) (hc2 : n2 ≤ c2) (hl : n2 ≤ 100000000) :
    Calls Tryz.prog 77 #[.slice A n c, .slice A2 n2 c2] w fun e w' => e = .returned (.agg (u8s (Mc.tag k l)).toArray) ∧ Below w.heap.size w w' := by
  have hll : l.length = n2 := h2.len
  have HTG : Hid (∀ W A3, Rd W A n (u8s k) → RdB W A3 1 [l] → Calls Tryz.prog 46 #[.slice A n c, .slice A3 1 1] W fun e w' => e = .returned (.agg (u8s (Mc.tag k l)).toArray) ∧ Below W.heap.size W w') := fun W A3 h1 hr => by
    have := tag_any A n c k A3 1 1 [l] W h1 hc hn hr (by omega) (by simp; omega)
    simpa using this
  have HRB : Hid (∀ (W : World) (g : Nat), g = W.heap.size → Rd W A2 n2 (u8s l) → RdB (W.alloc (.cells #[.slice A2 n2 c2] 23)) (some ⟨g, 0, none⟩) 1 [l]) := fun W g hg hr => RdB.of_blk (ls := [l]) (Blk.new' (cs := [.slice A2 n2 c2]) hg rfl) ⟨.of_rd (hr.alloc _) hc2, trivial⟩
  have HI2 : Hid ((Tryz.prog.info? 26).map (·.size) = some (u8s (Mc.tag k l)).length) := by rw [u8s_length, Mc.tag_len]; exact hd24
  have HL2 : Hid ((u8s (Mc.tag k l)).length = (u8s (List.replicate 32 0)).length) := by show _ = _; rw [u8s_length, Mc.tag_len]; rfl
  have HO2 : Hid (∀ v ∈ u8s (Mc.tag k l), v.oneCell' = true) := u8s_one _
  have HR := Lib.hid h
  have HR2 := Lib.hid h2
  obtain ⟨S2, hS2⟩ : ∃ S2, S2 = u8s (Mc.tag k l) := ⟨_, rfl⟩
  rw [← hS2] at HTG HI2 HL2 HO2 ⊢
  clear hll h h2 hS2
  go_enter Tryz.func77, Tryz.ntmps77
  go_wp2_with (first
    | (go_at_call 46; (with_reducible refine (HTG.out _ _ (by exact (HR.out.alloc _).alloc _) (by exact HRB.out _ _ (by simp) (HR2.out.alloc _))).mono ?_); rintro e w1 ⟨rfl, hB1⟩
       have HB1 : Hid (Below w.heap.size w w1) := (((Below.refl _ _).alloc (Nat.le_refl _) _).alloc (by simp) _).trans (hB1.mono (by simp; omega))
       have HZ1 : Hid (Blk w1 w.heap.size 26 (u8s (List.replicate 32 0))) := ((Blk.new' rfl rfl : Blk _ w.heap.size _ _).alloc _).below hB1 (by simp; omega))
    | (refine wpList_store_all rfl 26 (.tmp 4) (.tmp 8) rfl w.heap.size S2 (by rfl) (by rfl) 26 _ HZ1.out HI2.out HO2.out HL2.out ?_; intro w8 hb8 ho8))
  exact bodyPost_ret (res_cell rfl _ w.heap.size _ S2 rfl hb8 _ Tryz.underlying26 rfl HI2.out) rfl ⟨rfl, ho8.below HB1.out (Nat.le_refl _) HB1.out.size⟩
end Go.Proofs.YtlbnibmcflmohaaGreat
