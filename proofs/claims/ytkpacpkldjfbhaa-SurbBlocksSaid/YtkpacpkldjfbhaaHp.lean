/- header.Parse: 288 bytes become a header; any other number is refused. -/
import Derived.Test.YtkpacpkldjfbhaaBase
namespace Go.Proofs.Ytkpacpkldjfbhaa
open Go.RowKit

theorem u8_size1 : (Try.prog.info? 5).map (·.size) = some 1 := by kernel_rfl
theorem hd34 : (Try.prog.info? 34).map (·.size) = some 288 := by kernel_rfl
theorem zc34 : Try.zeroCells34 = (List.replicate 288 (.int .u8 0)).toArray := by kernel_rfl

set_option maxRecDepth 100000 in
set_option maxHeartbeats 400000 in
theorem hparse_yes (A : Option Addr) (c : Nat) (l : List UInt8) (w : World) (h : Rd w A 288 (u8s l)) (hc : 288 ≤ c) :
    Calls Try.prog 37 #[.slice A 288 c] w fun e w' => e = .returned (.tuple #[.agg (u8s l).toArray, .int .i64 0]) ∧ Below w.heap.size w w' := by
  have hl := h.len
  obtain ⟨b, off, rfl, hb, hcell⟩ := h.2 (by omega)
  obtain ⟨Z, hZ⟩ : ∃ Z : List Value, Try.zeroCells34 = Z.toArray := ⟨_, zc34⟩
  have hZl : Z.length = 288 := by have := Try.zeroCells34_size; rw [hZ] at this; simpa using this
  have HZ := Lib.hid hZ
  have HZl := Lib.hid hZl
  have Hl := Lib.hid hl
  have Hc := Lib.hid hcell
  clear hZ hZl hl hcell
  go_enter Try.func37, Try.ntmps37
  go_wp2_with (refine wpList_copy rfl (.tmp 10) (.tmp 11) 29 rfl 5 Try.underlying29 u8_size1 (w.heap.size + 1) 0 32 32 (by rfl) (some ⟨b, off, none⟩) 288 c (by rfl) 34 Z ?c1 (u8s l) ?c2 (u8s_one _) ?c3 ?_)
  case c1 => exact Blk.new' (by simp) HZ.out
  case c2 => exact (h.alloc _).alloc _
  case c3 => rw [HZl.out]; omega
  intro w1 hb1 ho1
  have hB1 : Below w.heap.size w w1 := ho1.below (((Below.refl _ _).alloc (Nat.le_refl _) _).alloc (by simp) _) (by simp) (by simp; omega)
  have hz1 : Blk w1 w.heap.size 34 Z := ho1.blk ((Blk.new' rfl HZ.out).alloc _) (by omega)
  have hr1 : Rd w1 (some ⟨b, off, none⟩) 288 (u8s l) := h.below hB1
  have hlen : ∀ cs o (xs : List Value) n, o + n ≤ 288 → cs.length = 288 → (splice cs o (xs.take n)).length = 288 := fun cs o xs n hn hc => by rw [length_splice _ _ _ (by simp; omega)]; exact hc
  have HL := Lib.hid hlen
  have hcut : ∀ W k m, Rd W (some ⟨b, off, none⟩) 288 (u8s l) → k + m = 288 → 0 < m → Rd W (some ⟨b, off + k, none⟩) m (u8s (l.drop k)) := fun W k m h hkm hm => by
    have := h.cut (A' := some ⟨b, off + k, none⟩) (m := 288) (k := k) (Nat.le_refl _) (by omega) (fun _ b' off' e => by injection e with e; injection e with e1 e2; subst e1; subst e2; rfl)
    rw [List.take_of_length_le (by rw [u8s_length, Hl.out]; exact Nat.le_refl _), u8s_drop, show 288 - k = m from by omega] at this
    exact this
  have HC := Lib.hid hcut
  clear ho1 hlen hcut
  go_wp2
  have n32 : ¬ c = 32 := by omega
  have n48 : ¬ c = 48 := by omega
  have hl1 : 32 + 16 ≤ (splice Z 0 (List.take 32 (u8s l))).length := by rw [HL.out _ _ _ _ (by omega) HZl.out]; omega
  go_region_held3 (fun _ => True) (trivial) ((refine step_copy rfl (.tmp 14) (.tmp 16) 29 rfl 5 Try.underlying29 u8_size1 (w.heap.size + 1) 32 16 16 (by rfl) (some ⟨b, off + 32, none⟩) 256 (c - 32) (by rfl) 34 _ (by exact hb1) (u8s (l.drop 32)) (HC.out _ 32 256 hr1.drew rfl (by omega)) (u8s_one _) hl1 ?_; intro w2 hb2 ho2))
  have hB2 : Below w.heap.size w w2 := ho2.below hB1.drew (by omega) hB1.size
  have hz2 : Blk w2 w.heap.size 34 Z := ho2.blk hz1.drew (by omega)
  have hr2 : Rd w2 (some ⟨b, off, none⟩) 288 (u8s l) := h.below hB2
  have hl2 : 48 + 240 ≤ (splice (splice Z 0 (List.take 32 (u8s l))) 32 (List.take 16 (u8s (l.drop 32)))).length := by rw [HL.out _ _ _ _ (by omega) (HL.out _ _ _ _ (by omega) HZl.out)]; omega
  clear ho2 hl1 hB1 hz1 hr1 hb1
  go_wp2
  go_region_held3 (fun _ => True) (trivial) ((refine step_copy rfl (.tmp 19) (.tmp 21) 29 rfl 5 Try.underlying29 u8_size1 (w.heap.size + 1) 48 240 240 (by rfl) (some ⟨b, off + 48, none⟩) 240 (c - 48) (by rfl) 34 _ (by exact hb2) (u8s (l.drop 48)) (HC.out _ 48 240 hr2.drew rfl (by omega)) (u8s_one _) hl2 ?_; intro w3 hb3 ho3))
  have hB3 : Below w.heap.size w w3 := ho3.below hB2.drew (by omega) hB2.size
  have hz3 : Blk w3 w.heap.size 34 Z := ho3.blk hz2.drew (by omega)
  have HF : splice (splice (splice Z 0 (List.take 32 (u8s l))) 32 (List.take 16 (u8s (l.drop 32)))) 48 (List.take 240 (u8s (l.drop 48))) = u8s l := by
    have hZ := HZl.out
    have hl := Hl.out
    rw [splice_splice_splice Z _ _ _ 32 16 (by simp [u8s_length]; omega) (by simp [u8s_length]; omega) (by simp [u8s_length]; omega), u8s_take, u8s_take, u8s_take, ← u8s_append, ← u8s_append]
    congr 1
    rw [List.take_of_length_le (l := l.drop 48) (by simp; omega), show l.drop 48 = (l.drop 32).drop 16 from by simp, List.take_append_drop, List.take_append_drop]
  rw [HF] at hb3
  have hi34 : (Try.prog.info? 34).map (·.size) = some (u8s l).length := by rw [u8s_length, Hl.out]; exact hd34
  have hz34 : 0 + (u8s l).length ≤ Z.length := by rw [u8s_length, Hl.out, HZl.out]; omega
  have H34 := Lib.hid hi34
  clear ho3 hB2 hz2 hr2 hb2 HF hl2 hi34
  go_wp2_with (first
    | refine wpList_load_mid rfl 34 (.tmp 4) rfl (w.heap.size + 1) 0 (by rfl) (u8s l) _ hb3.range Try.underlying34 rfl H34.out ?_
    | (refine wpList_store rfl 34 (.tmp 2) (.tmp 23) rfl w.heap.size 0 (u8s l) (by rfl) (by rfl) 34 Z hz3 H34.out (u8s_one _) hz34 ?_; intro w4 hb4 ho4))
  have hB4 : Below w.heap.size w w4 := ho4.below hB3 (Nat.le_refl _) hB3.size
  rw [show splice Z 0 (u8s l) = u8s l from by unfold splice; rw [List.drop_eq_nil_of_le (by rw [HZl.out, u8s_length, Hl.out]; omega)]; simp] at hb4
  exact bodyPost_ret (res_cell_tmp rfl _ _ _ _ rfl hb4 _ Try.underlying34 rfl H34.out) rfl ⟨rfl, hB4⟩


theorem build34_0 (w : World) : (Instr.build 34 #[]).run Try.prog w = .ok (.agg Try.zeroCells34) w := by kernel_rfl

set_option maxRecDepth 100000 in
set_option maxHeartbeats 400000 in
theorem hparse_no (A : Option Addr) (n c : Nat) (w : World) (hn : ¬ n = 288) :
    Calls Try.prog 37 #[.slice A n c] w fun e w' => e = .returned (.tuple #[.agg Try.zeroCells34, .int .i64 2]) ∧ Below w.heap.size w w' := by
  obtain ⟨Z, hZ⟩ : ∃ Z : List Value, Try.zeroCells34 = Z.toArray := ⟨_, zc34⟩
  have hZl : (Try.prog.info? 34).map (·.size) = some Z.length := by have := Try.zeroCells34_size; rw [hZ] at this; rw [show Z.length = 288 from by simpa using this]; exact hd34
  have HZ := Lib.hid hZ
  have HZl := Lib.hid hZl
  have hne : ((n : Int) != 288) = true := by rw [bne_iff_ne]; omega
  clear hZ hZl hn
  go_enter Try.func37, Try.ntmps37
  have H1 : ∀ v ∈ Z, v.oneCell' = true := by
    have : Try.zeroCells34.all (·.oneCell') = true := by rw [zc34]; decide +kernel
    rw [HZ.out] at this
    simpa using this
  go_wp2_with (first
    | refine wpList_build rfl 34 [] rfl [] (by rfl) _ (build34_0 _) ?_
    | (refine wpList_store rfl 34 (.tmp 2) (.tmp 8) rfl w.heap.size 0 Z (by rfl) (by exact congrArg Value.agg HZ.out) 34 Z (Blk.new' rfl HZ.out) HZl.out H1 (by omega) ?_; intro w4 hb4 ho4))
  have hB4 : Below w.heap.size w w4 := ho4.below ((Below.refl _ _).alloc (Nat.le_refl _) _) (Nat.le_refl _) (by simp)
  rw [splice_whole _ _ rfl] at hb4
  exact bodyPost_ret (res_cell_tmp rfl _ _ _ _ rfl hb4 _ Try.underlying34 rfl HZl.out) rfl ⟨by rw [HZ.out]; rfl, hB4⟩

end Go.Proofs.Ytkpacpkldjfbhaa
