/- Part of the proof: HdA, Spm. -/
import Derived.Test.YtlbnibmcflmohaaFlx05
namespace Go.Proofs.Ytlbnibmcflmohaa
open Go.RowKit
theorem u8_size1 : (Try.prog.info? 5).map (·.size) = some 1 := by kernel_rfl
theorem hd34 : (Try.prog.info? 29).map (·.size) = some 288 := by kernel_rfl
theorem zc34 : Try.zeroCells29 = (List.replicate 288 (.int .u8 0)).toArray := by kernel_rfl
set_option maxRecDepth 100000 in
set_option maxHeartbeats 400000 in
theorem hparse_yes (A : Option Addr) (c : Nat) (l : List UInt8) (w : World) (h : Rd w A 288 (u8s l)) (hc : 288 ≤ c) :
    Calls Try.prog 10 #[.slice A 288 c] w fun e w' => e = .returned (.tuple #[.agg (u8s l).toArray, .int .i64 0]) ∧ Below w.heap.size w w' := by
  have hl := h.len
  obtain ⟨b, off, rfl, hb, hcell⟩ := h.2 (by omega)
  obtain ⟨Z, hZ⟩ : ∃ Z : List Value, Try.zeroCells29 = Z.toArray := ⟨_, zc34⟩
  have hZl : Z.length = 288 := by have := Try.zeroCells29_size; rw [hZ] at this; simpa using this
  have HZ := Lib.hid hZ
  have HZl := Lib.hid hZl
  have Hl := Lib.hid hl
  have Hc := Lib.hid hcell
  clear hZ hZl hl hcell
  go_enter Try.func10, Try.ntmps10
  go_wp2_with (refine wpList_copy rfl (.tmp 10) (.tmp 11) 43 rfl 5 Try.underlying43 u8_size1 (w.heap.size + 1) 0 32 32 (by rfl) (some ⟨b, off, none⟩) 288 c (by rfl) 29 Z ?c1 (u8s l) ?c2 (u8s_one _) ?c3 ?_)
  case c1 => exact Blk.new' (by simp) HZ.out
  case c2 => exact (h.alloc _).alloc _
  case c3 => rw [HZl.out]; omega
  intro w1 hb1 ho1
  have hB1 : Below w.heap.size w w1 := ho1.below (((Below.refl _ _).alloc (Nat.le_refl _) _).alloc (by simp) _) (by simp) (by simp; omega)
  have hz1 : Blk w1 w.heap.size 29 Z := ho1.blk ((Blk.new' rfl HZ.out).alloc _) (by omega)
  have hr1 : Rd w1 (some ⟨b, off, none⟩) 288 (u8s l) := h.below hB1
  have hlen : ∀ cs o (xs : List Value) n, o + n ≤ 288 → cs.length = 288 → (splice cs o (xs.take n)).length = 288 := fun cs o xs n hn hc => by rw [length_splice _ _ _ (by simp; omega)]; exact hc
  have HL := Lib.hid hlen
  have hcut : ∀ W k m, Rd W (some ⟨b, off, none⟩) 288 (u8s l) → k + m = 288 → 0 < m → Rd W (some ⟨b, off + k, none⟩) m (u8s (l.drop k)) := fun W k m h hkm hm => by
    have := h.cut (A' := some ⟨b, off + k, none⟩) (m := 288) (k := k) (Nat.le_refl _) (by omega) (fun _ b' off' e => by injection e with e; injection e with e1 e2; subst e1; subst e2; rfl)
    rw [List.take_of_length_le (by rw [u8s_length, Hl.out]; exact Nat.le_refl _), u8s_drop, show 288 - k = m from by omega] at this
    exact this
  have HC := Lib.hid hcut
  clear ho1 hlen hcut
  go_wp2
  have n32 : ¬ c = 32 := by omega
  have n48 : ¬ c = 48 := by omega
  have hl1 : 32 + 16 ≤ (splice Z 0 (List.take 32 (u8s l))).length := by rw [HL.out _ _ _ _ (by omega) HZl.out]; omega
  go_region_held3 (fun _ => True) (trivial) ((refine step_copy rfl (.tmp 14) (.tmp 16) 43 rfl 5 Try.underlying43 u8_size1 (w.heap.size + 1) 32 16 16 (by rfl) (some ⟨b, off + 32, none⟩) 256 (c - 32) (by rfl) 29 _ (by exact hb1) (u8s (l.drop 32)) (HC.out _ 32 256 hr1.drew rfl (by omega)) (u8s_one _) hl1 ?_; intro w2 hb2 ho2))
  have hB2 : Below w.heap.size w w2 := ho2.below hB1.drew (by omega) hB1.size
  have hz2 : Blk w2 w.heap.size 29 Z := ho2.blk hz1.drew (by omega)
  have hr2 : Rd w2 (some ⟨b, off, none⟩) 288 (u8s l) := h.below hB2
  have hl2 : 48 + 240 ≤ (splice (splice Z 0 (List.take 32 (u8s l))) 32 (List.take 16 (u8s (l.drop 32)))).length := by rw [HL.out _ _ _ _ (by omega) (HL.out _ _ _ _ (by omega) HZl.out)]; omega
  clear ho2 hl1 hB1 hz1 hr1 hb1
  go_wp2
  go_region_held3 (fun _ => True) (trivial) ((refine step_copy rfl (.tmp 19) (.tmp 21) 43 rfl 5 Try.underlying43 u8_size1 (w.heap.size + 1) 48 240 240 (by rfl) (some ⟨b, off + 48, none⟩) 240 (c - 48) (by rfl) 29 _ (by exact hb2) (u8s (l.drop 48)) (HC.out _ 48 240 hr2.drew rfl (by omega)) (u8s_one _) hl2 ?_; intro w3 hb3 ho3))
  have hB3 : Below w.heap.size w w3 := ho3.below hB2.drew (by omega) hB2.size
  have hz3 : Blk w3 w.heap.size 29 Z := ho3.blk hz2.drew (by omega)
  have HF : splice (splice (splice Z 0 (List.take 32 (u8s l))) 32 (List.take 16 (u8s (l.drop 32)))) 48 (List.take 240 (u8s (l.drop 48))) = u8s l := by
    have hZ := HZl.out
    have hl := Hl.out
    rw [splice_splice_splice Z _ _ _ 32 16 (by simp [u8s_length]; omega) (by simp [u8s_length]; omega) (by simp [u8s_length]; omega), u8s_take, u8s_take, u8s_take, ← u8s_append, ← u8s_append]
    congr 1
    rw [List.take_of_length_le (l := l.drop 48) (by simp; omega), show l.drop 48 = (l.drop 32).drop 16 from by simp, List.take_append_drop, List.take_append_drop]
  rw [HF] at hb3
  have hi34 : (Try.prog.info? 29).map (·.size) = some (u8s l).length := by rw [u8s_length, Hl.out]; exact hd34
  have hz34 : 0 + (u8s l).length ≤ Z.length := by rw [u8s_length, Hl.out, HZl.out]; omega
  have H34 := Lib.hid hi34
  clear ho3 hB2 hz2 hr2 hb2 HF hl2 hi34
  go_wp2_with (first
    | refine wpList_load_mid rfl 29 (.tmp 4) rfl (w.heap.size + 1) 0 (by rfl) (u8s l) _ hb3.range Try.underlying29 rfl H34.out ?_
    | (refine wpList_store rfl 29 (.tmp 2) (.tmp 23) rfl w.heap.size 0 (u8s l) (by rfl) (by rfl) 29 Z hz3 H34.out (u8s_one _) hz34 ?_; intro w4 hb4 ho4))
  have hB4 : Below w.heap.size w w4 := ho4.below hB3 (Nat.le_refl _) hB3.size
  rw [show splice Z 0 (u8s l) = u8s l from by unfold splice; rw [List.drop_eq_nil_of_le (by rw [HZl.out, u8s_length, Hl.out]; omega)]; simp] at hb4
  exact bodyPost_ret (res_cell_tmp rfl _ _ _ _ rfl hb4 _ Try.underlying29 rfl H34.out) rfl ⟨rfl, hB4⟩
theorem build34_0 (w : World) : (Instr.build 29 #[]).run Try.prog w = .ok (.agg Try.zeroCells29) w := by kernel_rfl
end Go.Proofs.Ytlbnibmcflmohaa
/- Header.Bytes: the 288 bytes of a header. -/
namespace Go.Proofs.Ytlbnibmcflmohaa
open Go.RowKit
set_option maxRecDepth 100000 in
set_option maxHeartbeats 400000 in
theorem hbytes_any (l : List UInt8) (w : World) (hl : l.length = 288) :
    Calls Try.prog 9 #[.agg (u8s l).toArray] w fun e w' => ∃ A' c', e = .returned (.slice A' 288 c') ∧ 288 ≤ c' ∧ w'.ownsRow w.heap.size 5 1 (.slice A' 288 c') 288 (u8s l) ∧ Below w.heap.size w w' := by
  have Hl := Lib.hid hl
  clear hl
  go_enter Try.func9, Try.ntmps9
  have hq : ∀ W, Blk W w.heap.size 29 (u8s l) → Blk W (w.heap.size + 1) 43 [.slice (some ⟨w.heap.size, 0, none⟩) 32 32, .slice (some ⟨w.heap.size, 32, none⟩) 16 16, .slice (some ⟨w.heap.size, 48, none⟩) 240 240] →
      RdB W (some ⟨w.heap.size + 1, 0, none⟩) 3 [l.take 32, (l.drop 32).take 16, (l.drop 48).take 240] := fun W h1 h2 =>
    RdB.of_blk h2 ⟨.of_blk h1 0 32 32 _ (by rw [u8s_length, Hl.out]; omega) (by omega) (by rw [u8s_drop, u8s_take]; rfl), .of_blk h1 32 16 16 _ (by rw [u8s_length, Hl.out]; omega) (by omega) (by rw [u8s_drop, u8s_take]),
      .of_blk h1 48 240 240 _ (by rw [u8s_length, Hl.out]; omega) (by omega) (by rw [u8s_drop, u8s_take]), trivial⟩
  have hfl : [l.take 32, (l.drop 32).take 16, (l.drop 48).take 240].flatten = l := by
    have hl := Hl.out
    simp
    rw [List.take_of_length_le (l := l.drop 48) (by simp; omega), show l.drop 48 = (l.drop 32).drop 16 from by simp, List.take_append_drop, List.take_append_drop]
  have HQ := Lib.hid hq
  have HFL := Lib.hid hfl
  clear hq hfl
  go_wp2_with fail
  go_region_held3 (fun _ => True) (trivial) ((go_at_call 18; refine (join_to _ 3 3 _ _ (HQ.out _ (by exact ((Blk.new w _ _).alloc _).drew) (by exact (Blk.new' (by simp) rfl).drew)) (by omega) l 288 HFL.out Hl.out (by omega)).mono ?_; rintro e w1 ⟨A1, c1, rfl, hc1, hown1, hB1⟩))
  have hB2 : Below w.heap.size w w1 := ((((Below.refl _ _).alloc (Nat.le_refl _) _).alloc (by simp) _).drew).trans (hB1.mono (by simp; omega))
  have hown2 := own_mono hown1 (base' := w.heap.size) (by simp; omega)
  clear hown1 hB1
  go_wp2
  go_ret
  exact ⟨A1, c1, rfl, hc1, hown2, hB2⟩
end Go.Proofs.Ytlbnibmcflmohaa
/- Packets: their cells; Packet.Bytes. (For a seat without packet.Parse.) -/
namespace Go.Proofs.Ytlbnibmcflmohaa
open Go.RowKit
theorem zc34' : Try.zeroCells29 = (u8s (List.replicate 288 0)).toArray := by kernel_rfl
theorem ldq_34 (v : Value) : Instr.loadAt 29 v = ldAt 29 v := rfl
attribute [local go_sem ↓] ldq_34
end Go.Proofs.Ytlbnibmcflmohaa
namespace Go.Proofs.Ytlbnibmcflmohaa
open Go.RowKit
theorem splice_mid {α : Type} (A B C B' : List α) (k : Nat) (hk : A.length = k) (hb : B'.length = B.length) : splice (A ++ (B ++ C)) k B' = A ++ (B' ++ C) := by
  subst hk
  unfold splice
  rw [List.take_left, hb, ← List.append_assoc A B C, show A.length + B.length = (A ++ B).length from by simp, List.drop_left]
theorem splice_back {α : Type} (A B B' : List α) (k : Nat) (hk : A.length = k) (h : B'.length = B.length) : splice (A ++ B) k B' = A ++ B' := by
  have := splice_mid A B [] B' k hk h
  simpa using this
theorem Blk.all {w : World} {g : Nat} {t : TypeId} {l : List UInt8} {n : Nat} (h : Blk w g t (u8s l)) (hn : l.length = n) : Rd w (some ⟨g, 0, none⟩) n (u8s l) := by
  have := h.rd 0 n (by rw [u8s_length, hn]; omega)
  rwa [List.drop_zero, List.take_of_length_le (by rw [u8s_length, hn]; omega)] at this
end Go.Proofs.Ytlbnibmcflmohaa
