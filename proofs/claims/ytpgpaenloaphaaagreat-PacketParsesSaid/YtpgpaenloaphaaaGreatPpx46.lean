/- Part of the proof: Nxt, Rnx. -/
import Derived.Test.YtpgpaenloaphaaaGreatPpx41
import Derived.Test.YtpgpaenloaphaaaGreatPpx42
import Derived.Test.YtpgpaenloaphaaaGreatPpx43
namespace Go.Proofs.YtpgpaenloaphaaaGreat
open Go.RowKit
theorem mB_len (k u : List UInt8) : (mB k u).length = 32 := by
 unfold mB
 split
 · rfl
 · exact leB_len _
theorem Sp.at_blind {s : Sp} (h : s.ok) : (s.bytes.drop 96).take 32 = s.blind := by
 have e : s.bytes = (s.mac ++ (s.stream ++ s.pay)) ++ (s.blind ++ (s.alpha ++ s.secret)) := by simp [Sp.bytes]
 rw [e, List.drop_left' (by simp [h.1, h.2.1, h.2.2.1]), List.take_left' h.2.2.2.1]
set_option maxRecDepth 100000 in
set_option maxHeartbeats 1000000 in
theorem next_any (s : Sp) (hs : s.ok) (w : World) :
   Calls Tryz.prog 45 #[.agg s.cells.toArray] w fun e w' => e = .returned (.tuple #[.agg (u8s (mB s.blind s.alpha)).toArray, .int .i64 (mE s.blind s.alpha : Int)]) ∧ Below w.heap.size w w' := by
 obtain ⟨C, hC⟩ : ∃ C, C = s.cells := ⟨_, rfl⟩
 have HCL : Hid (C.length = 192) := (by show _ = _; rw [hC]; exact Sp.cells_len hs)
 have HM : Hid (∀ W, Blk W w.heap.size 43 C → Calls Tryz.prog 76 #[.slice (some ⟨w.heap.size, 96, none⟩) 32 32, .slice (some ⟨w.heap.size, 128, none⟩) 32 32] W fun e w' => e = .returned (.tuple #[.agg (u8s (mB s.blind s.alpha)).toArray, .int .i64 (mE s.blind s.alpha : Int)]) ∧ Below W.heap.size W w') := fun W h => by
   rw [hC] at h
   exact mult_yes _ _ 32 32 s.blind s.alpha W (Sp.rd h hs 96 s.blind (by omega) (Sp.at_blind hs)) (Sp.rd h hs 128 s.alpha (by omega) (Sp.at_alpha hs))
 have HML := qh (mB_len s.blind s.alpha)
 rw [← hC]
 generalize mB s.blind s.alpha = M at *
 generalize (mE s.blind s.alpha : Int) = E at *
 clear hC hs
 have HB0 : Hid (Blk ((w.alloc (.cells C.toArray 43)).alloc (.cells o32.toArray 23)) w.heap.size 43 C ∧ Blk ((w.alloc (.cells C.toArray 43)).alloc (.cells o32.toArray 23)) (w.heap.size + 1) 23 o32 ∧ Below w.heap.size w ((w.alloc (.cells C.toArray 43)).alloc (.cells o32.toArray 23))) :=
   ⟨(Blk.new w _ _).alloc _, Blk.new' (by simp) rfl, ((Below.refl _ w).alloc (Nat.le_refl _) _).alloc (by simp) _⟩
 go_enter Tryz.func45, Tryz.ntmps45
 go_wp2
 refine region_K (by kernel_rfl) 8 (fun w' => True) ?_
 refine AnyK.pure 0 (v := .pointer (some ⟨w.heap.size, 0, none⟩)) rfl (by kernel_rfl) (fun _ _ _ h => h) rfl (fun _ => by kernel_rfl) (fun _ => trivial) ?_
 refine AnyK.pure 1 (v := .pointer (some ⟨w.heap.size, 96, none⟩)) rfl (by kernel_rfl) (fun _ _ _ h => h) rfl (fun _ => by kernel_rfl) (fun _ => trivial) ?_
 refine AnyK.pure 2 (v := .slice (some ⟨w.heap.size, 96, none⟩) 32 32) rfl (by kernel_rfl) (fun _ _ _ h => h) rfl (fun _ => by kernel_rfl) (fun _ => trivial) ?_
 refine AnyK.pure 3 (v := .pointer (some ⟨w.heap.size, 128, none⟩)) rfl (by kernel_rfl) (fun _ _ _ h => h) rfl (fun _ => by kernel_rfl) (fun _ => trivial) ?_
 refine AnyK.pure 4 (v := .slice (some ⟨w.heap.size, 128, none⟩) 32 32) rfl (by kernel_rfl) (fun _ _ _ h => h) rfl (fun _ => by kernel_rfl) (fun _ => trivial) ?_
 refine AnyK.enter 5 (d := some 9) (f := 76) (args := #[.slice (some ⟨w.heap.size, 96, none⟩) 32 32, .slice (some ⟨w.heap.size, 128, none⟩) 32 32]) (by rfl) (by kernel_rfl) (by kernel_rfl) ?_
 refine (HM.out _ (by exact HB0.out.1.drew)).mono ?_
 rintro e w2 ⟨rfl, hB⟩
 refine ⟨_, rfl, fun _ => trivial, ?_⟩
 have hB' : Below ((w.alloc (.cells C.toArray 43)).alloc (.cells o32.toArray 23)).drew.heap.size ((w.alloc (.cells C.toArray 43)).alloc (.cells o32.toArray 23)).drew w2 := hB
 have hz2 := HB0.out.2.1.drew.below hB' HB0.out.2.1.drew.lt
 have hE2 := HB0.out.2.2.drew.trans (hB'.mono HB0.out.2.2.drew.size)
 refine AnyK.pure 6 (v := .agg (u8s M).toArray) rfl (by kernel_rfl) (fun _ _ _ h => h) rfl (fun _ => by kernel_rfl) (fun _ => trivial) ?_
 refine AnyK.pure 7 (v := .int .i64 E) rfl (by kernel_rfl) (fun _ _ _ h => h) rfl (fun _ => by kernel_rfl) (fun _ => trivial) ?_
 refine AnyK.storeAll 8 (w.heap.size + 1) (u8s M) 23 o32 (by rfl) rfl rfl (by rfl) (by kernel_rfl) (by kernel_rfl) (by kernel_rfl) hz2 (by rw [u8s_length, HML.out]; exact hd32) (u8s_one _) (by rw [u8s_length, HML.out]; rfl) (fun _ _ _ _ => trivial) ?_
 intro w3 hb3 ho3
 have HE3 := qh (ho3.below hE2 (by omega) hE2.size)
 refine AnyK.val 9 (v := .int .i64 E) (by rfl) (by kernel_rfl) rfl (by kernel_rfl) (fun _ => trivial) ?_
 refine AnyK.done (by kernel_rfl) ?_
 have HB3 := qh hb3
 clear hb3 ho3 hz2 hE2 hB hB'
 go_wp2
 exact bodyPost_ret (res_cell_tmp (p := 2) (u := 3) (ty := 23) rfl _ (w.heap.size + 1) 23 (u8s M) (by kernel_rfl) HB3.out _ Tryz.underlying23 rfl (by rw [u8s_length, HML.out]; exact hd32)) rfl ⟨by kernel_rfl, HE3.out⟩
end Go.Proofs.YtpgpaenloaphaaaGreat
namespace Go.Proofs.YtpgpaenloaphaaaGreat
open Go.RowKit
set_option maxRecDepth 100000 in
set_option maxHeartbeats 1000000 in
theorem rnext_any (s : Sp) (hs : s.ok) (w : World) :
   Calls Tryz.prog 48 #[.agg s.cells.toArray] w fun e w' => e = .returned (.tuple #[.agg (u8s (mB s.blind s.alpha)).toArray, .int .i64 (mE s.blind s.alpha : Int)]) ∧ Below w.heap.size w w' := by
 obtain ⟨C, hC⟩ : ∃ C, C = s.cells := ⟨_, rfl⟩
 have HCL : Hid (C.length = 192) := (by show _ = _; rw [hC]; exact Sp.cells_len hs)
 have HM : Hid (∀ W, Blk W w.heap.size 27 C → Calls Tryz.prog 79 #[.slice (some ⟨w.heap.size, 96, none⟩) 32 32, .slice (some ⟨w.heap.size, 128, none⟩) 32 32] W fun e w' => e = .returned (.tuple #[.agg (u8s (mB s.blind s.alpha)).toArray, .int .i64 (mE s.blind s.alpha : Int)]) ∧ Below W.heap.size W w') := fun W h => by
   rw [hC] at h
   exact rmult_yes _ _ 32 32 s.blind s.alpha W (Sp.rd h hs 96 s.blind (by omega) (Sp.at_blind hs)) (Sp.rd h hs 128 s.alpha (by omega) (Sp.at_alpha hs))
 have HML := qh (mB_len s.blind s.alpha)
 rw [← hC]
 generalize mB s.blind s.alpha = M at *
 generalize (mE s.blind s.alpha : Int) = E at *
 clear hC hs
 have HB0 : Hid (Blk ((w.alloc (.cells C.toArray 27)).alloc (.cells o32.toArray 23)) w.heap.size 27 C ∧ Blk ((w.alloc (.cells C.toArray 27)).alloc (.cells o32.toArray 23)) (w.heap.size + 1) 23 o32 ∧ Below w.heap.size w ((w.alloc (.cells C.toArray 27)).alloc (.cells o32.toArray 23))) :=
   ⟨(Blk.new w _ _).alloc _, Blk.new' (by simp) rfl, ((Below.refl _ w).alloc (Nat.le_refl _) _).alloc (by simp) _⟩
 go_enter Tryz.func48, Tryz.ntmps48
 go_wp2
 refine region_K (by kernel_rfl) 8 (fun w' => True) ?_
 refine AnyK.pure 0 (v := .pointer (some ⟨w.heap.size, 0, none⟩)) rfl (by kernel_rfl) (fun _ _ _ h => h) rfl (fun _ => by kernel_rfl) (fun _ => trivial) ?_
 refine AnyK.pure 1 (v := .pointer (some ⟨w.heap.size, 96, none⟩)) rfl (by kernel_rfl) (fun _ _ _ h => h) rfl (fun _ => by kernel_rfl) (fun _ => trivial) ?_
 refine AnyK.pure 2 (v := .slice (some ⟨w.heap.size, 96, none⟩) 32 32) rfl (by kernel_rfl) (fun _ _ _ h => h) rfl (fun _ => by kernel_rfl) (fun _ => trivial) ?_
 refine AnyK.pure 3 (v := .pointer (some ⟨w.heap.size, 128, none⟩)) rfl (by kernel_rfl) (fun _ _ _ h => h) rfl (fun _ => by kernel_rfl) (fun _ => trivial) ?_
 refine AnyK.pure 4 (v := .slice (some ⟨w.heap.size, 128, none⟩) 32 32) rfl (by kernel_rfl) (fun _ _ _ h => h) rfl (fun _ => by kernel_rfl) (fun _ => trivial) ?_
 refine AnyK.enter 5 (d := some 9) (f := 79) (args := #[.slice (some ⟨w.heap.size, 96, none⟩) 32 32, .slice (some ⟨w.heap.size, 128, none⟩) 32 32]) (by rfl) (by kernel_rfl) (by kernel_rfl) ?_
 refine (HM.out _ (by exact HB0.out.1.drew)).mono ?_
 rintro e w2 ⟨rfl, hB⟩
 refine ⟨_, rfl, fun _ => trivial, ?_⟩
 have hB' : Below ((w.alloc (.cells C.toArray 27)).alloc (.cells o32.toArray 23)).drew.heap.size ((w.alloc (.cells C.toArray 27)).alloc (.cells o32.toArray 23)).drew w2 := hB
 have hz2 := HB0.out.2.1.drew.below hB' HB0.out.2.1.drew.lt
 have hE2 := HB0.out.2.2.drew.trans (hB'.mono HB0.out.2.2.drew.size)
 refine AnyK.pure 6 (v := .agg (u8s M).toArray) rfl (by kernel_rfl) (fun _ _ _ h => h) rfl (fun _ => by kernel_rfl) (fun _ => trivial) ?_
 refine AnyK.pure 7 (v := .int .i64 E) rfl (by kernel_rfl) (fun _ _ _ h => h) rfl (fun _ => by kernel_rfl) (fun _ => trivial) ?_
 refine AnyK.storeAll 8 (w.heap.size + 1) (u8s M) 23 o32 (by rfl) rfl rfl (by rfl) (by kernel_rfl) (by kernel_rfl) (by kernel_rfl) hz2 (by rw [u8s_length, HML.out]; exact hd32) (u8s_one _) (by rw [u8s_length, HML.out]; rfl) (fun _ _ _ _ => trivial) ?_
 intro w3 hb3 ho3
 have HE3 := qh (ho3.below hE2 (by omega) hE2.size)
 refine AnyK.val 9 (v := .int .i64 E) (by rfl) (by kernel_rfl) rfl (by kernel_rfl) (fun _ => trivial) ?_
 refine AnyK.done (by kernel_rfl) ?_
 have HB3 := qh hb3
 clear hb3 ho3 hz2 hE2 hB hB'
 go_wp2
 exact bodyPost_ret (res_cell_tmp (p := 2) (u := 3) (ty := 23) rfl _ (w.heap.size + 1) 23 (u8s M) (by kernel_rfl) HB3.out _ Tryz.underlying23 rfl (by rw [u8s_length, HML.out]; exact hd32)) rfl ⟨by kernel_rfl, HE3.out⟩
end Go.Proofs.YtpgpaenloaphaaaGreat
