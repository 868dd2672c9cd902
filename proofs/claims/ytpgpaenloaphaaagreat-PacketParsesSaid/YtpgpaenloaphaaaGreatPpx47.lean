/- Part of the proof: Tgz, Rft. -/
import Derived.Great.BuildSlice
import Derived.Test.YtpgpaenloaphaaaGreatPpx01
import Derived.Test.YtpgpaenloaphaaaGreatPpx25
import Derived.Test.YtpgpaenloaphaaaGreatPpx27
import Derived.Test.YtpgpaenloaphaaaGreatPpx32
import Derived.Test.YtpgpaenloaphaaaGreatPpx42
import Derived.Test.YtpgpaenloaphaaaGreatPpx45
namespace Go.Proofs.YtpgpaenloaphaaaGreat
open Go.RowKit
set_option maxRecDepth 100000 in
set_option maxHeartbeats 1000000 in
theorem rshort_any (A : Option Addr) (n c : Nat) (k : List UInt8) (A2 : Option Addr) (n2 c2 : Nat) (l : List UInt8) (w : World) (h : Rd w A n (u8s k)) (hn : n ≤ 100000000) (h2 : Rd w A2 n2 (u8s l)) (hn2 : n2 ≤ 10000000) :
   Calls Tryz.prog 82 #[.slice A n c, .slice A2 n2 c2] w fun e w' => ∃ A' c', e = .returned (.slice A' 16 c') ∧ 16 ≤ c' ∧ w'.ownsRow w.heap.size 5 1 (.slice A' 16 c') 16 (u8s ((Mc.tag k l).take 16)) ∧ Below w.heap.size w w' := by
 have HT := qh (rtag_any A n c k A2 n2 c2 l w h hn h2 hn2)
 have htl := Mc.tag_len k l
 generalize Mc.tag k l = T at *
 have HTL : Hid ((u8s T).length = 32) := by show _ = _; rw [u8s_length, htl]
 have HR : Hid (∀ W g, Blk W g 23 (u8s T) → Rd W (some ⟨g, 0, none⟩) 16 (u8s (T.take 16))) := fun W g hb => by
   have h6 := hb.rd 0 16 (by rw [u8s_length, htl]; omega)
   rwa [List.drop_zero, u8s_take] at h6
 clear h h2 htl
 go_enter Tryz.func82, Tryz.ntmps82
 go_wp2_with (first
   | (go_at_call 128; (with_reducible refine HT.out.mono ?_); rintro e w1 ⟨rfl, hB1⟩; have HE1 := qh hB1; clear hB1)
   | (refine wpList_store_all rfl 23 (.tmp 5) (.tmp 8) rfl w1.heap.size (u8s T) (by rfl) (by rfl) 23 (u8s (List.replicate 32 0)) (by exact Blk.new' rfl rfl) (by rw [HTL.out]; exact hd24) (u8s_one _) (by rw [HTL.out]; rfl) ?_
      intro w2 hb2 ho2
      have hs1 := HE1.out.size
      have HE2 := qh (ho2.below (HE1.out.alloc hs1 _) hs1 (Nat.le_trans hs1 (by simp)))
      have HR2 := qh (HR.out _ _ hb2)
      clear hb2 ho2)
   | (go_at_call 12; (with_reducible refine (copy_any _ _ _ _ _ (by exact HR2.out) (by omega)).mono ?_); rintro e w3 ⟨A3, c3, rfl, hc3, hown3, hB3⟩
      have HO3 := qh (own_mono hown3 HE2.out.size)
      have HE3 := qtr HE2 hB3
      clear hown3 hB3))
 go_ret
 exact ⟨A3, c3, rfl, hc3, HO3.out, HE3.out⟩
set_option maxRecDepth 100000 in
set_option maxHeartbeats 2000000 in
theorem rtag13_any (key : List UInt8) (hk : key.length = 32) (A : Option Addr) (n c : Nat) (a : List UInt8) (B : Option Addr) (m d : Nat) (b : List UInt8) (w : World) (h : Rd w A n (u8s a)) (h2 : Rd w B m (u8s b)) (hn : n ≤ 1000000) (hm : m ≤ 1000000) :
   Calls Tryz.prog 50 #[.agg (u8s key).toArray, .slice A n c, .slice B m d] w fun e w' => ∃ A' c', e = .returned (.slice A' 16 c') ∧ 16 ≤ c' ∧ w'.ownsRow w.heap.size 5 1 (.slice A' 16 c') 16 (u8s ((Mc.tag key (a ++ b)).take 16)) ∧ Below w.heap.size w w' := by
 have HA := qh h
 have HB := qh h2
 have HSH : Hid (∀ W A3 c3, Blk W w.heap.size 23 (u8s key) → Rd W A3 (n + m) (u8s (a ++ b)) → Calls Tryz.prog 82 #[.slice (some ⟨w.heap.size, 0, none⟩) 32 32, .slice A3 (n + m) c3] W fun e w' => ∃ A' c', e = .returned (.slice A' 16 c') ∧ 16 ≤ c' ∧ w'.ownsRow W.heap.size 5 1 (.slice A' 16 c') 16 (u8s ((Mc.tag key (a ++ b)).take 16)) ∧ Below W.heap.size W w') := fun W A3 c3 hb hr => by
   refine rshort_any _ 32 32 key A3 (n + m) c3 (a ++ b) W ?_ (by omega) hr (by omega)
   have h6 := hb.rd 0 32 (by rw [u8s_length, hk]; omega)
   rwa [List.drop_zero, List.take_of_length_le (by rw [u8s_length, hk]; omega)] at h6
 have HE0 : Hid (Below w.heap.size w (w.alloc (.cells (u8s key).toArray 23)).drew) := ((Below.refl _ w).alloc (Nat.le_refl _) _).drew
 have HK0 : Hid (Blk (w.alloc (.cells (u8s key).toArray 23)).drew w.heap.size 23 (u8s key)) := (Blk.new w _ _).drew
 clear h h2 hk
 go_enter Tryz.func50, Tryz.ntmps50
 go_wp2_with fail
 go_region_held3 (fun _ => True) (trivial) ((first
   | (go_at_call 12; (refine (copy_any A n c a _ (by exact HA.out.below HE0.out) (by omega)).mono ?_); rintro e w1 ⟨A1, c1, rfl, hc1, hown1, hB1⟩; have HE1 := qtr HE0 hB1; have HK1 := qbl HK0 hB1; have HO1 := qh hown1; clear hown1 hB1)
   | (refine step_app rfl (.tmp 9) (.tmp 10) 22 rfl (w.alloc (.cells (u8s key).toArray 23)).drew.heap.size 5 1 1 Tryz.underlying22 eU8 (.slice A1 n c1) n (u8s a) (by rfl) HO1.out B m d (u8s b) (by rfl) (by exact (HB.out.below HE1.out).toS) (u8s_one _) (by omega) (by omega) (by have h9 := HK1.out.lt; simp; omega) ?_; intro A2 c2 w2 hown2 hc2 hg2 hat2; rw [← u8s_append] at hown2; have HE2 := qh (HE1.out.grown hg2 HE1.out.size (fun k hk => by have h9 := (HO1.out.lt k hk).1; simp at h9; omega)); have HK2 := qh (HK1.out.grown hg2 (fun e => by have h9 := (HO1.out.lt _ e.symm).1; simp at h9; omega)); have HR2 := qh (Rd.of_own hown2); clear hown2 hg2 hat2)
   | (go_at_call 82; (refine (HSH.out _ _ _ (by exact HK2.out) (by exact HR2.out)).mono ?_); rintro e w3 ⟨A3, c3, rfl, hc3, hown3, hB3⟩; have HO3 := qh (own_mono hown3 HE2.out.size); have HE3 := qtr HE2 hB3; clear hown3 hB3)))
 go_wp2_with fail
 go_ret
 exact ⟨A3, c3, rfl, hc3, HO3.out, HE3.out⟩
end Go.Proofs.YtpgpaenloaphaaaGreat
namespace Go.Proofs.YtpgpaenloaphaaaGreat
open Go.RowKit
theorem hd27 : (Tryz.prog.info? 27).map (·.size) = some 192 := by kernel_rfl
theorem ldq_27 (v : Value) : Instr.loadAt 27 v = ldAt 27 v := rfl
theorem rsp_ld {w : World} {g : Nat} {t : TypeId} {C : List Value} (hb : Blk w g t C) (hl : C.length = 192) : (ldAt 27 (.pointer (some ⟨g, 0, none⟩))).run Tryz.prog w = .ok (.agg C.toArray) w :=
 ldAt_run hb _ 0 C (by rw [List.drop_zero, List.take_of_length_le (Nat.le_refl _)]) _ Tryz.underlying27 rfl (by rw [hl]; exact hd27)
theorem sp32_ld {w : World} {g : Nat} {t : TypeId} {s : Sp} (hb : Blk w g t s.cells) (_h : s.ok) (o : Nat) (x : List UInt8) (hx : (s.bytes.drop o).take 32 = x) (hl : x.length = 32) : (ldAt 23 (.pointer (some ⟨g, o, none⟩))).run Tryz.prog w = .ok (.agg (u8s x).toArray) w :=
 ldAt_run hb 23 o (u8s x) (by rw [u8s_length, hl, Sp.cells, u8s_drop, u8s_take, hx]) _ Tryz.underlying23 rfl (by rw [u8s_length, hl]; exact hd32)
attribute [local go_sem ↓] ldq_b32 ldq_27
set_option maxRecDepth 100000 in
set_option maxHeartbeats 2000000 in
theorem rfits_any (s : Sp) (hs : s.ok) (B : Option Addr) (c : Nat) (h : List UInt8) (w : World) (hr : Rd w B 288 (u8s h)) (hc : 288 ≤ c) :
   Calls Tryz.prog 19 #[.slice B 288 c, .agg s.cells.toArray] w fun e w' => e = .returned (.bool (fits s h)) ∧ Below w.heap.size w w' := by
 obtain ⟨b, off, rfl, hbw, _⟩ := hr.2 (by omega)
 have hhl := hr.len
 have HR := qh hr
 have HB0 : Hid (Blk (w.alloc (.cells s.cells.toArray 27)).drew w.heap.size 27 s.cells) := (Blk.new w _ _).drew
 have HE0 : Hid (Below w.heap.size w (w.alloc (.cells s.cells.toArray 27)).drew) := ((Below.refl _ w).alloc (Nat.le_refl _) _).drew
 have hld : (ldAt 23 (.pointer (some ⟨w.heap.size, 0, none⟩))).run Tryz.prog (w.alloc (.cells s.cells.toArray 27)).drew = .ok (.agg (u8s s.mac).toArray) (w.alloc (.cells s.cells.toArray 27)).drew := sp32_ld HB0.out hs 0 s.mac (Sp.at_mac hs) hs.1
 have HT : Hid (∀ W, Below w.heap.size w W → Calls Tryz.prog 50 #[.agg (u8s s.mac).toArray, .slice (some ⟨b, off, none⟩) 32 c, .slice (some ⟨b, off + 48, none⟩) 240 (c - 48)] W fun e w' => ∃ A' c', e = .returned (.slice A' 16 c') ∧ Rd w' A' 16 (u8s (tagOf s.mac h)) ∧ Below W.heap.size W w') := fun W hB => by
   have h1 := rd_mid (HR.out.below hB) 0 32 (by omega)
   rw [List.drop_zero, Nat.add_zero] at h1
   have h2 := rd_mid (HR.out.below hB) 48 240 (by omega)
   refine (rtag13_any s.mac hs.1 _ 32 c (h.take 32) _ 240 (c - 48) ((h.drop 48).take 240) W h1 h2 (by omega) (by omega)).mono ?_
   rintro e w' ⟨A', c', rfl, hc', ho, hB'⟩
   exact ⟨A', c', rfl, Rd.of_own ho, hB'⟩
 have HQ : Hid (∀ W A' c', Below w.heap.size w W → Rd W A' 16 (u8s (tagOf s.mac h)) → Calls Tryz.prog 13 #[.slice (some ⟨b, off + 32, none⟩) 16 (c - 32), .slice A' 16 c'] W fun e w' => e = .returned (.bool (fits s h)) ∧ ∃ q, w' = W.drewN q) := fun W A' c' hB ht => by
   have h1 := rd_mid (HR.out.below hB) 32 16 (by omega)
   refine (equal_any _ A' 16 16 (c - 32) c' ((h.drop 32).take 16) (tagOf s.mac h) W h1 ht (by omega) (by omega)).mono ?_
   rintro e w' ⟨rfl, q⟩
   refine ⟨?_, q⟩
   unfold fits
   exact congrArg (fun b => Ending.returned (.bool b)) (decide_eq_decide.2 ⟨Eq.symm, Eq.symm⟩)
 have HRG : Hid (∀ W, Blk W w.heap.size 27 s.cells → W.rangeAt w.heap.size 0 (u8s s.mac)) := fun W hbW => hbW.mid 0 (u8s s.mac) (by
   intro j v hv
   have e : (s.cells.drop 0).take 32 = u8s s.mac := by rw [Sp.cells, u8s_drop, u8s_take, Sp.at_mac hs]
   rw [← e, List.getElem?_take] at hv
   split at hv
   · simpa using hv
   · cases hv)
 have HML : Hid ((u8s s.mac).length = 32) := (by show _ = _; rw [u8s_length, hs.1])
 have n32 : ¬ c = 32 := by omega
 have n48 : ¬ c = 48 := by omega
 have hci : (288 : Int) ≤ (c : Int) := by omega
 have hci48 : (48 : Int) ≤ (c : Int) := by omega
 have hci32 : (32 : Int) ≤ (c : Int) := by omega
 generalize fits s h = R at *
 generalize s.cells = S at *
 generalize u8s s.mac = M at *
 generalize tagOf s.mac h = G at *
 clear hr hhl hs hbw
 have hu32 := Tryz.underlying23
 have hm32 : (Tryz.prog.info? 23).map (·.size) = some M.length := by rw [HML.out]; exact hd32
 go_enter Tryz.func19, Tryz.ntmps19
 go_wp2_with fail
 go_region_held3 (fun w' => w'.rangeAt w.heap.size 0 M) (first | exact HRG.out _ HB0.out | exact HRG.out _ HB1.out | exact HRG.out _ (HB1.out.drewN _)) ((first
   | (go_at_call 50; (refine (HT.out _ (by exact HE0.out)).mono ?_); rintro e w1 ⟨A1, c1, rfl, hr1, hB1⟩; have HE1 := qtr HE0 hB1; have HR1 := qh hr1; have HB1 := qbl HB0 hB1; clear hr1 hB1)
   | (go_at_call 13; (refine (HQ.out _ _ _ (by exact HE1.out) (by exact HR1.out)).mono ?_); rintro e w2 ⟨rfl, q, rfl⟩)))
 go_wp2_with fail
 go_ret
 have hh := HE1.out
 exact ⟨rfl, ⟨hh.os, hh.tape, hh.output, hh.size, hh.block⟩⟩
end Go.Proofs.YtpgpaenloaphaaaGreat
