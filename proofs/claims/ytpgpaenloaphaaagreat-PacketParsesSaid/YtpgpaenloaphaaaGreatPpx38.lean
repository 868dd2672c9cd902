/- Part of the proof: Rdc. -/
import Derived.Test.YtpgpaenloaphaaaGreatPpx24
import Derived.Test.YtpgpaenloaphaaaGreatPpx31
import Derived.Test.YtpgpaenloaphaaaGreatPpx37
namespace Go.Proofs.YtpgpaenloaphaaaGreat
open Go.RowKit
def cmC (k f : UInt8) (d n : Nat) : List Value := Cm.cells ⟨k, f, d, n, List.replicate 16 0⟩
theorem beNat_sn (m : List UInt8) (x : UInt8) : beNat (m ++ [x]) = beNat m * 256 + x.toNat := by simp [beNat]
theorem take_snoc (l : List UInt8) (a j : Nat) (h : a + j < l.length) : (l.drop a).take (j + 1) = (l.drop a).take j ++ [l.getD (a + j) 0] := by
 rw [List.take_add_one, List.getElem?_drop, List.getD_eq_getElem?_getD, List.getElem?_eq_getElem h]
 rfl
theorem wrap32 (n : Nat) (h : n < 4294967296) (z : Int) (hz : z = (n : Int)) : IntKind.u32.wrap z = (n : Int) := by
 rw [IntKind.wrap_u32]; omega
theorem szU8r (w : World) : (sizeOf 5).run Tryz.prog w = .ok 1 w := by kernel_rfl
attribute [local go_sem ↓] ldq_cm
set_option maxRecDepth 100000 in
set_option maxHeartbeats 4000000 in
theorem rdec_any (A : Option Addr) (c : Nat) (l : List UInt8) (w : World) (h : Rd w A 32 (u8s l)) (hc : 32 ≤ c) :
   Calls Tryz.prog 47 #[.slice A 32 c] w fun e w' => e = .returned (.tuple #[.agg (if dce l = 0 then (dcm l).cells else Cm.zero.cells).toArray, .int .i64 (dce l : Int)]) ∧ Below w.heap.size w w' := by
 have hll := h.len
 obtain ⟨b, off, rfl, hb, hcell⟩ := h.2 (by omega)
 have HR := qh h
 have hok := dcm_ok hll
 have HL := qh hll
 have HCK := qh (fun W => rcheck_any (dcm l) hok W)
 have HCL := qh (Cm.cells_len hok)
 have HC30 : Hid (∀ W, Below w.heap.size w W → W.cell? ⟨b, off + 30, none⟩ = some (.int .u8 (l.getD 30 0).toNat) ∧ W.cell? ⟨b, off + 31, none⟩ = some (.int .u8 (l.getD 31 0).toNat)) := fun W hB => ⟨(h.below hB).get (i := 30) (by omega), (h.below hB).get (i := 31) (by omega)⟩
 have HBY : Hid (∀ W i, Below w.heap.size w W → i < 32 → W.cell? ⟨b, off + i, none⟩ = some (.int .u8 (l.getD i 0).toNat)) := fun W i hB hi => (h.below hB).get hi
 have HDE : Hid (dce l = if (l.getD 30 0 ≠ 0 ∨ l.getD 31 0 ≠ 0) ∧ ((dcm l).check = 0 ∨ 3 < (dcm l).check) then 3 else (dcm l).check) := rfl
 have HR0 : Hid (Rd (w.alloc (.cells Cm.zero.cells.toArray 47)).drew (some ⟨b, off, none⟩) 32 (u8s l) ∧ Below w.heap.size w (w.alloc (.cells Cm.zero.cells.toArray 47)).drew ∧ Blk (w.alloc (.cells Cm.zero.cells.toArray 47)).drew w.heap.size 47 Cm.zero.cells ∧ w.heap.size + 1 ≤ (w.alloc (.cells Cm.zero.cells.toArray 47)).drew.heap.size) := ⟨(HR.out.alloc _).drew, ((Below.refl _ w).alloc (Nat.le_refl _) _).drew, (Blk.new _ _ _).drew, by simp⟩
 have HC1 := qh (Cm.cells_one (dcm l))
 have hv := Cm.check_vals (dcm l)
 have HSPL : Hid (splice (cmC (l.getD 0 0) (l.getD 1 0) (beNat ((l.drop 2).take 4)) (beNat ((l.drop 6).take 8))) 4 ((u8s ((l.drop 14).take 16)).take 16) = (dcm l).cells) := by
   show _ = _
   have e1 : cmC (l.getD 0 0) (l.getD 1 0) (beNat ((l.drop 2).take 4)) (beNat ((l.drop 6).take 8)) = [.int .u8 (l.getD 0 0).toNat, .int .u8 (l.getD 1 0).toNat, .int .u32 ((beNat ((l.drop 2).take 4) : Nat) : Int), .int .u64 ((beNat ((l.drop 6).take 8) : Nat) : Int)] ++ u8s (List.replicate 16 0) := rfl
   rw [e1, List.take_of_length_le (l := u8s ((l.drop 14).take 16)) (by simp [u8s_length, hll]), splice_back _ _ _ 4 rfl (by simp [u8s_length, hll])]
   rfl
 generalize dce l = DE at *
 generalize (dcm l).cells = C at *
 generalize (dcm l).check = E at *
 generalize l.getD 30 0 = x30 at *
 generalize l.getD 31 0 = x31 at *
 have HV := qh hv
 clear h hcell hok hv
 go_enter Tryz.func47, Tryz.ntmps47
 go_wp2_with fail
 refine region_K (by kernel_rfl) 8 (fun W => Rd W (some ⟨b, off, none⟩) 32 (u8s l)) ?_
 refine AnyF.start 7 4 (w.heap.size + 1) 47 Cm.zero.cells (fun W => Rd W (some ⟨b, off, none⟩) 32 (u8s l) ∧ Below w.heap.size w W ∧ Blk W w.heap.size 47 Cm.zero.cells ∧ w.heap.size + 1 ≤ W.heap.size) HR0.out ?_
 refine AnyF.pure 0 (v := .slice (some ⟨b, off, none⟩) 32 c) rfl (by decide) (fun g => by cases g <;> kernel_rfl) (fun _ _ _ h => h) rfl (by decide) (fun st _ => by cases st <;> kernel_rfl) (fun _ h => h.1) ?_
 refine AnyF.pure 1 (v := .pointer (some ⟨b, off + 0, none⟩)) rfl (by decide) (fun g => by cases g <;> kernel_rfl) (fun _ _ _ h => h) rfl (by decide) (fun st _ => by cases st <;> kernel_rfl) (fun _ h => h.1) ?_
 refine AnyF.load 2 (v := .int .u8 ((l.getD 0 0).toNat : Int)) rfl (by decide) (fun g => by cases g <;> kernel_rfl) (by kernel_rfl) (fun g => by cases g <;> kernel_rfl) (fun _ _ _ h => h) rfl (by decide) (fun st w' hw' => ex_load (p := ⟨b, off + 0, none⟩) rfl (by cases st <;> kernel_rfl) agU8 (hw'.get (i := 0) (by omega))) (fun _ h => h.1) ?_
 refine AnyF.pure 3 (v := .slice (some ⟨b, off, none⟩) 32 c) rfl (by decide) (fun g => by cases g <;> kernel_rfl) (fun _ _ _ h => h) rfl (by decide) (fun st _ => by cases st <;> kernel_rfl) (fun _ h => h.1) ?_
 refine AnyF.pure 4 (v := .pointer (some ⟨b, off + 1, none⟩)) rfl (by decide) (fun g => by cases g <;> kernel_rfl) (fun _ _ _ h => h) rfl (by decide) (fun st _ => by cases st <;> kernel_rfl) (fun _ h => h.1) ?_
 refine AnyF.load 5 (v := .int .u8 ((l.getD 1 0).toNat : Int)) rfl (by decide) (fun g => by cases g <;> kernel_rfl) (by kernel_rfl) (fun g => by cases g <;> kernel_rfl) (fun _ _ _ h => h) rfl (by decide) (fun st w' hw' => ex_load (p := ⟨b, off + 1, none⟩) rfl (by cases st <;> kernel_rfl) agU8 (hw'.get (i := 1) (by omega))) (fun _ h => h.1) ?_
 refine AnyF.pure 6 (v := .agg (Cm.cells ⟨l.getD 0 0, l.getD 1 0, 0, 0, List.replicate 16 0⟩).toArray) rfl (by decide) (fun g => by cases g <;> kernel_rfl) (fun _ _ _ h => h) rfl (by decide) (fun st _ => by cases st <;> kernel_rfl) (fun _ h => h.1) ?_
 refine AnyF.fin rfl rfl rfl (fun _ _ => by kernel_rfl) (by kernel_rfl) (fun _ o h => ⟨h.1.alloc o, h.2.1.alloc h.2.1.size o, h.2.2.1.alloc o, Nat.le_trans h.2.2.2 (by simp)⟩) (fun _ h => h.2.2.2) (fun _ h => h.1) ?_
 intro g w7 hg hp7 hU7
 refine AnyK.storeAll 8 (t := 47) (x := .tmp 4) (y := .tmp 18) g (Cm.cells ⟨l.getD 0 0, l.getD 1 0, 0, 0, List.replicate 16 0⟩) 47 Cm.zero.cells rfl rfl rfl rfl (by kernel_rfl) (by kernel_rfl) (by kernel_rfl) hp7 (by kernel_rfl) (Cm.cells_one _) rfl (fun w' hb' ho' => fun h => (by cases h)) ?_
 intro w8 hb8 ho8
 refine AnyK.done (by kernel_rfl) ?_
 have hgw : w.heap.size + 1 ≤ g := hg
 have HE8 := qh (ho8.below hU7.2.1 (by omega) hU7.2.1.size)
 have HZ8 := qh (ho8.blk hU7.2.2.1 (by omega))
 obtain ⟨k0, hk0⟩ : ∃ k, k = l.getD 0 0 := ⟨_, rfl⟩
 obtain ⟨f0, hf0⟩ : ∃ f, f = l.getD 1 0 := ⟨_, rfl⟩
 have HB8 : Hid (Blk w8 g 47 (cmC k0 f0 (beNat ((l.drop 2).take 0)) 0)) := by rw [hk0, hf0]; exact hb8
 have HKF : Hid (k0 = l.getD 0 0 ∧ f0 = l.getD 1 0) := ⟨hk0, hf0⟩
 have HG : Hid (w.heap.size + 1 ≤ g) := hg
 clear hk0 hf0 hb8 ho8 hg hp7 hU7 HR0 hgw
 go_wp2
 go_loopg [5] 4 (fun kk q wr => ∃ i : Nat, kk = 4 - i ∧ q = .int .i64 ((i + 2 : Nat) : Int) ∧ i ≤ 4 ∧ Blk wr w.heap.size 47 Cm.zero.cells ∧ Blk wr g 47 (cmC k0 f0 (beNat ((l.drop 2).take i)) 0) ∧ Below w.heap.size w wr)
 case atStart => exact ⟨0, rfl, rfl, by omega, HZ8.out, HB8.out, HE8.out⟩
 case round =>
   clear HZ8 HB8 HE8
   obtain ⟨i, hgk, rfl, hi, hZ, hA, hE⟩ := hrel
   rcases Nat.lt_or_ge i 4 with hlt | hge
   · obtain ⟨s, hs⟩ : ∃ s, s = i + 2 := ⟨_, rfl⟩
     have hs32 : s < 32 := by omega
     have hss : (s : Int) < 6 := by omega
     obtain ⟨v, hv⟩ : ∃ v, v = beNat ((l.drop 2).take i) := ⟨_, rfl⟩
     have hvb : v < 16777216 := by
       have h1 := beNat_lt ((l.drop 2).take i)
       rw [List.length_take, List.length_drop, HL.out, show min i (32 - 2) = i by omega] at h1
       have h2 : 256 ^ i ≤ 256 ^ 3 := Nat.pow_le_pow_right (by omega) (by omega)
       simp only [Nat.reducePow] at h2
       rw [hv]; omega
     obtain ⟨x, hx⟩ : ∃ x, x = (l.getD s 0).toNat := ⟨_, rfl⟩
     have hx8 : x < 256 := by rw [hx]; exact (l.getD s 0).toNat_lt
     have cb : wr.cell? ⟨b, off + s, none⟩ = some (.int .u8 (x : Int)) := hx ▸ HBY.out wr s hE hs32
     rw [← hv] at hA
     have cd : wr.cell? ⟨g, 2, none⟩ = some (.int .u32 (v : Int)) := (hA.cell 2).trans rfl
     have fd : wr.frozen? ⟨g, 2, none⟩ = false := hA.frozen 2
     obtain ⟨u, hu⟩ : ∃ u, u = v * 256 + x := ⟨_, rfl⟩
     have HUV : Hid (u = beNat ((l.drop 2).take (i + 1))) := (by
       show _ = _
       rw [take_snoc l 2 i (by rw [HL.out]; omega), beNat_sn, ← hv, hu, hx, show 2 + i = s by omega])
     have HSI : Hid ((s : Int) + 1 = ((i + 1 + 2 : Nat) : Int)) := (by show _ = _; omega)
     have HSQ : Hid (((i + 2 : Nat) : Int) = (s : Int)) := (by show _ = _; omega)
     have HZx := qh ((hZ.drew).far (p := ⟨g, 2, none⟩) (by have := HG.out; show w.heap.size ≠ g; omega) (.int .u32 (u : Int)))
     have HBx : Hid (Blk (wr.drew.setCell ⟨g, 2, none⟩ (.int .u32 (u : Int))) g 47 (cmC k0 f0 u 0)) := hA.drew.set_ 2 _
     have HEx := qh (hE.drew.setCell (p := ⟨g, 2, none⟩) (by have := HG.out; show w.heap.size ≤ g; omega) (.int .u32 (u : Int)))
     have HGK := qh hgk
     have HLT := qh hlt
     have hT : wr.drew.cell? ⟨g, 2, none⟩ = some (.int .u32 (v : Int)) ∧ wr.drew.cell? ⟨b, off + s, none⟩ = some (.int .u8 (x : Int)) := ⟨cd, cb⟩
     have fd' : wr.drew.frozen? ⟨g, 2, none⟩ = false := fd
     have w1 : IntKind.u32.wrap ((v : Int) * 256) = ((v * 256 : Nat) : Int) := wrap32 (v * 256) (by omega) _ (by omega)
     have w2 : IntKind.u32.wrap (x : Int) = (x : Int) := wrap32 x (by omega) _ rfl
     have w3 : IntKind.u32.wrap (((v * 256 : Nat) : Int) + (x : Int)) = (u : Int) := wrap32 u (by omega) _ (by omega)
     rw [HSQ.out]
     clear hZ hA hE hgk hv hx hs cb cd fd hu
     go_wp2
     refine region_K (by kernel_rfl) 10 (fun w' => w'.cell? ⟨g, 2, none⟩ = some (.int .u32 (v : Int)) ∧ w'.cell? ⟨b, off + s, none⟩ = some (.int .u8 (x : Int))) ?_
     refine AnyK.pure 0 (v := .pointer (some ⟨g, 2, none⟩)) rfl (by kernel_rfl) (fun _ _ _ h => h) rfl (fun _ => by kernel_rfl) (fun _ => hT) ?_
     refine AnyK.load 1 (v := .int .u32 (v : Int)) rfl (by kernel_rfl) (by kernel_rfl) (by kernel_rfl) (fun _ _ _ h => h) rfl (fun w' hw' => ey_load (t := 44) (x := .tmp 23) (p := ⟨g, 2, none⟩) (by rfl) (by kernel_rfl) agU32r hw'.1) hT ?_
     refine AnyK.pure 2 (v := .int .u32 ((v * 256 : Nat) : Int)) rfl (by kernel_rfl) (fun _ _ _ h => h) rfl (fun _ => Eq.trans (b := .ok (.value (.int .u32 (IntKind.u32.wrap ((v : Int) * 256)))) _) (by kernel_rfl) (by rw [w1])) (fun _ => hT) ?_
     refine AnyK.pure 3 (v := .slice (some ⟨b, off, none⟩) 32 c) rfl (by kernel_rfl) (fun _ _ _ h => h) rfl (fun _ => by kernel_rfl) (fun _ => hT) ?_
     refine AnyK.pure 4 (v := .int .i64 (s : Int)) rfl (by kernel_rfl) (fun _ _ _ h => h) rfl (fun _ => by kernel_rfl) (fun _ => hT) ?_
     refine AnyK.pure 5 (v := .pointer (some ⟨b, off + s, none⟩)) rfl (by kernel_rfl) (fun _ _ _ h => h) rfl (fun _ => (ex_idxS (t := 22) (e := 5) (x := .tmp 26) (y := .tmp 27) (g := b) (off := off) (n := 32) (c := c) (p := s) (sz := 1) (by rfl) (by kernel_rfl) (by kernel_rfl) hs32 (by kernel_rfl) szU8r).trans (by rw [Nat.mul_one])) (fun _ => hT) ?_
     refine AnyK.load 6 (v := .int .u8 (x : Int)) rfl (by kernel_rfl) (by kernel_rfl) (by kernel_rfl) (fun _ _ _ h => h) rfl (fun w' hw' => ey_load (t := 5) (x := .tmp 28) (p := ⟨b, off + s, none⟩) (by rfl) (by kernel_rfl) agU8 hw'.2) hT ?_
     refine AnyK.pure 7 (v := .int .u32 (x : Int)) rfl (by kernel_rfl) (fun _ _ _ h => h) rfl (fun _ => Eq.trans (b := .ok (.value (.int .u32 (IntKind.u32.wrap (x : Int)))) _) (by kernel_rfl) (by rw [w2])) (fun _ => hT) ?_
     refine AnyK.pure 8 (v := .int .u32 (u : Int)) rfl (by kernel_rfl) (fun _ _ _ h => h) rfl (fun _ => Eq.trans (b := .ok (.value (.int .u32 (IntKind.u32.wrap (((v * 256 : Nat) : Int) + (x : Int))))) _) (by kernel_rfl) (by rw [w3])) (fun _ => hT) ?_
     refine AnyK.pure 9 (v := .pointer (some ⟨g, 2, none⟩)) rfl (by kernel_rfl) (fun _ _ _ h => h) rfl (fun _ => by kernel_rfl) (fun _ => hT) ?_
     refine AnyK.store 10 (d := none) (op := .store 44 (.tmp 32) (.tmp 31)) (by kernel_rfl) (fun o ho => ey_store (p := ⟨g, 2, none⟩) (k := .u32) (n := (u : Int)) ho (by kernel_rfl) (by kernel_rfl) szU32r hT.1 fd') (by kernel_rfl) (fun h => (by cases h)) ?_
     refine AnyK.done (by kernel_rfl) ?_
     clear hT w1 w2 w3 fd'
     go_wp2
     go_roundg (4 - (i + 1))
     case measure => have := HGK.out; have := HLT.out; omega
     case rel => exact ⟨i + 1, rfl, by have := HSI.out; go_num, by have := HLT.out; omega, HZx.out, by rw [← HUV.out]; exact HBx.out, HEx.out⟩
   · obtain rfl : i = 4 := by omega
     have hss : ¬ ((4 + 2 : Nat) : Int) < 6 := by omega
     have HZx := qh hZ
     have HBx := qh hA
     have HEx := qh hE
     clear hZ hA hE hgk
     go_wp2
     go_loopg [6] 8 (fun kk q wr => ∃ i : Nat, kk = 8 - i ∧ q = .int .i64 ((i + 6 : Nat) : Int) ∧ i ≤ 8 ∧ Blk wr w.heap.size 47 Cm.zero.cells ∧ Blk wr g 47 (cmC k0 f0 (beNat ((l.drop 2).take 4)) (beNat ((l.drop 6).take i))) ∧ Below w.heap.size w wr)
     case atStart => exact ⟨0, rfl, rfl, by omega, HZx.out, by rw [List.take_zero]; exact HBx.out, HEx.out⟩
     case round =>
       clear HZx HBx HEx
       obtain ⟨i, hgk, rfl, hi, hZ, hA, hE⟩ := hrel
       rcases Nat.lt_or_ge i 8 with hlt | hge
       · obtain ⟨s, hs⟩ : ∃ s, s = i + 6 := ⟨_, rfl⟩
         have hs32 : s < 32 := by omega
         have hss : (s : Int) < 14 := by omega
         obtain ⟨v, hv⟩ : ∃ v, v = beNat ((l.drop 6).take i) := ⟨_, rfl⟩
         have hvb : v < 72057594037927936 := by
           have h1 := beNat_lt ((l.drop 6).take i)
           rw [List.length_take, List.length_drop, HL.out, show min i (32 - 6) = i by omega] at h1
           have h2 : 256 ^ i ≤ 256 ^ 7 := Nat.pow_le_pow_right (by omega) (by omega)
           simp only [Nat.reducePow] at h2
           rw [hv]; omega
         obtain ⟨x, hx⟩ : ∃ x, x = (l.getD s 0).toNat := ⟨_, rfl⟩
         have hx8 : x < 256 := by rw [hx]; exact (l.getD s 0).toNat_lt
         have cb : wr.cell? ⟨b, off + s, none⟩ = some (.int .u8 (x : Int)) := hx ▸ HBY.out wr s hE hs32
         rw [← hv] at hA
         have cd : wr.cell? ⟨g, 3, none⟩ = some (.int .u64 (v : Int)) := (hA.cell 3).trans rfl
         have fd : wr.frozen? ⟨g, 3, none⟩ = false := hA.frozen 3
         obtain ⟨u, hu⟩ : ∃ u, u = v * 256 + x := ⟨_, rfl⟩
         have HUV : Hid (u = beNat ((l.drop 6).take (i + 1))) := (by
           show _ = _
           rw [take_snoc l 6 i (by rw [HL.out]; omega), beNat_sn, ← hv, hu, hx, show 6 + i = s by omega])
         have HSI : Hid ((s : Int) + 1 = ((i + 1 + 6 : Nat) : Int)) := (by show _ = _; omega)
         have HSQ : Hid (((i + 6 : Nat) : Int) = (s : Int)) := (by show _ = _; omega)
         have HZx := qh ((hZ.drew).far (p := ⟨g, 3, none⟩) (by have := HG.out; show w.heap.size ≠ g; omega) (.int .u64 (u : Int)))
         have HBx : Hid (Blk (wr.drew.setCell ⟨g, 3, none⟩ (.int .u64 (u : Int))) g 47 (cmC k0 f0 (beNat ((l.drop 2).take 4)) u)) := hA.drew.set_ 3 _
         have HEx := qh (hE.drew.setCell (p := ⟨g, 3, none⟩) (by have := HG.out; show w.heap.size ≤ g; omega) (.int .u64 (u : Int)))
         have HGK := qh hgk
         have HLT := qh hlt
         have hT : wr.drew.cell? ⟨g, 3, none⟩ = some (.int .u64 (v : Int)) ∧ wr.drew.cell? ⟨b, off + s, none⟩ = some (.int .u8 (x : Int)) := ⟨cd, cb⟩
         have fd' : wr.drew.frozen? ⟨g, 3, none⟩ = false := fd
         have w1 : IntKind.u64.wrap ((v : Int) * 256) = ((v * 256 : Nat) : Int) := wrap64 (v * 256) (by omega) _ (by omega)
         have w2 : IntKind.u64.wrap (x : Int) = (x : Int) := wrap64 x (by omega) _ rfl
         have w3 : IntKind.u64.wrap (((v * 256 : Nat) : Int) + (x : Int)) = (u : Int) := wrap64 u (by omega) _ (by omega)
         rw [HSQ.out]
         clear hZ hA hE hgk hv hx hs cb cd fd hu
         go_wp2
         refine region_K (by kernel_rfl) 10 (fun w' => w'.cell? ⟨g, 3, none⟩ = some (.int .u64 (v : Int)) ∧ w'.cell? ⟨b, off + s, none⟩ = some (.int .u8 (x : Int))) ?_
         refine AnyK.pure 0 (v := .pointer (some ⟨g, 3, none⟩)) rfl (by kernel_rfl) (fun _ _ _ h => h) rfl (fun _ => by kernel_rfl) (fun _ => hT) ?_
         refine AnyK.load 1 (v := .int .u64 (v : Int)) rfl (by kernel_rfl) (by kernel_rfl) (by kernel_rfl) (fun _ _ _ h => h) rfl (fun w' hw' => ey_load (t := 45) (x := .tmp 37) (p := ⟨g, 3, none⟩) (by rfl) (by kernel_rfl) agU64 hw'.1) hT ?_
         refine AnyK.pure 2 (v := .int .u64 ((v * 256 : Nat) : Int)) rfl (by kernel_rfl) (fun _ _ _ h => h) rfl (fun _ => Eq.trans (b := .ok (.value (.int .u64 (IntKind.u64.wrap ((v : Int) * 256)))) _) (by kernel_rfl) (by rw [w1])) (fun _ => hT) ?_
         refine AnyK.pure 3 (v := .slice (some ⟨b, off, none⟩) 32 c) rfl (by kernel_rfl) (fun _ _ _ h => h) rfl (fun _ => by kernel_rfl) (fun _ => hT) ?_
         refine AnyK.pure 4 (v := .int .i64 (s : Int)) rfl (by kernel_rfl) (fun _ _ _ h => h) rfl (fun _ => by kernel_rfl) (fun _ => hT) ?_
         refine AnyK.pure 5 (v := .pointer (some ⟨b, off + s, none⟩)) rfl (by kernel_rfl) (fun _ _ _ h => h) rfl (fun _ => (ex_idxS (t := 22) (e := 5) (x := .tmp 40) (y := .tmp 41) (g := b) (off := off) (n := 32) (c := c) (p := s) (sz := 1) (by rfl) (by kernel_rfl) (by kernel_rfl) hs32 (by kernel_rfl) szU8r).trans (by rw [Nat.mul_one])) (fun _ => hT) ?_
         refine AnyK.load 6 (v := .int .u8 (x : Int)) rfl (by kernel_rfl) (by kernel_rfl) (by kernel_rfl) (fun _ _ _ h => h) rfl (fun w' hw' => ey_load (t := 5) (x := .tmp 42) (p := ⟨b, off + s, none⟩) (by rfl) (by kernel_rfl) agU8 hw'.2) hT ?_
         refine AnyK.pure 7 (v := .int .u64 (x : Int)) rfl (by kernel_rfl) (fun _ _ _ h => h) rfl (fun _ => Eq.trans (b := .ok (.value (.int .u64 (IntKind.u64.wrap (x : Int)))) _) (by kernel_rfl) (by rw [w2])) (fun _ => hT) ?_
         refine AnyK.pure 8 (v := .int .u64 (u : Int)) rfl (by kernel_rfl) (fun _ _ _ h => h) rfl (fun _ => Eq.trans (b := .ok (.value (.int .u64 (IntKind.u64.wrap (((v * 256 : Nat) : Int) + (x : Int))))) _) (by kernel_rfl) (by rw [w3])) (fun _ => hT) ?_
         refine AnyK.pure 9 (v := .pointer (some ⟨g, 3, none⟩)) rfl (by kernel_rfl) (fun _ _ _ h => h) rfl (fun _ => by kernel_rfl) (fun _ => hT) ?_
         refine AnyK.store 10 (d := none) (op := .store 45 (.tmp 46) (.tmp 45)) (by kernel_rfl) (fun o ho => ey_store (p := ⟨g, 3, none⟩) (k := .u64) (n := (u : Int)) ho (by kernel_rfl) (by kernel_rfl) szU64 hT.1 fd') (by kernel_rfl) (fun h => (by cases h)) ?_
         refine AnyK.done (by kernel_rfl) ?_
         clear hT w1 w2 w3 fd'
         go_wp2
         go_roundg (8 - (i + 1))
         case measure => have := HGK.out; have := HLT.out; omega
         case rel => exact ⟨i + 1, rfl, by have := HSI.out; go_num, by have := HLT.out; omega, HZx.out, by rw [← HUV.out]; exact HBx.out, HEx.out⟩
       · obtain rfl : i = 8 := by omega
         have hss : ¬ ((8 + 6 : Nat) : Int) < 14 := by omega
         have HZx := qh hZ
         have HBx := qh hA
         have HEx := qh hE
         clear hZ hA hE hgk
         have hb8s : Hid (Blk wr.drew g 47 (cmC k0 f0 (beNat ((l.drop 2).take 4)) (beNat ((l.drop 6).take 8)))) := HBx.out.drew
         have HES : Hid (Below w.heap.size w wr.drew) := HEx.out.drew
         have HZS : Hid (Blk wr.drew w.heap.size 47 Cm.zero.cells) := HZx.out.drew
         have HRS : Hid (Rd wr.drew (some ⟨b, off + 14, none⟩) 16 (u8s ((l.drop 14).take 16))) := (by
           have h5 := rd_mid (HR.out.below HES.out) 14 16 (by omega)
           exact h5)
         have HSP : Hid (splice (cmC k0 f0 (beNat ((l.drop 2).take 4)) (beNat ((l.drop 6).take 8))) 4 ((u8s ((l.drop 14).take 16)).take 16) = C) := (by
           show _ = _
           rw [HKF.out.1, HKF.out.2]; exact HSPL.out)
         have n14 : ¬ c = 14 := by omega
         have n30 : ¬ c = 30 := by omega
         have hci : (32 : Int) ≤ (c : Int) := by omega
         have hci30 : (30 : Int) ≤ (c : Int) := by omega
         have hci14 : (14 : Int) ≤ (c : Int) := by omega
         clear HZx HBx HEx
         go_wp2
         go_region_held3 (fun _ => True) (trivial) ((refine step_copy rfl (.tmp 48) (.tmp 50) 22 rfl 5 Tryz.underlying22 u8_one1 g 4 16 16 (by rfl) (some ⟨b, off + 14, none⟩) 16 (c - 14) (by rfl) 47 _ (by exact hb8s.out) (u8s ((l.drop 14).take 16)) (by exact HRS.out) (u8s_one _) (by simp [cmC, Cm.cells, u8s_length]) ?_; intro w10 hb10 ho10))
         rw [HSP.out] at hb10
         have hgw := HG.out
         have HE10 := qh (ho10.below HES.out (by omega) HES.out.size)
         have HZ10 := qh (ho10.blk HZS.out (by omega))
         have HB10 := qh hb10
         have hld := cm_ld hb10 HCL.out
         clear ho10 hb10 hb8s HES HZS HRS HSP
         go_upto_region 14 with (go_at_call 78; (with_reducible refine (HCK.out _).mono ?_); rintro e w11 ⟨rfl, hB11⟩; have HE11 := qtr HE10 hB11; have HZ11 := qbl HZ10 hB11; have HB11 := qbl HB10 hB11; clear hB11)
         have hv := HV.out
         obtain ⟨q0, q1⟩ := HC30.out w11 HE11.out
         have hld11 := cm_ld HB11.out HCL.out
         have e0 : ((x30.toNat : Int) != 0) = decide (x30 ≠ 0) := n_ne8 x30
         have e1 : ((x31.toNat : Int) != 0) = decide (x31 ≠ 0) := n_ne8 x31
         by_cases h0 : x30 = 0 <;> by_cases h1 : x31 = 0 <;> rcases hv with rfl | rfl | rfl | rfl
         all_goals (
           simp only [h0, h1, ne_eq, not_true_eq_false, not_false_eq_true, decide_true, decide_false, or_self, or_true, or_false, and_true, and_false, if_true, if_false, Nat.reduceLT, Nat.reduceEqDiff] at e0 e1 HDE
           have HD := HDE.out
           go_wp2_with (first
               | refine wpList_build rfl 47 [] rfl [] (by rfl) _ (build_cm0 _) ?_
               | (refine wpList_store_all rfl 47 (.tmp 2) (.tmp 70) rfl w.heap.size Cm.zero.cells (by rfl) (by rfl) 47 _ HZ11.out (by exact hd76c) (Cm.cells_one _) (by exact rfl) ?_; intro w12 hb12 ho12; have HB12 := qh hb12; have HE12 := qh (ho12.below HE11.out (Nat.le_refl _) HE11.out.size); clear hb12 ho12)
               | (refine wpList_store_all rfl 47 (.tmp 2) (.tmp 72) rfl w.heap.size C (by rfl) (by rfl) 47 _ HZ11.out (by rw [HCL.out]; exact hd76c) HC1.out (by rw [HCL.out]; rfl) ?_; intro w12 hb12 ho12; have HB12 := qh hb12; have HE12 := qh (ho12.below HE11.out (Nat.le_refl _) HE11.out.size); clear hb12 ho12))
           subst HD
           exact bodyPost_ret (res_cell_tmp rfl _ _ _ _ rfl HB12.out _ Tryz.underlying47 rfl (by first | exact hd76c | (rw [HCL.out]; exact hd76c))) rfl ⟨rfl, HE12.out⟩)
end Go.Proofs.YtpgpaenloaphaaaGreat
