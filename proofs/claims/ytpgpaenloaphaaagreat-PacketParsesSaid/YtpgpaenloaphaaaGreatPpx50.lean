/- Part of the proof: Rop. -/
import Derived.Test.YtpgpaenloaphaaaGreatPpx40
import Derived.Test.YtpgpaenloaphaaaGreatPpx46
import Derived.Test.YtpgpaenloaphaaaGreatPpx47
import Derived.Test.YtpgpaenloaphaaaGreatPpx48
namespace Go.Proofs.YtpgpaenloaphaaaGreat
open Go.RowKit
noncomputable def opE (s : Sp) (h : List UInt8) : Nat := if fits s h = false then 6 else if dce ((plainOf s h).take 32) ≠ 0 then 3 else if (dcm ((plainOf s h).take 32)).k ≠ 1 then 0 else mE s.blind s.alpha
noncomputable def opC (s : Sp) (h : List UInt8) : Cm := if fits s h = false then Cm.zero else if dce ((plainOf s h).take 32) ≠ 0 then Cm.zero else if (dcm ((plainOf s h).take 32)).k ≠ 1 then dcm ((plainOf s h).take 32) else if mE s.blind s.alpha = 0 then dcm ((plainOf s h).take 32) else Cm.zero
noncomputable def opL (s : Sp) (h : List UInt8) : List UInt8 := if fits s h = false then [] else if dce ((plainOf s h).take 32) ≠ 0 then [] else if (dcm ((plainOf s h).take 32)).k ≠ 1 then [] else if mE s.blind s.alpha = 0 then mB s.blind s.alpha ++ (plainOf s h).drop 32 else []
theorem res_ctt2 {P : Program} {w : World} {fn : Func} {p u v : Tmp} {ty : TypeId} (h : fn.results = #[.cell p ty, .tmp u, .tmp v]) (tmps : Array Value) (g : Nat) (t : TypeId) (cs : List Value) (hp : tmps.getD p undef = .pointer (some ⟨g, 0, none⟩))
   (hB : Blk w g t cs) (d : TypeDesc) (hu : P.underlying ty = some d) (hd : d.isRow = true) (hi : (P.info? ty).map (·.size) = some cs.length) :
   (results fn tmps).run P w = .ok (.tuple #[.agg cs.toArray, tmps.getD u undef, tmps.getD v undef]) w := by
 have hp' : tmps[p]?.getD undef = .pointer (some ⟨g, 0, none⟩) := by rw [← hp]; simp
 simp [results, h, hp', asAddr, run_loadVar_mid w g 0 ty cs d hB.range hu hd hi]
theorem ex_cutAt {o : Oper} {a : Act} {w : World} {x : Operand} {g n c : Nat} (k : Nat) (ho : o.op = .slice 22 x (some (.const (.int .i64 (k : Int)))) none none) (hx : a.eval x = .slice (some ⟨g, 0, none⟩) n c) (hk : k ≤ n) (hc : k < c) : (execOp a.eval o).run Tryz.prog w = .ok (.value (.slice (some ⟨g, k, none⟩) (n - k) (c - k))) w := by
 unfold execOp
 have he : a.eval (.const (.int .i64 (k : Int))) = .int .i64 (k : Int) := rfl
 have n1 : ¬ c = k := by omega
 simp [ho, hx, he, Instr.sliceAt, Instr.slice, Instr.sliceBounds, Instr.sliceBound, asIntOf, run_underlying Tryz.underlying22, hk, n1, Addr.add]
 intro h
 exact h.symm
theorem rd_nil0 (w : World) : Rd w none 0 (u8s []) := ⟨rfl, fun h => absurd h (by omega)⟩
attribute [local go_sem ↓] ldq_b32 ldq_27 ldq_cm
set_option maxRecDepth 100000 in
set_option maxHeartbeats 4000000 in
theorem ropen_any (s : Sp) (hs : s.ok) (B : Option Addr) (c : Nat) (h : List UInt8) (w : World) (hr : Rd w B 288 (u8s h)) (hc : 288 ≤ c) :
   Calls Tryz.prog 17 #[.slice B 288 c, .agg s.cells.toArray] w fun e w' => ∃ A n c', e = .returned (.tuple #[.agg (opC s h).cells.toArray, .slice A n c', .int .i64 (opE s h : Int)]) ∧ Rd w' A n (u8s (opL s h)) ∧ Below w.heap.size w w' := by
 obtain ⟨b, off, rfl, hbw, _⟩ := hr.2 (by omega)
 have hhl := hr.len
 have HR := qh hr
 have HF := qh (fun W (hW : Rd W (some ⟨b, off, none⟩) 288 (u8s h)) => rfits_any s hs (some ⟨b, off, none⟩) c h W hW hc)
 have hEq : opE s h = if fits s h = false then 6 else if dce ((plainOf s h).take 32) ≠ 0 then 3 else if (dcm ((plainOf s h).take 32)).k ≠ 1 then 0 else mE s.blind s.alpha := rfl
 have hCq : opC s h = if fits s h = false then Cm.zero else if dce ((plainOf s h).take 32) ≠ 0 then Cm.zero else if (dcm ((plainOf s h).take 32)).k ≠ 1 then dcm ((plainOf s h).take 32) else if mE s.blind s.alpha = 0 then dcm ((plainOf s h).take 32) else Cm.zero := rfl
 have hLq : opL s h = if fits s h = false then [] else if dce ((plainOf s h).take 32) ≠ 0 then [] else if (dcm ((plainOf s h).take 32)).k ≠ 1 then [] else if mE s.blind s.alpha = 0 then mB s.blind s.alpha ++ (plainOf s h).drop 32 else [] := rfl
 generalize opE s h = OE at *
 generalize opC s h = OC at *
 generalize opL s h = OL at *
 have hpl := plainOf_len s hhl
 have hpl2 : ((plainOf s h).take 32).length = 32 := by rw [List.length_take, hpl]; rfl
 have HCP : Hid (∀ W, Rd W (some ⟨b, off, none⟩) 288 (u8s h) → Calls Tryz.prog 12 #[.slice (some ⟨b, off + 48, none⟩) 240 (c - 48)] W fun e w' => ∃ A' c', e = .returned (.slice A' 240 c') ∧ 240 ≤ c' ∧ w'.ownsRow W.heap.size 5 1 (.slice A' 240 c') 240 (u8s ((h.drop 48).take 240)) ∧ Below W.heap.size W w') := fun W hW => copy_any _ 240 (c - 48) _ W (rd_mid hW 48 240 (by omega)) (by omega)
 have HTU : Hid (∀ W A d, Rd W A 288 (u8s ((h.drop 48).take 240) ++ za48) → Calls Tryz.prog 46 #[.agg (u8s s.stream).toArray, .int .i64 0, .slice A 288 d] W fun e w' => ∃ g c', e = .returned (.slice (some ⟨g, 0, none⟩) 288 c') ∧ 288 ≤ c' ∧ W.heap.size ≤ g ∧ Rd w' (some ⟨g, 0, none⟩) 288 (u8s (plainOf s h)) ∧ Below W.heap.size W w') := fun W A d hW => by
   refine (rturned_any s.stream hs.2.1 A 288 d ((h.drop 48).take 240 ++ List.replicate 48 0) W (by rw [u8s_append]; exact hW) (by omega) (by omega)).mono ?_
   rintro e w' ⟨A', c', rfl, hc', ho, hB⟩
   obtain ⟨g, rfl, hg, _, hrd⟩ := own_pos ho (by omega)
   exact ⟨g, c', rfl, hc', hg, hrd, hB⟩
 have HD : Hid (∀ (W : World) (g c : Nat), 32 ≤ c → Rd W (some ⟨g, 0, none⟩) 288 (u8s (plainOf s h)) → Calls Tryz.prog 47 #[.slice (some ⟨g, 0, none⟩) 32 c] W fun e w' => e = .returned (.tuple #[.agg (if dce ((plainOf s h).take 32) = 0 then (dcm ((plainOf s h).take 32)).cells else Cm.zero.cells).toArray, .int .i64 (dce ((plainOf s h).take 32) : Int)]) ∧ Below W.heap.size W w') := fun W g c hc hr => by
   have h5 := rd_mid hr 0 32 (by omega)
   rw [List.drop_zero, Nat.zero_add] at h5
   exact rdec_any _ c _ W h5 hc
 have HNX := qh (fun W => rnext_any s hs W)
 have HML := qh (mB_len s.blind s.alpha)
 have HSL := qh (Sp.cells_len hs)
 have HRG : Hid (∀ W, Blk W w.heap.size 27 s.cells → W.rangeAt w.heap.size 32 (u8s s.stream)) := fun W hbW => hbW.mid 32 (u8s s.stream) (by
   intro j v hv
   have e : (s.cells.drop 32).take 32 = u8s s.stream := by rw [Sp.cells, u8s_drop, u8s_take, Sp.at_stream hs]
   rw [← e, List.getElem?_take] at hv
   split at hv
   · rwa [List.getElem?_drop] at hv
   · cases hv)
 have hd32s : (Tryz.prog.info? 23).map (·.size) = some (u8s s.stream).length := by rw [u8s_length, hs.2.1]; exact hd32
 have hu32 := Tryz.underlying23
 have hb0 : Blk ((w.alloc (.cells s.cells.toArray 27)).alloc (.cells Cm.zero.cells.toArray 47)) w.heap.size 27 s.cells := (Blk.new w _ _).alloc _
 have hb1 : Blk ((w.alloc (.cells s.cells.toArray 27)).alloc (.cells Cm.zero.cells.toArray 47)) (w.heap.size + 1) 47 Cm.zero.cells := Blk.new' (by simp) rfl
 have hE0 : Below w.heap.size w ((w.alloc (.cells s.cells.toArray 27)).alloc (.cells Cm.zero.cells.toArray 47)) := ((Below.refl _ w).alloc (Nat.le_refl _) _).alloc (by simp) _
 have hl1 : ∀ o1, (ldAt 27 (.pointer (some ⟨w.heap.size, 0, none⟩))).run Tryz.prog ((w.alloc (.cells s.cells.toArray 27)).alloc o1) = .ok (.agg s.cells.toArray) ((w.alloc (.cells s.cells.toArray 27)).alloc o1) := fun o1 => rsp_ld ((Blk.new w _ _).alloc o1) HSL.out
 have HB0 := qh hb0
 have HB1 := qh hb1
 have HE0 := qh hE0
 have hci : (288 : Int) ≤ (c : Int) := by omega
 have hci48 : (48 : Int) ≤ (c : Int) := by omega
 have n48 : ¬ c = 48 := by omega
 have h240 : (240 : Int) ≤ 288 := by omega
 have HPL := qh hpl
 clear hb0 hb1 hE0 hr hpl hbw
 generalize fits s h = F at *
 generalize plainOf s h = PL at *
 generalize mB s.blind s.alpha = M at *
 generalize mE s.blind s.alpha = E at *
 generalize s.cells = S at *
 generalize u8s s.stream = KS at *
 have HCM : Hid ((dcm (PL.take 32)).ok) := dcm_ok hpl2
 generalize dce (PL.take 32) = D at *
 generalize dcm (PL.take 32) = CM at *
 clear hs hhl hpl2
 go_enter Tryz.func17, Tryz.ntmps17
 cases F with
 | false =>
   rw [if_pos rfl] at hEq hCq hLq
   subst hEq
   subst hCq
   subst hLq
   clear HCP HTU HD HNX HRG
   go_wp2_with (first
     | (go_at_call 19; (with_reducible refine (HF.out _ (by exact (HR.out.alloc _).alloc _)).mono ?_); rintro e w1 ⟨rfl, hB1⟩; have HE1 := qtr HE0 hB1; have HZ1 := qbl HB1 hB1; clear hB1)
     | refine wpList_build rfl 47 [] rfl [] (by rfl) _ (build_cm0 _) ?_
     | (refine wpList_store_all rfl 47 (.tmp 4) (.tmp 15) rfl (w.heap.size + 1) Cm.zero.cells (by rfl) (by rfl) 47 _ HZ1.out (by exact hd76c) (Cm.cells_one _) (by exact rfl) ?_
        intro w7 hb7 ho7
        have HE7 := qh (ho7.below HE1.out (by omega) HE1.out.size)
        have HU := qh hb7
        clear hb7 ho7))
   exact bodyPost_ret (res_ctt2 rfl _ (w.heap.size + 1) _ Cm.zero.cells rfl HU.out _ Tryz.underlying47 rfl (by exact hd76c)) rfl ⟨_, _, _, rfl, rd_nil0 _, HE7.out⟩
 | true =>
   rw [if_neg (by decide)] at hEq hCq hLq
   go_upto_region 3 with (go_at_call 19; (with_reducible refine (HF.out _ (by exact (HR.out.alloc _).alloc _)).mono ?_); rintro e w1 ⟨rfl, hB1⟩; have HE1 := qtr HE0 hB1; have HZ0 := qbl HB0 hB1; have HZ1 := qbl HB1 hB1; have HR1 := qh ((HE0.out.trans (hB1.mono HE0.out.size))); clear hB1)
   have HR1 := qh (HR.out.below HE1.out)
   have hz1 : w.heap.size + 1 < w1.heap.size := HZ1.out.lt
   have HW1 : Hid (w.heap.size + 1 < w1.heap.size) := hz1
   clear hz1
   go_region_held3 (fun w' => w'.rangeAt w.heap.size 32 KS) (first | exact HRG.out _ HZ0.out | exact HRG.out _ HZ0.out.drew | exact HRG.out _ HP0.out | exact HRG.out _ HP0.out.drew | exact HRG.out _ HQ0.out | exact HRG.out _ HQ0.out.drew | exact HRG.out _ HV0.out | exact HRG.out _ HV0.out.drew) ((first
     | (go_at_call 12; (refine (HCP.out _ (by first | exact HR1.out | exact HR1.out.drew)).mono ?_); rintro e w2 ⟨A2, c2, rfl, hc2, hown2, hB2⟩; have HO2 := qh hown2; have HS2 : Hid (Below w1.heap.size w1 w2) := (Below.refl _ w1).drew.trans hB2; have HP0 := qh (HZ0.out.below HS2.out HZ0.out.lt); have hs2 : w1.heap.size ≤ w2.heap.size := HS2.out.size; clear hown2 hB2)
     | (refine step_app_zeros rfl (.tmp 21) rfl w1.heap.size (.slice A2 240 c2) 240 _ (by rfl) (by exact HO2.out) (by omega) (by exact HS2.out.size) ?_; intro A3 c3 w3 hown3 hc3 hg3 hat3; have HO3 := qh hown3; have HS3 : Hid (Below w1.heap.size w1 w3) := qh (HS2.out.grown hg3 HS2.out.size (fun k hk => (HO2.out.lt k hk).1)); have HQ0 := qh (HZ0.out.below HS3.out HZ0.out.lt); have HR3 := qh (Rd.of_own hown3); clear hown3 hg3 hat3)
     | (go_at_call 46; (refine (HTU.out _ _ _ (by first | exact HR3.out | exact HR3.out.drew)).mono ?_); rintro e w4 ⟨g4, c4, rfl, hc4, hg4, hr4, hB4⟩; have HS4 : Hid (Below w1.heap.size w1 w4) := qtr HS3 hB4; have HV0 := qh (HZ0.out.below HS4.out HZ0.out.lt); have HR4 := qh hr4; have HG4 : Hid (w1.heap.size ≤ g4) := Nat.le_trans HS3.out.size hg4; have HC4 : Hid (288 ≤ c4) := hc4; clear hc4 hg4 hr4 hB4)))
   have HE4 := qh (HE1.out.trans (HS4.out.mono HE1.out.size))
   have HY1 := qh (HZ1.out.below HS4.out HZ1.out.lt)
   have hc4 := HC4.out
   have hc32 : 32 ≤ c4 := by omega
   have hca : (288 : Int) ≤ (c4 : Int) := by omega
   have HX4 : Hid (Below w.heap.size w w4 ∧ Blk w4 w.heap.size 27 S ∧ Blk w4 (w.heap.size + 1) 47 Cm.zero.cells ∧ Rd w4 (some ⟨g4, 0, none⟩) 288 (u8s PL) ∧ w.heap.size + 1 < w4.heap.size ∧ w.heap.size + 1 < g4) := ⟨HE4.out, HV0.out, HY1.out, HR4.out, (by have := HW1.out; have := HS4.out.size; omega), (by have := HW1.out; have := HG4.out; omega)⟩
   clear HE1 HZ0 HZ1 HP0 HQ0 HV0 HR1 HR3 HO2 HO3 HS2 HS3 HS4 HR4 HG4 HE4 HY1 HCP HTU HF HRG HW1 HC4 hc4 HB0 HB1 HE0 hl1 HR
   rcases Nat.eq_zero_or_pos D with hD0 | hD0
   · obtain rfl : D = 0 := hD0
     rw [if_neg (by decide)] at hEq hCq hLq
     rw [if_pos rfl] at HD
     have HR0 : Hid (CM.cells[0]? = some (.int .u8 (CM.k.toNat : Int))) := rfl
     have HRL : Hid (CM.cells.length = 20) := Cm.cells_len HCM.out
     have HR1 : Hid (∀ v ∈ CM.cells, v.oneCell' = true) := Cm.cells_one CM
     have HX := HX4.out
     by_cases hk : CM.k = 1
     · rw [if_neg (by rw [hk]; decide)] at hEq hCq hLq
       rw [hk] at HR0
       have hEqs := hEq.symm
       subst hEqs
       rcases Nat.eq_zero_or_pos E with hE0 | hE0
       · obtain rfl : E = 0 := hE0
         rw [if_pos rfl] at hCq hLq
         have hCqs := hCq.symm
         subst hCqs
         generalize hRq : CM.cells = R at *
         have HRq := qh hRq
         subst hLq
         clear hRq HX
         go_upto_region 12 with (first
           | (go_at_call 47; (with_reducible refine (HD.out _ _ _ (by exact hc32) (by exact HX4.out.2.2.2.1)).mono ?_); rintro e w5 ⟨rfl, hB5⟩
              have HE5 := qh (HX4.out.1.trans (hB5.mono HX4.out.1.size))
              have HY5 := qh (HX4.out.2.2.1.below hB5 HX4.out.2.2.1.lt)
              have HZ5 := qh (HX4.out.2.1.below hB5 HX4.out.2.1.lt)
              have HR5 := qh (HX4.out.2.2.2.1.below hB5)
              have hs5 := hB5.size
              have HS5 : Hid (w.heap.size + 1 < w5.heap.size) := Nat.lt_of_lt_of_le HX4.out.2.2.2.2.1 hs5
              clear hB5 hs5)
           | (refine wpList_store_all rfl 47 (.tmp 8) (.tmp 28) rfl w5.heap.size R (by rfl) (by rfl) 47 Cm.zero.cells (by exact Blk.new' rfl rfl) (by rw [HRL.out]; exact hd76c) HR1.out (by rw [HRL.out]; rfl) ?_; intro w6 hb6 ho6
              have HE6 := qh (ho6.below (HE5.out.alloc HE5.out.size _) HE5.out.size (Nat.le_trans HE5.out.size (by simp)))
              have HY6 := qh (ho6.blk (HY5.out.alloc _) (by have := HS5.out; omega))
              have HZ6 := qh (ho6.blk (HZ5.out.alloc _) (by have := HS5.out; omega))
              have HR6 := qh (ho6.rd (HR5.out.alloc _) ((HR5.out).apart' (Nat.le_refl _)))
              have HV6 := qh hb6
              have c90 := (hb6.cell 0).trans HR0.out
              have hl3 : ∀ o, (ldAt 27 (.pointer (some ⟨w.heap.size, 0, none⟩))).run Tryz.prog (w6.alloc o) = .ok (.agg S.toArray) (w6.alloc o) := fun o => rsp_ld (HZ6.out.alloc o) HSL.out
              have hl6 := rsp_ld HZ6.out HSL.out
              have HS6 : Hid (w.heap.size + 1 < w6.heap.size ∧ w5.heap.size < w6.heap.size) := ⟨HY6.out.lt, hb6.lt⟩
              clear hb6 ho6)
           | (go_at_call 48; (with_reducible refine (HNX.out _).mono ?_); rintro e w8 ⟨rfl, hB8⟩
              have HE8 := qtr HE6 hB8
              have HY8 := qbl HY6 hB8
              have HV8 := qbl HV6 hB8
              have HR8 := qh (HR6.out.below hB8)
              have hs8 := hB8.size
              have HS8 : Hid (w.heap.size + 1 < w8.heap.size ∧ w5.heap.size < w8.heap.size) := (by have := HS6.out; exact ⟨by omega, by omega⟩)
              clear hB8 hs8)
           | (refine wpList_store_all rfl 23 (.tmp 10) (.tmp 40) rfl w8.heap.size (u8s M) (by rfl) (by rfl) 23 o32 (by exact Blk.new' rfl rfl) (by rw [u8s_length, HML.out]; exact hd32) (u8s_one _) (by rw [u8s_length, HML.out]; rfl) ?_; intro w9 hb9 ho9
              have HE9 := qh (ho9.below (HE8.out.alloc HE8.out.size _) HE8.out.size (Nat.le_trans HE8.out.size (by simp)))
              have HY9 := qh (ho9.blk (HY8.out.alloc _) (by have := HS8.out; omega))
              have HV9 := qh (ho9.blk (HV8.out.alloc _) (by have := HS8.out; omega))
              have HR9 := qh (ho9.rd (HR8.out.alloc _) ((HR8.out).apart' (Nat.le_refl _)))
              have HM9 := qh hb9
              clear hb9 ho9))
         have HMR : Hid (Rd w9.drew (some ⟨w8.heap.size, 0, none⟩) 32 (u8s M)) := (HM9.out.rdA HML.out).drew
         have HMR9 := HMR.out
         refine region_K (by kernel_rfl) 6 (fun w' => Blk w' w5.heap.size 47 R) ?_
         refine AnyK.load 0 (v := .agg R.toArray) rfl (by kernel_rfl) (by kernel_rfl) (by kernel_rfl) (fun _ _ _ h => h) rfl (fun w' hw' => ey_loadR (x := .tmp 8) (by rfl) (by kernel_rfl) (cm_ld hw' HRL.out)) HV9.out.drew ?_
         refine AnyK.pure 1 (v := .slice (some ⟨w8.heap.size, 0, none⟩) 32 32) rfl (by kernel_rfl) (fun _ _ _ h => h) rfl (fun _ => by kernel_rfl) (fun _ => HV9.out.drew) ?_
         refine AnyK.pure 3 (v := .slice (some ⟨g4, 0, none⟩) 288 c4) rfl (by kernel_rfl) (fun _ _ _ h => h) rfl (fun _ => by kernel_rfl) (fun _ => HV9.out.drew) ?_
         refine AnyK.pure 4 (v := .slice (some ⟨g4, 32, none⟩) 256 (c4 - 32)) rfl (by kernel_rfl) (fun _ _ _ h => h) rfl (fun _ => ex_cutAt (x := .tmp 49) (n := 288) 32 (by rfl) (by kernel_rfl) (by omega) (by omega)) (fun _ => HV9.out.drew) ?_
         refine AnyK.enter 2 (d := some 48) (f := 12) (args := #[.slice (some ⟨w8.heap.size, 0, none⟩) 32 32]) (by rfl) (by kernel_rfl) (by kernel_rfl) ?_
         refine (copy_any (some ⟨w8.heap.size, 0, none⟩) 32 32 M _ HMR9 (by omega)).mono ?_
         rintro e w10 ⟨A10, c10, rfl, hc10, hown10, hB10⟩
         have HS10 : Hid (Below w9.heap.size w9 w10) := qh ((Below.refl _ w9).drew.trans hB10)
         have HE10 := qh (HE9.out.trans (HS10.out.mono HE9.out.size))
         have HY10 := qh (HY9.out.below HS10.out HY9.out.lt)
         have HV10 := qh (HV9.out.below HS10.out HV9.out.lt)
         have HP10 : Hid (Rd w10 (some ⟨g4, 32, none⟩) 256 (u8s (PL.drop 32))) := by
           have h5 := rd_mid (HR9.out.below HS10.out) 32 256 (by omega)
           rw [List.take_of_length_le (by rw [List.length_drop, HPL.out]; exact Nat.le_refl _), Nat.zero_add] at h5
           exact h5
         have HO10 : Hid (w10.ownsRow w9.heap.size 5 1 (.slice A10 32 c10) 32 (u8s M)) := hown10
         refine ⟨_, rfl, fun _ => HV10.out, ?_⟩
         refine AnyK.one 5 rfl (by kernel_rfl) rfl ?_
         refine wp_app (.tmp 48) (.tmp 50) 22 (by rfl) w9.heap.size 5 1 1 Tryz.underlying22 eU8 (.slice A10 32 c10) 32 (u8s M) (by rfl) HO10.out (some ⟨g4, 32, none⟩) 256 (c4 - 32) (u8s (PL.drop 32)) (by rfl) HP10.out.toS (u8s_one _) (by omega) (by omega) HS10.out.size ?_
         intro A11 c11 w11 hown11 hc11 hg11 hat11
         rw [← u8s_append] at hown11
         obtain ⟨g11, rfl, hgg, _, hrd11⟩ := own_pos hown11 (by omega)
         have hl9 := HV9.out.lt
         have hl9' := HY9.out.lt
         have hne : ∀ k, k < w9.heap.size → some k ≠ Value.ownBlock (.slice A10 32 c10) := fun k hk e => by have := (HO10.out.lt k e.symm).1; omega
         have HE11 := qh (HE10.out.grown hg11 HE10.out.size (fun k hk => by have := (HO10.out.lt k hk).1; have := HE9.out.size; omega))
         have HV11 := qh (HV10.out.grown hg11 (hne _ hl9))
         have HY11 := qh (HY10.out.grown hg11 (hne _ hl9'))
         refine ⟨fun _ => HV11.out, ?_⟩
         refine AnyK.storeAll 6 (w.heap.size + 1) R 47 _ (by rfl) rfl rfl (by rfl) (by kernel_rfl) (by kernel_rfl) (by kernel_rfl) HY11.out (by rw [HRL.out]; exact hd76c) HR1.out (by rw [HRL.out]; rfl) (fun _ _ ho _ => ho.blk HV11.out (by have := HS5.out; omega)) ?_
         intro w12 hb12 ho12
         have hr12 := ho12.rd hrd11 (by rintro ad e; injection e with e; subst e; show g11 ≠ _; omega)
         have HE12 := qh (ho12.below HE11.out (by omega) HE11.out.size)
         refine AnyK.val 7 (v := .slice (some ⟨g11, 0, none⟩) (32 + 256) c11) (by rfl) (by kernel_rfl) rfl (by kernel_rfl) (fun h => (by cases h)) ?_
         refine AnyK.val 8 (v := .int .i64 0) (by rfl) (by kernel_rfl) rfl (by kernel_rfl) (fun h => (by cases h)) ?_
         refine AnyK.done (by kernel_rfl) ?_
         have HB12 := qh hb12
         have HR12 := qh hr12
         clear hb12 hr12 ho12 hrd11 hown11 hg11 hat11 hown10 hB10 hl9 hl9' hne
         go_wp2
         exact bodyPost_ret (res_ctt2 (p := 4) (u := 5) (v := 6) (ty := 47) rfl _ (w.heap.size + 1) _ R (by kernel_rfl) HB12.out _ Tryz.underlying47 rfl (by rw [HRL.out]; exact hd76c)) rfl ⟨some ⟨g11, 0, none⟩, 32 + 256, c11, (by rw [HRq.out]; kernel_rfl), HR12.out, HE12.out⟩
       · have hE1 := hE0
         have he1 : ¬ (E : Int) = 0 := by omega
         rw [if_neg (by omega)] at hCq hLq
         subst hCq
         subst hLq
         generalize CM.cells = R at *
         clear HX hE0
         go_wp2_with (first
           | (go_at_call 47; (with_reducible refine (HD.out _ _ _ (by exact hc32) (by exact HX4.out.2.2.2.1)).mono ?_); rintro e w5 ⟨rfl, hB5⟩
              have HE5 := qh (HX4.out.1.trans (hB5.mono HX4.out.1.size))
              have HY5 := qh (HX4.out.2.2.1.below hB5 HX4.out.2.2.1.lt)
              have HZ5 := qh (HX4.out.2.1.below hB5 HX4.out.2.1.lt)
              have HR5 := qh (HX4.out.2.2.2.1.below hB5)
              have hs5 := hB5.size
              have HS5 : Hid (w.heap.size + 1 < w5.heap.size) := Nat.lt_of_lt_of_le HX4.out.2.2.2.2.1 hs5
              clear hB5 hs5)
           | (refine wpList_store_all rfl 47 (.tmp 8) (.tmp 28) rfl w5.heap.size R (by rfl) (by rfl) 47 Cm.zero.cells (by exact Blk.new' rfl rfl) (by rw [HRL.out]; exact hd76c) HR1.out (by rw [HRL.out]; rfl) ?_; intro w6 hb6 ho6
              have HE6 := qh (ho6.below (HE5.out.alloc HE5.out.size _) HE5.out.size (Nat.le_trans HE5.out.size (by simp)))
              have HY6 := qh (ho6.blk (HY5.out.alloc _) (by have := HS5.out; omega))
              have HZ6 := qh (ho6.blk (HZ5.out.alloc _) (by have := HS5.out; omega))
              have HR6 := qh (ho6.rd (HR5.out.alloc _) ((HR5.out).apart' (Nat.le_refl _)))
              have HV6 := qh hb6
              have c90 := (hb6.cell 0).trans HR0.out
              have hl3 : ∀ o, (ldAt 27 (.pointer (some ⟨w.heap.size, 0, none⟩))).run Tryz.prog (w6.alloc o) = .ok (.agg S.toArray) (w6.alloc o) := fun o => rsp_ld (HZ6.out.alloc o) HSL.out
              have hl6 := rsp_ld HZ6.out HSL.out
              have HS6 : Hid (w.heap.size + 1 < w6.heap.size ∧ w5.heap.size < w6.heap.size) := ⟨HY6.out.lt, hb6.lt⟩
              clear hb6 ho6)
           | (go_at_call 48; (with_reducible refine (HNX.out _).mono ?_); rintro e w8 ⟨rfl, hB8⟩
              have HE8 := qtr HE6 hB8
              have HY8 := qbl HY6 hB8
              have HV8 := qbl HV6 hB8
              have HR8 := qh (HR6.out.below hB8)
              have hs8 := hB8.size
              have HS8 : Hid (w.heap.size + 1 < w8.heap.size ∧ w5.heap.size < w8.heap.size) := (by have := HS6.out; exact ⟨by omega, by omega⟩)
              clear hB8 hs8)
           | (refine wpList_store_all rfl 23 (.tmp 10) (.tmp 40) rfl w8.heap.size (u8s M) (by rfl) (by rfl) 23 o32 (by exact Blk.new' rfl rfl) (by rw [u8s_length, HML.out]; exact hd32) (u8s_one _) (by rw [u8s_length, HML.out]; rfl) ?_; intro w9 hb9 ho9
              have HE9 := qh (ho9.below (HE8.out.alloc HE8.out.size _) HE8.out.size (Nat.le_trans HE8.out.size (by simp)))
              have HY9 := qh (ho9.blk (HY8.out.alloc _) (by have := HS8.out; omega))
              have HV9 := qh (ho9.blk (HV8.out.alloc _) (by have := HS8.out; omega))
              have HR9 := qh (ho9.rd (HR8.out.alloc _) ((HR8.out).apart' (Nat.le_refl _)))
              have HM9 := qh hb9
              clear hb9 ho9)
           | refine wpList_build rfl 47 [] rfl [] (by rfl) _ (build_cm0 _) ?_
           | (refine wpList_store_all rfl 47 (.tmp 4) (.tmp 44) rfl (w.heap.size + 1) Cm.zero.cells (by rfl) (by rfl) 47 _ HY9.out (by exact hd76c) (Cm.cells_one _) (by exact rfl) ?_
              intro w7 hb7 ho7
              have HE7 := qh (ho7.below HE9.out (by omega) HE9.out.size)
              have HU := qh hb7
              clear hb7 ho7))
         exact bodyPost_ret (res_ctt2 rfl _ (w.heap.size + 1) _ Cm.zero.cells rfl HU.out _ Tryz.underlying47 rfl (by exact hd76c)) rfl ⟨_, _, _, rfl, rd_nil0 _, HE7.out⟩
     · rw [if_pos hk] at hEq hCq hLq
       have hEqs := hEq.symm
       subst hEqs
       have hCqs := hCq.symm
       subst hCqs
       have hLqs := hLq.symm
       subst hLqs
       have hk1 : ¬ (CM.k.toNat : Int) = 1 := by
         intro h2
         exact hk (UInt8.toNat_inj.1 (by show _ = 1; omega))
       generalize CM.k = kk at *
       generalize hRq : CM.cells = R at *
       have HRq := qh hRq
       clear HNX HX hRq
       go_wp2_with (first
         | (go_at_call 47; (with_reducible refine (HD.out _ _ _ (by exact hc32) (by exact HX4.out.2.2.2.1)).mono ?_); rintro e w5 ⟨rfl, hB5⟩
            have HE5 := qh (HX4.out.1.trans (hB5.mono HX4.out.1.size))
            have HY5 := qh (HX4.out.2.2.1.below hB5 HX4.out.2.2.1.lt)
            have hs5 := hB5.size
            have HS5 : Hid (w.heap.size + 1 < w5.heap.size) := Nat.lt_of_lt_of_le HX4.out.2.2.2.2.1 hs5
            clear hB5 hs5)
         | (refine wpList_store_all rfl 47 (.tmp 8) (.tmp 28) rfl w5.heap.size R (by rfl) (by rfl) 47 Cm.zero.cells (by exact Blk.new' rfl rfl) (by rw [HRL.out]; exact hd76c) HR1.out (by rw [HRL.out]; rfl) ?_; intro w6 hb6 ho6
            have HE6 := qh (ho6.below (HE5.out.alloc HE5.out.size _) HE5.out.size (Nat.le_trans HE5.out.size (by simp)))
            have HY6 := qh (ho6.blk (HY5.out.alloc _) (by have := HS5.out; omega))
            have c90 := (hb6.cell 0).trans HR0.out
            have hl6 := cm_ld hb6 HRL.out
            clear hb6 ho6)
         | (refine wpList_store_all rfl 47 (.tmp 4) (.tmp 36) rfl (w.heap.size + 1) R (by rfl) (by rfl) 47 _ HY6.out (by rw [HRL.out]; exact hd76c) HR1.out (by rw [HRL.out]; rfl) ?_
            intro w7 hb7 ho7
            have HE7 := qh (ho7.below HE6.out (by omega) HE6.out.size)
            have HU := qh hb7
            clear hb7 ho7))
       exact bodyPost_ret (res_ctt2 rfl _ (w.heap.size + 1) _ R rfl HU.out _ Tryz.underlying47 rfl (by rw [HRL.out]; exact hd76c)) rfl ⟨_, _, _, by rw [HRq.out]; rfl, rd_nil0 _, HE7.out⟩
   · have hdn : D ≠ 0 := by omega
     have hd1 : ¬ (D : Int) = 0 := by omega
     rw [if_pos hdn] at hEq hCq hLq
     rw [if_neg hdn] at HD
     subst hEq
     subst hCq
     subst hLq
     clear hdn hD0 HNX
     go_wp2_with (first
       | (go_at_call 47; (with_reducible refine (HD.out _ _ _ (by exact hc32) (by exact HX4.out.2.2.2.1)).mono ?_); rintro e w5 ⟨rfl, hB5⟩
          have HE5 := qh (HX4.out.1.trans (hB5.mono HX4.out.1.size))
          have HY5 := qh (HX4.out.2.2.1.below hB5 HX4.out.2.2.1.lt)
          have hs5 := hB5.size
          have HS5 : Hid (w.heap.size + 1 < w5.heap.size) := Nat.lt_of_lt_of_le HX4.out.2.2.2.2.1 hs5
          clear hB5 hs5)
       | (refine wpList_store_all rfl 47 (.tmp 8) (.tmp 28) rfl w5.heap.size Cm.zero.cells (by rfl) (by rfl) 47 Cm.zero.cells (by exact Blk.new' rfl rfl) (by exact hd76c) (Cm.cells_one _) (by exact rfl) ?_; intro w6 hb6 ho6
          have HE6 := qh (ho6.below (HE5.out.alloc HE5.out.size _) HE5.out.size (Nat.le_trans HE5.out.size (by simp)))
          have HY6 := qh (ho6.blk (HY5.out.alloc _) (by have := HS5.out; omega))
          clear hb6 ho6)
       | refine wpList_build rfl 47 [] rfl [] (by rfl) _ (build_cm0 _) ?_
       | (refine wpList_store_all rfl 47 (.tmp 4) (.tmp 32) rfl (w.heap.size + 1) Cm.zero.cells (by rfl) (by rfl) 47 _ HY6.out (by exact hd76c) (Cm.cells_one _) (by exact rfl) ?_
          intro w7 hb7 ho7
          have HE7 := qh (ho7.below HE6.out (by omega) HE6.out.size)
          have HU := qh hb7
          clear hb7 ho7))
     exact bodyPost_ret (res_ctt2 rfl _ (w.heap.size + 1) _ Cm.zero.cells rfl HU.out _ Tryz.underlying47 rfl (by exact hd76c)) rfl ⟨_, _, _, rfl, rd_nil0 _, HE7.out⟩
end Go.Proofs.YtpgpaenloaphaaaGreat
