/- Part of the proof: Opa, SqE, HeaderOpensW. -/
import Derived.Test.YtpgpaenloaphaaaGreatHox03
import Derived.Test.YtpgpaenloaphaaaGreatHox26
import Derived.Test.YtpgpaenloaphaaaGreatHox35
import Derived.Test.YtpgpaenloaphaaaGreatHox37
import Derived.Test.YtpgpaenloaphaaaGreatHox50
namespace Go.Proofs.YtpgpaenloaphaaaGreat
open Go.RowKit
noncomputable def opN (s : Sp) (h : List UInt8) : List UInt8 := if fits s h = false then z288 else if dce ((plainOf s h).take 32) ≠ 0 then z288 else if (dcm ((plainOf s h).take 32)).k ≠ 1 then z288 else if mE s.blind s.alpha = 0 then mB s.blind s.alpha ++ (plainOf s h).drop 32 else z288
theorem op_next (s : Sp) (h : List UInt8) (hh : h.length = 288) : (opL s h = [] ∧ opN s h = z288) ∨ ((opL s h).length = 288 ∧ opN s h = opL s h) := by
  unfold opL opN
  by_cases h1 : fits s h = false
  · left; rw [if_pos h1, if_pos h1]; exact ⟨rfl, rfl⟩
  · rw [if_neg h1, if_neg h1]
    by_cases h2 : dce ((plainOf s h).take 32) ≠ 0
    · left; rw [if_pos h2, if_pos h2]; exact ⟨rfl, rfl⟩
    · rw [if_neg h2, if_neg h2]
      by_cases h3 : (dcm ((plainOf s h).take 32)).k ≠ 1
      · left; rw [if_pos h3, if_pos h3]; exact ⟨rfl, rfl⟩
      · rw [if_neg h3, if_neg h3]
        by_cases h4 : mE s.blind s.alpha = 0
        · right; rw [if_pos h4, if_pos h4]; exact ⟨by rw [List.length_append, mB_len, List.length_drop, plainOf_len s hh], rfl⟩
        · left; rw [if_neg h4, if_neg h4]; exact ⟨rfl, rfl⟩
theorem opN_len (s : Sp) (h : List UInt8) (hh : h.length = 288) : (opN s h).length = 288 := by
  rcases op_next s h hh with ⟨_, h2⟩ | ⟨h1, h2⟩
  · rw [h2]; exact List.length_replicate
  · rw [h2]; exact h1
theorem opC_ok (s : Sp) (h : List UInt8) (hh : h.length = 288) : (opC s h).ok := by
  have hd : (dcm ((plainOf s h).take 32)).ok := dcm_ok (by rw [List.length_take, plainOf_len s hh]; rfl)
  unfold opC
  repeat' split
  all_goals first | exact Cm.zero_ok | exact hd
theorem hopen_any (s : Sp) (hs : s.ok) (h : List UInt8) (hh : h.length = 288) (w : World) :
    Calls Tryz.prog 16 #[.agg (u8s h).toArray, .agg s.cells.toArray] w fun e w' => e = .returned (.tuple #[.agg (opC s h).cells.toArray, .agg (u8s (opN s h)).toArray, .int .i64 (opE s h : Int)]) ∧ Below w.heap.size w w' := by
  unfold opC opN opE
  by_cases h1 : fits s h = false
  · simp only [if_pos h1]
    exact open_bad s hs h hh h1 w
  · have h1' : fits s h = true := by simpa using h1
    simp only [if_neg h1]
    by_cases h2 : dce ((plainOf s h).take 32) ≠ 0
    · simp only [if_pos h2]
      exact open_form s hs h hh h1' h2 w
    · have h2' : dce ((plainOf s h).take 32) = 0 := Decidable.not_not.1 h2
      simp only [if_neg h2]
      by_cases h3 : (dcm ((plainOf s h).take 32)).k ≠ 1
      · simp only [if_pos h3]
        exact open_last s hs h hh h1' h2' h3 w
      · have h3' : (dcm ((plainOf s h).take 32)).k = 1 := Decidable.not_not.1 h3
        simp only [if_neg h3]
        refine (open_relay s hs h hh h1' h2' h3' w).mono ?_
        rintro e w' ⟨rfl, hB⟩
        refine ⟨?_, hB⟩
        by_cases h4 : mE s.blind s.alpha = 0
        · simp only [if_pos h4]
        · simp only [if_neg h4]
end Go.Proofs.YtpgpaenloaphaaaGreat
namespace Go.Proofs.YtpgpaenloaphaaaGreat
open Go.RowKit
section
variable {P : Program}
theorem eqFields_same (d : Nat) (xs : Array Value) (w : World) : ∀ fs : List Field, (∀ f ∈ fs, ∃ v, (part f.type xs f.offset).run P w = .ok v w ∧ (Op.equalIn d f.type v v).run P w = .ok true w) → (Op.eqFields d xs xs fs).run P w = .ok true w
  | [], _ => by simp [Op.eqFields]
  | f :: fs, h => by
    obtain ⟨v, h1, h2⟩ := h f (by simp)
    have ih := eqFields_same d xs w fs (fun g hg => h g (by simp [hg]))
    unfold Op.eqFields
    split
    · simp only [Sem.run_bind, h1, h2, Result.andThen_ok, Bool.not_true, Bool.false_eq_true, if_false, ih]
    · exact ih
end
theorem eqIn16 (d : Nat) (x : List UInt8) (hx : x.length = 16) (w : World) : (Op.equalIn (d + 2) 29 (.agg (u8s x).toArray) (.agg (u8s x).toArray)).run Tryz.prog w = .ok true w := by
  obtain ⟨i, hi⟩ : ∃ i, Tryz.prog.info? 5 = some i := Option.isSome_iff_exists.1 (by kernel_rfl)
  have hc : Tryz.prog.cellsOf 5 = 1 := by kernel_rfl
  rw [run_equalIn_array w (d + 1) _ _ Tryz.underlying29 hi, hc, List.range_eq_range', ← hx, eqItems_bytes d 5 (by kernel_rfl) Tryz.underlying5 x x rfl w x.length 0 (by omega)]
  simp
theorem ag16e (w : World) : (isAgg 29).run Tryz.prog w = .ok true w := by kernel_rfl
theorem sz16e (w : World) : (sizeOf 29).run Tryz.prog w = .ok 16 w := by kernel_rfl
theorem part_cm16 (c : Cm) (h : c.ok) (w : World) : (part 29 c.cells.toArray 4).run Tryz.prog w = .ok (.agg (u8s c.m).toArray) w := by
  unfold part
  simp only [Sem.run_bind, ag16e, sz16e, Result.andThen_ok, if_true, Sem.run_pure]
  congr 2
  rw [List.extract_toArray, List.extract_eq_take_drop, Nat.add_sub_cancel_left, Cm.cells_mark, List.take_of_length_le (by rw [u8s_length, h.2.2]; exact Nat.le_refl _)]
set_option maxRecDepth 100000 in
theorem eqInCm (d : Nat) (c : Cm) (h : c.ok) (w : World) : (Op.equalIn (d + 3) 47 (.agg c.cells.toArray) (.agg c.cells.toArray)).run Tryz.prog w = .ok true w := by
  have hf : Tryz.prog.underlying 47 = some (.struct (Tryz.prog.fieldsOf 47)) := by kernel_rfl
  rw [run_equalIn_struct w (d + 2) _ _ _ hf (by kernel_rfl)]
  refine eqFields_same (d + 2) _ w _ fun f hf => ?_
  unfold Program.fieldsOf at hf
  rw [Tryz.underlying47] at hf
  simp only [List.mem_cons, List.not_mem_nil, or_false] at hf
  rcases hf with rfl | rfl | rfl | rfl | rfl
  · exact ⟨.int .u8 c.k.toNat, run_part_plain w (by kernel_rfl) rfl, by rw [run_equalIn_int w (d + 1) _ .u8 .u8 _ _ Tryz.underlying5]; simp⟩
  · exact ⟨.int .u8 c.f.toNat, run_part_plain w (by kernel_rfl) rfl, by rw [run_equalIn_int w (d + 1) _ .u8 .u8 _ _ Tryz.underlying5]; simp⟩
  · exact ⟨.int .u32 (c.d : Int), run_part_plain w (by kernel_rfl) rfl, by rw [run_equalIn_int w (d + 1) _ .u32 .u32 _ _ Tryz.underlying44]; simp⟩
  · exact ⟨.int .u64 (c.n : Int), run_part_plain w (by kernel_rfl) rfl, by rw [run_equalIn_int w (d + 1) _ .u64 .u64 _ _ Tryz.underlying45]; simp⟩
  · exact ⟨_, part_cm16 c h w, eqIn16 d _ h.2.2 w⟩
set_option maxRecDepth 100000 in
theorem neCm (c : Cm) (h : c.ok) (w : World) : (neAt 47 (.agg c.cells.toArray) (.agg c.cells.toArray)).run Tryz.prog w = .ok (.bool false) w := by
  unfold neAt
  rw [run_neq_struct]
  have h5 := eqInCm 9997 c h w
  show (((Op.equalIn (9997 + 3) 47 (.agg c.cells.toArray) (.agg c.cells.toArray)).run Tryz.prog w).andThen _) = _
  rw [h5]
  rfl
theorem neq_cm (x y : Value) : binOp .neq 47 x y = neAt 47 x y := rfl
end Go.Proofs.YtpgpaenloaphaaaGreat
namespace Go.Proofs.YtpgpaenloaphaaaGreat.headerOpens
open Go.RowKit
attribute [local go_sem ↓] ldq_34 ldq_27 ldq_cm eqq_34 neq_cm
set_option maxRecDepth 100000 in
set_option maxHeartbeats 1000000 in
theorem walk_no (A : Option Addr) (n c : Nat) (s : Sp) (w : World) (hne : ¬ n = 288) :
    Calls Tryz.prog 4 #[.slice A n c, .agg s.cells.toArray] w fun e w' => e = .returned (.bool true) ∧ Below w.heap.size w w' := by
  have hne' : ((n : Int) != 288) = true := by rw [bne_iff_ne]; omega
  generalize s.cells = S at *
  have HE : Hid (Below w.heap.size w (w.alloc (.cells S.toArray 27))) := (Below.refl _ w).alloc (Nat.le_refl _) _
  clear hne
  go_enter Tryz.func4, Tryz.ntmps4
  go_wp2_with (go_at_call 20; refine (awake13 _).mono ?_; rintro e w1 ⟨rfl, hB1⟩; have HE1 := qtr HE hB1; clear hB1)
  go_ret
  exact ⟨rfl, HE1.out⟩
theorem alloc_hd {o : Oper} {a : Act} {W : World} (ho : o.op = .alloc 32) : (execOp a.eval o).run Tryz.prog W = .ok (.value (.pointer (some ⟨W.heap.size, 0, none⟩))) (W.alloc (.cells (u8s z288).toArray 32)) := by
  unfold execOp
  rw [ho]
  kernel_rfl
set_option maxRecDepth 100000 in
set_option maxHeartbeats 4000000 in
theorem walk_yes (A : Option Addr) (c : Nat) (l : List UInt8) (s : Sp) (hs : s.ok) (w : World) (h : Rd w A 288 (u8s l)) (hc : 288 ≤ c) :
    Calls Tryz.prog 4 #[.slice A 288 c, .agg s.cells.toArray] w fun e w' => e = .returned (.bool true) ∧ Below w.heap.size w w' := by
  have hl := h.len
  obtain ⟨b, off, rfl, hb, _⟩ := h.2 (by omega)
  have HR := Lib.hid h
  have HUL : Hid ((u8s l).length = 288) := by show _ = _; rw [u8s_length, hl]
  have HSL := Lib.hid (Sp.cells_len hs)
  have HP := Lib.hid (fun W (hW : Rd W (some ⟨b, off, none⟩) 288 (u8s l)) => hparse_yes (some ⟨b, off, none⟩) c l W hW hc)
  have HST := Lib.hid (fun W => law13step_any s hs W)
  have HF1 := Lib.hid (fun W => fits_any s hs l hl W)
  have HF2 := Lib.hid (fun W (hW : Rd W (some ⟨b, off, none⟩) 288 (u8s l)) => rfits_any s hs (some ⟨b, off, none⟩) c l W hW hc)
  have HO1 := Lib.hid (fun W => hopen_any s hs l hl W)
  have HO2 := Lib.hid (fun W (hW : Rd W (some ⟨b, off, none⟩) 288 (u8s l)) => ropen_any s hs (some ⟨b, off, none⟩) c l W hW hc)
  have hcok := opC_ok s l hl
  have HCL : Hid ((opC s l).cells.length = 20) := Cm.cells_len hcok
  have HC1 : Hid (∀ v ∈ (opC s l).cells, v.oneCell' = true) := Cm.cells_one _
  have hneq := fun W => neCm (opC s l) hcok W
  have HNN := Lib.hid (op_next s l hl)
  have HNL : Hid ((opN s l).length = 288) := opN_len s l hl
  have hq := eq34z
  generalize fits s l = F at *
  generalize (opC s l).cells = OC at *
  generalize opN s l = ON at *
  generalize opL s l = OL at *
  generalize opE s l = E at *
  generalize s.cells = S at *
  have HB0 : Hid (Blk (w.alloc (.cells S.toArray 27)) w.heap.size 27 S) := Blk.new _ _ _
  have HE0 : Hid (Below w.heap.size w (w.alloc (.cells S.toArray 27))) := (Below.refl _ w).alloc (Nat.le_refl _) _
  obtain ⟨U, hU⟩ : ∃ U, U = u8s l := ⟨_, rfl⟩
  rw [← hU] at HP HF1 HO1 HUL HF2 HO2 HR
  have HU1 : Hid (∀ v ∈ U, v.oneCell' = true) := by rw [hU]; exact u8s_one _
  clear hU hl h hs hcok
  go_enter Tryz.func4, Tryz.ntmps4
  go_upto_region 6 with (first
    | (go_at_call 20; refine (awake13 _).mono ?_; rintro e w1 ⟨rfl, hB1⟩; have HE1 := qtr HE0 hB1; have HZ1 := qbl HB0 hB1; clear hB1)
    | (go_at_call 21; (with_reducible refine (HP.out _ (by exact HR.out.below HE1.out)).mono ?_); rintro e w2 ⟨rfl, hB2⟩; have HE2 := qtr HE1 hB2; have HZ2 := qbl HZ1 hB2; clear hB2)
    | (refine wpList_store_all rfl 32 (.tmp 5) (.tmp 20) rfl w2.heap.size U (by rfl) (by rfl) 32 (u8s z288) (by exact Blk.new' rfl zc34') (by rw [HUL.out]; exact hd34) HU1.out (by rw [HUL.out, z288_len]) ?_; intro w3 hb3 ho3
       have HE3 := Lib.hid (ho3.below (HE2.out.alloc HE2.out.size _) HE2.out.size (Nat.le_trans HE2.out.size (by simp)))
       have HZ3 := qal ho3 HZ2 (by have := HZ2.out.lt; omega)
       have HH3 := Lib.hid hb3
       have HL2 := Lib.hid HZ2.out.lt
       clear hb3 ho3))
  have hld1 : ∀ W, Blk W w2.heap.size 32 U → (ldAt 32 (.pointer (some ⟨w2.heap.size, 0, none⟩))).run Tryz.prog W = .ok (.agg U.toArray) W := fun W hb => hd_ld hb HUL.out
  have hld2 : ∀ W, Blk W w.heap.size 27 S → (ldAt 27 (.pointer (some ⟨w.heap.size, 0, none⟩))).run Tryz.prog W = .ok (.agg S.toArray) W := fun W hb => rsp_ld hb HSL.out
  clear HZ1 HZ2 HE1 HE2 HB0 HE0 HP
  go_region_held3 (fun w' => Blk w' w2.heap.size 32 U ∧ Blk w' w.heap.size 27 S)
    (first | exact ⟨HH3.out, HZ3.out⟩ | exact ⟨HH3.out.drew, HZ3.out.drew⟩ | exact ⟨HH4.out, HZ4.out⟩ | exact ⟨HH5.out, HZ5.out⟩ | exact ⟨HH6.out, HZ6.out⟩) ((first
    | (go_at_call 22; (refine (HST.out _).mono ?_); rintro e w4 ⟨rfl, hB4⟩; have HE4 := Lib.hid (HE3.out.drew.trans (hB4.mono HE3.out.drew.size)); have HZ4 := Lib.hid (HZ3.out.drew.below hB4 HZ3.out.drew.lt); have HH4 := Lib.hid (HH3.out.drew.below hB4 HH3.out.drew.lt); clear hB4)
    | (go_at_call 18; (refine (HF1.out _).mono ?_); rintro e w5 ⟨rfl, hB5⟩; have HE5 := qtr HE4 hB5; have HZ5 := qbl HZ4 hB5; have HH5 := qbl HH4 hB5; clear hB5)
    | (go_at_call 19; (refine (HF2.out _ (by exact HR.out.below HE5.out)).mono ?_); rintro e w6 ⟨rfl, hB6⟩; have HE6 := qtr HE5 hB6; have HZ6 := qbl HZ5 hB6; have HH6 := qbl HH5 hB6; clear hB6)))
  clear HZ3 HZ4 HZ5 HH3 HH4 HH5 HE3 HE4 HE5 HF1 HF2
  go_wp2
  have HV0 : Hid (Below w6.heap.size w6 { w6 with drawn := w6.drawn + 1 }) := (Below.refl _ w6).drew
  refine region_K (by kernel_rfl) 10 (fun w' => Below w6.heap.size w6 w') ?_
  refine AnyK.load 0 (v := .agg U.toArray) rfl (by kernel_rfl) (by kernel_rfl) (by kernel_rfl) (fun _ _ _ h => h) rfl (fun w' hw' => ey_loadR (x := .tmp 5) (by rfl) (by kernel_rfl) (hd_ld (HH6.out.below hw' HH6.out.lt) HUL.out)) HV0.out ?_
  refine AnyK.load 1 (v := .agg S.toArray) rfl (by kernel_rfl) (by kernel_rfl) (by kernel_rfl) (fun _ _ _ h => h) rfl (fun w' hw' => ey_loadR (x := .tmp 3) (by rfl) (by kernel_rfl) (rsp_ld (HZ6.out.below hw' HZ6.out.lt) HSL.out)) HV0.out ?_
  refine AnyG.start w6.heap.size [⟨8, 7, 47, Cm.zero.cells, fun g => .pointer (some ⟨g, 0, none⟩)⟩, ⟨9, 8, 32, u8s z288, fun g => .pointer (some ⟨g, 0, none⟩)⟩] (fun W => Below w6.heap.size w6 W) 9 rfl HV0.out ?_
  refine AnyG.step 2 (di := 37) [] (fun _ : Unit => .agg S.toArray) (fun _ W => Below w6.heap.size w6 W) (by rfl) rfl (by simp) (by simp) (by kernel_rfl) ?_ ?_ (fun W o h => h.alloc h.size o) (fun W h => h.size) (fun W h => h) (fun _ W h => h) ?_
  · intro F W hF hR hok hrd K hK
    obtain ⟨s1, s2, rfl⟩ := two_of hF
    rcases s1 with _ | k1 <;> rcases s2 with _ | k2 <;>
      (refine wp_enter (f := 22) (args := #[.agg S.toArray]) (by kernel_rfl) ?_; refine (HST.out W).mono ?_; rintro e w' ⟨rfl, hB⟩; exact ⟨_, rfl, hK () _ (hR.trans (hB.mono hR.size)) hB⟩)
  · intro f hf
    simp only [List.mem_cons, List.not_mem_nil, or_false] at hf
    rcases hf with rfl | rfl
    · exact ⟨_, rfl, rfl, rfl, fun F W _ => by kernel_rfl⟩
    · exact ⟨_, rfl, rfl, rfl, fun F W _ => alloc_hd rfl⟩
  intro _
  refine AnyG.step 3 (di := 38) [] (fun _ : Unit => .tuple #[.agg OC.toArray, .agg (u8s ON).toArray, .int .i64 (E : Int)]) (fun _ W => Below w6.heap.size w6 W) (by rfl) rfl (by simp) (by simp) (by kernel_rfl) ?_ ?_ (fun W o h => h.alloc h.size o) (fun W h => h.size) (fun W h => h) (fun _ W h => h) ?_
  · intro F W hF hR hok hrd K hK
    obtain ⟨s1, s2, rfl⟩ := two_of hF
    rcases s1 with _ | k1 <;> rcases s2 with _ | k2 <;>
      (refine wp_enter (f := 16) (args := #[.agg U.toArray, .agg S.toArray]) (by kernel_rfl) ?_; refine (HO1.out W).mono ?_; rintro e w' ⟨rfl, hB⟩; exact ⟨_, rfl, hK () _ (hR.trans (hB.mono hR.size)) hB⟩)
  · intro f hf
    simp only [List.mem_cons, List.not_mem_nil, or_false] at hf
    rcases hf with rfl | rfl
    · exact ⟨_, rfl, rfl, rfl, fun F W _ => by kernel_rfl⟩
    · exact ⟨_, rfl, rfl, rfl, fun F W _ => alloc_hd rfl⟩
  intro _
  refine AnyG.pure 4 (di := 34) (v := .tuple #[.agg OC.toArray, .agg (u8s ON).toArray, .int .i64 (E : Int)]) rfl rfl rfl (by simp) (by kernel_rfl) (fun _ _ _ h => h) (fun F W hF => by obtain ⟨s1, s2, rfl⟩ := two_of hF; rcases s1 with _ | k1 <;> rcases s2 with _ | k2 <;> kernel_rfl) (fun W h => h) ?_
  refine AnyG.pure 5 (di := 39) (v := .agg OC.toArray) rfl rfl rfl (by simp) (by kernel_rfl) (fun _ _ _ h => h) (fun F W hF => by obtain ⟨s1, s2, rfl⟩ := two_of hF; rcases s1 with _ | k1 <;> rcases s2 with _ | k2 <;> kernel_rfl) (fun W h => h) ?_
  refine AnyG.pure 6 (di := 40) (v := .agg (u8s ON).toArray) rfl rfl rfl (by simp) (by kernel_rfl) (fun _ _ _ h => h) (fun F W hF => by obtain ⟨s1, s2, rfl⟩ := two_of hF; rcases s1 with _ | k1 <;> rcases s2 with _ | k2 <;> kernel_rfl) (fun W h => h) ?_
  refine AnyG.pure 7 (di := 41) (v := .int .i64 (E : Int)) rfl rfl rfl (by simp) (by kernel_rfl) (fun _ _ _ h => h) (fun F W hF => by obtain ⟨s1, s2, rfl⟩ := two_of hF; rcases s1 with _ | k1 <;> rcases s2 with _ | k2 <;> kernel_rfl) (fun W h => h) ?_
  refine AnyG.fin (by simp) (by kernel_rfl) ?_ (fun W o h => h.alloc h.size o) (fun W h => h.size) (fun W h => h) ?_
  · intro f hf
    simp only [List.mem_cons, List.not_mem_nil, or_false] at hf
    rcases hf with rfl | rfl
    · exact ⟨_, rfl, rfl, rfl, fun F W _ => by kernel_rfl⟩
    · exact ⟨_, rfl, rfl, rfl, fun F W _ => alloc_hd rfl⟩
  intro F W hF h0 hR hok
  obtain ⟨g7, g8, rfl⟩ := two_all hF h0
  obtain ⟨⟨hg7, hb7, hn7⟩, ⟨hg8, hb8, _⟩, _⟩ := hok
  have N78 : Hid (g7 ≠ g8) := fun e => hn7 _ (List.mem_cons_self) (by rw [e])
  refine AnyK.storeAll 10 g7 OC 47 Cm.zero.cells (by rfl) rfl rfl (by rfl) (by kernel_rfl) (by kernel_rfl) (by kernel_rfl) hb7 (by rw [HCL.out]; exact hd76c) HC1.out (by rw [HCL.out]; rfl) (fun _ _ _ h => (by cases h)) ?_
  intro w7 hb7' ho7
  have hB7 := ho7.below hR hg7 hR.size
  refine AnyK.storeAll 11 g8 (u8s ON) 32 (u8s z288) (by rfl) rfl rfl (by rfl) (by kernel_rfl) (by kernel_rfl) (by kernel_rfl) (ho7.blk hb8 (fun e => N78.out e.symm)) (by rw [u8s_length, HNL.out]; exact hd34) (u8s_one _) (by rw [u8s_length, HNL.out, z288_len]) (fun _ _ _ h => (by cases h)) ?_
  intro w8 hb8' ho8
  have HB8 := Lib.hid (ho8.below hB7 hg8 hB7.size)
  have HC8 := Lib.hid (ho8.blk hb7' N78.out)
  have HN8 := Lib.hid hb8'
  refine AnyK.val 12 (v := .int .i64 (E : Int)) (by rfl) (by kernel_rfl) rfl (by kernel_rfl) (fun h => (by cases h)) ?_
  refine AnyK.done (by kernel_rfl) ?_
  have HZ8 := Lib.hid (HZ6.out.below HB8.out HZ6.out.lt)
  have HE8 := Lib.hid (HE6.out.trans (HB8.out.mono HE6.out.size))
  clear hb7 hb8 hb7' hb8' ho7 ho8 hB7 hR hg7 hg8 hn7 hF h0 HV0 HB8 HZ6 HH6 HE6 hld1
  simp only [putF]
  have hz8 := hld2 _ HZ8.out
  rcases HNN.out with ⟨rfl, hon⟩ | ⟨hol, hon⟩
  · have hlz := z288_length
    rw [hon] at HN8 HNL
    clear hon HNN
    go_wp2_with (first
      | (go_at_call 17; (with_reducible refine (HO2.out _ (by exact HR.out.below HE8.out)).mono ?_); rintro e w9 ⟨A9, n9, c9, rfl, hr9, hB9⟩
         obtain rfl : n9 = 0 := (by have := hr9.len; simpa using this.symm)
         have HE9 := qtr HE8 hB9
         have HC9 := qbl HC8 hB9
         have HN9 := qbl HN8 hB9
         have HR9 := Lib.hid hr9
         have HL9 : Hid (g7 < w9.heap.size ∧ g8 < w9.heap.size) := ⟨HC9.out.lt, HN9.out.lt⟩
         clear hr9 hB9)
      | (refine wpList_store_all rfl 47 (.tmp 9) (.tmp 46) rfl w9.heap.size OC (by rfl) (by rfl) 47 Cm.zero.cells (by exact Blk.new' rfl rfl) (by rw [HCL.out]; exact hd76c) HC1.out (by rw [HCL.out]; rfl) ?_; intro w10 hb10 ho10
         have HE10 := Lib.hid (ho10.below (HE9.out.alloc HE9.out.size _) HE9.out.size (Nat.le_trans HE9.out.size (by simp)))
         have HC10 := Lib.hid (ho10.blk (HC9.out.alloc _) (by have := HL9.out; omega))
         have HN10 := Lib.hid (ho10.blk (HN9.out.alloc _) (by have := HL9.out; omega))
         have hl7 := cm_ld HC10.out HCL.out
         have hl9 := cm_ld hb10 HCL.out
         have hl8 := hd_ld HN10.out (by rw [u8s_length, HNL.out])
         clear hb10 ho10))
    go_ret
    exact ⟨rfl, HE10.out⟩
  · rw [← hon] at hol
    rw [← hon] at HO2
    have HOL : Hid (ON.length = 288) := hol
    clear hol hon HNN
    go_wp2_with (first
      | (go_at_call 17; (with_reducible refine (HO2.out _ (by exact HR.out.below HE8.out)).mono ?_); rintro e w9 ⟨A9, n9, c9, rfl, hr9, hB9⟩
         obtain rfl : n9 = 288 := (by have := hr9.len; rw [HOL.out] at this; exact this.symm)
         have HE9 := qtr HE8 hB9
         have HC9 := qbl HC8 hB9
         have HN9 := qbl HN8 hB9
         have HR9 := Lib.hid hr9
         have HL9 : Hid (g7 < w9.heap.size ∧ g8 < w9.heap.size) := ⟨HC9.out.lt, HN9.out.lt⟩
         clear hr9 hB9)
      | (refine wpList_store_all rfl 47 (.tmp 9) (.tmp 46) rfl w9.heap.size OC (by rfl) (by rfl) 47 Cm.zero.cells (by exact Blk.new' rfl rfl) (by rw [HCL.out]; exact hd76c) HC1.out (by rw [HCL.out]; rfl) ?_; intro w10 hb10 ho10
         have HE10 := Lib.hid (ho10.below (HE9.out.alloc HE9.out.size _) HE9.out.size (Nat.le_trans HE9.out.size (by simp)))
         have HC10 := Lib.hid (ho10.blk (HC9.out.alloc _) (by have := HL9.out; omega))
         have HN10 := Lib.hid (ho10.blk (HN9.out.alloc _) (by have := HL9.out; omega))
         have HR10 := Lib.hid (ho10.rd (HR9.out.alloc _) (HR9.out.apart' (n := 287) (Nat.le_refl _)))
         have hl7 := cm_ld HC10.out HCL.out
         have hl9 := cm_ld hb10 HCL.out
         have hl8 := hd_ld HN10.out (by rw [u8s_length, HNL.out])
         clear hb10 ho10)
      | (go_at_call 15; (with_reducible refine (hbytes_any ON _ HOL.out).mono ?_); rintro e w11 ⟨A11, c11, rfl, hc11, hown11, hB11⟩
         have HE11 := qtr HE10 hB11
         have HO11 := Lib.hid (Rd.of_own hown11)
         have HR11 := Lib.hid (HR10.out.below hB11)
         clear hB11 hown11)
      | (go_at_call 13; (with_reducible refine (equal_any A11 A9 288 288 c11 c9 ON ON _ HO11.out HR11.out (by omega) (by omega)).mono ?_); rintro e w12 ⟨rfl, q12, rfl⟩))
    go_ret
    exact ⟨rfl, below_drewN HE11.out _⟩
theorem walk (A : Option Addr) (n c : Nat) (l : List UInt8) (s : Sp) (hs : s.ok) (w : World) (h : Rd w A n (u8s l)) (hn : n ≤ c) :
    Calls Tryz.prog 4 #[.slice A n c, .agg s.cells.toArray] w fun e w' => e = .returned (.bool true) ∧ Below w.heap.size w w' := by
  by_cases hne : n = 288
  · subst hne
    exact walk_yes A c l s hs w h hn
  · exact walk_no A n c s w hne
end Go.Proofs.YtpgpaenloaphaaaGreat.headerOpens
