/- Part of the proof: SqE, RdB, RdH, Pel, Ble. -/
import Derived.StillTailTactics
import Derived.Test.YtlbnibmcflmohaaGreatPlx10
import Derived.Test.YtlbnibmcflmohaaGreatPlx41
import Derived.Test.YtlbnibmcflmohaaGreatPlx48
import Derived.Test.YtlbnibmcflmohaaGreatPlx49
namespace Go.Proofs.YtlbnibmcflmohaaGreat
open Go.RowKit
section
variable {P : Program}
theorem eqFields_same (d : Nat) (xs : Array Value) (w : World) : ∀ fs : List Field, (∀ f ∈ fs, ∃ v, (part f.type xs f.offset).run P w = .ok v w ∧ (Op.equalIn d f.type v v).run P w = .ok true w) → (Op.eqFields d xs xs fs).run P w = .ok true w
  | [], _ => by simp [Op.eqFields]
  | f :: fs, h => by
    obtain ⟨v, h1, h2⟩ := h f (by simp)
    have ih := eqFields_same d xs w fs (fun g hg => h g (by simp [hg]))
    unfold Op.eqFields
    split
    · simp only [Sem.run_bind, h1, h2, Result.andThen_ok, Bool.not_true, Bool.false_eq_true, if_false, ih]
    · exact ih
end
theorem eqIn16 (d : Nat) (x : List UInt8) (hx : x.length = 16) (w : World) : (Op.equalIn (d + 2) 34 (.agg (u8s x).toArray) (.agg (u8s x).toArray)).run Tryz.prog w = .ok true w := by
  obtain ⟨i, hi⟩ : ∃ i, Tryz.prog.info? 5 = some i := Option.isSome_iff_exists.1 (by kernel_rfl)
  have hc : Tryz.prog.cellsOf 5 = 1 := by kernel_rfl
  rw [run_equalIn_array w (d + 1) _ _ Tryz.underlying34 hi, hc, List.range_eq_range', ← hx, eqItems_bytes d 5 (by kernel_rfl) Tryz.underlying5 x x rfl w x.length 0 (by omega)]
  simp
theorem ag16e (w : World) : (isAgg 34).run Tryz.prog w = .ok true w := by kernel_rfl
theorem sz16e (w : World) : (sizeOf 34).run Tryz.prog w = .ok 16 w := by kernel_rfl
theorem part_cm16 (c : Cm) (h : c.ok) (w : World) : (part 34 c.cells.toArray 4).run Tryz.prog w = .ok (.agg (u8s c.m).toArray) w := by
  unfold part
  simp only [Sem.run_bind, ag16e, sz16e, Result.andThen_ok, if_true, Sem.run_pure]
  congr 2
  rw [List.extract_toArray, List.extract_eq_take_drop, Nat.add_sub_cancel_left, Cm.cells_mark, List.take_of_length_le (by rw [u8s_length, h.2.2]; exact Nat.le_refl _)]
set_option maxRecDepth 100000 in
theorem eqInCm (d : Nat) (c : Cm) (h : c.ok) (w : World) : (Op.equalIn (d + 3) 50 (.agg c.cells.toArray) (.agg c.cells.toArray)).run Tryz.prog w = .ok true w := by
  have hf : Tryz.prog.underlying 50 = some (.struct (Tryz.prog.fieldsOf 50)) := by kernel_rfl
  rw [run_equalIn_struct w (d + 2) _ _ _ hf (by kernel_rfl)]
  refine eqFields_same (d + 2) _ w _ fun f hf => ?_
  unfold Program.fieldsOf at hf
  rw [Tryz.underlying50] at hf
  simp only [List.mem_cons, List.not_mem_nil, or_false] at hf
  rcases hf with rfl | rfl | rfl | rfl | rfl
  · exact ⟨.int .u8 c.k.toNat, run_part_plain w (by kernel_rfl) rfl, by rw [run_equalIn_int w (d + 1) _ .u8 .u8 _ _ Tryz.underlying5]; simp⟩
  · exact ⟨.int .u8 c.f.toNat, run_part_plain w (by kernel_rfl) rfl, by rw [run_equalIn_int w (d + 1) _ .u8 .u8 _ _ Tryz.underlying5]; simp⟩
  · exact ⟨.int .u32 (c.d : Int), run_part_plain w (by kernel_rfl) rfl, by rw [run_equalIn_int w (d + 1) _ .u32 .u32 _ _ Tryz.underlying47]; simp⟩
  · exact ⟨.int .u64 (c.n : Int), run_part_plain w (by kernel_rfl) rfl, by rw [run_equalIn_int w (d + 1) _ .u64 .u64 _ _ Tryz.underlying48]; simp⟩
  · exact ⟨_, part_cm16 c h w, eqIn16 d _ h.2.2 w⟩
set_option maxRecDepth 100000 in
theorem neCm (c : Cm) (h : c.ok) (w : World) : (neAt 50 (.agg c.cells.toArray) (.agg c.cells.toArray)).run Tryz.prog w = .ok (.bool false) w := by
  unfold neAt
  rw [run_neq_struct]
  have h5 := eqInCm 9997 c h w
  show (((Op.equalIn (9997 + 3) 50 (.agg c.cells.toArray) (.agg c.cells.toArray)).run Tryz.prog w).andThen _) = _
  rw [h5]
  rfl
theorem neq_cm (x y : Value) : binOp .neq 50 x y = neAt 50 x y := rfl
end Go.Proofs.YtlbnibmcflmohaaGreat
namespace Go.Proofs.YtlbnibmcflmohaaGreat
open Go.RowKit
theorem flat_u8 (l : List UInt8) : (l.flatMap fun x => [u8 x]) = u8s l := by
  induction l with
  | nil => rfl
  | cons a l ih => rw [List.flatMap_cons, ih]; rfl
theorem reads_bytes (B : Option Nat) (N : Nat) : Reads Tryz.prog B N 23 (fun s : Sl UInt8 => [s.val]) (fun W s => Rd W s.A s.n (u8s s.l) ∧ s.n ≤ s.c ∧ s.c ≤ 140737488351232) :=
  Reads.mono ((reads_slice (N := N) 1 1 Tryz.underlying23 (by kernel_rfl) (by kernel_rfl) (by omega) (reads_u8 Tryz.underlying5)).imp
    fun W s h => ⟨s, rfl, by
      refine ⟨?_, h.cap, ?_⟩
      · have := h.rd
        rw [flat_u8] at this
        exact this.to1
      · have h2 : s.c * 1 ≤ reachBytes := h.reach
        unfold reachBytes at h2
        omega⟩) (by omega)
end Go.Proofs.YtlbnibmcflmohaaGreat
namespace Go.Proofs.YtlbnibmcflmohaaGreat
open Go.RowKit
def toU8h : Value → UInt8
  | .int .u8 k => UInt8.ofNat k.toNat
  | _ => 0
theorem reads_arrH {P : Program} {B : Option Nat} {N n : Nat} {t e : TypeId} (ht : P.underlying t = some (.array n e)) (hu : P.underlying e = some (.int .u8)) (hc : P.cellsOf e = 1) (hct : P.cellsOf t = n) : Reads P B N t (fun l : List UInt8 => u8s l) (fun _ l => l.length = n) :=
  ⟨fun {H enc W fuel cs x} hf hx hw hb => by
    obtain ⟨xs, m, rfl, rfl, hlen, hxl, hel⟩ := DataW.trod_array ht hx
    refine ⟨cs.map toU8h, ?_, by rw [List.length_map, hlen, hct]⟩
    have hall : ∀ v ∈ cs, u8 (toU8h v) = v := by
      intro v hv
      obtain ⟨i, hi, rfl⟩ := List.getElem_of_mem hv
      have h1 := hel i (by omega)
      rw [hc, Nat.mul_one, List.getElem?_eq_getElem (by omega)] at h1
      obtain ⟨k, e1, _, hk⟩ := DataW.trod_int hu h1
      rw [List.drop_eq_getElem_cons hi, List.take_succ_cons, List.take_zero] at e1
      injection e1 with e1 _
      rw [e1]
      exact congrArg (fun z => Value.int .u8 z) (u8_of_wf hk).symm
    rw [u8s, List.map_map]
    have h2 : cs.map (u8 ∘ toU8h) = cs.map id := List.map_congr_left (fun v hv => hall v hv)
    rw [h2, List.map_id]⟩
theorem reads_u32 {P : Program} {B : Option Nat} {N : Nat} {t : TypeId} (ht : P.underlying t = some (.int .u32)) : Reads P B N t (fun x : Nat => [.int .u32 (x : Int)]) (fun _ x => x < 4294967296) :=
  (reads_int ht).imp fun _ n hn => by
    have h2 : IntKind.u32.min ≤ n ∧ n ≤ IntKind.u32.max := by simpa [Lit.wf] using hn
    have h3 : (0 : Int) ≤ n ∧ n ≤ 4294967295 := h2
    exact ⟨n.toNat, by rw [Int.toNat_of_nonneg h3.1], by omega⟩
theorem reads_u64 {P : Program} {B : Option Nat} {N : Nat} {t : TypeId} (ht : P.underlying t = some (.int .u64)) : Reads P B N t (fun x : Nat => [.int .u64 (x : Int)]) (fun _ x => x < 18446744073709551616) :=
  (reads_int ht).imp fun _ n hn => by
    have h2 : IntKind.u64.min ≤ n ∧ n ≤ IntKind.u64.max := by simpa [Lit.wf] using hn
    have h3 : (0 : Int) ≤ n ∧ n ≤ 18446744073709551615 := h2
    exact ⟨n.toNat, by rw [Int.toNat_of_nonneg h3.1], by omega⟩
theorem reads_cm (B : Option Nat) (N : Nat) : Reads Tryz.prog B N 50 Cm.cells (fun _ c => c.ok) :=
  Reads.mono ((reads_struct (N := N) Tryz.underlying50 (by kernel_rfl)
    (readsF_cons (sz := 1) rfl (by kernel_rfl) (reads_u8 Tryz.underlying5) (readsF_cons (sz := 1) rfl (by kernel_rfl) (reads_u8 Tryz.underlying5) (readsF_cons (sz := 1) rfl (by kernel_rfl) (reads_u32 Tryz.underlying47) (readsF_cons (sz := 1) rfl (by kernel_rfl) (reads_u64 Tryz.underlying48) (readsF_cons (sz := 16) rfl (by kernel_rfl) (reads_arrH Tryz.underlying34 Tryz.underlying5 (by kernel_rfl) (by kernel_rfl)) readsF_nil)))))).imp
    fun W ⟨k, f, d, n, m, _⟩ ⟨_, _, h3, h4, h5, _⟩ => ⟨⟨k, f, d, n, m⟩, by simp [Cm.cells, u8], h3, h4, h5⟩) (by omega)
theorem reads_cms (B : Option Nat) (N : Nat) : Reads Tryz.prog B N 22 (fun s : Sl Cm => [s.val]) (SlIn B 20 32 Cm.cells (fun _ c => c.ok)) :=
  Reads.mono (reads_slice (N := N) 20 32 Tryz.underlying22 (by kernel_rfl) (by kernel_rfl) (by omega) (reads_cm B N)) (by omega)
end Go.Proofs.YtlbnibmcflmohaaGreat
namespace Go.Proofs.YtlbnibmcflmohaaGreat
open Go.RowKit
attribute [local go_sem ↓] ldq_b32
theorem u8_szP : (Tryz.prog.info? 5).map (·.size) = some 1 := by kernel_rfl
set_option maxRecDepth 100000 in
set_option maxHeartbeats 4000000 in
theorem peel_yes (A B : Option Addr) (c d : Nat) (ks us : List UInt8) (w : World) (hk : Rd w A 32 (u8s ks)) (hu : Rd w B 32 (u8s us)) (hE : mE ks us = 0) :
    Calls Tryz.prog 9 #[.slice A 32 c, .slice B 32 d] w fun e w' => e = .returned (.tuple #[.agg (stp us (mB ks us)).cells.toArray, .int .i64 0]) ∧ Below w.heap.size w w' := by
  have HM : Hid (∀ W, Rd W A 32 (u8s ks) → Rd W B 32 (u8s us) → Calls Tryz.prog 24 #[.slice A 32 c, .slice B 32 d] W fun e w' => e = .returned (.tuple #[.agg (u8s (mB ks us)).toArray, .int .i64 0]) ∧ Below W.heap.size W w') := fun W h1 h2 => by
    have h5 := mult_yes A B c d ks us W h1 h2
    rw [hE] at h5
    exact h5
  have hul := hu.len
  have HS : Hid (∀ W, Calls Tryz.prog 16 #[.agg (u8s us).toArray, .agg (u8s (mB ks us)).toArray] W fun e w' => e = .returned (.tuple #[.agg (stp us (mB ks us)).cells.toArray, .int .i64 0]) ∧ Below W.heap.size W w') := fun W => stepof_any us (mB ks us) hul (mB_len _ _) W
  have HCL : Hid ((stp us (mB ks us)).cells.length = 192) := Sp.cells_len (stp_ok hul (mB_len _ _))
  have HC1 := Lib.hid (Sp.cells_one (stp us (mB ks us)))
  have HML : Hid ((u8s (mB ks us)).length = 32) := by show _ = _; rw [u8s_length, mB_len]
  have HM1 : Hid (∀ v ∈ u8s (mB ks us), v.oneCell' = true) := u8s_one _
  have HUL : Hid ((u8s us).length = 32) := by show _ = _; rw [u8s_length, hul]
  have HU1 : Hid (∀ v ∈ u8s us, v.oneCell' = true) := u8s_one _
  have HK := Lib.hid hk
  have HU := Lib.hid hu
  generalize (stp us (mB ks us)).cells = C at *
  generalize u8s (mB ks us) = MB at *
  generalize u8s ks = KS at *
  generalize u8s us = US at *
  have HB0 : Hid (Blk (w.alloc (.cells Tryz.zeroCells43 43)) w.heap.size 43 (u8s (List.replicate 192 0))) := Blk.new' rfl zcSp
  have HE0 : Hid (Below w.heap.size w (w.alloc (.cells Tryz.zeroCells43 43))) := (Below.refl _ w).alloc (Nat.le_refl _) _
  have HZL : Hid ((u8s (List.replicate 192 0)).length = 192) := by show _ = _; rw [u8s_length, List.length_replicate]
  generalize u8s (List.replicate 192 0) = Z at *
  clear hk hu hE hul
  go_enter Tryz.func9, Tryz.ntmps9
  go_upto_region 5 with (first
    | (go_at_call 24; (with_reducible refine (HM.out _ (by exact HK.out.below HE0.out) (by exact HU.out.below HE0.out)).mono ?_); rintro e w1 ⟨rfl, hB1⟩
       have HE1 := qtr HE0 hB1; have HB1 := qbl HB0 hB1; clear hB1)
    | (refine wpList_store_all rfl 26 (.tmp 6) (.tmp 13) rfl w1.heap.size MB (by rfl) (by rfl) 26 o32 (by exact Blk.new' rfl rfl) (by rw [HML.out]; exact hd24) HM1.out (by rw [HML.out]; rfl) ?_
       intro w2 hb2 ho2
       have HE2 := Lib.hid (ho2.below (HE1.out.alloc HE1.out.size _) HE1.out.size (Nat.le_trans HE1.out.size (by simp)))
       have HB2 := qal ho2 HB1 (by have := HB1.out.lt; omega)
       have HM2 := Lib.hid hb2
       clear hb2 ho2))
  go_wp2_with (refine wpList_copy rfl (.tmp 19) (.tmp 20) 23 rfl 5 Tryz.underlying23 u8_szP w2.heap.size 0 32 32 (by rfl) B 32 d (by rfl) 26 o32 ?c1 US ?c2 HU1.out ?c3 ?_)
  case c1 => exact Blk.new' rfl rfl
  case c2 => exact (HU.out.below HE2.out).alloc _
  case c3 => exact Nat.le_refl _
  intro w3 hb3 ho3
  rw [show splice o32 0 (US.take 32) = US by rw [List.take_of_length_le (by rw [HUL.out]; exact Nat.le_refl _)]; exact splice_whole _ _ (by rw [HUL.out]; rfl)] at hb3
  have HE3 := Lib.hid (ho3.below (HE2.out.alloc HE2.out.size _) HE2.out.size (Nat.le_trans HE2.out.size (by simp)))
  have HB3 := qal ho3 HB2 (by have := HB2.out.lt; omega)
  have l6 := b32_ld (ho3.blk (HM2.out.alloc _) (by have := HM2.out.lt; omega)) HML.out
  have l8 := b32_ld hb3 HUL.out
  clear hb3 ho3
  go_wp2_with (first
    | (go_at_call 16; (with_reducible refine (HS.out _).mono ?_); rintro e w4 ⟨rfl, hB4⟩
       have HE4 := qtr HE3 hB4; have HB4 := qbl HB3 hB4; clear hB4)
    | (refine wpList_store_all rfl 43 (.tmp 4) (.tmp 25) rfl w.heap.size C (by rfl) (by rfl) 43 Z (by exact HB4.out) (by rw [HCL.out]; exact hd69) HC1.out (by rw [HCL.out, HZL.out]) ?_
       intro w5 hb5 ho5))
  exact bodyPost_ret (res_cell_tmp rfl _ _ _ _ rfl hb5 _ Tryz.underlying43 rfl (by rw [HCL.out]; exact hd69)) rfl ⟨rfl, ho5.below HE4.out (Nat.le_refl _) HE4.out.size⟩
theorem o32_len : o32.length = 32 := by rw [o32, u8s_length, List.length_replicate]
theorem o32_one : ∀ v ∈ o32, v.oneCell' = true := u8s_one _
theorem bld_o32 (w : World) : (Instr.build 26 #[]).run Tryz.prog w = .ok (.agg o32.toArray) w := by kernel_rfl
set_option maxRecDepth 100000 in
set_option maxHeartbeats 1000000 in
theorem rclamp_no (A : Option Addr) (n c : Nat) (w : World) (hn : n ≠ 32) :
    Calls Tryz.prog 28 #[.slice A n c] w fun e w' => e = .returned (.tuple #[.agg o32.toArray, .int .i64 2]) ∧ Below w.heap.size w w' := by
  have hne : ((n : Int) != 32) = true := by rw [bne_iff_ne]; omega
  have HB0 : Hid (Blk ((w.alloc (.cells o32.toArray 26)).alloc (.cells o32.toArray 26)) w.heap.size 26 o32) := (Blk.new w _ _).alloc _
  have hl1 : ∀ o, (ldAt 26 (.pointer (some ⟨w.heap.size + 1, 0, none⟩))).run Tryz.prog ((w.alloc o).alloc (.cells #[.int .u8 0, .int .u8 0, .int .u8 0, .int .u8 0, .int .u8 0, .int .u8 0, .int .u8 0, .int .u8 0, .int .u8 0, .int .u8 0, .int .u8 0, .int .u8 0, .int .u8 0, .int .u8 0, .int .u8 0, .int .u8 0, .int .u8 0, .int .u8 0, .int .u8 0, .int .u8 0, .int .u8 0, .int .u8 0, .int .u8 0, .int .u8 0, .int .u8 0, .int .u8 0, .int .u8 0, .int .u8 0, .int .u8 0, .int .u8 0, .int .u8 0, .int .u8 0] 26)) = .ok (.agg o32.toArray) ((w.alloc o).alloc (.cells #[.int .u8 0, .int .u8 0, .int .u8 0, .int .u8 0, .int .u8 0, .int .u8 0, .int .u8 0, .int .u8 0, .int .u8 0, .int .u8 0, .int .u8 0, .int .u8 0, .int .u8 0, .int .u8 0, .int .u8 0, .int .u8 0, .int .u8 0, .int .u8 0, .int .u8 0, .int .u8 0, .int .u8 0, .int .u8 0, .int .u8 0, .int .u8 0, .int .u8 0, .int .u8 0, .int .u8 0, .int .u8 0, .int .u8 0, .int .u8 0, .int .u8 0, .int .u8 0] 26)) := fun o => b32_ld (Blk.new' (by simp) rfl) o32_len
  have HE0 : Hid (Below w.heap.size w ((w.alloc (.cells o32.toArray 26)).alloc (.cells o32.toArray 26))) := ((Below.refl _ w).alloc (Nat.le_refl _) _).alloc (by simp) _
  clear hn
  go_enter Tryz.func28, Tryz.ntmps28
  go_wp2_with (refine wpList_store_all rfl 26 (.tmp 2) (.tmp 8) rfl w.heap.size o32 (by rfl) (by rfl) 26 o32 (by exact HB0.out) (by exact hd24) o32_one (by rfl) ?_; intro w2 hb2 ho2)
  exact bodyPost_ret (res_cell_tmp rfl _ _ _ _ rfl hb2 _ Tryz.underlying26 rfl (by exact hd24)) rfl ⟨rfl, ho2.below HE0.out (Nat.le_refl _) HE0.out.size⟩
set_option maxRecDepth 100000 in
set_option maxHeartbeats 1000000 in
theorem rmult_no (A B : Option Addr) (n c m d : Nat) (w : World) (hn : n ≠ 32) :
    Calls Tryz.prog 13 #[.slice A n c, .slice B m d] w fun e w' => e = .returned (.tuple #[.agg o32.toArray, .int .i64 2]) ∧ Below w.heap.size w w' := by
  have HC := Lib.hid (fun W => rclamp_no A n c W hn)
  have HB0 : Hid (Blk (w.alloc (.cells o32.toArray 26)) w.heap.size 26 o32) := Blk.new w _ _
  have HE0 : Hid (Below w.heap.size w (w.alloc (.cells o32.toArray 26))) := (Below.refl _ w).alloc (Nat.le_refl _) _
  have HBZ := Lib.hid bld_o32
  clear hn
  go_enter Tryz.func13, Tryz.ntmps13
  go_wp2_with (first
    | (go_at_call 28; (with_reducible refine (HC.out _).mono ?_); rintro e w1 ⟨rfl, hB1⟩; have HE1 := qtr HE0 hB1; have HB1 := qbl HB0 hB1; clear hB1)
    | (refine wpList_store_all rfl 26 (.tmp 6) (.tmp 28) rfl w1.heap.size o32 (by rfl) (by rfl) 26 o32 (by exact Blk.new' rfl rfl) (by exact hd24) o32_one (by rfl) ?_
       intro w2 hb2 ho2
       have HE2 := Lib.hid (ho2.below (HE1.out.alloc HE1.out.size _) HE1.out.size (Nat.le_trans HE1.out.size (by simp)))
       have HB2 := qal ho2 HB1 (by have := HB1.out.lt; omega)
       clear hb2 ho2)
    | refine wpList_build rfl 26 [] rfl [] (by rfl) _ (HBZ.out _) ?_
    | (refine wpList_store_all rfl 26 (.tmp 4) (.tmp 32) rfl w.heap.size o32 (by rfl) (by rfl) 26 o32 (by exact HB2.out) (by exact hd24) o32_one (by rfl) ?_; intro w3 hb3 ho3))
  exact bodyPost_ret (res_cell_tmp rfl _ _ _ _ rfl hb3 _ Tryz.underlying26 rfl (by exact hd24)) rfl ⟨rfl, ho3.below HE2.out (Nat.le_refl _) HE2.out.size⟩
set_option maxRecDepth 100000 in
set_option maxHeartbeats 1000000 in
theorem rpublic_no (A : Option Addr) (n c : Nat) (w : World) (hn : n ≠ 32) :
    Calls Tryz.prog 5 #[.slice A n c] w fun e w' => e = .returned (.tuple #[.agg o32.toArray, .int .i64 2]) ∧ Below w.heap.size w w' := by
  have HM : Hid (∀ W B d, Calls Tryz.prog 13 #[.slice A n c, .slice B 32 d] W fun e w' => e = .returned (.tuple #[.agg o32.toArray, .int .i64 2]) ∧ Below W.heap.size W w') := fun W B d => rmult_no A B n c 32 d W hn
  have HY : Hid (∀ W, Calls Tryz.prog 12 #[.agg (n8 9).toArray] W fun e w' => e = .returned (.agg (u8s nine).toArray) ∧ Below W.heap.size W w') := fun W => rbytes_n 9 W (by omega)
  have HNL : Hid ((u8s nine).length = 32) := by show _ = _; rw [u8s_length, good_nine.len]
  have HN1 : Hid (∀ v ∈ u8s nine, v.oneCell' = true) := u8s_one _
  have HB0 : Hid (Blk (w.alloc (.cells o32.toArray 26)) w.heap.size 26 o32) := Blk.new _ _ _
  have HE0 : Hid (Below w.heap.size w (w.alloc (.cells o32.toArray 26))) := (Below.refl _ w).alloc (Nat.le_refl _) _
  generalize u8s nine = NI at *
  have HBD := Lib.hid bldN9
  generalize n8 9 = E9 at *
  clear hn
  go_enter Tryz.func5, Tryz.ntmps5
  go_wp2_with (first
    | (refine wpList_build rfl 56 [(0, .const (.int .u32 9))] rfl _ (by rfl) (.agg E9.toArray) (HBD.out _) ?_)
    | (go_at_call 12; (with_reducible refine (HY.out _).mono ?_); rintro e w2 ⟨rfl, hB2⟩; have HE2 := qtr HE0 hB2; have HB2 := qbl HB0 hB2; clear hB2)
    | (refine wpList_store_all rfl 26 (.tmp 4) (.tmp 6) rfl w2.heap.size NI (by rfl) (by rfl) 26 o32 (by exact Blk.new' rfl rfl) (by rw [HNL.out]; exact hd24) HN1.out (by rw [HNL.out]; rfl) ?_
       intro w3 hb3 ho3
       have HE3 := Lib.hid (ho3.below (HE2.out.alloc HE2.out.size _) HE2.out.size (Nat.le_trans HE2.out.size (by simp)))
       have HB3 := qal ho3 HB2 (by have := HB2.out.lt; omega)
       clear hb3 ho3)
    | (go_at_call 13; (with_reducible refine (HM.out _ _ _).mono ?_); rintro e w4 ⟨rfl, hB4⟩; have HE4 := qtr HE3 hB4; have HB4 := qbl HB3 hB4; clear hB4)
    | (refine wpList_store_all rfl 26 (.tmp 2) (.tmp 10) rfl w.heap.size o32 (by rfl) (by rfl) 26 o32 (by exact HB4.out) (by exact hd24) o32_one (by rfl) ?_
       intro w5 hb5 ho5))
  exact bodyPost_ret (res_cell_tmp rfl _ _ _ _ rfl hb5 _ Tryz.underlying26 rfl (by exact hd24)) rfl ⟨rfl, ho5.below HE4.out (Nat.le_refl _) HE4.out.size⟩
end Go.Proofs.YtlbnibmcflmohaaGreat
namespace Go.Proofs.YtlbnibmcflmohaaGreat
open Go.RowKit
attribute [local go_sem ↓] ldq_34
set_option maxRecDepth 100000 in
set_option maxHeartbeats 2000000 in
theorem build_err (A B : Option Addr) (n c m d : Nat) (cs : List Cm) (w : World) (h1 : RdS 20 w A n (cs.flatMap Cm.cells)) (hcs : ∀ c ∈ cs, c.ok) (hcl : cs.length = n) (hn : n ≤ 140737488355328) (hm : m ≤ 140737488355328) (he : berr cs m ≠ 0) :
    Calls Tryz.prog 8 #[.slice A n c, .slice B m d] w fun e w' => e = .returned (.tuple #[.agg (u8s z288).toArray, .int .i64 ((berr cs m : Nat) : Int)]) ∧ Below w.heap.size w w' := by
  have HBE : Hid (∀ W, Below w.heap.size w W → Calls Tryz.prog 18 #[.slice A n c, .int .i64 (m : Int)] W fun e w' => e = .returned (.int .i64 ((berr cs m : Nat) : Int)) ∧ Below W.heap.size W w') := fun W hB => berr_any A n c m cs W (h1.bel hB (Nat.le_refl _)) hcs hcl hn hm
  obtain ⟨E, hE⟩ : ∃ E, E = berr cs m := ⟨_, rfl⟩
  rw [← hE] at HBE he ⊢
  have hne : ((E : Int) != 0) = true := by rw [bne_iff_ne]; omega
  have HE0 : Hid (Below w.heap.size w (w.alloc (.cells Tryz.zeroCells37 37))) := (Below.refl _ w).alloc (Nat.le_refl _) _
  have HG0 : Hid (Blk (w.alloc (.cells Tryz.zeroCells37 37)) w.heap.size 37 (u8s z288)) := Blk.new' rfl zc34'
  have HZ1 : Hid (∀ v ∈ u8s z288, v.oneCell' = true) := u8s_one _
  have HZL := Lib.hid z288_len
  have HBZ := Lib.hid build34_z
  generalize u8s z288 = Z at *
  clear h1 hcs hcl hn hm he hE
  go_enter Tryz.func8, Tryz.ntmps8
  go_wp2_with (first
    | (go_at_call 18; (with_reducible refine (HBE.out _ (by exact HE0.out)).mono ?_); rintro e w1 ⟨rfl, hB1⟩; have HE1 := Lib.hid (HE0.out.trans (hB1.mono (by simp))); have HG1 := qbl HG0 hB1; clear hB1)
    | refine wpList_build rfl 37 [] rfl [] (by rfl) _ (HBZ.out _) ?_
    | (refine wpList_store_all rfl 37 (.tmp 4) (.tmp 21) rfl w.heap.size Z (by rfl) (by rfl) 37 Z HG1.out (by rw [HZL.out]; exact hd34) HZ1.out (by rfl) ?_; intro w2 hb2 ho2))
  exact bodyPost_ret (res_cell_tmp rfl _ _ _ _ rfl hb2 _ Tryz.underlying37 rfl (by rw [HZL.out]; exact hd34)) rfl ⟨rfl, ho2.below HE1.out (Nat.le_refl _) HE1.out.size⟩
def hB (cs : List Cm) (ss : List Sp) : List UInt8 := if berr cs ss.length = 0 then hst cs ss ss.length ss.length else z288
theorem hB_len {cs : List Cm} {ss : List Sp} (hc : ∀ c ∈ cs, c.ok) (hs : ∀ s ∈ ss, s.ok) : (hB cs ss).length = 288 := by
  unfold hB
  split
  · rename_i h
    obtain ⟨_, h5, hl, _⟩ := berr_zero h
    exact hst_len hc hs hl.symm rfl h5 _ (Nat.le_refl _)
  · exact List.length_replicate
theorem build_any (A B : Option Addr) (n c m d : Nat) (cs : List Cm) (ss : List Sp) (w : World) (h1 : RdS 20 w A n (cs.flatMap Cm.cells)) (h2 : RdS 192 w B m (ss.flatMap Sp.cells)) (hcs : ∀ c ∈ cs, c.ok) (hss : ∀ s ∈ ss, s.ok)
    (hcl : cs.length = n) (hsl : ss.length = m) (hn : n ≤ 140737488355328) (hm : m ≤ 140737488355328) (hd : m ≤ d) :
    Calls Tryz.prog 8 #[.slice A n c, .slice B m d] w fun e w' => e = .returned (.tuple #[.agg (u8s (hB cs ss)).toArray, .int .i64 ((berr cs m : Nat) : Int)]) ∧ Below w.heap.size w w' := by
  by_cases he : berr cs m = 0
  · obtain ⟨h1', _, hl, _⟩ := berr_zero he
    obtain ⟨k, hk⟩ : ∃ k, m = k + 1 := ⟨m - 1, by omega⟩
    subst hk
    obtain rfl : n = k + 1 := by omega
    have h5 := build_ok A B k c d cs ss w h1 h2 hcs hss hcl hsl hd he
    rw [hB, hsl, if_pos he, he]
    exact h5
  · have h5 := build_err A B n c m d cs w h1 hcs hcl hn hm he
    rw [hB, hsl, if_neg he]
    exact h5
end Go.Proofs.YtlbnibmcflmohaaGreat
