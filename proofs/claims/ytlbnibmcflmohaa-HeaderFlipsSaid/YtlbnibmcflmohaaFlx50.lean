/- Part of the proof: SqE, Tgz, RdH, Flr. -/
import Derived.Test.YtlbnibmcflmohaaFlx26
import Derived.Test.YtlbnibmcflmohaaFlx47
import Derived.Test.YtlbnibmcflmohaaFlx49
namespace Go.Proofs.Ytlbnibmcflmohaa
open Go.RowKit
section
variable {P : Program}
theorem eqFields_same (d : Nat) (xs : Array Value) (w : World) : ∀ fs : List Field, (∀ f ∈ fs, ∃ v, (part f.type xs f.offset).run P w = .ok v w ∧ (Op.equalIn d f.type v v).run P w = .ok true w) → (Op.eqFields d xs xs fs).run P w = .ok true w
  | [], _ => by simp [Op.eqFields]
  | f :: fs, h => by
    obtain ⟨v, h1, h2⟩ := h f (by simp)
    have ih := eqFields_same d xs w fs (fun g hg => h g (by simp [hg]))
    unfold Op.eqFields
    split
    · simp only [Sem.run_bind, h1, h2, Result.andThen_ok, Bool.not_true, Bool.false_eq_true, if_false, ih]
    · exact ih
end
theorem eqIn16 (d : Nat) (x : List UInt8) (hx : x.length = 16) (w : World) : (Op.equalIn (d + 2) 26 (.agg (u8s x).toArray) (.agg (u8s x).toArray)).run Try.prog w = .ok true w := by
  obtain ⟨i, hi⟩ : ∃ i, Try.prog.info? 5 = some i := Option.isSome_iff_exists.1 (by kernel_rfl)
  have hc : Try.prog.cellsOf 5 = 1 := by kernel_rfl
  rw [run_equalIn_array w (d + 1) _ _ Try.underlying26 hi, hc, List.range_eq_range', ← hx, eqItems_bytes d 5 (by kernel_rfl) Try.underlying5 x x rfl w x.length 0 (by omega)]
  simp
theorem ag16e (w : World) : (isAgg 26).run Try.prog w = .ok true w := by kernel_rfl
theorem sz16e (w : World) : (sizeOf 26).run Try.prog w = .ok 16 w := by kernel_rfl
theorem part_cm16 (c : Cm) (h : c.ok) (w : World) : (part 26 c.cells.toArray 4).run Try.prog w = .ok (.agg (u8s c.m).toArray) w := by
  unfold part
  simp only [Sem.run_bind, ag16e, sz16e, Result.andThen_ok, if_true, Sem.run_pure]
  congr 2
  rw [List.extract_toArray, List.extract_eq_take_drop, Nat.add_sub_cancel_left, Cm.cells_mark, List.take_of_length_le (by rw [u8s_length, h.2.2]; exact Nat.le_refl _)]
set_option maxRecDepth 100000 in
theorem eqInCm (d : Nat) (c : Cm) (h : c.ok) (w : World) : (Op.equalIn (d + 3) 50 (.agg c.cells.toArray) (.agg c.cells.toArray)).run Try.prog w = .ok true w := by
  have hf : Try.prog.underlying 50 = some (.struct (Try.prog.fieldsOf 50)) := by kernel_rfl
  rw [run_equalIn_struct w (d + 2) _ _ _ hf (by kernel_rfl)]
  refine eqFields_same (d + 2) _ w _ fun f hf => ?_
  unfold Program.fieldsOf at hf
  rw [Try.underlying50] at hf
  simp only [List.mem_cons, List.not_mem_nil, or_false] at hf
  rcases hf with rfl | rfl | rfl | rfl | rfl
  · exact ⟨.int .u8 c.k.toNat, run_part_plain w (by kernel_rfl) rfl, by rw [run_equalIn_int w (d + 1) _ .u8 .u8 _ _ Try.underlying5]; simp⟩
  · exact ⟨.int .u8 c.f.toNat, run_part_plain w (by kernel_rfl) rfl, by rw [run_equalIn_int w (d + 1) _ .u8 .u8 _ _ Try.underlying5]; simp⟩
  · exact ⟨.int .u32 (c.d : Int), run_part_plain w (by kernel_rfl) rfl, by rw [run_equalIn_int w (d + 1) _ .u32 .u32 _ _ Try.underlying47]; simp⟩
  · exact ⟨.int .u64 (c.n : Int), run_part_plain w (by kernel_rfl) rfl, by rw [run_equalIn_int w (d + 1) _ .u64 .u64 _ _ Try.underlying48]; simp⟩
  · exact ⟨_, part_cm16 c h w, eqIn16 d _ h.2.2 w⟩
set_option maxRecDepth 100000 in
theorem neCm (c : Cm) (h : c.ok) (w : World) : (neAt 50 (.agg c.cells.toArray) (.agg c.cells.toArray)).run Try.prog w = .ok (.bool false) w := by
  unfold neAt
  rw [run_neq_struct]
  have h5 := eqInCm 9997 c h w
  show (((Op.equalIn (9997 + 3) 50 (.agg c.cells.toArray) (.agg c.cells.toArray)).run Try.prog w).andThen _) = _
  rw [h5]
  rfl
theorem neq_cm (x y : Value) : binOp .neq 50 x y = neAt 50 x y := rfl
end Go.Proofs.Ytlbnibmcflmohaa
namespace Go.Proofs.Ytlbnibmcflmohaa
open Go.RowKit
set_option maxRecDepth 100000 in
set_option maxHeartbeats 1000000 in
theorem rshort_any (A : Option Addr) (n c : Nat) (k : List UInt8) (A2 : Option Addr) (n2 c2 : Nat) (l : List UInt8) (w : World) (h : Rd w A n (u8s k)) (hn : n ≤ 100000000) (h2 : Rd w A2 n2 (u8s l)) (hn2 : n2 ≤ 10000000) :
    Calls Try.prog 21 #[.slice A n c, .slice A2 n2 c2] w fun e w' => ∃ A' c', e = .returned (.slice A' 16 c') ∧ 16 ≤ c' ∧ w'.ownsRow w.heap.size 5 1 (.slice A' 16 c') 16 (u8s ((Mc.tag k l).take 16)) ∧ Below w.heap.size w w' := by
  have HT := Lib.hid (rtag_any A n c k A2 n2 c2 l w h hn h2 hn2)
  have htl := Mc.tag_len k l
  generalize Mc.tag k l = T at *
  have HTL : Hid ((u8s T).length = 32) := by show _ = _; rw [u8s_length, htl]
  have HR : Hid (∀ W g, Blk W g 25 (u8s T) → Rd W (some ⟨g, 0, none⟩) 16 (u8s (T.take 16))) := fun W g hb => by
    have h6 := hb.rd 0 16 (by rw [u8s_length, htl]; omega)
    rwa [List.drop_zero, u8s_take] at h6
  clear h h2 htl
  go_enter Try.func21, Try.ntmps21
  go_wp2_with (first
    | (go_at_call 35; (with_reducible refine HT.out.mono ?_); rintro e w1 ⟨rfl, hB1⟩; have HE1 := Lib.hid hB1; clear hB1)
    | (refine wpList_store_all rfl 25 (.tmp 5) (.tmp 8) rfl w1.heap.size (u8s T) (by rfl) (by rfl) 25 (u8s (List.replicate 32 0)) (by exact Blk.new' rfl rfl) (by rw [HTL.out]; exact hd24) (u8s_one _) (by rw [HTL.out]; rfl) ?_
       intro w2 hb2 ho2
       have hs1 := HE1.out.size
       have HE2 := Lib.hid (ho2.below (HE1.out.alloc hs1 _) hs1 (Nat.le_trans hs1 (by simp)))
       have HR2 := Lib.hid (HR.out _ _ hb2)
       clear hb2 ho2)
    | (go_at_call 22; (with_reducible refine (copy_any _ _ _ _ _ (by exact HR2.out) (by omega)).mono ?_); rintro e w3 ⟨A3, c3, rfl, hc3, hown3, hB3⟩
       have HO3 := Lib.hid (own_mono hown3 HE2.out.size)
       have HE3 := qtr HE2 hB3
       clear hown3 hB3))
  go_ret
  exact ⟨A3, c3, rfl, hc3, HO3.out, HE3.out⟩
set_option maxRecDepth 100000 in
set_option maxHeartbeats 2000000 in
theorem rtag13_any (key : List UInt8) (hk : key.length = 32) (A : Option Addr) (n c : Nat) (a : List UInt8) (B : Option Addr) (m d : Nat) (b : List UInt8) (w : World) (h : Rd w A n (u8s a)) (h2 : Rd w B m (u8s b)) (hn : n ≤ 1000000) (hm : m ≤ 1000000) :
    Calls Try.prog 11 #[.agg (u8s key).toArray, .slice A n c, .slice B m d] w fun e w' => ∃ A' c', e = .returned (.slice A' 16 c') ∧ 16 ≤ c' ∧ w'.ownsRow w.heap.size 5 1 (.slice A' 16 c') 16 (u8s ((Mc.tag key (a ++ b)).take 16)) ∧ Below w.heap.size w w' := by
  have HA := Lib.hid h
  have HB := Lib.hid h2
  have HSH : Hid (∀ W A3 c3, Blk W w.heap.size 25 (u8s key) → Rd W A3 (n + m) (u8s (a ++ b)) → Calls Try.prog 21 #[.slice (some ⟨w.heap.size, 0, none⟩) 32 32, .slice A3 (n + m) c3] W fun e w' => ∃ A' c', e = .returned (.slice A' 16 c') ∧ 16 ≤ c' ∧ w'.ownsRow W.heap.size 5 1 (.slice A' 16 c') 16 (u8s ((Mc.tag key (a ++ b)).take 16)) ∧ Below W.heap.size W w') := fun W A3 c3 hb hr => by
    refine rshort_any _ 32 32 key A3 (n + m) c3 (a ++ b) W ?_ (by omega) hr (by omega)
    have h6 := hb.rd 0 32 (by rw [u8s_length, hk]; omega)
    rwa [List.drop_zero, List.take_of_length_le (by rw [u8s_length, hk]; omega)] at h6
  have HE0 : Hid (Below w.heap.size w (w.alloc (.cells (u8s key).toArray 25)).drew) := ((Below.refl _ w).alloc (Nat.le_refl _) _).drew
  have HK0 : Hid (Blk (w.alloc (.cells (u8s key).toArray 25)).drew w.heap.size 25 (u8s key)) := (Blk.new w _ _).drew
  clear h h2 hk
  go_enter Try.func11, Try.ntmps11
  go_wp2_with fail
  go_region_held3 (fun _ => True) (trivial) ((first
    | (go_at_call 22; (refine (copy_any A n c a _ (by exact HA.out.below HE0.out) (by omega)).mono ?_); rintro e w1 ⟨A1, c1, rfl, hc1, hown1, hB1⟩; have HE1 := qtr HE0 hB1; have HK1 := qbl HK0 hB1; have HO1 := Lib.hid hown1; clear hown1 hB1)
    | (refine step_app rfl (.tmp 9) (.tmp 10) 43 rfl (w.alloc (.cells (u8s key).toArray 25)).drew.heap.size 5 1 1 Try.underlying43 eU8 (.slice A1 n c1) n (u8s a) (by rfl) HO1.out B m d (u8s b) (by rfl) (by exact (HB.out.below HE1.out).toS) (u8s_one _) (by omega) (by omega) (by have h9 := HK1.out.lt; simp; omega) ?_; intro A2 c2 w2 hown2 hc2 hg2 hat2; rw [← u8s_append] at hown2; have HE2 := Lib.hid (HE1.out.grown hg2 HE1.out.size (fun k hk => by have h9 := (HO1.out.lt k hk).1; simp at h9; omega)); have HK2 := Lib.hid (HK1.out.grown hg2 (fun e => by have h9 := (HO1.out.lt _ e.symm).1; simp at h9; omega)); have HR2 := Lib.hid (Rd.of_own hown2); clear hown2 hg2 hat2)
    | (go_at_call 21; (refine (HSH.out _ _ _ (by exact HK2.out) (by exact HR2.out)).mono ?_); rintro e w3 ⟨A3, c3, rfl, hc3, hown3, hB3⟩; have HO3 := Lib.hid (own_mono hown3 HE2.out.size); have HE3 := qtr HE2 hB3; clear hown3 hB3)))
  go_wp2_with fail
  go_ret
  exact ⟨A3, c3, rfl, hc3, HO3.out, HE3.out⟩
end Go.Proofs.Ytlbnibmcflmohaa
namespace Go.Proofs.Ytlbnibmcflmohaa
open Go.RowKit
def toU8h : Value → UInt8
  | .int .u8 k => UInt8.ofNat k.toNat
  | _ => 0
theorem reads_arrH {P : Program} {B : Option Nat} {N n : Nat} {t e : TypeId} (ht : P.underlying t = some (.array n e)) (hu : P.underlying e = some (.int .u8)) (hc : P.cellsOf e = 1) (hct : P.cellsOf t = n) : Reads P B N t (fun l : List UInt8 => u8s l) (fun _ l => l.length = n) :=
  ⟨fun {H enc W fuel cs x} hf hx hw hb => by
    obtain ⟨xs, m, rfl, rfl, hlen, hxl, hel⟩ := DataW.trod_array ht hx
    refine ⟨cs.map toU8h, ?_, by rw [List.length_map, hlen, hct]⟩
    have hall : ∀ v ∈ cs, u8 (toU8h v) = v := by
      intro v hv
      obtain ⟨i, hi, rfl⟩ := List.getElem_of_mem hv
      have h1 := hel i (by omega)
      rw [hc, Nat.mul_one, List.getElem?_eq_getElem (by omega)] at h1
      obtain ⟨k, e1, _, hk⟩ := DataW.trod_int hu h1
      rw [List.drop_eq_getElem_cons hi, List.take_succ_cons, List.take_zero] at e1
      injection e1 with e1 _
      rw [e1]
      exact congrArg (fun z => Value.int .u8 z) (u8_of_wf hk).symm
    rw [u8s, List.map_map]
    have h2 : cs.map (u8 ∘ toU8h) = cs.map id := List.map_congr_left (fun v hv => hall v hv)
    rw [h2, List.map_id]⟩
theorem reads_u32 {P : Program} {B : Option Nat} {N : Nat} {t : TypeId} (ht : P.underlying t = some (.int .u32)) : Reads P B N t (fun x : Nat => [.int .u32 (x : Int)]) (fun _ x => x < 4294967296) :=
  (reads_int ht).imp fun _ n hn => by
    have h2 : IntKind.u32.min ≤ n ∧ n ≤ IntKind.u32.max := by simpa [Lit.wf] using hn
    have h3 : (0 : Int) ≤ n ∧ n ≤ 4294967295 := h2
    exact ⟨n.toNat, by rw [Int.toNat_of_nonneg h3.1], by omega⟩
theorem reads_u64 {P : Program} {B : Option Nat} {N : Nat} {t : TypeId} (ht : P.underlying t = some (.int .u64)) : Reads P B N t (fun x : Nat => [.int .u64 (x : Int)]) (fun _ x => x < 18446744073709551616) :=
  (reads_int ht).imp fun _ n hn => by
    have h2 : IntKind.u64.min ≤ n ∧ n ≤ IntKind.u64.max := by simpa [Lit.wf] using hn
    have h3 : (0 : Int) ≤ n ∧ n ≤ 18446744073709551615 := h2
    exact ⟨n.toNat, by rw [Int.toNat_of_nonneg h3.1], by omega⟩
theorem reads_cm (B : Option Nat) (N : Nat) : Reads Try.prog B N 50 Cm.cells (fun _ c => c.ok) :=
  Reads.mono ((reads_struct (N := N) Try.underlying50 (by kernel_rfl)
    (readsF_cons (sz := 1) rfl (by kernel_rfl) (reads_u8 Try.underlying5) (readsF_cons (sz := 1) rfl (by kernel_rfl) (reads_u8 Try.underlying5) (readsF_cons (sz := 1) rfl (by kernel_rfl) (reads_u32 Try.underlying47) (readsF_cons (sz := 1) rfl (by kernel_rfl) (reads_u64 Try.underlying48) (readsF_cons (sz := 16) rfl (by kernel_rfl) (reads_arrH Try.underlying26 Try.underlying5 (by kernel_rfl) (by kernel_rfl)) readsF_nil)))))).imp
    fun W ⟨k, f, d, n, m, _⟩ ⟨_, _, h3, h4, h5, _⟩ => ⟨⟨k, f, d, n, m⟩, by simp [Cm.cells, u8], h3, h4, h5⟩) (by omega)
theorem reads_keys (B : Option Nat) (N : Nat) : Reads Try.prog B N 37 (fun x : List UInt8 × List UInt8 × List UInt8 × List UInt8 => u8s x.1 ++ (u8s x.2.1 ++ (u8s x.2.2.1 ++ u8s x.2.2.2))) (fun _ x => x.1.length = 32 ∧ x.2.1.length = 32 ∧ x.2.2.1.length = 32 ∧ x.2.2.2.length = 32) :=
  Reads.mono ((reads_struct (N := N) Try.underlying37 (by kernel_rfl)
    (readsF_cons (sz := 32) rfl (by kernel_rfl) (reads_arrH Try.underlying25 Try.underlying5 (by kernel_rfl) (by kernel_rfl)) (readsF_cons (sz := 32) rfl (by kernel_rfl) (reads_arrH Try.underlying25 Try.underlying5 (by kernel_rfl) (by kernel_rfl)) (readsF_cons (sz := 32) rfl (by kernel_rfl) (reads_arrH Try.underlying25 Try.underlying5 (by kernel_rfl) (by kernel_rfl)) (readsF_cons (sz := 32) rfl (by kernel_rfl) (reads_arrH Try.underlying25 Try.underlying5 (by kernel_rfl) (by kernel_rfl)) readsF_nil))))).imp
    fun W ⟨a, b, c, d, _⟩ ⟨h1, h2, h3, h4, _⟩ => ⟨(a, b, c, d), by simp, h1, h2, h3, h4⟩) (by omega)
theorem reads_sp (B : Option Nat) (N : Nat) : Reads Try.prog B N 42 Sp.cells (fun _ s => s.ok) :=
  Reads.mono ((reads_struct (N := N) Try.underlying42 (by kernel_rfl)
    (readsF_cons (sz := 128) rfl (by kernel_rfl) (reads_keys B N) (readsF_cons (sz := 32) rfl (by kernel_rfl) (reads_arrH Try.underlying25 Try.underlying5 (by kernel_rfl) (by kernel_rfl)) (readsF_cons (sz := 32) rfl (by kernel_rfl) (reads_arrH Try.underlying25 Try.underlying5 (by kernel_rfl) (by kernel_rfl)) readsF_nil)))).imp
    fun W ⟨⟨a, b, c, d⟩, e, f, _⟩ ⟨⟨h1, h2, h3, h4⟩, h5, h6, _⟩ => ⟨⟨a, b, c, d, e, f⟩, by simp [Sp.cells, Sp.bytes, u8s_append], h1, h2, h3, h4, h5, h6⟩) (by omega)
theorem reads_cms (B : Option Nat) (N : Nat) : Reads Try.prog B N 22 (fun s : Sl Cm => [s.val]) (SlIn B 20 32 Cm.cells (fun _ c => c.ok)) :=
  Reads.mono (reads_slice (N := N) 20 32 Try.underlying22 (by kernel_rfl) (by kernel_rfl) (by omega) (reads_cm B N)) (by omega)
theorem reads_sps (B : Option Nat) (N : Nat) : Reads Try.prog B N 23 (fun s : Sl Sp => [s.val]) (SlIn B 192 192 Sp.cells (fun _ s => s.ok)) :=
  Reads.mono (reads_slice (N := N) 192 192 Try.underlying23 (by kernel_rfl) (by kernel_rfl) (by omega) (reads_sp B N)) (by omega)
theorem reads_i64 (B : Option Nat) (N : Nat) : Reads Try.prog B N 3 (fun n : Int => [.int .i64 n]) (fun _ n => (Lit.int .i64 n).wf = true) := reads_int Try.underlying3
end Go.Proofs.Ytlbnibmcflmohaa
namespace Go.Proofs.Ytlbnibmcflmohaa.flr
open Go.RowKit
theorem proved : True := by
  have := @awake13; have := @steps_any; have := @law13step_any; have := @rtag13_any; have := @build_ok; have := @berr_any
  have := @hopen_any; have := @fits_any; have := @hparse_yes; have := @hbytes_any; have := @equal_any; have := @neCm; have := @neq_cm
  have := @reads_cms; have := @reads_sps; have := @reads_i64; have := @opN_len; have := @opC_ok; have := @fits_head
  have := @sr_ld; have := @hd_ld; have := @sp_ld; have := @cm_ld; have := @ldq_34; have := @ldq_72; have := @ldq_cm; have := @ldq_69
  have := @build34_z; have := @build_cm0; have := @z288_len; have := @hd34; have := @zc34'; have := @sp_range; have := @cm_range
  have := @AnyK.pure; have := @AnyK.load; have := @AnyK.enter; have := @AnyK.store; have := @AnyK.storeAll; have := @AnyK.val; have := @AnyK.done; have := @region_K; have := @ey_loadR
  have := @AnyG.start; have := @AnyG.step; have := @AnyG.fin; have := @two_of; have := @two_all; have := @one_of; have := @one_all; have := @AnyK.one
  have := @wpList_app; have := @eCm; have := @eSp; have := @own_only; have := @own_below; have := @own_mono; have := @Rd.of_own; have := @Blk.wrote; have := @Wrote.below; have := @wp_enter
  have := @hst_len; have := @hst_next; have := @berr_zero; have := @rd_of_range; have := @RdS.bel; have := @Sp.rd; have := @Sp.at_mac
  trivial
end Go.Proofs.Ytlbnibmcflmohaa.flr
