/- Part of the proof: Lxg, Mlt. -/
import Derived.Test.YtlbnibmcflmohaaGreatPlx33
namespace Go.Proofs.YtlbnibmcflmohaaGreat
open Go.RowKit
attribute [local go_sem ↓] ldq_el
set_option maxRecDepth 100000 in
set_option maxHeartbeats 4000000 in
theorem lex_any (gl : Nat) (t : TypeId) (x1 x2 z2 x3 z3 : Nat) (w : World) (h : Blk w gl t (lcs x1 ⟨x2, z2, x3, z3⟩)) :
    Calls Tryz.prog 48 #[.pointer (some ⟨gl, 0, none⟩)] w fun e w' => e = .returned (.tuple #[]) ∧ Blk w' gl t (lcs x1 ⟨x3, z3, x2, z2⟩) ∧ Wrote gl w w' := by
  have HL := Lib.hid h
  have HWR := Lib.hid (Wrote.refl w gl)
  clear h
  go_enter Tryz.func48, Tryz.ntmps48
  go_wp2
  refine region_K (by kernel_rfl) 22 (fun w' => Blk w' gl t (lcs x1 ⟨x2, z2, x3, z3⟩)) ?_
  obtain ⟨V, hV⟩ : ∃ V, V = { w with drawn := w.drawn + 1 } := ⟨_, rfl⟩
  rw [← hV]
  have hT : Blk V gl t (lcs x1 ⟨x2, z2, x3, z3⟩) := hV ▸ HL.out.drew
  have hR : Wrote gl w V := hV ▸ HWR.out.drew
  clear hV
  refine AnyK.pure 0 (v := .pointer (some ⟨gl, 0, none⟩)) rfl (by kernel_rfl) (fun _ _ _ h => h) rfl (fun _ => by kernel_rfl) (fun _ => hT) ?_
  refine AnyK.pure 1 (v := .pointer (some ⟨gl, 0, none⟩)) rfl (by kernel_rfl) (fun _ _ _ h => h) rfl (fun _ => by kernel_rfl) (fun _ => hT) ?_
  refine AnyK.pure 2 (v := .pointer (some ⟨gl, 0, none⟩)) rfl (by kernel_rfl) (fun _ _ _ h => h) rfl (fun _ => by kernel_rfl) (fun _ => hT) ?_
  refine AnyK.pure 3 (v := .pointer (some ⟨gl, 0, none⟩)) rfl (by kernel_rfl) (fun _ _ _ h => h) rfl (fun _ => by kernel_rfl) (fun _ => hT) ?_
  refine AnyK.pure 4 (v := .pointer (some ⟨gl, 0, none⟩)) rfl (by kernel_rfl) (fun _ _ _ h => h) rfl (fun _ => by kernel_rfl) (fun _ => hT) ?_
  refine AnyK.pure 5 (v := .pointer (some ⟨gl, 0, none⟩)) rfl (by kernel_rfl) (fun _ _ _ h => h) rfl (fun _ => by kernel_rfl) (fun _ => hT) ?_
  refine AnyK.pure 6 (v := .pointer (some ⟨gl, 12, none⟩)) rfl (by kernel_rfl) (fun _ _ _ h => h) rfl (fun _ => by kernel_rfl) (fun _ => hT) ?_
  refine AnyK.load 7 (v := .agg (elc x3).toArray) rfl (by kernel_rfl) (by kernel_rfl) (by kernel_rfl) (fun _ _ _ h => h) rfl (fun w' hw' => ey_loadR (x := .tmp 8) (by rfl) (by kernel_rfl) (el_mid hw' 12 x3 rfl)) hT ?_
  refine AnyK.pure 8 (v := .pointer (some ⟨gl, 0, none⟩)) rfl (by kernel_rfl) (fun _ _ _ h => h) rfl (fun _ => by kernel_rfl) (fun _ => hT) ?_
  refine AnyK.pure 9 (v := .pointer (some ⟨gl, 0, none⟩)) rfl (by kernel_rfl) (fun _ _ _ h => h) rfl (fun _ => by kernel_rfl) (fun _ => hT) ?_
  refine AnyK.pure 10 (v := .pointer (some ⟨gl, 16, none⟩)) rfl (by kernel_rfl) (fun _ _ _ h => h) rfl (fun _ => by kernel_rfl) (fun _ => hT) ?_
  refine AnyK.load 11 (v := .agg (elc z3).toArray) rfl (by kernel_rfl) (by kernel_rfl) (by kernel_rfl) (fun _ _ _ h => h) rfl (fun w' hw' => ey_loadR (x := .tmp 12) (by rfl) (by kernel_rfl) (el_mid hw' 16 z3 rfl)) hT ?_
  refine AnyK.pure 12 (v := .pointer (some ⟨gl, 0, none⟩)) rfl (by kernel_rfl) (fun _ _ _ h => h) rfl (fun _ => by kernel_rfl) (fun _ => hT) ?_
  refine AnyK.pure 13 (v := .pointer (some ⟨gl, 0, none⟩)) rfl (by kernel_rfl) (fun _ _ _ h => h) rfl (fun _ => by kernel_rfl) (fun _ => hT) ?_
  refine AnyK.pure 14 (v := .pointer (some ⟨gl, 4, none⟩)) rfl (by kernel_rfl) (fun _ _ _ h => h) rfl (fun _ => by kernel_rfl) (fun _ => hT) ?_
  refine AnyK.load 15 (v := .agg (elc x2).toArray) rfl (by kernel_rfl) (by kernel_rfl) (by kernel_rfl) (fun _ _ _ h => h) rfl (fun w' hw' => ey_loadR (x := .tmp 16) (by rfl) (by kernel_rfl) (el_mid hw' 4 x2 rfl)) hT ?_
  refine AnyK.pure 16 (v := .pointer (some ⟨gl, 0, none⟩)) rfl (by kernel_rfl) (fun _ _ _ h => h) rfl (fun _ => by kernel_rfl) (fun _ => hT) ?_
  refine AnyK.pure 17 (v := .pointer (some ⟨gl, 0, none⟩)) rfl (by kernel_rfl) (fun _ _ _ h => h) rfl (fun _ => by kernel_rfl) (fun _ => hT) ?_
  refine AnyK.pure 18 (v := .pointer (some ⟨gl, 8, none⟩)) rfl (by kernel_rfl) (fun _ _ _ h => h) rfl (fun _ => by kernel_rfl) (fun _ => hT) ?_
  refine AnyK.load 19 (v := .agg (elc z2).toArray) rfl (by kernel_rfl) (by kernel_rfl) (by kernel_rfl) (fun _ _ _ h => h) rfl (fun w' hw' => ey_loadR (x := .tmp 20) (by rfl) (by kernel_rfl) (el_mid hw' 8 z2 rfl)) hT ?_
  refine AnyK.pure 20 (v := .pointer (some ⟨gl, 0, none⟩)) rfl (by kernel_rfl) (fun _ _ _ h => h) rfl (fun _ => by kernel_rfl) (fun _ => hT) ?_
  refine AnyK.pure 21 (v := .pointer (some ⟨gl, 4, none⟩)) rfl (by kernel_rfl) (fun _ _ _ h => h) rfl (fun _ => by kernel_rfl) (fun _ => hT) ?_
  refine AnyK.storeAt 22 gl 4 (elc x3) t (lcs x1 ⟨x2, z2, x3, z3⟩) (lcs x1 ⟨x3, z2, x3, z3⟩) (by rfl) rfl rfl (by rfl) (by kernel_rfl) (by kernel_rfl) (by kernel_rfl) hT (by exact hdEl) (elc_one _) (by simp [lcs, elc, l4]) (by rfl) (fun _ _ _ h => (by cases h)) ?_
  intro V0 hb0 ho0
  have hR := hR.only ho0
  refine AnyK.pure 23 (v := .pointer (some ⟨gl, 0, none⟩)) rfl (by kernel_rfl) (fun _ _ _ h => h) rfl (fun _ => by kernel_rfl) (fun h => (by cases h)) ?_
  refine AnyK.pure 24 (v := .pointer (some ⟨gl, 8, none⟩)) rfl (by kernel_rfl) (fun _ _ _ h => h) rfl (fun _ => by kernel_rfl) (fun h => (by cases h)) ?_
  refine AnyK.storeAt 25 gl 8 (elc z3) t (lcs x1 ⟨x3, z2, x3, z3⟩) (lcs x1 ⟨x3, z3, x3, z3⟩) (by rfl) rfl rfl (by rfl) (by kernel_rfl) (by kernel_rfl) (by kernel_rfl) hb0 (by exact hdEl) (elc_one _) (by simp [lcs, elc, l4]) (by rfl) (fun _ _ _ h => (by cases h)) ?_
  intro V1 hb1 ho1
  have hR := hR.only ho1
  refine AnyK.pure 26 (v := .pointer (some ⟨gl, 0, none⟩)) rfl (by kernel_rfl) (fun _ _ _ h => h) rfl (fun _ => by kernel_rfl) (fun h => (by cases h)) ?_
  refine AnyK.pure 27 (v := .pointer (some ⟨gl, 12, none⟩)) rfl (by kernel_rfl) (fun _ _ _ h => h) rfl (fun _ => by kernel_rfl) (fun h => (by cases h)) ?_
  refine AnyK.storeAt 28 gl 12 (elc x2) t (lcs x1 ⟨x3, z3, x3, z3⟩) (lcs x1 ⟨x3, z3, x2, z3⟩) (by rfl) rfl rfl (by rfl) (by kernel_rfl) (by kernel_rfl) (by kernel_rfl) hb1 (by exact hdEl) (elc_one _) (by simp [lcs, elc, l4]) (by rfl) (fun _ _ _ h => (by cases h)) ?_
  intro V2 hb2 ho2
  have hR := hR.only ho2
  refine AnyK.pure 29 (v := .pointer (some ⟨gl, 0, none⟩)) rfl (by kernel_rfl) (fun _ _ _ h => h) rfl (fun _ => by kernel_rfl) (fun h => (by cases h)) ?_
  refine AnyK.pure 30 (v := .pointer (some ⟨gl, 16, none⟩)) rfl (by kernel_rfl) (fun _ _ _ h => h) rfl (fun _ => by kernel_rfl) (fun h => (by cases h)) ?_
  refine AnyK.storeAt 31 gl 16 (elc z2) t (lcs x1 ⟨x3, z3, x2, z3⟩) (lcs x1 ⟨x3, z3, x2, z2⟩) (by rfl) rfl rfl (by rfl) (by kernel_rfl) (by kernel_rfl) (by kernel_rfl) hb2 (by exact hdEl) (elc_one _) (by simp [lcs, elc, l4]) (by rfl) (fun _ _ _ h => (by cases h)) ?_
  intro V3 hb3 ho3
  have hR := hR.only ho3
  refine AnyK.done (by kernel_rfl) ?_
  go_wp2
  go_end0
  exact ⟨rfl, hb3, hR⟩
end Go.Proofs.YtlbnibmcflmohaaGreat
namespace Go.Proofs.YtlbnibmcflmohaaGreat
open Go.RowKit
theorem eqq_b32 (x y : Value) : binOp .eql 26 x y = eqAt 26 x y := rfl
theorem eq32 (a b : List UInt8) (ha : a.length = 32) (hb : b.length = 32) (w : World) : (eqAt 26 (.agg (u8s a).toArray) (.agg (u8s b).toArray)).run Tryz.prog w = .ok (.bool (decide (a = b))) w := by
  obtain ⟨i, hi⟩ : ∃ i, Tryz.prog.info? 5 = some i := by
    have h : (Tryz.prog.info? 5).isSome = true := by kernel_rfl
    exact Option.isSome_iff_exists.1 h
  exact eq_bytes Tryz.underlying26 hi (by kernel_rfl) (by kernel_rfl) Tryz.underlying5 a b ha hb w
theorem leB_zero {n : Nat} (h : n < 115792089237316195423570985008687907853269984665640564039457584007913129639936) : leB n = List.replicate 32 0 ↔ n = 0 := by
  constructor
  · intro e
    have h1 := leN_leB h
    rw [e] at h1
    have h2 : leN (List.replicate 32 0) = 0 := by rw [leN, List.map_replicate]; exact numL_zero 256 32
    omega
  · rintro rfl
    rfl
theorem lex_s (gl : Nat) (t : TypeId) (x1 : Nat) (s : LS) (w : World) (h : Blk w gl t (lcs x1 s)) :
    Calls Tryz.prog 48 #[.pointer (some ⟨gl, 0, none⟩)] w fun e w' => e = .returned (.tuple #[]) ∧ Blk w' gl t (lcs x1 s.swap) ∧ Wrote gl w w' := lex_any gl t x1 s.x2 s.z2 s.x3 s.z3 w h
theorem lst_s (gl : Nat) (t : TypeId) (x1 : Nat) (s : LS) (w : World) (hx : x1 < pr) (hs : s.Ok) (h : Blk w gl t (lcs x1 s)) :
    Calls Tryz.prog 49 #[.pointer (some ⟨gl, 0, none⟩)] w fun e w' => e = .returned (.tuple #[]) ∧ Blk w' gl t (lcs x1 (s.step x1)) ∧ Wrote gl w w' := lstep_any gl t x1 s.x2 s.z2 s.x3 s.z3 w hx hs.1 hs.2.1 hs.2.2.1 hs.2.2.2 h
theorem bld_rat (a b : Nat) (w : World) : (Instr.build 100 [(0, .agg (elc a).toArray), (1, .agg (elc b).toArray)].toArray).run Tryz.prog w = .ok (.agg (elc a ++ elc b).toArray) w := by kernel_rfl
noncomputable def mB (k u : List UInt8) : List UInt8 := if multN k u = 0 then List.replicate 32 0 else leB (multN k u)
noncomputable def mE (k u : List UInt8) : Nat := if multN k u = 0 then 5 else 0
def o32 : List Value := u8s (List.replicate 32 0)
def o20 : List Value := lcs 0 ⟨0, 0, 0, 0⟩
theorem one_of {f : Flt} {F : List (Flt × Option Nat)} (h : F.map (·.1) = [f]) : ∃ s, F = [(f, s)] := by
  rcases F with _ | ⟨⟨a, s1⟩, _ | ⟨b, r⟩⟩
  · cases h
  · simp only [List.map_cons, List.map_nil, List.cons.injEq] at h
    obtain ⟨rfl, _⟩ := h
    exact ⟨s1, rfl⟩
  · simp at h
theorem one_all {f : Flt} {F : List (Flt × Option Nat)} (h : F.map (·.1) = [f]) (h0 : leftN F = 0) : ∃ g, F = [(f, some g)] := by
  obtain ⟨s1, rfl⟩ := one_of h
  rcases s1 with _ | g
  · simp [leftN] at h0
  exact ⟨g, rfl⟩
theorem lcs_one (x : Nat) (s : LS) : ∀ v ∈ lcs x s, v.oneCell' = true := by
  intro v hv
  simp only [lcs, List.mem_append] at hv
  rcases hv with (((h | h) | h) | h) | h <;> exact elc_one _ v h
theorem hdLad (x : Nat) (s : LS) : (Tryz.prog.info? 97).map (·.size) = some (lcs x s).length := by
  rw [show (lcs x s).length = 20 by simp [lcs, elc, l4]]
  kernel_rfl
attribute [local go_sem ↓] ldq_b32 ldq_el eqq_b32
set_option maxRecDepth 100000 in
set_option maxHeartbeats 4000000 in
theorem mult_yes (A B : Option Addr) (c d : Nat) (ks us : List UInt8) (w : World) (hk : Rd w A 32 (u8s ks)) (hu : Rd w B 32 (u8s us)) :
    Calls Tryz.prog 24 #[.slice A 32 c, .slice B 32 d] w fun e w' => e = .returned (.tuple #[.agg (u8s (mB ks us)).toArray, .int .i64 (mE ks us : Int)]) ∧ Below w.heap.size w w' := by
  have HK := Lib.hid hk
  have HU := Lib.hid hu
  have HKL := Lib.hid hk.len
  have HUL := Lib.hid hu.len
  have HZ0 : Hid (Blk (w.alloc (.cells o32.toArray 26)) w.heap.size 26 o32) := Blk.new w _ _
  have HE0 : Hid (Below w.heap.size w (w.alloc (.cells o32.toArray 26))) := (Below.refl _ w).alloc (Nat.le_refl _) _
  have HC := Lib.hid (fun W (h : Rd W A 32 (u8s ks)) => clamp_any A 32 c ks W h rfl)
  have HRD := Lib.hid (fun W (h : Rd W B 32 (u8s us)) => read_el B 32 d us W h rfl)
  have hcl : (clampB ks).length = 32 := by rw [clampB_len, HKL.out]
  obtain ⟨N, hN⟩ : ∃ N, N = clampB ks := ⟨_, rfl⟩
  obtain ⟨X, hX⟩ : ∃ X, X = readN us := ⟨_, rfl⟩
  have HXP : Hid (X < pr) := (by show X < pr; rw [hX]; exact pr_lt' _)
  have HMN : Hid (multN ks us = fmul (ladT X (kbit N) 255).x2 ((ladT X (kbit N) 255).z2 ^ pE % pr)) := (by show _ = _; rw [hN, hX]; rfl)
  rw [← hN] at HC hcl
  rw [← hX] at HRD
  have HNL := Lib.hid hcl
  clear hk hu hcl hN hX
  go_enter Tryz.func24, Tryz.ntmps24
  go_wp2_with (first
    | (go_at_call 47; (with_reducible refine (HC.out _ (by first | exact HK.out.alloc _ | exact HK.out)).mono ?_); rintro e w1 ⟨rfl, hB⟩; have HZ1 := qbl HZ0 hB; have HE1 := qtr HE0 hB; clear hB)
    | (refine wpList_store_all rfl 26 (.tmp 6) (.tmp 16) rfl w1.heap.size (u8s N) (by rfl) (by rfl) 26 o32 (by exact Blk.new' rfl rfl) (by rw [u8s_length, HNL.out]; exact hd32) (u8s_one _) (by rw [u8s_length, HNL.out]; rfl) ?_; intro w2 hb2 ho2; have HN2 := Lib.hid hb2; have HZ2 := qal ho2 HZ1 (by have := HZ1.out.lt; omega); have HE2 := Lib.hid (ho2.below (HE1.out.alloc HE1.out.size _) HE1.out.size (by have := HE1.out.size; simp; omega)); clear hb2 ho2)
    | (go_at_call 36; (with_reducible refine (HRD.out _ (by exact HU.out.below HE2.out)).mono ?_); rintro e w3 ⟨rfl, hB⟩; have HZ3 := qbl HZ2 hB; have HN3 := qbl HN2 hB; have HE3 := qtr HE2 hB; clear hB)
    | (refine wpList_store_all rfl 80 (.tmp 8) (.tmp 25) rfl w3.heap.size (elc X) (by rfl) (by rfl) 80 (l4 0 0 0 0) (by exact Blk.new' rfl rfl) (by exact hdEl) (elc_one _) rfl ?_; intro w4 hb4 ho4; have HX4 := Lib.hid hb4; have HZ4 := qal ho4 HZ3 (by have := HZ3.out.lt; omega); have HN4 := qal ho4 HN3 (by have := HN3.out.lt; omega); have HE4 := Lib.hid (ho4.below (HE3.out.alloc HE3.out.size _) HE3.out.size (by have := HE3.out.size; simp; omega)); clear hb4 ho4))
  refine region_K (by kernel_rfl) 6 (fun w' => Below w4.heap.size w4 w') ?_
  have HR0 : Hid (Below w4.heap.size w4 { w4 with drawn := w4.drawn + 1 }) := (Below.refl _ w4).drew
  refine AnyK.load 0 (v := .agg (elc X).toArray) rfl (by kernel_rfl) (by kernel_rfl) (by kernel_rfl) (fun _ _ _ h => h) rfl (fun w' hw' => ey_loadR (x := .tmp 8) (by rfl) (by kernel_rfl) (elc_ld (HX4.out.below hw' HX4.out.lt))) HR0.out ?_
  refine AnyK.load 2 (v := .agg (elc X).toArray) rfl (by kernel_rfl) (by kernel_rfl) (by kernel_rfl) (fun _ _ _ h => h) rfl (fun w' hw' => ey_loadR (x := .tmp 8) (by rfl) (by kernel_rfl) (elc_ld (HX4.out.below hw' HX4.out.lt))) HR0.out ?_
  refine AnyG.start w4.heap.size [⟨5, 9, 97, o20, fun g => .pointer (some ⟨g, 0, none⟩)⟩] (fun W => Below w4.heap.size w4 W) 4 rfl HR0.out ?_
  have HFL : Hid (∀ (W : World) (b : Act) (o : Oper), o.op = .alloc 97 → (execOp b.eval o).run Tryz.prog W = .ok (.value (.pointer (some ⟨W.heap.size, 0, none⟩))) (W.alloc (.cells o20.toArray 97))) := fun W b o ho => by
    unfold execOp
    rw [ho]
    kernel_rfl
  refine AnyG.step 1 (di := 32) [] (fun _ : Unit => .agg (elc 1).toArray) (fun _ W => Below w4.heap.size w4 W) (by rfl) rfl (by simp) (by simp) (by kernel_rfl) ?_ ?_ (fun W o h => h.alloc h.size o) (fun W h => h.size) (fun W h => h) (fun _ W h => h) ?_
  · intro F W hF hR hok hrd K hK
    obtain ⟨s1, rfl⟩ := one_of hF
    rcases s1 with _ | k1 <;>
      (refine wp_enter (f := 35) (args := #[.int .u64 1]) (by kernel_rfl) ?_; refine (of_el 1 (by omega) W).mono ?_; rintro e w' ⟨rfl, hB⟩; exact ⟨_, rfl, hK () _ (hR.trans (hB.mono hR.size)) hB⟩)
  · intro f hf
    simp only [List.mem_cons, List.not_mem_nil, or_false] at hf
    subst hf
    exact ⟨_, rfl, rfl, rfl, fun F W _ => HFL.out _ _ _ rfl⟩
  intro _
  refine AnyG.step 3 (di := 34) [] (fun _ : Unit => .agg (elc 1).toArray) (fun _ W => Below w4.heap.size w4 W) (by rfl) rfl (by simp) (by simp) (by kernel_rfl) ?_ ?_ (fun W o h => h.alloc h.size o) (fun W h => h.size) (fun W h => h) (fun _ W h => h) ?_
  · intro F W hF hR hok hrd K hK
    obtain ⟨s1, rfl⟩ := one_of hF
    rcases s1 with _ | k1 <;>
      (refine wp_enter (f := 35) (args := #[.int .u64 1]) (by kernel_rfl) ?_; refine (of_el 1 (by omega) W).mono ?_; rintro e w' ⟨rfl, hB⟩; exact ⟨_, rfl, hK () _ (hR.trans (hB.mono hR.size)) hB⟩)
  · intro f hf
    simp only [List.mem_cons, List.not_mem_nil, or_false] at hf
    subst hf
    exact ⟨_, rfl, rfl, rfl, fun F W _ => HFL.out _ _ _ rfl⟩
  intro _
  refine AnyG.step 4 (di := 35) [] (fun _ : Unit => .agg (lcs X (LS.start X)).toArray) (fun _ W => Below w4.heap.size w4 W) (by rfl) rfl (by simp) (by simp) (by kernel_rfl) ?_ ?_ (fun W o h => h.alloc h.size o) (fun W h => h.size) (fun W h => h) (fun _ W h => h) ?_
  · intro F W hF hR hok hrd K hK
    obtain ⟨s1, rfl⟩ := one_of hF
    rcases s1 with _ | k1 <;> exact wp_val (by kernel_rfl) (hK () _ hR (Below.refl _ _))
  · intro f hf
    simp only [List.mem_cons, List.not_mem_nil, or_false] at hf
    subst hf
    exact ⟨_, rfl, rfl, rfl, fun F W _ => HFL.out _ _ _ rfl⟩
  intro _
  refine AnyG.fin (by simp) (by kernel_rfl) ?_ (fun W o h => h.alloc h.size o) (fun W h => h.size) (fun W h => h) ?_
  · intro f hf
    simp only [List.mem_cons, List.not_mem_nil, or_false] at hf
    subst hf
    exact ⟨_, rfl, rfl, rfl, fun F W _ => HFL.out _ _ _ rfl⟩
  intro F W hF h0 hR hok
  obtain ⟨gl, rfl⟩ := one_all hF h0
  obtain ⟨⟨hga, hba, _⟩, _⟩ := hok
  refine AnyK.storeAll 6 gl (lcs X (LS.start X)) 97 o20 (by rfl) rfl rfl (by rfl) (by kernel_rfl) (by kernel_rfl) (by kernel_rfl) hba (by exact hdLad _ _) (lcs_one _ _) rfl (fun _ _ _ h => (by cases h)) ?_
  intro w5 hb5 ho5
  refine AnyK.done (by kernel_rfl) ?_
  have hB5 := ho5.below hR hga hR.size
  have HL5 := Lib.hid hb5
  have HN5 := qbl HN4 hB5
  have HZ5 := qbl HZ4 hB5
  have HE5 := qtr HE4 hB5
  have HG1 : Hid (w1.heap.size ≠ gl) := (by have := HN4.out.lt; show _ ≠ _; omega)
  have HG0 : Hid (w.heap.size ≠ gl) := (by have := HZ4.out.lt; show _ ≠ _; omega)
  have HGW : Hid (w.heap.size ≤ gl) := (by have := HZ4.out.lt; show _ ≤ _; omega)
  clear hb5 ho5 hB5 hR hga hba hF h0 HFL HR0 HX4 HN4 HZ4 HE4 HC HRD HK HU HZ0 HE0
  simp only [putF]
  go_wp2
  go_loopg [10] 255 (fun kk q wr => ∃ (k : Nat) (z : Int), kk = 255 - k ∧ q = .int .i64 z ∧ z = 254 - (k : Int) ∧ k ≤ 255 ∧ Blk wr gl 97 (lcs X (ladT X (kbit N) k)) ∧ Blk wr w1.heap.size 26 (u8s N) ∧ Blk wr w.heap.size 26 o32 ∧ Below w.heap.size w wr)
  case atStart => exact ⟨0, 254, rfl, rfl, by omega, by omega, HL5.out, HN5.out, HZ5.out, HE5.out⟩
  case round =>
    clear HL5 HN5 HZ5 HE5
    obtain ⟨k, z, hgk, rfl, hz, hk, hL, hN, hZ, hE⟩ := hrel
    rcases Nat.lt_or_ge k 255 with hlt | hge
    · obtain ⟨t, ht⟩ : ∃ t, t = 254 - k := ⟨_, rfl⟩
      obtain rfl : z = (t : Int) := by omega
      have hge : (0 : Int) ≤ (t : Int) := by omega
      obtain ⟨q, hq⟩ : ∃ q, q = t / 8 := ⟨_, rfl⟩
      obtain ⟨r, hr⟩ : ∃ r, r = t % 8 := ⟨_, rfl⟩
      obtain ⟨b, hb⟩ : ∃ b, b = (N.getD q 0).toNat := ⟨_, rfl⟩
      have hb8 : b < 256 := by rw [hb]; exact (N.getD q 0).toNat_lt
      have hq32 : q < 32 := by omega
      have cN : wr.cell? ⟨w1.heap.size, q, none⟩ = some (.int .u8 (b : Int)) := by
        refine (hN.cell q).trans ?_
        rw [hb, u8s_getElem?, List.getD_eq_getElem?_getD, List.getElem?_eq_getElem (by rw [HNL.out]; exact hq32)]
        rfl
      have hqi : (t : Int) / 8 = (q : Int) := by omega
      have hri : (t : Int) % 8 = (r : Int) := by omega
      have hq4 : (q : Int) < 32 := by omega
      have hr8 : (r : Int) < 8 := by omega
      obtain ⟨y, hyd⟩ : ∃ y, y = b / 2 ^ r := ⟨_, rfl⟩
      have hy : (b : Int) / 2 ^ r = (y : Int) := by rw [hyd]; push_cast; rfl
      have hy8 : y < 256 := by rw [hyd]; exact Nat.lt_of_le_of_lt (Nat.div_le_self _ _) hb8
      have hyb : bits .and .u8 (y : Int) 1 = ((y % 2 : Nat) : Int) := by rw [← Nat.and_one_is_mod]; exact u8_and_nat y 1 hy8 (by omega)
      have HKB : Hid (kbit N (254 - k) = (y % 2 == 1)) := (by show _ = _; rw [← ht, kbit, ← hq, ← hr, ← hb, ← hyd])
      have HOK := Lib.hid (ladT_ok X HXP.out (kbit N) k)
      have HLT : Hid (ladT X (kbit N) (k + 1) = (ladT X (kbit N) k).round X (kbit N (254 - k))) := rfl
      have HT : Hid ((t : Int) - 1 = 254 - ((k + 1 : Nat) : Int)) := (by show _ = _; omega)
      obtain ⟨s, hs⟩ : ∃ s, s = ladT X (kbit N) k := ⟨_, rfl⟩
      rw [← hs] at hL HOK HLT
      have HXC := Lib.hid (fun W (s : LS) (h : Blk W gl 97 (lcs X s)) => lex_s gl 97 X s W h)
      have HSC := Lib.hid (fun W (s : LS) (hs : s.Ok) (h : Blk W gl 97 (lcs X s)) => lst_s gl 97 X s W HXP.out hs h)
      have HL := Lib.hid hL
      have HNN := Lib.hid hN
      have HZ := Lib.hid hZ
      have HE := Lib.hid hE
      have HGK := Lib.hid hgk
      have HKL := Lib.hid hlt
      clear hL hN hZ hE hgk hs hz ht hq hr hb hyd hlt hk
      rcases Nat.mod_two_eq_zero_or_one y with h01 | h01
      · rw [h01] at hyb HKB
        clear h01
        go_wp2_with (go_at_call 49; (with_reducible refine (HSC.out _ s HOK.out (by exact HL.out)).mono ?_); rintro e w6 ⟨rfl, hb6, hW6⟩; have HL6 := Lib.hid hb6; have HN6 := Lib.hid (HNN.out.wrote hW6 HG1.out); have HZ6 := Lib.hid (HZ.out.wrote hW6 HG0.out); have HE6 := Lib.hid (hW6.below HE.out HGW.out HE.out.size); clear hb6 hW6)
        go_roundg (255 - (k + 1))
        case measure => have := HGK.out; have := HKL.out; omega
        case rel => exact ⟨k + 1, _, rfl, rfl, by have := HT.out; go_num, by have := HKL.out; omega, by rw [HLT.out, HKB.out]; exact HL6.out, HN6.out, HZ6.out, HE6.out⟩
      · rw [h01] at hyb HKB
        clear h01
        go_wp2_with (first
          | (go_at_call 48; (with_reducible refine (HXC.out _ _ (by exact HL7.out)).mono ?_); rintro e w8 ⟨rfl, hb6, hW6⟩; have HL8 := Lib.hid hb6; have HN8 := Lib.hid (HN7.out.wrote hW6 HG1.out); have HZ8 := Lib.hid (HZ7.out.wrote hW6 HG0.out); have HE8 := Lib.hid (hW6.below HE7.out HGW.out HE7.out.size); clear hb6 hW6)
          | (go_at_call 49; (with_reducible refine (HSC.out _ _ HOK.out.swap (by exact HL6.out)).mono ?_); rintro e w7 ⟨rfl, hb6, hW6⟩; have HL7 := Lib.hid hb6; have HN7 := Lib.hid (HN6.out.wrote hW6 HG1.out); have HZ7 := Lib.hid (HZ6.out.wrote hW6 HG0.out); have HE7 := Lib.hid (hW6.below HE6.out HGW.out HE6.out.size); clear hb6 hW6)
          | (go_at_call 48; (with_reducible refine (HXC.out _ _ (by exact HL.out)).mono ?_); rintro e w6 ⟨rfl, hb6, hW6⟩; have HL6 := Lib.hid hb6; have HN6 := Lib.hid (HNN.out.wrote hW6 HG1.out); have HZ6 := Lib.hid (HZ.out.wrote hW6 HG0.out); have HE6 := Lib.hid (hW6.below HE.out HGW.out HE.out.size); clear hb6 hW6))
        go_roundg (255 - (k + 1))
        case measure => have := HGK.out; have := HKL.out; omega
        case rel => exact ⟨k + 1, _, rfl, rfl, by have := HT.out; go_num, by have := HKL.out; omega, by rw [HLT.out, HKB.out]; exact HL8.out, HN8.out, HZ8.out, HE8.out⟩
    · obtain rfl : k = 255 := by omega
      obtain rfl : z = -1 := by omega
      have HOK := Lib.hid (ladT_ok X HXP.out (kbit N) 255)
      obtain ⟨s, hs⟩ : ∃ s, s = ladT X (kbit N) 255 := ⟨_, rfl⟩
      rw [← hs] at hL HOK HMN
      have hl1 := el_mid hL 4 s.x2 rfl
      have hl2 := el_mid hL 8 s.z2 rfl
      have HZ := Lib.hid hZ
      have HE := Lib.hid hE
      clear hL hN hZ hE hgk hs hz hk hge
      obtain ⟨Z, hZd⟩ : ∃ Z, Z = fmul s.x2 (s.z2 ^ pE % pr) := ⟨_, rfl⟩
      have HVL : Hid (∀ W, Calls Tryz.prog 50 #[.agg (elc s.x2 ++ elc s.z2).toArray] W fun e w' => e = .returned (.agg (elc Z).toArray) ∧ Below W.heap.size W w') := fun W => hZd ▸ val_el s.x2 s.z2 W (by have := HOK.out.1; simp only [pr] at this; omega) (by have := HOK.out.2.1; simp only [pr] at this; omega)
      have hZp : Z < pr := by rw [hZd]; exact fmul_lt _ _
      have hZl : Z < 115792089237316195423570985008687907853269984665640564039457584007913129639936 := by simp only [pr] at hZp; omega
      have HBL : Hid (∀ W, Calls Tryz.prog 34 #[.agg (elc Z).toArray] W fun e w' => e = .returned (.agg (u8s (leB Z)).toArray) ∧ Below W.heap.size W w') := fun W => (bytes_el Z W hZl).mono fun e w' h => ⟨by rw [h.1, Nat.mod_eq_of_lt hZp], h.2⟩
      have HMZ : Hid (multN ks us = Z) := (by show _ = _; rw [HMN.out, hZd])
      have HBZ := Lib.hid (leB_zero hZl)
      have HLB := Lib.hid (leB_len Z)
      have HBR := Lib.hid (bld_rat s.x2 s.z2)
      clear hZd hZp hZl
      have heq : ∀ W, (eqAt 26 (.agg (u8s (leB Z)).toArray) (.agg #[.int .u8 0, .int .u8 0, .int .u8 0, .int .u8 0, .int .u8 0, .int .u8 0, .int .u8 0, .int .u8 0, .int .u8 0, .int .u8 0, .int .u8 0, .int .u8 0, .int .u8 0, .int .u8 0, .int .u8 0, .int .u8 0, .int .u8 0, .int .u8 0, .int .u8 0, .int .u8 0, .int .u8 0, .int .u8 0, .int .u8 0, .int .u8 0, .int .u8 0, .int .u8 0, .int .u8 0, .int .u8 0, .int .u8 0, .int .u8 0, .int .u8 0, .int .u8 0])).run Tryz.prog W = .ok (.bool (decide (leB Z = List.replicate 32 0))) W := fun W => eq32 (leB Z) (List.replicate 32 0) HLB.out rfl W
      by_cases hq0 : Z = 0
      · have HQ := Lib.hid hq0
        rw [decide_eq_true (HBZ.out.2 hq0)] at heq
        clear hq0
        go_wp2_with (first
          | (refine wpList_build rfl 100 [(0, .tmp 56), (1, .tmp 58)] rfl _ (by rfl) (.agg (elc s.x2 ++ elc s.z2).toArray) (HBR.out _) ?_)
          | (go_at_call 50; (with_reducible refine (HVL.out _).mono ?_); rintro e w6 ⟨rfl, hB⟩; have HZ6 := qbl HZ hB; have HE6 := qtr HE hB; clear hB)
          | (go_at_call 34; (with_reducible refine (HBL.out _).mono ?_); rintro e w7 ⟨rfl, hB⟩; have HZ7 := qbl HZ6 hB; have HE7 := qtr HE6 hB; clear hB)
          | (refine wpList_store_all rfl 26 (.tmp 12) (.tmp 61) rfl w7.heap.size (u8s (leB Z)) (by rfl) (by rfl) 26 o32 (by exact Blk.new' rfl rfl) (by rw [u8s_length, HLB.out]; exact hd32) (u8s_one _) (by rw [u8s_length, HLB.out]; rfl) ?_; intro w8 hb8 ho8; have HB8 := Lib.hid hb8; have hld : (ldAt 26 (.pointer (some ⟨w7.heap.size, 0, none⟩))).run Tryz.prog w8 = .ok (.agg (u8s (leB Z)).toArray) w8 := ldAt_run hb8 26 0 (u8s (leB Z)) (by rw [List.drop_zero]; exact List.take_of_length_le (Nat.le_refl _)) _ Tryz.underlying26 rfl (by rw [u8s_length, HLB.out]; exact hd32); have HZ8 := qal ho8 HZ7 (by have := HZ7.out.lt; omega); have HE8 := Lib.hid (ho8.below (HE7.out.alloc HE7.out.size _) HE7.out.size (by have := HE7.out.size; simp; omega)); clear hb8 ho8)
          | (refine wpList_store_all rfl 26 (.tmp 4) (.tmp 65) rfl w.heap.size o32 (by rfl) (by rfl) 26 o32 HZ8.out (by exact hd32) (u8s_one _) rfl ?_; intro w9 hb9 ho9; have HB9 := Lib.hid hb9; have HE9 := Lib.hid (ho9.below HE8.out (Nat.le_refl _) HE8.out.size); clear hb9 ho9))
        exact bodyPost_ret (res_cell_tmp rfl _ _ _ _ rfl HB9.out _ Tryz.underlying26 rfl (by exact hd32)) rfl ⟨by rw [mB, mE, HMZ.out, if_pos HQ.out, if_pos HQ.out]; rfl, HE9.out⟩
      · have HQ := Lib.hid hq0
        rw [decide_eq_false (fun h => hq0 (HBZ.out.1 h))] at heq
        clear hq0
        go_wp2_with (first
          | (refine wpList_build rfl 100 [(0, .tmp 56), (1, .tmp 58)] rfl _ (by rfl) (.agg (elc s.x2 ++ elc s.z2).toArray) (HBR.out _) ?_)
          | (go_at_call 50; (with_reducible refine (HVL.out _).mono ?_); rintro e w6 ⟨rfl, hB⟩; have HZ6 := qbl HZ hB; have HE6 := qtr HE hB; clear hB)
          | (go_at_call 34; (with_reducible refine (HBL.out _).mono ?_); rintro e w7 ⟨rfl, hB⟩; have HZ7 := qbl HZ6 hB; have HE7 := qtr HE6 hB; clear hB)
          | (refine wpList_store_all rfl 26 (.tmp 12) (.tmp 61) rfl w7.heap.size (u8s (leB Z)) (by rfl) (by rfl) 26 o32 (by exact Blk.new' rfl rfl) (by rw [u8s_length, HLB.out]; exact hd32) (u8s_one _) (by rw [u8s_length, HLB.out]; rfl) ?_; intro w8 hb8 ho8; have HB8 := Lib.hid hb8; have hld : (ldAt 26 (.pointer (some ⟨w7.heap.size, 0, none⟩))).run Tryz.prog w8 = .ok (.agg (u8s (leB Z)).toArray) w8 := ldAt_run hb8 26 0 (u8s (leB Z)) (by rw [List.drop_zero]; exact List.take_of_length_le (Nat.le_refl _)) _ Tryz.underlying26 rfl (by rw [u8s_length, HLB.out]; exact hd32); have HZ8 := qal ho8 HZ7 (by have := HZ7.out.lt; omega); have HE8 := Lib.hid (ho8.below (HE7.out.alloc HE7.out.size _) HE7.out.size (by have := HE7.out.size; simp; omega)); clear hb8 ho8)
          | (refine wpList_store_all rfl 26 (.tmp 4) (.tmp 66) rfl w.heap.size (u8s (leB Z)) (by rfl) (by rfl) 26 o32 HZ8.out (by rw [u8s_length, HLB.out]; exact hd32) (u8s_one _) (by rw [u8s_length, HLB.out]; rfl) ?_; intro w9 hb9 ho9; have HB9 := Lib.hid hb9; have HE9 := Lib.hid (ho9.below HE8.out (Nat.le_refl _) HE8.out.size); clear hb9 ho9))
        exact bodyPost_ret (res_cell_tmp rfl _ _ _ _ rfl HB9.out _ Tryz.underlying26 rfl (by rw [u8s_length, HLB.out]; exact hd32)) rfl ⟨by rw [mB, mE, HMZ.out, if_neg HQ.out, if_neg HQ.out]; rfl, HE9.out⟩
end Go.Proofs.YtlbnibmcflmohaaGreat
