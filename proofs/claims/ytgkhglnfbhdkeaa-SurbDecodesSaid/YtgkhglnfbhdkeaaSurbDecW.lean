/- SurbDecodes: the walks. -/
import Derived.Test.YtgkhglnfbhdkeaaDec3
import Derived.Test.YtgkhglnfbhdkeaaSurA
import Derived.Test.YtgkhglnfbhdkeaaOpen
namespace Go.Proofs.Ytgkhglnfbhdkeaa.surbDecodes
open Go.RowKit
set_option linter.unusedVariables false

theorem ldq_16 (v : Value) : Instr.loadAt 25 v = ldAt 25 v := rfl
theorem ldq_st (v : Value) : Instr.loadAt 47 v = ldAt 47 v := rfl
theorem stq_st (p v : Value) : Instr.storeAt 47 p v = stAt 47 p v := rfl
attribute [local go_sem ↓] ldq_16 ldq_st stq_st
theorem eSt : ElemIs Try.prog 47 49 72 := ElemIs.of (z := .agg z47.toArray) (by kernel_rfl) (by kernel_rfl) (by omega)
theorem cells_one (l : List StD) : ∀ v ∈ l.flatMap StD.cells, v.oneCell' = true := by
  intro v hv
  obtain ⟨s, _, h⟩ := List.mem_flatMap.1 hv
  exact stC_one _ _ _ _ _ v h
theorem stC_mark (mark own : List UInt8) (A : Option Addr) (m c : Nat) (j : Nat) (v : Value) (h : (u8s mark)[j]? = some v) : (stC mark own A m c)[0 + j]? = some v := by
  rw [Nat.zero_add, stC, List.getElem?_append_left (List.getElem?_eq_some_iff.1 h).1]
  exact h
theorem ld16_run {w : World} {g : Nat} {mark own : List UInt8} {A : Option Addr} {m c : Nat} (h : Blk w g 47 (stC mark own A m c)) (hm : mark.length = 16) : (ldAt 25 (.pointer (some ⟨g, 0, none⟩))).run Try.prog w = .ok (.agg (u8s mark).toArray) w :=
  run_loadAt_mid w g 0 25 (u8s mark) _ (h.mid 0 (u8s mark) (stC_mark mark own A m c)) Try.underlying25 rfl (by rw [u8s_length, hm]; exact hd16)
theorem ldst_run {w : World} {g : Nat} {mark own : List UInt8} {A : Option Addr} {m c : Nat} (h : Blk w g 47 (stC mark own A m c)) (hm : mark.length = 16) (ho : own.length = 32) : (ldAt 47 (.pointer (some ⟨g, 0, none⟩))).run Try.prog w = .ok (.agg (stC mark own A m c).toArray) w :=
  ldAt_run h _ 0 _ (by rw [List.drop_zero, List.take_of_length_le (Nat.le_refl _)]) _ Try.underlying47 rfl (by rw [stC_len _ _ _ _ _ hm ho]; exact hd47)


set_option maxRecDepth 100000 in
set_option maxHeartbeats 4000000 in
theorem walk_cs (mark own : List UInt8) (A : Option Addr) (m c : Nat) (ks : List (List UInt8)) (B : Option Addr) (n d : Nat) (body : List UInt8) (D : Option Addr) (q r : Nat) (l : List StD) (w : World)
    (h1 : mark.length = 16) (h2 : own.length = 32) (hp : RdS 32 w A m (ks.flatMap u8s)) (hkl : ks.length = m) (hk : ∀ k ∈ ks, k.length = 32) (hmc : m ≤ c)
    (hb : Rd w B n (u8s body)) (hd : n ≤ d) (hd2 : d ≤ 140737488351232) (hl : RdS 49 w D q (l.flatMap StD.cells)) (hll : l.length = q) (hs : ∀ s ∈ l, s.ok) (hqr : q ≤ r) (hr2 : r * 72 ≤ 140737488351232) (h6 : 6 < m) (k : Nat) (hmr : mR l mark = some k) :
    Calls Try.prog 4 #[.agg (stC mark own A m c).toArray, .slice B n d, .slice D q r] w fun e w' => e = .returned (.bool true) ∧ Below w.heap.size w w' := by
  have hp6 : RdS 32 w A 6 ((ks.take 6).flatMap u8s) := by
    obtain ⟨b0, o0, e0, hb0, hc0⟩ := hp.2 (by omega)
    have hpr : ∃ rest, ks.flatMap u8s = (ks.take 6).flatMap u8s ++ rest := ⟨(ks.drop 6).flatMap u8s, by rw [← List.flatMap_append, List.take_append_drop]⟩
    obtain ⟨rest, hrest⟩ := hpr
    refine ⟨(flatMap_len (f := u8s) (sz := 32) (l := ks.take 6) (fun a ha => by rw [u8s_length]; exact hk a (List.mem_of_mem_take ha))).trans (by rw [List.length_take]; omega), fun _ => ⟨b0, o0, e0, hb0, fun j u hu => hc0 j u ?_⟩⟩
    rw [hrest, List.getElem?_append_left (List.getElem?_eq_some_iff.1 hu).1]
    exact hu
  have hkl6 : (ks.take 6).length = 6 := by rw [List.length_take]; omega
  have hk6 : ∀ k ∈ ks.take 6, k.length = 32 := fun k hk' => hk k (List.mem_of_mem_take hk')
  have HP := Lib.hid hp6
  have HKL := Lib.hid hkl6
  have HK := Lib.hid hk6
  have HBD := Lib.hid hb
  have HLL := Lib.hid hll
  have HSK := Lib.hid hs
  have HLR := Lib.hid hl
  have H1 := Lib.hid h1
  have H2 := Lib.hid h2
  have HTW := Lib.hid (fun W (hr : RdS 32 W A 6 ((ks.take 6).flatMap u8s)) => twin_any mark own A 6 c (ks.take 6) W h1 h2 hr (by omega))
  have HCB := Lib.hid (fun W (hr : Rd W B n (u8s body)) => copy_any B n d body W hr (by omega))
  have HDE := Lib.hid (fun A3 c3 A4 c4 W (hr3 : RdS 32 W A3 6 ((ks.take 6).flatMap u8s)) (hr4 : Rd W A4 n (u8s body)) (hc4 : n ≤ c4) => dec_all mark own A3 6 c3 (ks.take 6) A4 n c4 body W h1 h2 (.of_rds hr3 hkl6 hk6) (by omega) hr4 hc4)
  have HRD := Lib.hid (fun W (hr3 : RdS 32 W A 6 ((ks.take 6).flatMap u8s)) (hr4 : Rd W B n (u8s body)) => rdec_all mark own A 6 c (ks.take 6) B n d body W h1 h2 (.of_rds hr3 hkl6 hk6) (by omega) hr4)
  obtain ⟨V, hV⟩ : ∃ V, V = decV own (ks.take 6) body := ⟨_, rfl⟩
  obtain ⟨M, hM⟩ : ∃ M, M = decM own (ks.take 6) body := ⟨_, rfl⟩
  rw [← hV, ← hM] at HDE HRD
  have HMA : Hid (∀ A5 c5 W, RdS 49 W A5 q (l.flatMap StD.cells) → Calls Try.prog 18 #[.agg (u8s mark).toArray, .slice A5 q c5] W fun e w' => e = .returned (.tuple #[.int .i64 (k : Int), .bool true]) ∧ Below W.heap.size W w') := fun A5 c5 W h5 => (match_any mark h1 A5 q c5 l W h5 hs hll (by omega)).mono fun e w' h => by have h6 := matchP_is h; rw [hmr] at h6; exact h6
  have HRM : Hid (∀ W, RdS 49 W D q (l.flatMap StD.cells) → Calls Try.prog 19 #[.agg (u8s mark).toArray, .slice D q r] W fun e w' => e = .returned (.tuple #[.int .i64 (k : Int), .bool true]) ∧ Below W.heap.size W w') := fun W h5 => (rmatch_any mark h1 D q r l W h5 hs hll (by omega)).mono fun e w' h => by have h6 := matchP_is h; rw [hmr] at h6; exact h6
  have HM2 : Hid (∀ A5 c5 W, RdS 49 W A5 (q + 1) (l.flatMap StD.cells ++ stC mark own A 6 c) → Calls Try.prog 18 #[.agg (u8s mark).toArray, .slice A5 (q + 1) c5] W fun e w' => e = .returned (.tuple #[.int .i64 (k : Int), .bool true]) ∧ Below W.heap.size W w') := fun A5 c5 W h5 => by
    have h7 : RdS 49 W A5 (q + 1) ((l ++ [(⟨mark, own, A, 6, c⟩ : StD)]).flatMap StD.cells) := by
      rw [List.flatMap_append]
      simpa [StD.cells] using h5
    refine (match_any mark h1 A5 (q + 1) c5 (l ++ [(⟨mark, own, A, 6, c⟩ : StD)]) W h7 ?_ (by rw [List.length_append, hll]; rfl) (by omega)).mono fun e w' h => ?_
    · intro s hs'
      rcases List.mem_append.1 hs' with h | h
      · exact hs s h
      · rw [List.mem_singleton] at h
        subst h
        exact ⟨h1, h2⟩
    · have h6 := matchP_is h
      have h8 := mR_snoc l (⟨mark, own, A, 6, c⟩ : StD)
      simp only at h8
      rw [h8, hmr] at h6
      simpa [mI, hll] using h6
  have C48 := Lib.hid (stC_48 mark own A m c h1 h2)
  have CST := Lib.hid (stC_set mark own A A m c 6 c h1 h2)
  have HLD16 : Hid (∀ W g, Blk W g 47 (stC mark own A 6 c) → (ldAt 25 (.pointer (some ⟨g, 0, none⟩))).run Try.prog W = .ok (.agg (u8s mark).toArray) W) := fun W g hb => ld16_run hb h1
  have HLDS : Hid (∀ W g, Blk W g 47 (stC mark own A 6 c) → (ldAt 47 (.pointer (some ⟨g, 0, none⟩))).run Try.prog W = .ok (.agg (stC mark own A 6 c).toArray) W) := fun W g hb => ldst_run hb h1 h2
  have HS1 : Hid ((stC mark own A 6 c).length = 49) := stC_len _ _ _ _ _ h1 h2
  have HS2 : Hid (∀ v ∈ stC mark own A 6 c, v.oneCell' = true) := stC_one _ _ _ _ _
  have HRG : Hid (∀ W, Blk W w.heap.size 47 (stC mark own A 6 c) → W.rangeAt w.heap.size 0 (u8s mark)) := fun W hb => hb.mid 0 (u8s mark) (stC_mark mark own A 6 c)
  have HI25 : Hid ((Try.prog.info? 25).map (·.size) = some (u8s mark).length) := by rw [u8s_length, h1]; exact hd16
  obtain ⟨MU, hMU⟩ : ∃ MU, MU = u8s mark := ⟨_, rfl⟩
  rw [← hMU] at HMA HRM HM2 HLD16 HRG HI25
  obtain ⟨C, hC⟩ : ∃ C, C = stC mark own A m c := ⟨_, rfl⟩
  rw [← hC] at C48 CST ⊢
  obtain ⟨CX, hCX⟩ : ∃ CX, CX = stC mark own A 6 c := ⟨_, rfl⟩
  rw [← hCX] at HTW HRD HM2 HLD16 HLDS HS1 HS2 CST HRG
  have HCE : Hid (C = CX ∨ 6 < m) := .inr h6
  clear hV hM hMU hC hCX h1 h2 hp hkl hk hb hl hs hp6 hkl6 hk6 hmr hll
  have hm6 : (6 : Int) < (m : Int) := by omega
  have h6c : (6 : Int) ≤ (c : Int) := by omega
  have h6m : (6 : Int) ≤ (m : Int) := by omega
  go_enter Try.func4, Try.ntmps4
  have HB0 : Hid (Blk (w.alloc (.cells C.toArray 47)) w.heap.size 47 C) := Blk.new w _ _
  have HE0 : Hid (Below w.heap.size w (w.alloc (.cells C.toArray 47))) := (Below.refl _ _).alloc (Nat.le_refl _) _
  go_wp2_with (first
    | (go_at_call 8; (with_reducible refine (awake16 _).mono ?_); rintro e w1 ⟨rfl, hB1⟩
       have HB1 := Lib.hid (HB0.out.below hB1 HB0.out.lt)
       have HE1 := Lib.hid (HE0.out.trans (hB1.mono HE0.out.size))
       have c48 := (HB1.out.cell 48).trans C48.out
       have f48 := HB1.out.frozen 48
       have hb2 := HB1.out.set_ 48 (.slice A 6 c)
       rw [CST.out] at hb2
       have HB2 := Lib.hid hb2
       have HE2 := Lib.hid (HE1.out.setCell (p := ⟨w.heap.size, 48, none⟩) (Nat.le_refl _) (.slice A 6 c))
       have hld2 := HLDS.out _ _ HB2.out
       clear hB1 hb2)
    | (go_at_call 16; (with_reducible refine (HTW.out _ (by exact HP.out.bel HE2.out (Nat.le_refl _))).mono ?_); rintro e w3 ⟨A3, c3, rfl, hc3, hr3, hB3⟩
       have HE3 := Lib.hid (HE2.out.trans (hB3.mono HE2.out.size))
       have HB3 := Lib.hid (HB2.out.below hB3 HB2.out.lt)
       have HR3 := Lib.hid hr3
       clear hr3 hB3 hld2)
    | (go_at_call 11; (with_reducible refine (HCB.out _ (by exact HBD.out.below HE3.out)).mono ?_); rintro e w4 ⟨A4, c4, rfl, hc4, hown4, hB4⟩
       have HE4 := Lib.hid (HE3.out.trans (hB4.mono HE3.out.size))
       have HB4 := Lib.hid (HB3.out.below hB4 HB3.out.lt)
       have HR4 := Lib.hid (HR3.out.bel hB4 (Nat.le_refl _))
       have HO4 := Lib.hid (Rd.of_own hown4)
       clear hown4 hB4)
    | (go_at_call 15; (with_reducible refine (HDE.out A3 c3 A4 c4 _ (by exact HR4.out) (by exact HO4.out) hc4).mono ?_); rintro e w5 ⟨A5, n5, c5, rfl, hr5, hn5, hB5⟩
       have HE5 := Lib.hid (HE4.out.trans (hB5.mono HE4.out.size))
       have HB5 := Lib.hid (HB4.out.below hB5 HB4.out.lt)
       have HR5 := Lib.hid hr5
       have hld5 := HLDS.out _ _ HB5.out
       clear hr5 hB5)
    | (go_at_call 17; (with_reducible refine (HRD.out _ (by exact HP.out.bel HE5.out (Nat.le_refl _)) (by exact HBD.out.below HE5.out)).mono ?_); rintro e w6 ⟨A6, n6, c6, rfl, hr6, hn6, hB6⟩
       have HE6 := Lib.hid (HE5.out.trans (hB6.mono HE5.out.size))
       have HB6 := Lib.hid (HB5.out.below hB6 HB5.out.lt)
       have HR56 := Lib.hid (HR5.out.below hB6)
       have HR6 := Lib.hid hr6
       clear hr6 hB6 hld5)
    | (go_at_call 13; (with_reducible refine (equal_any A5 A6 n5 n6 c5 c6 M M _ (by exact HR56.out) (by exact HR6.out) (by omega) (by omega)).mono ?_); rintro e w7 ⟨rfl, q7, rfl⟩
       have HE7 := Lib.hid (below_drewN HE6.out q7)
       have HB7 := Lib.hid (HB6.out.drewN q7))
    | (at_builtin; refine wpList_app rfl (.tmp 49) (.tmp 50) 48 rfl w6.heap.size 47 49 72 Try.underlying48 eSt (.slice (some ⟨w6.heap.size, 0, none⟩) 0 0) 0 [] (by rfl) (by exact own_of_blk (base := w6.heap.size) (cs := []) (Blk.new' (by simp) rfl) (Nat.le_refl _) 0 0 49 (by omega) (by simp) (by omega)) D q r (l.flatMap StD.cells) (by rfl) (by exact HLR.out.bel (HE7.out.alloc HE7.out.size _) (Nat.le_refl _)) (cells_one l) (by omega) (by omega) (by simp) ?_
       intro A8 c8 w8 hown8 hc8 hg8 hat8
       simp only [Nat.zero_add, List.nil_append] at hown8 hc8
       have hgl7 := HB7.out.lt
       have HE8 := Lib.hid ((HE7.out.alloc HE7.out.size _).grown hg8 (Nat.le_trans HE7.out.size (by simp)) (fun k hk => by simp [Value.ownBlock] at hk; have := HE7.out.size; simp at this; omega))
       have HB8 := Lib.hid ((HB7.out.alloc _).grown hg8 (by simp [Value.ownBlock]; simp at hgl7; omega))
       have HO8 := Lib.hid hown8
       have hs68 : w6.heap.size ≤ w8.heap.size := (by have := hg8.size; simp at this; omega)
       have hld8 := HLD16.out _ _ HB8.out
       clear hown8 hg8 hat8)
    | (go_at_call 18; (with_reducible refine (HMA.out A8 c8 w8 (by exact RdS.ofOwn HO8.out)).mono ?_); rintro e w9 ⟨rfl, hB9⟩
       have HE9 := Lib.hid (HE8.out.trans (hB9.mono HE8.out.size))
       have HB9 := Lib.hid (HB8.out.below hB9 HB8.out.lt)
       have HO9 := Lib.hid (own_below HO8.out hB9)
       have hs69 : w6.heap.size ≤ w9.heap.size := Nat.le_trans hs68 hB9.size
       have hld9 := HLD16.out _ _ HB9.out
       clear hB9 hld8)
    | (go_at_call 19; (with_reducible refine (HRM.out _ (by exact HLR.out.bel HE9.out (Nat.le_refl _))).mono ?_); rintro e w10 ⟨rfl, hB10⟩
       have HE10 := Lib.hid (HE9.out.trans (hB10.mono HE9.out.size))
       have HB10 := Lib.hid (HB9.out.below hB10 HB9.out.lt)
       have HO10 := Lib.hid (own_below HO9.out hB10)
       have HSZ : Hid (w6.heap.size ≤ w10.heap.size) := Nat.le_trans hs69 hB10.size
       clear hB10 hld9))
  have hld16 : ∀ W, Blk W w.heap.size 47 CX → (ldAt 25 (.pointer (some ⟨w.heap.size, 0, none⟩))).run Try.prog W = .ok (.agg MU.toArray) W := fun W hb => HLD16.out W _ hb
  have hldst : ∀ W, Blk W w.heap.size 47 CX → (ldAt 47 (.pointer (some ⟨w.heap.size, 0, none⟩))).run Try.prog W = .ok (.agg CX.toArray) W := fun W hb => HLDS.out W _ hb
  have hb10 := HB10.out
  have hgl10 := HB10.out.lt
  have hw6 := HE6.out.size
  have hgw6 := HB6.out.lt
  have hw10 := HE10.out.size
  have hu25 : Try.prog.underlying 25 = some (.array 16 5) := Try.underlying25
  have hi25 := HI25.out
  have HNW : Hid (RdS 49 (w10.alloc (.cells (List.foldl (fun (cs : Array Value) (x : Value × Nat) => cs.setIfInBounds x.2 x.1) z47.toArray CX.zipIdx) 47)) (some ⟨w10.heap.size, 0, none⟩) 1 CX) := by
    have hz : z47.length = 49 := rfl
    have hf := foldl_splice 0 CX 0 z47 (by rw [HS1.out, hz]; omega)
    have he : List.foldl (fun (cs : Array Value) (x : Value × Nat) => cs.setIfInBounds x.2 x.1) z47.toArray CX.zipIdx = CX.toArray := by
      simp only [Nat.zero_add] at hf
      rw [hf, splice_whole _ _ (by rw [HS1.out, hz])]
    rw [he]
    exact RdS.new w10 47 CX 49 HS1.out
  have hcl := HS1.out
  have hcx : CX.toArray.size = 49 := by rw [List.size_toArray]; exact HS1.out
  go_region_held3 (fun W' => Blk W' w.heap.size 47 CX ∧ W'.rangeAt w.heap.size 0 MU) (first | exact ⟨hk12, HRG.out _ hk12⟩ | exact ⟨hk11, HRG.out _ hk11⟩ | exact ⟨hb10.drew, HRG.out _ hb10.drew⟩ | exact ⟨(hb10.drew).alloc _, HRG.out _ ((hb10.drew).alloc _)⟩) (first
    | ((refine step_app rfl (.tmp 77) (.tmp 79) 48 rfl w6.heap.size 47 49 72 Try.underlying48 eSt (.slice A8 q c8) q (l.flatMap StD.cells) (by rfl) (by first | exact HO10.out.alloc _ | exact HO10.out.drew.alloc _) (some ⟨w10.heap.size, 0, none⟩) 1 1 CX (by rfl) (by exact HNW.out) HS2.out (by omega) (by omega) (by have := (HE6.out.trans (Below.refl _ _)).size; have := HSZ.out; simp; omega) ?_; intro A11 c11 w11 hown11 hc11 hg11 hat11; have HO11 := Lib.hid hown11; have hk11 : Blk w11 w.heap.size 47 CX := ((hb10.alloc _).drew).grown hg11 (fun e => by have := (HO10.out.lt _ e.symm).1; omega); have HE11 := Lib.hid (((HE10.out.alloc hw10 _).drew).grown hg11 (Nat.le_trans hw10 (by simp)) (fun k hk => by have := (HO10.out.lt k hk).1; omega)); clear hown11 hg11 hat11))
    | (go_at_call 18; (with_reducible refine (HM2.out A11 c11 w11 (by exact RdS.ofOwn HO11.out)).mono ?_); rintro e w12 ⟨rfl, hB12⟩
       have hk12 : Blk w12 w.heap.size 47 CX := hk11.below hB12 hk11.lt
       have HE12 := Lib.hid (HE11.out.trans (hB12.mono HE11.out.size))
       clear hB12))
  go_wp2_with fail
  go_ret
  exact ⟨by simp, HE12.out⟩


set_option maxRecDepth 100000 in
set_option maxHeartbeats 4000000 in
theorem walk_cn (mark own : List UInt8) (A : Option Addr) (m c : Nat) (ks : List (List UInt8)) (B : Option Addr) (n d : Nat) (body : List UInt8) (D : Option Addr) (q r : Nat) (l : List StD) (w : World)
    (h1 : mark.length = 16) (h2 : own.length = 32) (hp : RdS 32 w A m (ks.flatMap u8s)) (hkl : ks.length = m) (hk : ∀ k ∈ ks, k.length = 32) (hmc : m ≤ c)
    (hb : Rd w B n (u8s body)) (hd : n ≤ d) (hd2 : d ≤ 140737488351232) (hl : RdS 49 w D q (l.flatMap StD.cells)) (hll : l.length = q) (hs : ∀ s ∈ l, s.ok) (hqr : q ≤ r) (hr2 : r * 72 ≤ 140737488351232) (h6 : 6 < m) (hmr : mR l mark = none) :
    Calls Try.prog 4 #[.agg (stC mark own A m c).toArray, .slice B n d, .slice D q r] w fun e w' => e = .returned (.bool true) ∧ Below w.heap.size w w' := by
  have hp6 : RdS 32 w A 6 ((ks.take 6).flatMap u8s) := by
    obtain ⟨b0, o0, e0, hb0, hc0⟩ := hp.2 (by omega)
    have hpr : ∃ rest, ks.flatMap u8s = (ks.take 6).flatMap u8s ++ rest := ⟨(ks.drop 6).flatMap u8s, by rw [← List.flatMap_append, List.take_append_drop]⟩
    obtain ⟨rest, hrest⟩ := hpr
    refine ⟨(flatMap_len (f := u8s) (sz := 32) (l := ks.take 6) (fun a ha => by rw [u8s_length]; exact hk a (List.mem_of_mem_take ha))).trans (by rw [List.length_take]; omega), fun _ => ⟨b0, o0, e0, hb0, fun j u hu => hc0 j u ?_⟩⟩
    rw [hrest, List.getElem?_append_left (List.getElem?_eq_some_iff.1 hu).1]
    exact hu
  have hkl6 : (ks.take 6).length = 6 := by rw [List.length_take]; omega
  have hk6 : ∀ k ∈ ks.take 6, k.length = 32 := fun k hk' => hk k (List.mem_of_mem_take hk')
  have HP := Lib.hid hp6
  have HKL := Lib.hid hkl6
  have HK := Lib.hid hk6
  have HBD := Lib.hid hb
  have HLL := Lib.hid hll
  have HSK := Lib.hid hs
  have HLR := Lib.hid hl
  have H1 := Lib.hid h1
  have H2 := Lib.hid h2
  have HTW := Lib.hid (fun W (hr : RdS 32 W A 6 ((ks.take 6).flatMap u8s)) => twin_any mark own A 6 c (ks.take 6) W h1 h2 hr (by omega))
  have HCB := Lib.hid (fun W (hr : Rd W B n (u8s body)) => copy_any B n d body W hr (by omega))
  have HDE := Lib.hid (fun A3 c3 A4 c4 W (hr3 : RdS 32 W A3 6 ((ks.take 6).flatMap u8s)) (hr4 : Rd W A4 n (u8s body)) (hc4 : n ≤ c4) => dec_all mark own A3 6 c3 (ks.take 6) A4 n c4 body W h1 h2 (.of_rds hr3 hkl6 hk6) (by omega) hr4 hc4)
  have HRD := Lib.hid (fun W (hr3 : RdS 32 W A 6 ((ks.take 6).flatMap u8s)) (hr4 : Rd W B n (u8s body)) => rdec_all mark own A 6 c (ks.take 6) B n d body W h1 h2 (.of_rds hr3 hkl6 hk6) (by omega) hr4)
  obtain ⟨V, hV⟩ : ∃ V, V = decV own (ks.take 6) body := ⟨_, rfl⟩
  obtain ⟨M, hM⟩ : ∃ M, M = decM own (ks.take 6) body := ⟨_, rfl⟩
  rw [← hV, ← hM] at HDE HRD
  have HMA : Hid (∀ A5 c5 W, RdS 49 W A5 q (l.flatMap StD.cells) → Calls Try.prog 18 #[.agg (u8s mark).toArray, .slice A5 q c5] W fun e w' => e = .returned (.tuple #[.int .i64 0, .bool false]) ∧ Below W.heap.size W w') := fun A5 c5 W h5 => (match_any mark h1 A5 q c5 l W h5 hs hll (by omega)).mono fun e w' h => by have h6 := matchP_is h; rw [hmr] at h6; exact h6
  have HRM : Hid (∀ W, RdS 49 W D q (l.flatMap StD.cells) → Calls Try.prog 19 #[.agg (u8s mark).toArray, .slice D q r] W fun e w' => e = .returned (.tuple #[.int .i64 0, .bool false]) ∧ Below W.heap.size W w') := fun W h5 => (rmatch_any mark h1 D q r l W h5 hs hll (by omega)).mono fun e w' h => by have h6 := matchP_is h; rw [hmr] at h6; exact h6
  have HM2 : Hid (∀ A5 c5 W, RdS 49 W A5 (q + 1) (l.flatMap StD.cells ++ stC mark own A 6 c) → Calls Try.prog 18 #[.agg (u8s mark).toArray, .slice A5 (q + 1) c5] W fun e w' => e = .returned (.tuple #[.int .i64 (q : Int), .bool true]) ∧ Below W.heap.size W w') := fun A5 c5 W h5 => by
    have h7 : RdS 49 W A5 (q + 1) ((l ++ [(⟨mark, own, A, 6, c⟩ : StD)]).flatMap StD.cells) := by
      rw [List.flatMap_append]
      simpa [StD.cells] using h5
    refine (match_any mark h1 A5 (q + 1) c5 (l ++ [(⟨mark, own, A, 6, c⟩ : StD)]) W h7 ?_ (by rw [List.length_append, hll]; rfl) (by omega)).mono fun e w' h => ?_
    · intro s hs'
      rcases List.mem_append.1 hs' with h | h
      · exact hs s h
      · rw [List.mem_singleton] at h
        subst h
        exact ⟨h1, h2⟩
    · have h6 := matchP_is h
      have h8 := mR_snoc l (⟨mark, own, A, 6, c⟩ : StD)
      simp only at h8
      rw [h8, hmr] at h6
      simpa [mI, hll] using h6
  have C48 := Lib.hid (stC_48 mark own A m c h1 h2)
  have CST := Lib.hid (stC_set mark own A A m c 6 c h1 h2)
  have HLD16 : Hid (∀ W g, Blk W g 47 (stC mark own A 6 c) → (ldAt 25 (.pointer (some ⟨g, 0, none⟩))).run Try.prog W = .ok (.agg (u8s mark).toArray) W) := fun W g hb => ld16_run hb h1
  have HLDS : Hid (∀ W g, Blk W g 47 (stC mark own A 6 c) → (ldAt 47 (.pointer (some ⟨g, 0, none⟩))).run Try.prog W = .ok (.agg (stC mark own A 6 c).toArray) W) := fun W g hb => ldst_run hb h1 h2
  have HS1 : Hid ((stC mark own A 6 c).length = 49) := stC_len _ _ _ _ _ h1 h2
  have HS2 : Hid (∀ v ∈ stC mark own A 6 c, v.oneCell' = true) := stC_one _ _ _ _ _
  have HRG : Hid (∀ W, Blk W w.heap.size 47 (stC mark own A 6 c) → W.rangeAt w.heap.size 0 (u8s mark)) := fun W hb => hb.mid 0 (u8s mark) (stC_mark mark own A 6 c)
  have HI25 : Hid ((Try.prog.info? 25).map (·.size) = some (u8s mark).length) := by rw [u8s_length, h1]; exact hd16
  obtain ⟨MU, hMU⟩ : ∃ MU, MU = u8s mark := ⟨_, rfl⟩
  rw [← hMU] at HMA HRM HM2 HLD16 HRG HI25
  obtain ⟨C, hC⟩ : ∃ C, C = stC mark own A m c := ⟨_, rfl⟩
  rw [← hC] at C48 CST ⊢
  obtain ⟨CX, hCX⟩ : ∃ CX, CX = stC mark own A 6 c := ⟨_, rfl⟩
  rw [← hCX] at HTW HRD HM2 HLD16 HLDS HS1 HS2 CST HRG
  have HCE : Hid (C = CX ∨ 6 < m) := .inr h6
  clear hV hM hMU hC hCX h1 h2 hp hkl hk hb hl hs hp6 hkl6 hk6 hmr hll
  have hm6 : (6 : Int) < (m : Int) := by omega
  have h6c : (6 : Int) ≤ (c : Int) := by omega
  have h6m : (6 : Int) ≤ (m : Int) := by omega
  go_enter Try.func4, Try.ntmps4
  have HB0 : Hid (Blk (w.alloc (.cells C.toArray 47)) w.heap.size 47 C) := Blk.new w _ _
  have HE0 : Hid (Below w.heap.size w (w.alloc (.cells C.toArray 47))) := (Below.refl _ _).alloc (Nat.le_refl _) _
  go_wp2_with (first
    | (go_at_call 8; (with_reducible refine (awake16 _).mono ?_); rintro e w1 ⟨rfl, hB1⟩
       have HB1 := Lib.hid (HB0.out.below hB1 HB0.out.lt)
       have HE1 := Lib.hid (HE0.out.trans (hB1.mono HE0.out.size))
       have c48 := (HB1.out.cell 48).trans C48.out
       have f48 := HB1.out.frozen 48
       have hb2 := HB1.out.set_ 48 (.slice A 6 c)
       rw [CST.out] at hb2
       have HB2 := Lib.hid hb2
       have HE2 := Lib.hid (HE1.out.setCell (p := ⟨w.heap.size, 48, none⟩) (Nat.le_refl _) (.slice A 6 c))
       have hld2 := HLDS.out _ _ HB2.out
       clear hB1 hb2)
    | (go_at_call 16; (with_reducible refine (HTW.out _ (by exact HP.out.bel HE2.out (Nat.le_refl _))).mono ?_); rintro e w3 ⟨A3, c3, rfl, hc3, hr3, hB3⟩
       have HE3 := Lib.hid (HE2.out.trans (hB3.mono HE2.out.size))
       have HB3 := Lib.hid (HB2.out.below hB3 HB2.out.lt)
       have HR3 := Lib.hid hr3
       clear hr3 hB3 hld2)
    | (go_at_call 11; (with_reducible refine (HCB.out _ (by exact HBD.out.below HE3.out)).mono ?_); rintro e w4 ⟨A4, c4, rfl, hc4, hown4, hB4⟩
       have HE4 := Lib.hid (HE3.out.trans (hB4.mono HE3.out.size))
       have HB4 := Lib.hid (HB3.out.below hB4 HB3.out.lt)
       have HR4 := Lib.hid (HR3.out.bel hB4 (Nat.le_refl _))
       have HO4 := Lib.hid (Rd.of_own hown4)
       clear hown4 hB4)
    | (go_at_call 15; (with_reducible refine (HDE.out A3 c3 A4 c4 _ (by exact HR4.out) (by exact HO4.out) hc4).mono ?_); rintro e w5 ⟨A5, n5, c5, rfl, hr5, hn5, hB5⟩
       have HE5 := Lib.hid (HE4.out.trans (hB5.mono HE4.out.size))
       have HB5 := Lib.hid (HB4.out.below hB5 HB4.out.lt)
       have HR5 := Lib.hid hr5
       have hld5 := HLDS.out _ _ HB5.out
       clear hr5 hB5)
    | (go_at_call 17; (with_reducible refine (HRD.out _ (by exact HP.out.bel HE5.out (Nat.le_refl _)) (by exact HBD.out.below HE5.out)).mono ?_); rintro e w6 ⟨A6, n6, c6, rfl, hr6, hn6, hB6⟩
       have HE6 := Lib.hid (HE5.out.trans (hB6.mono HE5.out.size))
       have HB6 := Lib.hid (HB5.out.below hB6 HB5.out.lt)
       have HR56 := Lib.hid (HR5.out.below hB6)
       have HR6 := Lib.hid hr6
       clear hr6 hB6 hld5)
    | (go_at_call 13; (with_reducible refine (equal_any A5 A6 n5 n6 c5 c6 M M _ (by exact HR56.out) (by exact HR6.out) (by omega) (by omega)).mono ?_); rintro e w7 ⟨rfl, q7, rfl⟩
       have HE7 := Lib.hid (below_drewN HE6.out q7)
       have HB7 := Lib.hid (HB6.out.drewN q7))
    | (at_builtin; refine wpList_app rfl (.tmp 49) (.tmp 50) 48 rfl w6.heap.size 47 49 72 Try.underlying48 eSt (.slice (some ⟨w6.heap.size, 0, none⟩) 0 0) 0 [] (by rfl) (by exact own_of_blk (base := w6.heap.size) (cs := []) (Blk.new' (by simp) rfl) (Nat.le_refl _) 0 0 49 (by omega) (by simp) (by omega)) D q r (l.flatMap StD.cells) (by rfl) (by exact HLR.out.bel (HE7.out.alloc HE7.out.size _) (Nat.le_refl _)) (cells_one l) (by omega) (by omega) (by simp) ?_
       intro A8 c8 w8 hown8 hc8 hg8 hat8
       simp only [Nat.zero_add, List.nil_append] at hown8 hc8
       have hgl7 := HB7.out.lt
       have HE8 := Lib.hid ((HE7.out.alloc HE7.out.size _).grown hg8 (Nat.le_trans HE7.out.size (by simp)) (fun k hk => by simp [Value.ownBlock] at hk; have := HE7.out.size; simp at this; omega))
       have HB8 := Lib.hid ((HB7.out.alloc _).grown hg8 (by simp [Value.ownBlock]; simp at hgl7; omega))
       have HO8 := Lib.hid hown8
       have hs68 : w6.heap.size ≤ w8.heap.size := (by have := hg8.size; simp at this; omega)
       have hld8 := HLD16.out _ _ HB8.out
       clear hown8 hg8 hat8)
    | (go_at_call 18; (with_reducible refine (HMA.out A8 c8 w8 (by exact RdS.ofOwn HO8.out)).mono ?_); rintro e w9 ⟨rfl, hB9⟩
       have HE9 := Lib.hid (HE8.out.trans (hB9.mono HE8.out.size))
       have HB9 := Lib.hid (HB8.out.below hB9 HB8.out.lt)
       have HO9 := Lib.hid (own_below HO8.out hB9)
       have hs69 : w6.heap.size ≤ w9.heap.size := Nat.le_trans hs68 hB9.size
       have hld9 := HLD16.out _ _ HB9.out
       clear hB9 hld8)
    | (go_at_call 19; (with_reducible refine (HRM.out _ (by exact HLR.out.bel HE9.out (Nat.le_refl _))).mono ?_); rintro e w10 ⟨rfl, hB10⟩
       have HE10 := Lib.hid (HE9.out.trans (hB10.mono HE9.out.size))
       have HB10 := Lib.hid (HB9.out.below hB10 HB9.out.lt)
       have HO10 := Lib.hid (own_below HO9.out hB10)
       have HSZ : Hid (w6.heap.size ≤ w10.heap.size) := Nat.le_trans hs69 hB10.size
       clear hB10 hld9))
  have hld16 : ∀ W, Blk W w.heap.size 47 CX → (ldAt 25 (.pointer (some ⟨w.heap.size, 0, none⟩))).run Try.prog W = .ok (.agg MU.toArray) W := fun W hb => HLD16.out W _ hb
  have hldst : ∀ W, Blk W w.heap.size 47 CX → (ldAt 47 (.pointer (some ⟨w.heap.size, 0, none⟩))).run Try.prog W = .ok (.agg CX.toArray) W := fun W hb => HLDS.out W _ hb
  have hb10 := HB10.out
  have hgl10 := HB10.out.lt
  have hw6 := HE6.out.size
  have hgw6 := HB6.out.lt
  have hw10 := HE10.out.size
  have hu25 : Try.prog.underlying 25 = some (.array 16 5) := Try.underlying25
  have hi25 := HI25.out
  have HNW : Hid (RdS 49 (w10.alloc (.cells (List.foldl (fun (cs : Array Value) (x : Value × Nat) => cs.setIfInBounds x.2 x.1) z47.toArray CX.zipIdx) 47)) (some ⟨w10.heap.size, 0, none⟩) 1 CX) := by
    have hz : z47.length = 49 := rfl
    have hf := foldl_splice 0 CX 0 z47 (by rw [HS1.out, hz]; omega)
    have he : List.foldl (fun (cs : Array Value) (x : Value × Nat) => cs.setIfInBounds x.2 x.1) z47.toArray CX.zipIdx = CX.toArray := by
      simp only [Nat.zero_add] at hf
      rw [hf, splice_whole _ _ (by rw [HS1.out, hz])]
    rw [he]
    exact RdS.new w10 47 CX 49 HS1.out
  have hcl := HS1.out
  have hcx : CX.toArray.size = 49 := by rw [List.size_toArray]; exact HS1.out
  go_region_held3 (fun W' => Blk W' w.heap.size 47 CX ∧ W'.rangeAt w.heap.size 0 MU) (first | exact ⟨hk12, HRG.out _ hk12⟩ | exact ⟨hk11, HRG.out _ hk11⟩ | exact ⟨hb10.drew, HRG.out _ hb10.drew⟩ | exact ⟨(hb10.drew).alloc _, HRG.out _ ((hb10.drew).alloc _)⟩) (first
    | ((refine step_app rfl (.tmp 77) (.tmp 79) 48 rfl w6.heap.size 47 49 72 Try.underlying48 eSt (.slice A8 q c8) q (l.flatMap StD.cells) (by rfl) (by first | exact HO10.out.alloc _ | exact HO10.out.drew.alloc _) (some ⟨w10.heap.size, 0, none⟩) 1 1 CX (by rfl) (by exact HNW.out) HS2.out (by omega) (by omega) (by have := (HE6.out.trans (Below.refl _ _)).size; have := HSZ.out; simp; omega) ?_; intro A11 c11 w11 hown11 hc11 hg11 hat11; have HO11 := Lib.hid hown11; have hk11 : Blk w11 w.heap.size 47 CX := ((hb10.alloc _).drew).grown hg11 (fun e => by have := (HO10.out.lt _ e.symm).1; omega); have HE11 := Lib.hid (((HE10.out.alloc hw10 _).drew).grown hg11 (Nat.le_trans hw10 (by simp)) (fun k hk => by have := (HO10.out.lt k hk).1; omega)); clear hown11 hg11 hat11))
    | (go_at_call 18; (with_reducible refine (HM2.out A11 c11 w11 (by exact RdS.ofOwn HO11.out)).mono ?_); rintro e w12 ⟨rfl, hB12⟩
       have hk12 : Blk w12 w.heap.size 47 CX := hk11.below hB12 hk11.lt
       have HE12 := Lib.hid (HE11.out.trans (hB12.mono HE11.out.size))
       clear hB12))
  go_wp2_with fail
  go_ret
  exact ⟨by simp, HE12.out⟩


set_option maxRecDepth 100000 in
set_option maxHeartbeats 4000000 in
theorem walk_us (mark own : List UInt8) (A : Option Addr) (m c : Nat) (ks : List (List UInt8)) (B : Option Addr) (n d : Nat) (body : List UInt8) (D : Option Addr) (q r : Nat) (l : List StD) (w : World)
    (h1 : mark.length = 16) (h2 : own.length = 32) (hp : RdS 32 w A m (ks.flatMap u8s)) (hkl : ks.length = m) (hk : ∀ k ∈ ks, k.length = 32) (hmc : m ≤ c)
    (hb : Rd w B n (u8s body)) (hd : n ≤ d) (hd2 : d ≤ 140737488351232) (hl : RdS 49 w D q (l.flatMap StD.cells)) (hll : l.length = q) (hs : ∀ s ∈ l, s.ok) (hqr : q ≤ r) (hr2 : r * 72 ≤ 140737488351232) (h6 : m ≤ 6) (k : Nat) (hmr : mR l mark = some k) :
    Calls Try.prog 4 #[.agg (stC mark own A m c).toArray, .slice B n d, .slice D q r] w fun e w' => e = .returned (.bool true) ∧ Below w.heap.size w w' := by
  have hp6 := hp
  have hkl6 := hkl
  have hk6 := hk
  have HP := Lib.hid hp6
  have HKL := Lib.hid hkl6
  have HK := Lib.hid hk6
  have HBD := Lib.hid hb
  have HLL := Lib.hid hll
  have HSK := Lib.hid hs
  have HLR := Lib.hid hl
  have H1 := Lib.hid h1
  have H2 := Lib.hid h2
  have HTW := Lib.hid (fun W (hr : RdS 32 W A m (ks.flatMap u8s)) => twin_any mark own A m c ks W h1 h2 hr (by omega))
  have HCB := Lib.hid (fun W (hr : Rd W B n (u8s body)) => copy_any B n d body W hr (by omega))
  have HDE := Lib.hid (fun A3 c3 A4 c4 W (hr3 : RdS 32 W A3 m (ks.flatMap u8s)) (hr4 : Rd W A4 n (u8s body)) (hc4 : n ≤ c4) => dec_all mark own A3 m c3 ks A4 n c4 body W h1 h2 (.of_rds hr3 hkl6 hk6) (by omega) hr4 hc4)
  have HRD := Lib.hid (fun W (hr3 : RdS 32 W A m (ks.flatMap u8s)) (hr4 : Rd W B n (u8s body)) => rdec_all mark own A m c ks B n d body W h1 h2 (.of_rds hr3 hkl6 hk6) (by omega) hr4)
  obtain ⟨V, hV⟩ : ∃ V, V = decV own ks body := ⟨_, rfl⟩
  obtain ⟨M, hM⟩ : ∃ M, M = decM own ks body := ⟨_, rfl⟩
  rw [← hV, ← hM] at HDE HRD
  have HMA : Hid (∀ A5 c5 W, RdS 49 W A5 q (l.flatMap StD.cells) → Calls Try.prog 18 #[.agg (u8s mark).toArray, .slice A5 q c5] W fun e w' => e = .returned (.tuple #[.int .i64 (k : Int), .bool true]) ∧ Below W.heap.size W w') := fun A5 c5 W h5 => (match_any mark h1 A5 q c5 l W h5 hs hll (by omega)).mono fun e w' h => by have h6 := matchP_is h; rw [hmr] at h6; exact h6
  have HRM : Hid (∀ W, RdS 49 W D q (l.flatMap StD.cells) → Calls Try.prog 19 #[.agg (u8s mark).toArray, .slice D q r] W fun e w' => e = .returned (.tuple #[.int .i64 (k : Int), .bool true]) ∧ Below W.heap.size W w') := fun W h5 => (rmatch_any mark h1 D q r l W h5 hs hll (by omega)).mono fun e w' h => by have h6 := matchP_is h; rw [hmr] at h6; exact h6
  have HM2 : Hid (∀ A5 c5 W, RdS 49 W A5 (q + 1) (l.flatMap StD.cells ++ stC mark own A m c) → Calls Try.prog 18 #[.agg (u8s mark).toArray, .slice A5 (q + 1) c5] W fun e w' => e = .returned (.tuple #[.int .i64 (k : Int), .bool true]) ∧ Below W.heap.size W w') := fun A5 c5 W h5 => by
    have h7 : RdS 49 W A5 (q + 1) ((l ++ [(⟨mark, own, A, m, c⟩ : StD)]).flatMap StD.cells) := by
      rw [List.flatMap_append]
      simpa [StD.cells] using h5
    refine (match_any mark h1 A5 (q + 1) c5 (l ++ [(⟨mark, own, A, m, c⟩ : StD)]) W h7 ?_ (by rw [List.length_append, hll]; rfl) (by omega)).mono fun e w' h => ?_
    · intro s hs'
      rcases List.mem_append.1 hs' with h | h
      · exact hs s h
      · rw [List.mem_singleton] at h
        subst h
        exact ⟨h1, h2⟩
    · have h6 := matchP_is h
      have h8 := mR_snoc l (⟨mark, own, A, m, c⟩ : StD)
      simp only at h8
      rw [h8, hmr] at h6
      simpa [mI, hll] using h6
  have C48 := Lib.hid (stC_48 mark own A m c h1 h2)
  have CST := Lib.hid (stC_set mark own A A m c m c h1 h2)
  have HLD16 : Hid (∀ W g, Blk W g 47 (stC mark own A m c) → (ldAt 25 (.pointer (some ⟨g, 0, none⟩))).run Try.prog W = .ok (.agg (u8s mark).toArray) W) := fun W g hb => ld16_run hb h1
  have HLDS : Hid (∀ W g, Blk W g 47 (stC mark own A m c) → (ldAt 47 (.pointer (some ⟨g, 0, none⟩))).run Try.prog W = .ok (.agg (stC mark own A m c).toArray) W) := fun W g hb => ldst_run hb h1 h2
  have HS1 : Hid ((stC mark own A m c).length = 49) := stC_len _ _ _ _ _ h1 h2
  have HS2 : Hid (∀ v ∈ stC mark own A m c, v.oneCell' = true) := stC_one _ _ _ _ _
  have HRG : Hid (∀ W, Blk W w.heap.size 47 (stC mark own A m c) → W.rangeAt w.heap.size 0 (u8s mark)) := fun W hb => hb.mid 0 (u8s mark) (stC_mark mark own A m c)
  have HI25 : Hid ((Try.prog.info? 25).map (·.size) = some (u8s mark).length) := by rw [u8s_length, h1]; exact hd16
  obtain ⟨MU, hMU⟩ : ∃ MU, MU = u8s mark := ⟨_, rfl⟩
  rw [← hMU] at HMA HRM HM2 HLD16 HRG HI25
  obtain ⟨C, hC⟩ : ∃ C, C = stC mark own A m c := ⟨_, rfl⟩
  rw [← hC] at C48 ⊢
  obtain ⟨CX, hCX⟩ : ∃ CX, CX = stC mark own A m c := ⟨_, rfl⟩
  rw [← hCX] at HTW HRD HM2 HLD16 HLDS HS1 HS2 HRG
  have HCE : Hid (C = CX ∨ 6 < m) := .inl (by rw [hC, hCX])
  clear hV hM hMU hC hCX h1 h2 hp hkl hk hb hl hs hp6 hkl6 hk6 hmr hll
  have hm6 : ¬ (6 : Int) < (m : Int) := by omega
  go_enter Try.func4, Try.ntmps4
  have HB0 : Hid (Blk (w.alloc (.cells C.toArray 47)) w.heap.size 47 C) := Blk.new w _ _
  have HE0 : Hid (Below w.heap.size w (w.alloc (.cells C.toArray 47))) := (Below.refl _ _).alloc (Nat.le_refl _) _
  go_wp2_with (first
    | (go_at_call 8; (with_reducible refine (awake16 _).mono ?_); rintro e w1 ⟨rfl, hB1⟩
       have HB1 := Lib.hid (HB0.out.below hB1 HB0.out.lt)
       have HE1 := Lib.hid (HE0.out.trans (hB1.mono HE0.out.size))
       have c48 := (HB1.out.cell 48).trans C48.out
       have hce : C = CX := (by rcases HCE.out with h | h; exact h; omega)
       rw [hce] at HB1
       have HB2 := HB1
       have HE2 := HE1
       have hld2 := HLDS.out _ _ HB2.out
       clear hB1 hce)
    | (go_at_call 16; (with_reducible refine (HTW.out _ (by exact HP.out.bel HE2.out (Nat.le_refl _))).mono ?_); rintro e w3 ⟨A3, c3, rfl, hc3, hr3, hB3⟩
       have HE3 := Lib.hid (HE2.out.trans (hB3.mono HE2.out.size))
       have HB3 := Lib.hid (HB2.out.below hB3 HB2.out.lt)
       have HR3 := Lib.hid hr3
       clear hr3 hB3 hld2)
    | (go_at_call 11; (with_reducible refine (HCB.out _ (by exact HBD.out.below HE3.out)).mono ?_); rintro e w4 ⟨A4, c4, rfl, hc4, hown4, hB4⟩
       have HE4 := Lib.hid (HE3.out.trans (hB4.mono HE3.out.size))
       have HB4 := Lib.hid (HB3.out.below hB4 HB3.out.lt)
       have HR4 := Lib.hid (HR3.out.bel hB4 (Nat.le_refl _))
       have HO4 := Lib.hid (Rd.of_own hown4)
       clear hown4 hB4)
    | (go_at_call 15; (with_reducible refine (HDE.out A3 c3 A4 c4 _ (by exact HR4.out) (by exact HO4.out) hc4).mono ?_); rintro e w5 ⟨A5, n5, c5, rfl, hr5, hn5, hB5⟩
       have HE5 := Lib.hid (HE4.out.trans (hB5.mono HE4.out.size))
       have HB5 := Lib.hid (HB4.out.below hB5 HB4.out.lt)
       have HR5 := Lib.hid hr5
       have hld5 := HLDS.out _ _ HB5.out
       clear hr5 hB5)
    | (go_at_call 17; (with_reducible refine (HRD.out _ (by exact HP.out.bel HE5.out (Nat.le_refl _)) (by exact HBD.out.below HE5.out)).mono ?_); rintro e w6 ⟨A6, n6, c6, rfl, hr6, hn6, hB6⟩
       have HE6 := Lib.hid (HE5.out.trans (hB6.mono HE5.out.size))
       have HB6 := Lib.hid (HB5.out.below hB6 HB5.out.lt)
       have HR56 := Lib.hid (HR5.out.below hB6)
       have HR6 := Lib.hid hr6
       clear hr6 hB6 hld5)
    | (go_at_call 13; (with_reducible refine (equal_any A5 A6 n5 n6 c5 c6 M M _ (by exact HR56.out) (by exact HR6.out) (by omega) (by omega)).mono ?_); rintro e w7 ⟨rfl, q7, rfl⟩
       have HE7 := Lib.hid (below_drewN HE6.out q7)
       have HB7 := Lib.hid (HB6.out.drewN q7))
    | (at_builtin; refine wpList_app rfl (.tmp 49) (.tmp 50) 48 rfl w6.heap.size 47 49 72 Try.underlying48 eSt (.slice (some ⟨w6.heap.size, 0, none⟩) 0 0) 0 [] (by rfl) (by exact own_of_blk (base := w6.heap.size) (cs := []) (Blk.new' (by simp) rfl) (Nat.le_refl _) 0 0 49 (by omega) (by simp) (by omega)) D q r (l.flatMap StD.cells) (by rfl) (by exact HLR.out.bel (HE7.out.alloc HE7.out.size _) (Nat.le_refl _)) (cells_one l) (by omega) (by omega) (by simp) ?_
       intro A8 c8 w8 hown8 hc8 hg8 hat8
       simp only [Nat.zero_add, List.nil_append] at hown8 hc8
       have hgl7 := HB7.out.lt
       have HE8 := Lib.hid ((HE7.out.alloc HE7.out.size _).grown hg8 (Nat.le_trans HE7.out.size (by simp)) (fun k hk => by simp [Value.ownBlock] at hk; have := HE7.out.size; simp at this; omega))
       have HB8 := Lib.hid ((HB7.out.alloc _).grown hg8 (by simp [Value.ownBlock]; simp at hgl7; omega))
       have HO8 := Lib.hid hown8
       have hs68 : w6.heap.size ≤ w8.heap.size := (by have := hg8.size; simp at this; omega)
       have hld8 := HLD16.out _ _ HB8.out
       clear hown8 hg8 hat8)
    | (go_at_call 18; (with_reducible refine (HMA.out A8 c8 w8 (by exact RdS.ofOwn HO8.out)).mono ?_); rintro e w9 ⟨rfl, hB9⟩
       have HE9 := Lib.hid (HE8.out.trans (hB9.mono HE8.out.size))
       have HB9 := Lib.hid (HB8.out.below hB9 HB8.out.lt)
       have HO9 := Lib.hid (own_below HO8.out hB9)
       have hs69 : w6.heap.size ≤ w9.heap.size := Nat.le_trans hs68 hB9.size
       have hld9 := HLD16.out _ _ HB9.out
       clear hB9 hld8)
    | (go_at_call 19; (with_reducible refine (HRM.out _ (by exact HLR.out.bel HE9.out (Nat.le_refl _))).mono ?_); rintro e w10 ⟨rfl, hB10⟩
       have HE10 := Lib.hid (HE9.out.trans (hB10.mono HE9.out.size))
       have HB10 := Lib.hid (HB9.out.below hB10 HB9.out.lt)
       have HO10 := Lib.hid (own_below HO9.out hB10)
       have HSZ : Hid (w6.heap.size ≤ w10.heap.size) := Nat.le_trans hs69 hB10.size
       clear hB10 hld9))
  have hld16 : ∀ W, Blk W w.heap.size 47 CX → (ldAt 25 (.pointer (some ⟨w.heap.size, 0, none⟩))).run Try.prog W = .ok (.agg MU.toArray) W := fun W hb => HLD16.out W _ hb
  have hldst : ∀ W, Blk W w.heap.size 47 CX → (ldAt 47 (.pointer (some ⟨w.heap.size, 0, none⟩))).run Try.prog W = .ok (.agg CX.toArray) W := fun W hb => HLDS.out W _ hb
  have hb10 := HB10.out
  have hgl10 := HB10.out.lt
  have hw6 := HE6.out.size
  have hgw6 := HB6.out.lt
  have hw10 := HE10.out.size
  have hu25 : Try.prog.underlying 25 = some (.array 16 5) := Try.underlying25
  have hi25 := HI25.out
  have HNW : Hid (RdS 49 (w10.alloc (.cells (List.foldl (fun (cs : Array Value) (x : Value × Nat) => cs.setIfInBounds x.2 x.1) z47.toArray CX.zipIdx) 47)) (some ⟨w10.heap.size, 0, none⟩) 1 CX) := by
    have hz : z47.length = 49 := rfl
    have hf := foldl_splice 0 CX 0 z47 (by rw [HS1.out, hz]; omega)
    have he : List.foldl (fun (cs : Array Value) (x : Value × Nat) => cs.setIfInBounds x.2 x.1) z47.toArray CX.zipIdx = CX.toArray := by
      simp only [Nat.zero_add] at hf
      rw [hf, splice_whole _ _ (by rw [HS1.out, hz])]
    rw [he]
    exact RdS.new w10 47 CX 49 HS1.out
  have hcl := HS1.out
  have hcx : CX.toArray.size = 49 := by rw [List.size_toArray]; exact HS1.out
  go_region_held3 (fun W' => Blk W' w.heap.size 47 CX ∧ W'.rangeAt w.heap.size 0 MU) (first | exact ⟨hk12, HRG.out _ hk12⟩ | exact ⟨hk11, HRG.out _ hk11⟩ | exact ⟨hb10.drew, HRG.out _ hb10.drew⟩ | exact ⟨(hb10.drew).alloc _, HRG.out _ ((hb10.drew).alloc _)⟩) (first
    | ((refine step_app rfl (.tmp 77) (.tmp 79) 48 rfl w6.heap.size 47 49 72 Try.underlying48 eSt (.slice A8 q c8) q (l.flatMap StD.cells) (by rfl) (by first | exact HO10.out.alloc _ | exact HO10.out.drew.alloc _) (some ⟨w10.heap.size, 0, none⟩) 1 1 CX (by rfl) (by exact HNW.out) HS2.out (by omega) (by omega) (by have := (HE6.out.trans (Below.refl _ _)).size; have := HSZ.out; simp; omega) ?_; intro A11 c11 w11 hown11 hc11 hg11 hat11; have HO11 := Lib.hid hown11; have hk11 : Blk w11 w.heap.size 47 CX := ((hb10.alloc _).drew).grown hg11 (fun e => by have := (HO10.out.lt _ e.symm).1; omega); have HE11 := Lib.hid (((HE10.out.alloc hw10 _).drew).grown hg11 (Nat.le_trans hw10 (by simp)) (fun k hk => by have := (HO10.out.lt k hk).1; omega)); clear hown11 hg11 hat11))
    | (go_at_call 18; (with_reducible refine (HM2.out A11 c11 w11 (by exact RdS.ofOwn HO11.out)).mono ?_); rintro e w12 ⟨rfl, hB12⟩
       have hk12 : Blk w12 w.heap.size 47 CX := hk11.below hB12 hk11.lt
       have HE12 := Lib.hid (HE11.out.trans (hB12.mono HE11.out.size))
       clear hB12))
  go_wp2_with fail
  go_ret
  exact ⟨by simp, HE12.out⟩


set_option maxRecDepth 100000 in
set_option maxHeartbeats 4000000 in
theorem walk_un (mark own : List UInt8) (A : Option Addr) (m c : Nat) (ks : List (List UInt8)) (B : Option Addr) (n d : Nat) (body : List UInt8) (D : Option Addr) (q r : Nat) (l : List StD) (w : World)
    (h1 : mark.length = 16) (h2 : own.length = 32) (hp : RdS 32 w A m (ks.flatMap u8s)) (hkl : ks.length = m) (hk : ∀ k ∈ ks, k.length = 32) (hmc : m ≤ c)
    (hb : Rd w B n (u8s body)) (hd : n ≤ d) (hd2 : d ≤ 140737488351232) (hl : RdS 49 w D q (l.flatMap StD.cells)) (hll : l.length = q) (hs : ∀ s ∈ l, s.ok) (hqr : q ≤ r) (hr2 : r * 72 ≤ 140737488351232) (h6 : m ≤ 6) (hmr : mR l mark = none) :
    Calls Try.prog 4 #[.agg (stC mark own A m c).toArray, .slice B n d, .slice D q r] w fun e w' => e = .returned (.bool true) ∧ Below w.heap.size w w' := by
  have hp6 := hp
  have hkl6 := hkl
  have hk6 := hk
  have HP := Lib.hid hp6
  have HKL := Lib.hid hkl6
  have HK := Lib.hid hk6
  have HBD := Lib.hid hb
  have HLL := Lib.hid hll
  have HSK := Lib.hid hs
  have HLR := Lib.hid hl
  have H1 := Lib.hid h1
  have H2 := Lib.hid h2
  have HTW := Lib.hid (fun W (hr : RdS 32 W A m (ks.flatMap u8s)) => twin_any mark own A m c ks W h1 h2 hr (by omega))
  have HCB := Lib.hid (fun W (hr : Rd W B n (u8s body)) => copy_any B n d body W hr (by omega))
  have HDE := Lib.hid (fun A3 c3 A4 c4 W (hr3 : RdS 32 W A3 m (ks.flatMap u8s)) (hr4 : Rd W A4 n (u8s body)) (hc4 : n ≤ c4) => dec_all mark own A3 m c3 ks A4 n c4 body W h1 h2 (.of_rds hr3 hkl6 hk6) (by omega) hr4 hc4)
  have HRD := Lib.hid (fun W (hr3 : RdS 32 W A m (ks.flatMap u8s)) (hr4 : Rd W B n (u8s body)) => rdec_all mark own A m c ks B n d body W h1 h2 (.of_rds hr3 hkl6 hk6) (by omega) hr4)
  obtain ⟨V, hV⟩ : ∃ V, V = decV own ks body := ⟨_, rfl⟩
  obtain ⟨M, hM⟩ : ∃ M, M = decM own ks body := ⟨_, rfl⟩
  rw [← hV, ← hM] at HDE HRD
  have HMA : Hid (∀ A5 c5 W, RdS 49 W A5 q (l.flatMap StD.cells) → Calls Try.prog 18 #[.agg (u8s mark).toArray, .slice A5 q c5] W fun e w' => e = .returned (.tuple #[.int .i64 0, .bool false]) ∧ Below W.heap.size W w') := fun A5 c5 W h5 => (match_any mark h1 A5 q c5 l W h5 hs hll (by omega)).mono fun e w' h => by have h6 := matchP_is h; rw [hmr] at h6; exact h6
  have HRM : Hid (∀ W, RdS 49 W D q (l.flatMap StD.cells) → Calls Try.prog 19 #[.agg (u8s mark).toArray, .slice D q r] W fun e w' => e = .returned (.tuple #[.int .i64 0, .bool false]) ∧ Below W.heap.size W w') := fun W h5 => (rmatch_any mark h1 D q r l W h5 hs hll (by omega)).mono fun e w' h => by have h6 := matchP_is h; rw [hmr] at h6; exact h6
  have HM2 : Hid (∀ A5 c5 W, RdS 49 W A5 (q + 1) (l.flatMap StD.cells ++ stC mark own A m c) → Calls Try.prog 18 #[.agg (u8s mark).toArray, .slice A5 (q + 1) c5] W fun e w' => e = .returned (.tuple #[.int .i64 (q : Int), .bool true]) ∧ Below W.heap.size W w') := fun A5 c5 W h5 => by
    have h7 : RdS 49 W A5 (q + 1) ((l ++ [(⟨mark, own, A, m, c⟩ : StD)]).flatMap StD.cells) := by
      rw [List.flatMap_append]
      simpa [StD.cells] using h5
    refine (match_any mark h1 A5 (q + 1) c5 (l ++ [(⟨mark, own, A, m, c⟩ : StD)]) W h7 ?_ (by rw [List.length_append, hll]; rfl) (by omega)).mono fun e w' h => ?_
    · intro s hs'
      rcases List.mem_append.1 hs' with h | h
      · exact hs s h
      · rw [List.mem_singleton] at h
        subst h
        exact ⟨h1, h2⟩
    · have h6 := matchP_is h
      have h8 := mR_snoc l (⟨mark, own, A, m, c⟩ : StD)
      simp only at h8
      rw [h8, hmr] at h6
      simpa [mI, hll] using h6
  have C48 := Lib.hid (stC_48 mark own A m c h1 h2)
  have CST := Lib.hid (stC_set mark own A A m c m c h1 h2)
  have HLD16 : Hid (∀ W g, Blk W g 47 (stC mark own A m c) → (ldAt 25 (.pointer (some ⟨g, 0, none⟩))).run Try.prog W = .ok (.agg (u8s mark).toArray) W) := fun W g hb => ld16_run hb h1
  have HLDS : Hid (∀ W g, Blk W g 47 (stC mark own A m c) → (ldAt 47 (.pointer (some ⟨g, 0, none⟩))).run Try.prog W = .ok (.agg (stC mark own A m c).toArray) W) := fun W g hb => ldst_run hb h1 h2
  have HS1 : Hid ((stC mark own A m c).length = 49) := stC_len _ _ _ _ _ h1 h2
  have HS2 : Hid (∀ v ∈ stC mark own A m c, v.oneCell' = true) := stC_one _ _ _ _ _
  have HRG : Hid (∀ W, Blk W w.heap.size 47 (stC mark own A m c) → W.rangeAt w.heap.size 0 (u8s mark)) := fun W hb => hb.mid 0 (u8s mark) (stC_mark mark own A m c)
  have HI25 : Hid ((Try.prog.info? 25).map (·.size) = some (u8s mark).length) := by rw [u8s_length, h1]; exact hd16
  obtain ⟨MU, hMU⟩ : ∃ MU, MU = u8s mark := ⟨_, rfl⟩
  rw [← hMU] at HMA HRM HM2 HLD16 HRG HI25
  obtain ⟨C, hC⟩ : ∃ C, C = stC mark own A m c := ⟨_, rfl⟩
  rw [← hC] at C48 ⊢
  obtain ⟨CX, hCX⟩ : ∃ CX, CX = stC mark own A m c := ⟨_, rfl⟩
  rw [← hCX] at HTW HRD HM2 HLD16 HLDS HS1 HS2 HRG
  have HCE : Hid (C = CX ∨ 6 < m) := .inl (by rw [hC, hCX])
  clear hV hM hMU hC hCX h1 h2 hp hkl hk hb hl hs hp6 hkl6 hk6 hmr hll
  have hm6 : ¬ (6 : Int) < (m : Int) := by omega
  go_enter Try.func4, Try.ntmps4
  have HB0 : Hid (Blk (w.alloc (.cells C.toArray 47)) w.heap.size 47 C) := Blk.new w _ _
  have HE0 : Hid (Below w.heap.size w (w.alloc (.cells C.toArray 47))) := (Below.refl _ _).alloc (Nat.le_refl _) _
  go_wp2_with (first
    | (go_at_call 8; (with_reducible refine (awake16 _).mono ?_); rintro e w1 ⟨rfl, hB1⟩
       have HB1 := Lib.hid (HB0.out.below hB1 HB0.out.lt)
       have HE1 := Lib.hid (HE0.out.trans (hB1.mono HE0.out.size))
       have c48 := (HB1.out.cell 48).trans C48.out
       have hce : C = CX := (by rcases HCE.out with h | h; exact h; omega)
       rw [hce] at HB1
       have HB2 := HB1
       have HE2 := HE1
       have hld2 := HLDS.out _ _ HB2.out
       clear hB1 hce)
    | (go_at_call 16; (with_reducible refine (HTW.out _ (by exact HP.out.bel HE2.out (Nat.le_refl _))).mono ?_); rintro e w3 ⟨A3, c3, rfl, hc3, hr3, hB3⟩
       have HE3 := Lib.hid (HE2.out.trans (hB3.mono HE2.out.size))
       have HB3 := Lib.hid (HB2.out.below hB3 HB2.out.lt)
       have HR3 := Lib.hid hr3
       clear hr3 hB3 hld2)
    | (go_at_call 11; (with_reducible refine (HCB.out _ (by exact HBD.out.below HE3.out)).mono ?_); rintro e w4 ⟨A4, c4, rfl, hc4, hown4, hB4⟩
       have HE4 := Lib.hid (HE3.out.trans (hB4.mono HE3.out.size))
       have HB4 := Lib.hid (HB3.out.below hB4 HB3.out.lt)
       have HR4 := Lib.hid (HR3.out.bel hB4 (Nat.le_refl _))
       have HO4 := Lib.hid (Rd.of_own hown4)
       clear hown4 hB4)
    | (go_at_call 15; (with_reducible refine (HDE.out A3 c3 A4 c4 _ (by exact HR4.out) (by exact HO4.out) hc4).mono ?_); rintro e w5 ⟨A5, n5, c5, rfl, hr5, hn5, hB5⟩
       have HE5 := Lib.hid (HE4.out.trans (hB5.mono HE4.out.size))
       have HB5 := Lib.hid (HB4.out.below hB5 HB4.out.lt)
       have HR5 := Lib.hid hr5
       have hld5 := HLDS.out _ _ HB5.out
       clear hr5 hB5)
    | (go_at_call 17; (with_reducible refine (HRD.out _ (by exact HP.out.bel HE5.out (Nat.le_refl _)) (by exact HBD.out.below HE5.out)).mono ?_); rintro e w6 ⟨A6, n6, c6, rfl, hr6, hn6, hB6⟩
       have HE6 := Lib.hid (HE5.out.trans (hB6.mono HE5.out.size))
       have HB6 := Lib.hid (HB5.out.below hB6 HB5.out.lt)
       have HR56 := Lib.hid (HR5.out.below hB6)
       have HR6 := Lib.hid hr6
       clear hr6 hB6 hld5)
    | (go_at_call 13; (with_reducible refine (equal_any A5 A6 n5 n6 c5 c6 M M _ (by exact HR56.out) (by exact HR6.out) (by omega) (by omega)).mono ?_); rintro e w7 ⟨rfl, q7, rfl⟩
       have HE7 := Lib.hid (below_drewN HE6.out q7)
       have HB7 := Lib.hid (HB6.out.drewN q7))
    | (at_builtin; refine wpList_app rfl (.tmp 49) (.tmp 50) 48 rfl w6.heap.size 47 49 72 Try.underlying48 eSt (.slice (some ⟨w6.heap.size, 0, none⟩) 0 0) 0 [] (by rfl) (by exact own_of_blk (base := w6.heap.size) (cs := []) (Blk.new' (by simp) rfl) (Nat.le_refl _) 0 0 49 (by omega) (by simp) (by omega)) D q r (l.flatMap StD.cells) (by rfl) (by exact HLR.out.bel (HE7.out.alloc HE7.out.size _) (Nat.le_refl _)) (cells_one l) (by omega) (by omega) (by simp) ?_
       intro A8 c8 w8 hown8 hc8 hg8 hat8
       simp only [Nat.zero_add, List.nil_append] at hown8 hc8
       have hgl7 := HB7.out.lt
       have HE8 := Lib.hid ((HE7.out.alloc HE7.out.size _).grown hg8 (Nat.le_trans HE7.out.size (by simp)) (fun k hk => by simp [Value.ownBlock] at hk; have := HE7.out.size; simp at this; omega))
       have HB8 := Lib.hid ((HB7.out.alloc _).grown hg8 (by simp [Value.ownBlock]; simp at hgl7; omega))
       have HO8 := Lib.hid hown8
       have hs68 : w6.heap.size ≤ w8.heap.size := (by have := hg8.size; simp at this; omega)
       have hld8 := HLD16.out _ _ HB8.out
       clear hown8 hg8 hat8)
    | (go_at_call 18; (with_reducible refine (HMA.out A8 c8 w8 (by exact RdS.ofOwn HO8.out)).mono ?_); rintro e w9 ⟨rfl, hB9⟩
       have HE9 := Lib.hid (HE8.out.trans (hB9.mono HE8.out.size))
       have HB9 := Lib.hid (HB8.out.below hB9 HB8.out.lt)
       have HO9 := Lib.hid (own_below HO8.out hB9)
       have hs69 : w6.heap.size ≤ w9.heap.size := Nat.le_trans hs68 hB9.size
       have hld9 := HLD16.out _ _ HB9.out
       clear hB9 hld8)
    | (go_at_call 19; (with_reducible refine (HRM.out _ (by exact HLR.out.bel HE9.out (Nat.le_refl _))).mono ?_); rintro e w10 ⟨rfl, hB10⟩
       have HE10 := Lib.hid (HE9.out.trans (hB10.mono HE9.out.size))
       have HB10 := Lib.hid (HB9.out.below hB10 HB9.out.lt)
       have HO10 := Lib.hid (own_below HO9.out hB10)
       have HSZ : Hid (w6.heap.size ≤ w10.heap.size) := Nat.le_trans hs69 hB10.size
       clear hB10 hld9))
  have hld16 : ∀ W, Blk W w.heap.size 47 CX → (ldAt 25 (.pointer (some ⟨w.heap.size, 0, none⟩))).run Try.prog W = .ok (.agg MU.toArray) W := fun W hb => HLD16.out W _ hb
  have hldst : ∀ W, Blk W w.heap.size 47 CX → (ldAt 47 (.pointer (some ⟨w.heap.size, 0, none⟩))).run Try.prog W = .ok (.agg CX.toArray) W := fun W hb => HLDS.out W _ hb
  have hb10 := HB10.out
  have hgl10 := HB10.out.lt
  have hw6 := HE6.out.size
  have hgw6 := HB6.out.lt
  have hw10 := HE10.out.size
  have hu25 : Try.prog.underlying 25 = some (.array 16 5) := Try.underlying25
  have hi25 := HI25.out
  have HNW : Hid (RdS 49 (w10.alloc (.cells (List.foldl (fun (cs : Array Value) (x : Value × Nat) => cs.setIfInBounds x.2 x.1) z47.toArray CX.zipIdx) 47)) (some ⟨w10.heap.size, 0, none⟩) 1 CX) := by
    have hz : z47.length = 49 := rfl
    have hf := foldl_splice 0 CX 0 z47 (by rw [HS1.out, hz]; omega)
    have he : List.foldl (fun (cs : Array Value) (x : Value × Nat) => cs.setIfInBounds x.2 x.1) z47.toArray CX.zipIdx = CX.toArray := by
      simp only [Nat.zero_add] at hf
      rw [hf, splice_whole _ _ (by rw [HS1.out, hz])]
    rw [he]
    exact RdS.new w10 47 CX 49 HS1.out
  have hcl := HS1.out
  have hcx : CX.toArray.size = 49 := by rw [List.size_toArray]; exact HS1.out
  go_region_held3 (fun W' => Blk W' w.heap.size 47 CX ∧ W'.rangeAt w.heap.size 0 MU) (first | exact ⟨hk12, HRG.out _ hk12⟩ | exact ⟨hk11, HRG.out _ hk11⟩ | exact ⟨hb10.drew, HRG.out _ hb10.drew⟩ | exact ⟨(hb10.drew).alloc _, HRG.out _ ((hb10.drew).alloc _)⟩) (first
    | ((refine step_app rfl (.tmp 77) (.tmp 79) 48 rfl w6.heap.size 47 49 72 Try.underlying48 eSt (.slice A8 q c8) q (l.flatMap StD.cells) (by rfl) (by first | exact HO10.out.alloc _ | exact HO10.out.drew.alloc _) (some ⟨w10.heap.size, 0, none⟩) 1 1 CX (by rfl) (by exact HNW.out) HS2.out (by omega) (by omega) (by have := (HE6.out.trans (Below.refl _ _)).size; have := HSZ.out; simp; omega) ?_; intro A11 c11 w11 hown11 hc11 hg11 hat11; have HO11 := Lib.hid hown11; have hk11 : Blk w11 w.heap.size 47 CX := ((hb10.alloc _).drew).grown hg11 (fun e => by have := (HO10.out.lt _ e.symm).1; omega); have HE11 := Lib.hid (((HE10.out.alloc hw10 _).drew).grown hg11 (Nat.le_trans hw10 (by simp)) (fun k hk => by have := (HO10.out.lt k hk).1; omega)); clear hown11 hg11 hat11))
    | (go_at_call 18; (with_reducible refine (HM2.out A11 c11 w11 (by exact RdS.ofOwn HO11.out)).mono ?_); rintro e w12 ⟨rfl, hB12⟩
       have hk12 : Blk w12 w.heap.size 47 CX := hk11.below hB12 hk11.lt
       have HE12 := Lib.hid (HE11.out.trans (hB12.mono HE11.out.size))
       clear hB12))
  go_wp2_with fail
  go_ret
  exact ⟨by simp, HE12.out⟩


theorem walk (mark own : List UInt8) (A : Option Addr) (m c : Nat) (ks : List (List UInt8)) (B : Option Addr) (n d : Nat) (body : List UInt8) (D : Option Addr) (q r : Nat) (l : List StD) (w : World)
    (h1 : mark.length = 16) (h2 : own.length = 32) (hp : RdS 32 w A m (ks.flatMap u8s)) (hkl : ks.length = m) (hk : ∀ k ∈ ks, k.length = 32) (hmc : m ≤ c)
    (hb : Rd w B n (u8s body)) (hd : n ≤ d) (hd2 : d ≤ 140737488351232) (hl : RdS 49 w D q (l.flatMap StD.cells)) (hll : l.length = q) (hs : ∀ s ∈ l, s.ok) (hqr : q ≤ r) (hr2 : r * 72 ≤ 140737488351232) :
    Calls Try.prog 4 #[.agg (stC mark own A m c).toArray, .slice B n d, .slice D q r] w fun e w' => e = .returned (.bool true) ∧ Below w.heap.size w w' := by
  by_cases h6 : 6 < m
  · cases hmr : mR l mark with
    | some k => exact walk_cs mark own A m c ks B n d body D q r l w h1 h2 hp hkl hk hmc hb hd hd2 hl hll hs hqr hr2 h6 k hmr
    | none => exact walk_cn mark own A m c ks B n d body D q r l w h1 h2 hp hkl hk hmc hb hd hd2 hl hll hs hqr hr2 h6 hmr
  · cases hmr : mR l mark with
    | some k => exact walk_us mark own A m c ks B n d body D q r l w h1 h2 hp hkl hk hmc hb hd hd2 hl hll hs hqr hr2 (by omega) k hmr
    | none => exact walk_un mark own A m c ks B n d body D q r l w h1 h2 hp hkl hk hmc hb hd hd2 hl hll hs hqr hr2 (by omega) hmr

end Go.Proofs.Ytgkhglnfbhdkeaa.surbDecodes
