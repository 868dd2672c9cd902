/- HeaderKeeps' walk. -/
import Derived.Test.YtgkhglnfbhdkeaaMke
import Derived.Test.YtgkhglnfbhdkeaaSeq
import Derived.Test.YtgkhglnfbhdkeaaKep
import Derived.Test.YtgkhglnfbhdkeaaAwk13
namespace Go.Proofs.Ytgkhglnfbhdkeaa.headerKeeps
open Go.RowKit
attribute [local go_sem ↓] ldq_34 ldq_69 ldq_72 neq_69

theorem rds_own {w : World} {base n c sz : Nat} {e : TypeId} {A : Option Addr} {xs : List Value} (h : w.ownsRow base e sz (.slice A n c) n xs) : RdS sz w A n xs := by
  refine ⟨h.1, fun hn => ?_⟩
  rcases h.2 with ⟨_, h0⟩ | ⟨g, cap, cur, hv, _, hg, hnc, _, hcs, htake⟩
  · omega
  · injection hv with hA
    subst hA
    refine ⟨g, 0, rfl, (Array.getElem?_eq_some_iff.1 hg).1, fun j u hu => ?_⟩
    rw [cell_of_row w g (0 + j) cur e (0, 0) hg, Nat.zero_add]
    rw [← htake, List.getElem?_take] at hu
    split at hu
    · simpa using hu
    · cases hu
theorem apart5 {base : Nat} {w0 w : World} (hb : Below base w0 w) (hi : base ≤ w.heap.size) {A0 A1 A2 A3 A4 : Option Addr} {n0 n1 n2 n3 n4 c0 c1 c2 c3 c4 : Nat} {x0 x1 x2 x3 x4 : List UInt8} {a1 a2 a3 a4 a5 : Nat}
    (h0 : w.ownsRow base 5 1 (.slice A0 n0 c0) n0 (u8s x0)) (h1 : w.ownsRow base 5 1 (.slice A1 n1 c1) n1 (u8s x1)) (h2 : w.ownsRow base 5 1 (.slice A2 n2 c2) n2 (u8s x2)) (h3 : w.ownsRow base 5 1 (.slice A3 n3 c3) n3 (u8s x3)) (h4 : w.ownsRow base 5 1 (.slice A4 n4 c4) n4 (u8s x4))
    (b0 : ∀ g, Value.ownBlock (.slice A0 n0 c0) = some g → g < a1) (b1 : ∀ g, Value.ownBlock (.slice A1 n1 c1) = some g → a1 ≤ g ∧ g < a2) (b2 : ∀ g, Value.ownBlock (.slice A2 n2 c2) = some g → a1 ≤ g ∧ g < a2) (b12 : ∀ g, Value.ownBlock (.slice A1 n1 c1) = some g → Value.ownBlock (.slice A2 n2 c2) = some g → False)
    (b3 : ∀ g, Value.ownBlock (.slice A3 n3 c3) = some g → a3 ≤ g ∧ g < a4) (b4 : ∀ g, Value.ownBlock (.slice A4 n4 c4) = some g → a4 ≤ g ∧ g < a5) (ha : a1 ≤ a2 ∧ a2 ≤ a3 ∧ a3 ≤ a4) (hn : n0 ≤ 140737488355000 ∧ n1 ≤ 140737488355000 ∧ n2 ≤ 140737488355000 ∧ n3 ≤ 140737488355000 ∧ n4 ≤ 140737488355000) :
    Calls Try.prog 32 #[.slice (some ⟨w.heap.size, 0, none⟩) 5 5] (w.alloc (.cells #[.slice A0 n0 c0, .slice A1 n1 c1, .slice A2 n2 c2, .slice A3 n3 c3, .slice A4 n4 c4] 22)) fun e w' => e = .returned (.bool true) ∧ Below base w0 w' := by
  have hB := (Below.refl w.heap.size w).alloc (Nat.le_refl _) (.cells #[.slice A0 n0 c0, .slice A1 n1 c1, .slice A2 n2 c2, .slice A3 n3 c3, .slice A4 n4 c4] 22)
  have hne : ∀ {A : Option Addr} {n c : Nat} {x : List UInt8}, w.ownsRow base 5 1 (.slice A n c) n (u8s x) → ∀ g, Value.ownBlock (.slice A n c) = some g → g ≠ w.heap.size := fun h g hg => by have := (h.lt g hg).2; omega
  obtain ⟨O, hst⟩ := ST.make (k := 5) (ns := fun i => match i with | 0 => n0 | 1 => n1 | 2 => n2 | 3 => n3 | _ => n4) (vs := [.slice A0 n0 c0, .slice A1 n1 c1, .slice A2 n2 c2, .slice A3 n3 c3, .slice A4 n4 c4]) (hb.alloc hi (.cells #[.slice A0 n0 c0, .slice A1 n1 c1, .slice A2 n2 c2, .slice A3 n3 c3, .slice A4 n4 c4] 22)) (Nat.le_trans hi hB.size) (Blk.new w _ _)
    (fun i hi5 => by
      rcases (show i = 0 ∨ i = 1 ∨ i = 2 ∨ i = 3 ∨ i = 4 by omega) with rfl | rfl | rfl | rfl | rfl
      · exact ⟨A0, c0, x0, rfl, own_below h0 hB, hne h0⟩
      · exact ⟨A1, c1, x1, rfl, own_below h1 hB, hne h1⟩
      · exact ⟨A2, c2, x2, rfl, own_below h2 hB, hne h2⟩
      · exact ⟨A3, c3, x3, rfl, own_below h3 hB, hne h3⟩
      · exact ⟨A4, c4, x4, rfl, own_below h4 hB, hne h4⟩)
    (fun i j g A c A' c' hi5 hj5 e e' hg hg' => by
      have key : ∀ i, i < 5 → ∀ A c, ([.slice A0 n0 c0, .slice A1 n1 c1, .slice A2 n2 c2, .slice A3 n3 c3, .slice A4 n4 c4] : List Value)[i]? = some (.slice A ((fun i => match i with | 0 => n0 | 1 => n1 | 2 => n2 | 3 => n3 | _ => n4) i) c) → Value.ownBlock (.slice A ((fun i => match i with | 0 => n0 | 1 => n1 | 2 => n2 | 3 => n3 | _ => n4) i) c) = some g →
          (i = 0 ∧ g < a1) ∨ (i = 1 ∧ a1 ≤ g ∧ g < a2 ∧ Value.ownBlock (.slice A1 n1 c1) = some g) ∨ (i = 2 ∧ a1 ≤ g ∧ g < a2 ∧ Value.ownBlock (.slice A2 n2 c2) = some g) ∨ (i = 3 ∧ a3 ≤ g ∧ g < a4) ∨ (i = 4 ∧ a4 ≤ g ∧ g < a5) := fun i hi A c e hg => by
        rcases (show i = 0 ∨ i = 1 ∨ i = 2 ∨ i = 3 ∨ i = 4 by omega) with rfl | rfl | rfl | rfl | rfl <;> (injection e with e; rw [← e] at hg)
        · exact .inl ⟨rfl, b0 g hg⟩
        · exact .inr (.inl ⟨rfl, (b1 g hg).1, (b1 g hg).2, hg⟩)
        · exact .inr (.inr (.inl ⟨rfl, (b2 g hg).1, (b2 g hg).2, hg⟩))
        · exact .inr (.inr (.inr (.inl ⟨rfl, b3 g hg⟩)))
        · exact .inr (.inr (.inr (.inr ⟨rfl, b4 g hg⟩)))
      rcases key i hi5 A c e hg with ⟨rfl, h⟩ | ⟨rfl, h, h', k1⟩ | ⟨rfl, h, h', k1⟩ | ⟨rfl, h, h'⟩ | ⟨rfl, h, h'⟩ <;> rcases key j hj5 A' c' e' hg' with ⟨rfl, q⟩ | ⟨rfl, q, q', k2⟩ | ⟨rfl, q, q', k2⟩ | ⟨rfl, q, q'⟩ | ⟨rfl, q, q'⟩ <;>
        first | rfl | (exfalso; omega) | exact (b12 g k1 k2).elim | exact (b12 g k2 k1).elim)
  exact apart_any base w0 w.heap.size 5 5 _ _ _ O hst rfl (by omega) (by omega) (fun i hi5 => by
    rcases (show i = 0 ∨ i = 1 ∨ i = 2 ∨ i = 3 ∨ i = 4 by omega) with rfl | rfl | rfl | rfl | rfl
    · exact hn.1
    · exact hn.2.1
    · exact hn.2.2.1
    · exact hn.2.2.2.1
    · exact hn.2.2.2.2)
theorem hp_all (A : Option Addr) (n c : Nat) (l : List UInt8) (w : World) (h : Rd w A n (u8s l)) (hc : n ≤ c) :
    ∃ (P : List UInt8) (E : Int), P.length = 288 ∧ Calls Try.prog 21 #[.slice A n c] w fun e w' => e = .returned (.tuple #[.agg (u8s P).toArray, .int .i64 E]) ∧ Below w.heap.size w w' := by
  by_cases hn : n = 288
  · subst hn
    exact ⟨l, 0, h.len, hparse_yes A c l w h hc⟩
  · have h5 := hparse_no A n c w hn
    rw [zc34'] at h5
    exact ⟨z288, 2, z288_length, h5⟩

set_option maxRecDepth 100000 in
set_option maxHeartbeats 8000000 in
theorem walk (A : Option Addr) (n c : Nat) (l : List UInt8) (B : Option Addr) (m d : Nat) (ss : List Sp) (w : World) (h : Rd w A n (u8s l)) (hn : n ≤ c) (hc : c ≤ 140737488351232) (h2 : RdS 192 w B m (ss.flatMap Sp.cells)) (hs : ∀ s ∈ ss, s.ok) (hl : ss.length = m) (hm : m * 192 ≤ 140737488355328) :
    Calls Try.prog 7 #[.slice A n c, .slice B m d] w fun e w' => e = .returned (.bool true) ∧ Below w.heap.size w w' := by
  have HA := Lib.hid h
  have HB := Lib.hid h2
  have HS := Lib.hid hs
  have HL := Lib.hid hl
  have hll := h.len
  have HLN := Lib.hid hll
  clear h h2 hs hl hll
  go_enter Try.func7, Try.ntmps7
  go_upto_region 4 with (first
    | (go_at_call 20; refine (awake13 _).mono ?_; rintro e w1 ⟨rfl, hB1⟩; have HE1 := Lib.hid hB1; clear hB1)
    | (go_at_call 29; refine (spare_any A n c l _ (HA.out.below HE1.out) (by omega)).mono ?_; rintro e w2 ⟨rfl, hb2, hB2⟩; have HF2 := Lib.hid hb2; have hs1 := HE1.out.size; have HE2 := Lib.hid (HE1.out.trans (hB2.mono hs1)); clear hb2 hB2))
  have hg2 := HF2.out.lt
  have HX2 : Hid (Rd w2 (some ⟨w1.heap.size, 0, none⟩) n (u8s l)) := by
    have h5 := HF2.out.rd 0 n (by rw [u8s_length, List.length_append, spr_len, HLN.out]; omega)
    rw [List.drop_zero, u8s_take, List.take_left' HLN.out] at h5
    exact h5
  obtain ⟨P, E, hPl, hPc⟩ := hp_all (some ⟨w1.heap.size, 0, none⟩) n (n + 40) l w2 HX2.out (by omega)
  have HPC := Lib.hid hPc
  have HPL := Lib.hid hPl
  have HUL : Hid ((u8s P).length = 288) := by show _ = _; rw [u8s_length, hPl]
  clear hPc hPl
  go_upto_region 5 with (first
    | (go_at_call 21; (with_reducible refine HPC.out.mono ?_); rintro e w3 ⟨rfl, hB3⟩; have HF3 := Lib.hid (HF2.out.below hB3 HF2.out.lt); have hs2 := HE2.out.size; have HE3 := Lib.hid (HE2.out.trans (hB3.mono hs2)); clear hB3)
    | (refine wpList_store_all rfl 28 (.tmp 7) (.tmp 27) rfl w3.heap.size (u8s P) (by rfl) (by rfl) 28 (u8s z288) (by exact Blk.new' rfl zc34') (by rw [HUL.out]; exact hd34) (u8s_one _) (by rw [HUL.out, z288_len]) ?_; intro w4 hb4 ho4; have hs3 := HE3.out.size; have hs4a := Nat.le_of_eq ho4.size.symm; simp at hs4a; have hg3 := HF3.out.lt; have HE4 := Lib.hid (ho4.below (HE3.out.alloc hs3 _) hs3 (Nat.le_trans hs3 (by simp))); have HF4 := Lib.hid (ho4.blk (HF3.out.alloc _) (by omega)); have HH4 := Lib.hid hb4; clear hb4 ho4))
  have hld : ∀ W, Blk W w3.heap.size 28 (u8s P) → (ldAt 28 (.pointer (some ⟨w3.heap.size, 0, none⟩))).run Try.prog W = .ok (.agg (u8s P).toArray) W := fun W hb => hd_ld hb HUL.out
  go_cut [9, 10] (fun v9 v10 wx => ∃ A1 c1 A2 c2, v9 = .slice A1 288 c1 ∧ v10 = .slice A2 288 c2 ∧ wx.ownsRow w4.heap.size 5 1 (.slice A1 288 c1) 288 (u8s P) ∧ wx.ownsRow w4.heap.size 5 1 (.slice A2 288 c2) 288 (u8s P) ∧ (∀ g, Value.ownBlock (.slice A1 288 c1) = some g → Value.ownBlock (.slice A2 288 c2) = some g → False) ∧ Below w4.heap.size w4 wx)
  case first =>
    go_region_held3 (fun W' => Blk W' w3.heap.size 28 (u8s P)) (first | assumption | exact HH4.out.drew) (first
      | (go_at_call 22; (refine (hbytes_any P w5 HPL.out).mono ?_); rintro e w6 ⟨A6, c6, rfl, hc6, hown6, hB6⟩; have hk6 : Blk w6 w3.heap.size 28 (u8s P) := hk5.below hB6 hk5.lt)
      | (go_at_call 22; (refine (hbytes_any P w4.drew HPL.out).mono ?_); rintro e w5 ⟨A5, c5, rfl, hc5, hown5, hB5⟩; have hk5 : Blk w5 w3.heap.size 28 (u8s P) := HH4.out.drew.below hB5 HH4.out.lt))
    all_goals (try go_wp2_with fail)
    all_goals go_meet
    all_goals exact ⟨A5, c5, A6, c6, rfl, rfl, own_below hown5 hB6, own_mono hown6 hB5.size, fun g h1 h2 => by have := (hown5.lt g h1).2; have := (hown6.lt g h2).1; omega, (Below.refl _ w4).drew.trans (hB5.trans (hB6.mono hB5.size))⟩
  case rest =>
    obtain ⟨A1, c1, A2, c2, rfl, rfl, ho1, ho2, hd12, hBc⟩ := hcut
    have hs4 := HE4.out.size
    have HEc := Lib.hid (HE4.out.trans (hBc.mono hs4))
    have HFc := Lib.hid (HF4.out.below hBc HF4.out.lt)
    have HO1 := Lib.hid ho1
    have HO2 := Lib.hid ho2
    have HD12 := Lib.hid hd12
    have hsc := hBc.size
    clear hld ho1 ho2 hd12 hBc
    go_wp2_with (first
      | (go_at_call 24; (refine (steps_any B m d ss _ (HB.out.bel HEc.out (Nat.le_refl _)) HS.out HL.out hm).mono ?_); rintro e w7 ⟨A7, c7, rfl, hc7, ho7, hB7⟩
         have HO7 := Lib.hid ho7
         have HB7 := Lib.hid hB7
         have hs7 := hB7.size
         clear ho7 hB7)
      | (go_at_call 30; (refine (filler_all A7 m c7 ss w8 (RdS.bel (rds_own HO7.out) HB8.out (Nat.le_refl _)) HS.out HL.out (by omega) hc7).mono ?_); rintro e w9 ⟨A9, c9, rfl, hc9, ho9, hB9⟩
         have HO9 := Lib.hid ho9
         have HB9 := Lib.hid hB9
         have hs9 := hB9.size
         clear ho9 hB9)
      | (go_at_call 30; (refine (filler_all A7 m c7 ss w7 (rds_own HO7.out) HS.out HL.out (by omega) hc7).mono ?_); rintro e w8 ⟨A8, c8, rfl, hc8, ho8, hB8⟩
         have HO8 := Lib.hid ho8
         have HB8 := Lib.hid hB8
         have hs8 := hB8.size
         clear ho8 hB8))
    have HE9 := Lib.hid (HEc.out.trans ((HB7.out.trans (HB8.out.mono hs7)).trans (HB9.out.mono (Nat.le_trans hs7 hs8)) |>.mono HEc.out.size))
    have HR7 : Hid (RdS 192 w9 A7 m (ss.flatMap Sp.cells)) := RdS.bel (RdS.bel (rds_own HO7.out) HB8.out (Nat.le_refl _)) HB9.out (Nat.le_refl _)
    have HRB : Hid (RdS 192 w9 B m (ss.flatMap Sp.cells)) := HB.out.bel HE9.out (Nat.le_refl _)
    go_loopg [47] m (fun kk q wr => ∃ i : Nat, i ≤ m ∧ kk = m - i ∧ q = .int .i64 (i : Int) ∧ Below w9.heap.size w9 wr)
    case atStart => exact ⟨0, by omega, rfl, rfl, Below.refl _ _⟩
    case round =>
      obtain ⟨i, hi, hgk, rfl, hBr⟩ := hrel
      have HGK := Lib.hid hgk
      have HBR := Lib.hid hBr
      clear hgk hBr
      by_cases hlt : i < m
      · have hlt2 : (i : Int) < (m : Int) := by omega
        obtain ⟨s, hsi⟩ : ∃ s, ss[i]? = some s := ⟨_, List.getElem?_eq_getElem (by rw [HL.out]; omega)⟩
        have hok := HS.out s (List.mem_of_getElem? hsi)
        obtain ⟨b1, o1, rfl, hb1, hr1⟩ := sp_range (HR7.out.bel HBR.out (Nat.le_refl _)) HS.out hsi (by omega)
        obtain ⟨b2, o2, rfl, hb2, hr2⟩ := sp_range (HRB.out.bel HBR.out (Nat.le_refl _)) HS.out hsi (by omega)
        have hsl := Sp.cells_len hok
        have hne := fun W => ne69 s hok W
        have HST := Lib.hid (fun W => step_any s hok W)
        generalize s.cells = C at *
        have hl1 : ∀ W, W.rangeAt b1 (o1 + i * 192) C → (ldAt 69 (.pointer (some ⟨b1, o1 + i * 192, none⟩))).run Try.prog W = .ok (.agg C.toArray) W := fun W hr => run_loadAt_mid W b1 (o1 + i * 192) 69 C _ hr Try.underlying69 rfl (by rw [hsl]; exact hd69)
        have hl2 : ∀ W, W.rangeAt b2 (o2 + i * 192) C → (ldAt 72 (.pointer (some ⟨b2, o2 + i * 192, none⟩))).run Try.prog W = .ok (.agg C.toArray) W := fun W hr => run_loadAt_mid W b2 (o2 + i * 192) 72 C _ hr Try.underlying72 rfl (by rw [hsl]; exact hd72)
        have HKR : Hid (∀ W, Below wr.heap.size wr W → W.rangeAt b1 (o1 + i * 192) C ∧ W.rangeAt b2 (o2 + i * 192) C) := fun W hB => ⟨fun j v hv => (hB.cell (p := ⟨b1, o1 + i * 192 + j, none⟩) hb1).trans (hr1 j v hv), fun j v hv => (hB.cell (p := ⟨b2, o2 + i * 192 + j, none⟩) hb2).trans (hr2 j v hv)⟩
        clear hsi hok hr1 hr2 hsl
        go_upto_region 12 with fail
        go_region_held3 (fun W' => W'.rangeAt b1 (o1 + i * 192) C ∧ W'.rangeAt b2 (o2 + i * 192) C) (first | exact HKR.out _ HBS | exact HKR.out _ (Below.refl _ wr).drew) ((go_at_call 26; (refine (HST.out _).mono ?_); rintro e w10 ⟨rfl, hB10⟩; have HBS : Below wr.heap.size wr w10 := (Below.refl _ wr).drew.trans hB10))
        have HB11 := Lib.hid (HBR.out.trans (HBS.mono HBR.out.size))
        clear hl1 hl2
        go_wp2_with fail
        go_roundg (m - (i + 1))
        case measure => have := HGK.out; omega
        case rel => exact ⟨i + 1, by omega, rfl, by go_num, HB11.out⟩
      · obtain rfl : i = m := by omega
        have hlt2 : ¬ (i : Int) < (i : Int) := by omega
        have hsr := HBR.out.size
        have hB89 : Below w8.heap.size w8 wr := HB9.out.trans (HBR.out.mono hs9)
        have hBcr : Below wc.heap.size wc wr := (HB7.out.trans (HB8.out.mono hs7)).trans (hB89.mono (Nat.le_trans hs7 hs8))
        have HER := Lib.hid (HEc.out.trans (hBcr.mono HEc.out.size))
        have hbF := HFc.out.below hBcr HFc.out.lt
        have hg4 := HF4.out.lt
        have hs1b := HE1.out.size
        have o0 : wr.ownsRow w.heap.size 5 1 (.slice (some ⟨w1.heap.size, 0, none⟩) (n + 40) (n + 40)) (n + 40) (u8s (l ++ spr n 40)) := by
          have h5 := own_of_blk hbF hs1b (n + 40) (n + 40) 1 (Nat.le_refl _) (by rw [u8s_length, List.length_append, spr_len, HLN.out, Nat.mul_one]) (by omega)
          rwa [List.take_of_length_le (by rw [u8s_length, List.length_append, spr_len, HLN.out]; omega)] at h5
        have hsr9 := HER.out.size
        have HAP : Hid (∀ q, Calls Try.prog 32 #[.slice (some ⟨wr.heap.size, 0, none⟩) 5 5] ((wr.drewN q).alloc (.cells #[.slice (some ⟨w1.heap.size, 0, none⟩) (n + 40) (n + 40), .slice A1 288 c1, .slice A2 288 c2, .slice A8 (filN i) c8, .slice A9 (filN i) c9] 22)) fun e w' => e = .returned (.bool true) ∧ Below w.heap.size w w') := fun q =>
          apart5 (w := wr.drewN q) (a1 := w4.heap.size) (a2 := wc.heap.size) (a3 := w7.heap.size) (a4 := w8.heap.size) (a5 := w9.heap.size) (below_drewN HER.out q) hsr9 o0 (own_mono (own_below HO1.out (below_drewN hBcr q)) hs4) (own_mono (own_below HO2.out (below_drewN hBcr q)) hs4) (own_mono (own_below HO8.out (below_drewN hB89 q)) (by omega)) (own_mono (own_below HO9.out (below_drewN HBR.out q)) (by omega))
            (fun g hg => by have : w1.heap.size = g := (by simpa [Value.ownBlock] using hg); omega) (fun g hg => HO1.out.lt g hg) (fun g hg => HO2.out.lt g hg) HD12.out (fun g hg => HO8.out.lt g hg) (fun g hg => HO9.out.lt g hg) ⟨by omega, by omega, by omega⟩ ⟨by omega, by omega, by omega, by have := filN_le i; omega, by have := filN_le i; omega⟩
        have HKE := Lib.hid (kept_any (some ⟨w1.heap.size, 0, none⟩) A n (n + 40) c l wr (Rd.of_own o0) (HA.out.below HER.out) (by omega))
        have HEQ : Hid (∀ q, Calls Try.prog 13 #[.slice A8 (filN i) c8, .slice A9 (filN i) c9] (wr.drewN q) fun e w' => e = .returned (.bool true) ∧ ∃ q2, w' = (wr.drewN q).drewN q2) := fun q => by
          have h5 := equal_any A8 A9 (filN i) (filN i) c8 c9 (filB ss i) (filB ss i) (wr.drewN q) ((Rd.of_own (own_below HO8.out hB89)).drewN q) ((Rd.of_own (own_below HO9.out HBR.out)).drewN q) (by have := filN_le i; omega) (by have := filN_le i; omega)
          rwa [decide_eq_true rfl] at h5
        clear hB89 hBcr hbF o0
        go_wp2_with (first
          | (go_at_call 31; (with_reducible refine HKE.out.mono ?_); rintro e w11 ⟨rfl, q1, rfl⟩)
          | (go_at_call 13; (with_reducible refine (HEQ.out _).mono ?_); rintro e w12 ⟨rfl, q2, rfl⟩)
          | (go_at_call 32; (with_reducible refine (HAP.out _).mono ?_); rintro e w13 ⟨rfl, hB13⟩))
        go_ret
        exact ⟨rfl, hB13⟩
end Go.Proofs.Ytgkhglnfbhdkeaa.headerKeeps
