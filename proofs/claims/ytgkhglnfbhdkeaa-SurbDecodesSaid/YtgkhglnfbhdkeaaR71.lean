/- shallotref07: fits, Rounds, Seal, Open. -/
import Derived.Test.YtgkhglnfbhdkeaaRfF
import Derived.Test.YtgkhglnfbhdkeaaRfC
namespace Go.Proofs.Ytgkhglnfbhdkeaa
open Go.RowKit

theorem xor_comm (a b : List UInt8) : Ch.xor a b = Ch.xor b a := by
  unfold Ch.xor
  induction a generalizing b with
  | nil => cases b <;> rfl
  | cons x a ih =>
    cases b with
    | nil => rfl
    | cons y b => rw [List.zipWith_cons_cons, List.zipWith_cons_cons, ih, UInt8.xor_comm]
theorem turn_odd' (k X Y : List UInt8) (r : Nat) (hX : X.length = 32) (hr : r % 2 = 1) : Wd.turn k (X ++ Y) r = X ++ Ch.xor Y (Ch.piece (Ch.xor X k) 0 Y.length) := by
  unfold Wd.turn
  rw [if_neg (by omega), List.take_left' hX, List.drop_left' hX, xor_comm k X]
theorem turn_even' (k X Y : List UInt8) (r : Nat) (hX : X.length = 32) (h1 : 1 ≤ r) (h4 : r ≤ 4) (hr : ¬ r % 2 = 1) : Wd.turn k (X ++ Y) r = Ch.xor X (Mc.tag k Y) ++ Y := by
  unfold Wd.turn
  rw [if_pos (by omega), List.take_left' hX, List.drop_left' hX]
theorem label_at (q : Nat) (hq : q < 4) : ∃ S : ByteArray, (strs labels4)[q]? = some (.string S) ∧ S.data.toList = Wd.label (q + 1) ∧ S.size ≤ 1000 := by
  obtain rfl | rfl | rfl | rfl : q = 0 ∨ q = 1 ∨ q = 2 ∨ q = 3 := by omega
  all_goals exact ⟨_, rfl, rfl, by decide⟩
theorem rxor_new (A1 A2 : Option Addr) (n c1 c2 : Nat) (x y : List UInt8) (W : World) (h1 : Rd W A1 n (u8s x)) (h2 : Rd W A2 n (u8s y)) (hc1 : n ≤ c1) (hc2 : n ≤ c2) (hn : n ≤ 1000000) :
    Calls Try.prog 80 #[.slice (some ⟨W.heap.size, 0, none⟩) 2 2] (W.alloc (.cells #[.slice A1 n c1, .slice A2 n c2] 22)) fun e w' => ∃ A' c', e = .returned (.tuple #[.slice A' n c', .int .i64 0]) ∧ n ≤ c' ∧ w'.ownsRow W.heap.size 5 1 (.slice A' n c') n (u8s (Ch.xor x y)) ∧ Below W.heap.size W w' := by
  refine (rxor_any (some ⟨W.heap.size, 0, none⟩) 2 n x y _ (RdB.of_blk (ls := [x, y]) (Blk.new' (w := W) (cs := [.slice A1 n c1, .slice A2 n c2]) (t := 22) rfl rfl) ⟨.of_rd (h1.alloc _) hc1, .of_rd (h2.alloc _) hc2, trivial⟩) h1.len h2.len hn).mono ?_
  rintro e w' ⟨A', c', rfl, hc', hown, hB⟩
  exact ⟨A', c', rfl, hc', own_mono hown (by simp), ((Below.refl _ _).alloc (Nat.le_refl _) _).trans (hB.mono (by simp))⟩
theorem rfits_yes (A B : Option Addr) (c d N : Nat) (w : World) (h1 : 32 ≤ N) (h2 : N ≤ 4096) : Calls Try.prog 78 #[.slice A 32 c, .slice B N d] w fun e w' => e = .returned (.bool true) ∧ w = w' := by
  have e1 : (32 : Int) ≤ (N : Int) := by omega
  have e2 : (N : Int) ≤ 4096 := by omega
  go_enter Try.func78, Try.ntmps78
  go_wp2
  go_ret
  exact ⟨rfl, rfl⟩
theorem hd24' : (Try.prog.info? 24).map (·.size) = some 32 := by kernel_rfl

set_option maxRecDepth 100000 in
set_option maxHeartbeats 4000000 in
theorem rrounds_any (A B C : Option Addr) (c d N m cr : Nat) (key b : List UInt8) (rs : List Nat) (w : World) (h : Rd w A 32 (u8s key)) (h2 : Rd w B N (u8s b)) (hd : N ≤ d) (h3 : Rd w C m (natsOf rs)) (h32 : 32 < N) (hN : N ≤ 4096) (hm : m ≤ 1000) (hrs : ∀ r ∈ rs, 1 ≤ r ∧ r ≤ 4) :
    Calls Try.prog 61 #[.slice A 32 c, .slice B N d, .slice C m cr] w fun e w' => ∃ g c', e = .returned (.tuple #[.slice (some ⟨g, 0, none⟩) N c', .int .i64 0]) ∧ N ≤ c' ∧ w.heap.size ≤ g ∧ Rd w' (some ⟨g, 0, none⟩) N (u8s (Wd.rounds key b rs)) ∧ Below w.heap.size w w' := by
  have hrl : rs.length = m := by have := h3.1; simpa [natsOf] using this
  have hbl : b.length = N := h2.len
  obtain ⟨NR, hNR⟩ : ∃ NR, N = NR + 32 := ⟨N - 32, by omega⟩
  have hNR0 : 0 < NR := by omega
  have hNR1 : NR ≤ 4096 := by omega
  have HRL := Lib.hid hrl
  have HRS := Lib.hid hrs
  have HR3 := Lib.hid h3
  have HBL := Lib.hid hbl
  obtain ⟨bb, bo, rfl, hbb, _⟩ := h2.2 (by omega)
  have hlo : ∀ W, Rd W (some ⟨bb, bo, none⟩) N (u8s b) → Rd W (some ⟨bb, bo, none⟩) 32 (u8s (b.take 32)) := fun W hr => by
    have h5 := rd_mid hr 0 32 (by omega)
    rw [List.drop_zero] at h5
    exact h5
  have hhi : ∀ W, Rd W (some ⟨bb, bo, none⟩) N (u8s b) → Rd W (some ⟨bb, bo + 32, none⟩) NR (u8s (b.drop 32)) := fun W hr => by
    have h5 := rd_mid hr 32 NR (by omega)
    rw [List.take_of_length_le (by rw [List.length_drop]; omega)] at h5
    exact h5
  have HCL : Hid (∀ W, Rd W (some ⟨bb, bo, none⟩) N (u8s b) → Calls Try.prog 11 #[.slice (some ⟨bb, bo, none⟩) 32 d] W fun e w' => ∃ A' c', e = .returned (.slice A' 32 c') ∧ 32 ≤ c' ∧ w'.ownsRow W.heap.size 5 1 (.slice A' 32 c') 32 (u8s (b.take 32)) ∧ Below W.heap.size W w') := fun W hr => copy_any _ 32 d _ W (hlo W hr) (by omega)
  have HCH : Hid (∀ W, Rd W (some ⟨bb, bo, none⟩) N (u8s b) → Calls Try.prog 11 #[.slice (some ⟨bb, bo + 32, none⟩) NR (d - 32)] W fun e w' => ∃ A' c', e = .returned (.slice A' NR c') ∧ NR ≤ c' ∧ w'.ownsRow W.heap.size 5 1 (.slice A' NR c') NR (u8s (b.drop 32)) ∧ Below W.heap.size W w') := fun W hr => copy_any _ NR (d - 32) _ W (hhi W hr) (by omega)
  have HF := Lib.hid (fun W => rfits_yes A (some ⟨bb, bo, none⟩) c d N W (by omega) hN)
  have HR2 := Lib.hid h2
  have HRK := Lib.hid h
  have n32 : ¬ d = 32 := by omega
  have e32 : (32 : Int) ≤ (d : Int) := by omega
  have e32b : (32 : Int) ≤ (N : Int) := by omega
  have eN : ((N : Int) - 32) = (NR : Int) := by omega
  have eNn : N - 32 = NR := by omega
  have HL4 : Hid ((w.alloc (.cells #[.string ⟨#[119, 105, 100, 101, 49]⟩, .string ⟨#[119, 105, 100, 101, 50]⟩, .string ⟨#[119, 105, 100, 101, 51]⟩, .string ⟨#[119, 105, 100, 101, 52]⟩] 133)).heap.size = w.heap.size + 1) := by simp [Hid]
  clear hrl hbl hrs h h2 h3 hlo hhi
  go_enter Try.func61, Try.ntmps61
  go_wp2_with fail
  go_loopg [8] m (fun kk q wr => ∃ i : Nat, i ≤ m ∧ kk = m - i ∧ q = .int .i64 i ∧ w = wr)
  case atStart => exact ⟨0, by omega, rfl, rfl, rfl⟩
  case round =>
    obtain ⟨i, hi, hgk, rfl, rfl⟩ := hrel
    have HGK := Lib.hid hgk
    clear hgk
    by_cases hlt : i < m
    · have hlt2 : (i : Int) < (m : Int) := by omega
      obtain ⟨r, hr⟩ : ∃ r, rs[i]? = some r := ⟨_, List.getElem?_eq_getElem (by rw [HRL.out]; exact hlt)⟩
      have hr14 := HRS.out r (List.mem_of_getElem? hr)
      obtain ⟨b1, off, u, rfl, hbl, HX, hcl⟩ := HR3.out.at_ hlt
      have hu := natsOf_get HX.out hr
      subst hu
      have hr1 : ¬ (r : Int) < 1 := by omega
      have hr2 : ¬ (4 : Int) < (r : Int) := by omega
      clear hr HX eN eNn hNR
      go_wp2_with fail
      go_roundg (m - (i + 1))
      case measure => have := HGK.out; omega
      case rel => exact ⟨i + 1, by omega, rfl, by go_num, rfl⟩
    · obtain rfl : i = m := by omega
      have hlt2 : ¬ (i : Int) < (i : Int) := by omega
      clear HGK hlt hi
      have HNR := Lib.hid hNR
      clear hNR
      go_wp2_with (first
        | (go_at_call 78; (with_reducible refine (HF.out _).mono ?_); rintro e w' ⟨rfl, rfl⟩)
        | (go_at_call 11; (with_reducible refine (HCH.out w3 (by exact HR2.out.below HE3.out)).mono ?_); rintro e w4 ⟨A4, c4, rfl, hc4, hown4, hB4⟩
           have HE4 := Lib.hid (HE3.out.trans (hB4.mono HE3.out.size))
           have HO4 := Lib.hid (own_below HO3.out hB4)
           have HL44 := Lib.hid (HL43.out.below hB4 HL43.out.lt)
           have HR4 := Lib.hid (Rd.of_own hown4)
           clear hown4 hB4)
        | (go_at_call 11; (with_reducible refine (HCL.out _ (by exact HR2.out.alloc _)).mono ?_); rintro e w3 ⟨A3, c3, rfl, hc3, hown3, hB3⟩
           have hB3' := hB3.mono (show w.heap.size ≤ _ by rw [HL4.out]; exact Nat.le_succ _)
           have HE3 := Lib.hid (((Below.refl _ w).alloc (Nat.le_refl _) _).trans hB3')
           have HL43 := Lib.hid (show Blk w3 w.heap.size 133 (strs labels4) from (Blk.new' (w := w) (g := w.heap.size) (cs := strs labels4) (t := 133) rfl rfl).below hB3 (by simp))
           have HO3 := Lib.hid (own_mono hown3 (base' := w.heap.size) (by rw [HL4.out]; exact Nat.le_succ _))
           clear hown3 hB3 hB3'))
      obtain ⟨W1, hW1⟩ : ∃ W1, W1 = w4 := ⟨_, rfl⟩
      have HTS := Lib.hid (show b = b.take 32 ++ b.drop 32 from (List.take_append_drop 32 b).symm)
      have HX32 : Hid ((b.take 32).length = 32) := by show _ = _; rw [List.length_take, HBL.out, HNR.out]; omega
      have HYN : Hid ((b.drop 32).length = NR) := by show _ = _; rw [List.length_drop, HBL.out, HNR.out]; omega
      clear hW1 eN eNn
      go_loopg [10, 11, 12] i (fun kk lv rv q wr => ∃ (j : Nat) (X Y : List UInt8), j ≤ i ∧ kk = i - j ∧ q = .int .i64 j ∧ Wd.rounds key b (rs.take j) = X ++ Y ∧ X.length = 32 ∧ Y.length = NR ∧ (∃ A1 c1, lv = .slice A1 32 c1 ∧ 32 ≤ c1 ∧ wr.ownsRow w.heap.size 5 1 (.slice A1 32 c1) 32 (u8s X)) ∧ (∃ A2 c2, rv = .slice A2 NR c2 ∧ NR ≤ c2 ∧ Rd wr A2 NR (u8s Y)) ∧ Blk wr w.heap.size 133 (strs labels4) ∧ Below w.heap.size w wr)
      case atStart => exact ⟨0, b.take 32, b.drop 32, by omega, rfl, rfl, HTS.out, HX32.out, HYN.out, ⟨A3, c3, rfl, hc3, HO4.out⟩, ⟨A4, c4, rfl, hc4, HR4.out⟩, HL44.out, HE4.out⟩
      case round =>
        clear HTS HX32 HYN HO4 HR4 HL44 HE4 HO3 HL43 HE3
        obtain ⟨j, X, Y, hj, hgk, rfl, hXY, hX, hY, ⟨A1, c1, rfl, hc1, hown⟩, ⟨A2, c2, rfl, hc2, hry⟩, hlb, hB⟩ := hrel
        have HGK := Lib.hid hgk
        clear hgk
        by_cases hlt : j < i
        · have hlt3 : (j : Int) < (i : Int) := by omega
          obtain ⟨r, hr⟩ : ∃ r, rs[j]? = some r := ⟨_, List.getElem?_eq_getElem (by rw [HRL.out]; exact hlt)⟩
          have hr14 := HRS.out r (List.mem_of_getElem? hr)
          obtain ⟨b1, off, u, rfl, hbl, HX, hcl0⟩ := HR3.out.at_ hlt
          have hu := natsOf_get HX.out hr
          subst hu
          have hcl := (hB.cell (p := ⟨b1, off + j, none⟩) hbl).trans hcl0
          have HCL0 := Lib.hid hcl0
          clear hcl0
          obtain ⟨q, hq⟩ : ∃ q, r = q + 1 := ⟨r - 1, by omega⟩
          have hqi : (r : Int) - 1 = (q : Int) := by omega
          have hq0 : (0 : Int) ≤ (q : Int) := by omega
          have hq4 : (q : Int) < 4 := by omega
          obtain ⟨S, hS1, hS2, hS3⟩ := label_at q (by omega)
          have cS := (hlb.cell q).trans hS1
          have hDV : ∀ W, Rd W A 32 (u8s key) → Calls Try.prog 79 #[.slice A 32 c, .string S] W fun e w' => e = .returned (.agg (u8s (Wd.derive key S.data.toList)).toArray) ∧ Below W.heap.size W w' := fun W hr => rderive_any A 32 c key S W hr (by omega) hS3
          rw [hS2, ← hq] at hDV
          have HDV := Lib.hid hDV
          have HDL := Lib.hid (Wd.derive_len key (Wd.label r))
          have HSN : Hid (Wd.rounds key b (rs.take (j + 1)) = Wd.turn (Wd.derive key (Wd.label r)) (X ++ Y) r) := by
            show _ = _
            rw [List.take_add_one, hr, ← hXY]
            exact Wd.rounds_snoc _ _ _ _
          obtain ⟨D, hD⟩ : ∃ D, D = Wd.derive key (Wd.label r) := ⟨_, rfl⟩
          rw [← hD] at HDV HDL HSN
          have HI2 : Hid ((Try.prog.info? 24).map (·.size) = some (u8s D).length) := by rw [u8s_length, HDL.out]; exact hd24'
          have HL2 : Hid ((u8s D).length = (u8s (List.replicate 32 0)).length) := by show _ = _; rw [u8s_length, HDL.out]; rfl
          have H1 : Hid (∀ v ∈ u8s D, v.oneCell' = true) := u8s_one _
          obtain ⟨DU, hDU⟩ : ∃ DU, DU = u8s D := ⟨_, rfl⟩
          rw [← hDU] at HDV HI2 HL2 H1
          have HDU := Lib.hid hDU
          have HXl := Lib.hid hX
          have HYl := Lib.hid hY
          have HOL := Lib.hid hown
          have HRY := Lib.hid hry
          have HLB := Lib.hid hlb
          have HBE := Lib.hid hB
          have hr1n := hr14.1
          have hr4n := hr14.2
          clear hr hD hDU hXY hX hY hown hry hlb hB HX hq hS1 hS2 hS3 hDV hr14
          by_cases hodd : r % 2 = 1
          · have hoi : (r : Int) % 2 = 1 := by omega
            have HTU := Lib.hid (turn_odd' D X Y r HXl.out hodd)
            have HPL := Lib.hid (Ch.piece_len (Ch.xor X D) 0 NR)
            rw [HYl.out] at HTU
            have HBY := Lib.hid (fun W A5 c5 (h5 : Rd W A5 32 (u8s (Ch.xor X D))) => rbytes_any A5 c5 (Ch.xor X D) NR W h5 hNR0 (by omega))
            obtain ⟨Z, hZ⟩ : ∃ Z, Z = Ch.piece (Ch.xor X D) 0 NR := ⟨_, rfl⟩
            rw [← hZ] at HTU HPL HBY
            have HYZ : Hid ((Ch.xor Y Z).length = NR) := by show _ = _; rw [Ch.xor_len _ _ (by rw [HYl.out, HPL.out]), HYl.out]
            clear hZ hodd
            go_wp2_with (first
          | (go_at_call 79; (with_reducible refine (HDV.out _ (by exact HRK.out.below HBE.out)).mono ?_); rintro e w7 ⟨rfl, hB7⟩
             have HE7 := Lib.hid (HBE.out.trans (hB7.mono HBE.out.size))
             have HL7 := Lib.hid (HLB.out.below hB7 HLB.out.lt)
             have HO7 := Lib.hid (own_below HOL.out hB7)
             have HY7 := Lib.hid (HRY.out.below hB7)
             clear hB7)
          | (refine wpList_store_all rfl 24 (.tmp 13) (.tmp 61) rfl w7.heap.size DU (by rfl) (by rfl) 24 (u8s (List.replicate 32 0)) (by exact Blk.new' rfl rfl) HI2.out H1.out HL2.out ?_
             intro w9 hb9 ho9
             have hlt7 := HL7.out.lt
             have HK9 : Hid (Rd w9 (some ⟨w7.heap.size, 0, none⟩) 32 (u8s D)) := (by have h5 := hb9; rw [HDU.out] at h5; have h6 := h5.rdAll; rw [HDL.out] at h6; exact h6)
             have hB9 : Below w7.heap.size w7 w9 := ho9.below ((Below.refl _ _).alloc (Nat.le_refl _) _) (Nat.le_refl _) (by simp)
             have HE9 := Lib.hid (HE7.out.trans (hB9.mono HE7.out.size))
             have HL9 := Lib.hid (HL7.out.below hB9 HL7.out.lt)
             have HO9 := Lib.hid (own_below HO7.out hB9)
             have HY9 := Lib.hid (HY7.out.below hB9)
             clear hb9 ho9 hB9)
          | (refine wpList_make1 rfl (.const (.int .i64 0)) (.const (.int .i64 0)) 22 rfl 5 (.int .u8 0) 1 Try.underlying22 iU8 rfl .i64 .i64 0 0 (by rfl) (by rfl) 0 0 rfl rfl (by omega) (by omega) (by omega) ?_
             intro w10 hb10 hg10 hs10
             have hB10 := grown_below hg10
             have HE10 := Lib.hid (HE9.out.trans (hB10.mono HE9.out.size))
             have HL10 := Lib.hid (HL9.out.below hB10 HL9.out.lt)
             have HO10 := Lib.hid (own_below HO9.out hB10)
             have HX10 := Lib.hid (Rd.of_own HO10.out)
             have HY10 := Lib.hid (HY9.out.below hB10)
             have HK10 := Lib.hid (HK9.out.below hB10)
             have cr10 := (HE10.out.cell (p := ⟨b1, off + j, none⟩) hbl).trans HCL0.out
             clear hb10 hg10 hs10 hB10)
          | (go_at_call 80; (with_reducible refine (rxor_new A1 (some ⟨w7.heap.size, 0, none⟩) 32 c1 32 X D w10 (by exact HX10.out) (by exact HK10.out) (by omega) (by omega) (by omega)).mono ?_); rintro e w11 ⟨A11, c11, rfl, hc11, hown11, hB11⟩
             have HE11 := Lib.hid (HE10.out.trans (hB11.mono HE10.out.size))
             have HL11 := Lib.hid (HL10.out.below hB11 HL10.out.lt)
             have HO11 := Lib.hid (own_below HO10.out hB11)
             have HY11 := Lib.hid (HY10.out.below hB11)
             have HR11 := Lib.hid (Rd.of_own hown11)
             clear hB11 hown11)
          | (go_at_call 81; (with_reducible refine (HBY.out w11 _ _ (by exact HR11.out)).mono ?_); rintro e w12 ⟨A12, c12, rfl, hc12, hown12, hB12⟩
             have HE12 := Lib.hid (HE11.out.trans (hB12.mono HE11.out.size))
             have HL12 := Lib.hid (HL11.out.below hB12 HL11.out.lt)
             have HO12 := Lib.hid (own_below HO11.out hB12)
             have HY12 := Lib.hid (HY11.out.below hB12)
             have HZ12 := Lib.hid (Rd.of_own hown12)
             clear hB12 hown12)
          | (go_at_call 80; (with_reducible refine (rxor_new A2 A12 NR c2 c12 Y Z w12 (by exact HY12.out) (by exact HZ12.out) (by omega) (by omega) (by omega)).mono ?_); rintro e w13 ⟨A13, c13, rfl, hc13, hown13, hB13⟩
             have HE13 := Lib.hid (HE12.out.trans (hB13.mono HE12.out.size))
             have HL13 := Lib.hid (HL12.out.below hB13 HL12.out.lt)
             have HO13 := Lib.hid (own_below HO12.out hB13)
             have HR13 := Lib.hid (Rd.of_own hown13)
             clear hB13 hown13))
            go_roundg (i - (j + 1))
            case measure => have := HGK.out; omega
            case rel => exact ⟨j + 1, X, Ch.xor Y Z, by omega, rfl, by go_num, by rw [HSN.out, HTU.out], HXl.out, HYZ.out, ⟨A1, c1, rfl, hc1, HO13.out⟩, ⟨A13, c13, rfl, hc13, HR13.out⟩, HL13.out, HE13.out⟩
          · have hoi : ((r : Int) % 2 == 1) = false := by rw [beq_eq_false_iff_ne]; omega
            have HTU := Lib.hid (turn_even' D X Y r HXl.out hr1n hr4n hodd)
            have HTL := Lib.hid (Mc.tag_len D Y)
            have HTG := Lib.hid (fun W (h5 : Rd W (some ⟨W.heap.size, 0, none⟩) 32 (u8s D)) => h5)
            have HTA := Lib.hid (fun W A5 c5 (h5 : Rd W A5 32 (u8s D)) (h6 : Rd W A2 NR (u8s Y)) => rtag_any A5 32 c5 D A2 NR c2 Y W h5 (by omega) h6 (by omega))
            obtain ⟨Z, hZ⟩ : ∃ Z, Z = Mc.tag D Y := ⟨_, rfl⟩
            rw [← hZ] at HTU HTL HTA
            have HXZ : Hid ((Ch.xor X Z).length = 32) := by show _ = _; rw [Ch.xor_len _ _ (by rw [HXl.out, HTL.out]), HXl.out]
            have HI3 : Hid ((Try.prog.info? 24).map (·.size) = some (u8s Z).length) := by rw [u8s_length, HTL.out]; exact hd24'
            have HL3 : Hid ((u8s Z).length = (u8s (List.replicate 32 0)).length) := by show _ = _; rw [u8s_length, HTL.out]; rfl
            have H13 : Hid (∀ v ∈ u8s Z, v.oneCell' = true) := u8s_one _
            obtain ⟨ZU, hZU⟩ : ∃ ZU, ZU = u8s Z := ⟨_, rfl⟩
            rw [← hZU] at HTA HI3 HL3 H13
            have HZU := Lib.hid hZU
            clear hZ hodd hZU HTG
            go_wp2_with (first
          | (go_at_call 79; (with_reducible refine (HDV.out _ (by exact HRK.out.below HBE.out)).mono ?_); rintro e w7 ⟨rfl, hB7⟩
             have HE7 := Lib.hid (HBE.out.trans (hB7.mono HBE.out.size))
             have HL7 := Lib.hid (HLB.out.below hB7 HLB.out.lt)
             have HO7 := Lib.hid (own_below HOL.out hB7)
             have HY7 := Lib.hid (HRY.out.below hB7)
             clear hB7)
          | (refine wpList_store_all rfl 24 (.tmp 13) (.tmp 61) rfl w7.heap.size DU (by rfl) (by rfl) 24 (u8s (List.replicate 32 0)) (by exact Blk.new' rfl rfl) HI2.out H1.out HL2.out ?_
             intro w9 hb9 ho9
             have hlt7 := HL7.out.lt
             have HK9 : Hid (Rd w9 (some ⟨w7.heap.size, 0, none⟩) 32 (u8s D)) := (by have h5 := hb9; rw [HDU.out] at h5; have h6 := h5.rdAll; rw [HDL.out] at h6; exact h6)
             have hB9 : Below w7.heap.size w7 w9 := ho9.below ((Below.refl _ _).alloc (Nat.le_refl _) _) (Nat.le_refl _) (by simp)
             have HE9 := Lib.hid (HE7.out.trans (hB9.mono HE7.out.size))
             have HL9 := Lib.hid (HL7.out.below hB9 HL7.out.lt)
             have HO9 := Lib.hid (own_below HO7.out hB9)
             have HY9 := Lib.hid (HY7.out.below hB9)
             clear hb9 ho9 hB9)
          | (refine wpList_make1 rfl (.const (.int .i64 0)) (.const (.int .i64 0)) 22 rfl 5 (.int .u8 0) 1 Try.underlying22 iU8 rfl .i64 .i64 0 0 (by rfl) (by rfl) 0 0 rfl rfl (by omega) (by omega) (by omega) ?_
             intro w10 hb10 hg10 hs10
             have hB10 := grown_below hg10
             have HE10 := Lib.hid (HE9.out.trans (hB10.mono HE9.out.size))
             have HL10 := Lib.hid (HL9.out.below hB10 HL9.out.lt)
             have HO10 := Lib.hid (own_below HO9.out hB10)
             have HX10 := Lib.hid (Rd.of_own HO10.out)
             have HY10 := Lib.hid (HY9.out.below hB10)
             have HK10 := Lib.hid (HK9.out.below hB10)
             have cr10 := (HE10.out.cell (p := ⟨b1, off + j, none⟩) hbl).trans HCL0.out
             clear hb10 hg10 hs10 hB10)
          | (go_at_call 72; (with_reducible refine (HTA.out w10 _ _ (by exact HK10.out) (by exact HY10.out)).mono ?_); rintro e w11 ⟨rfl, hB11⟩
             have HE11 := Lib.hid (HE10.out.trans (hB11.mono HE10.out.size))
             have HL11 := Lib.hid (HL10.out.below hB11 HL10.out.lt)
             have HO11 := Lib.hid (own_below HO10.out hB11)
             have HY11 := Lib.hid (HY10.out.below hB11)
             clear hB11)
          | (refine wpList_store_all rfl 24 (.tmp 17) (.tmp 89) rfl w11.heap.size ZU (by rfl) (by rfl) 24 (u8s (List.replicate 32 0)) (by exact Blk.new' rfl rfl) HI3.out H13.out HL3.out ?_
             intro w12 hb12 ho12
             have HZ12 : Hid (Rd w12 (some ⟨w11.heap.size, 0, none⟩) 32 (u8s Z)) := (by have h5 := hb12; rw [HZU.out] at h5; have h6 := h5.rdAll; rw [HTL.out] at h6; exact h6)
             have hB12 : Below w11.heap.size w11 w12 := ho12.below ((Below.refl _ _).alloc (Nat.le_refl _) _) (Nat.le_refl _) (by simp)
             have HE12 := Lib.hid (HE11.out.trans (hB12.mono HE11.out.size))
             have HL12 := Lib.hid (HL11.out.below hB12 HL11.out.lt)
             have HO12 := Lib.hid (own_below HO11.out hB12)
             have HX12 := Lib.hid (Rd.of_own HO12.out)
             have HY12 := Lib.hid (HY11.out.below hB12)
             clear hb12 ho12 hB12)
          | (go_at_call 80; (with_reducible refine (rxor_new A1 (some ⟨w11.heap.size, 0, none⟩) 32 c1 32 X Z w12 (by exact HX12.out) (by exact HZ12.out) (by omega) (by omega) (by omega)).mono ?_); rintro e w13 ⟨A13, c13, rfl, hc13, hown13, hB13⟩
             have HE13 := Lib.hid (HE12.out.trans (hB13.mono HE12.out.size))
             have HL13 := Lib.hid (HL12.out.below hB13 HL12.out.lt)
             have HO13 := Lib.hid (own_mono hown13 (base' := w.heap.size) HE12.out.size)
             have HR13 := Lib.hid (HY12.out.below hB13)
             clear hB13 hown13))
            go_roundg (i - (j + 1))
            case measure => have := HGK.out; omega
            case rel => exact ⟨j + 1, Ch.xor X Z, Y, by omega, rfl, by go_num, by rw [HSN.out, HTU.out], HXZ.out, HYl.out, ⟨A13, c13, rfl, hc13, HO13.out⟩, ⟨A2, c2, rfl, hc2, HR13.out⟩, HL13.out, HE13.out⟩
        · obtain rfl : j = i := by omega
          have hlt3 : ¬ (j : Int) < (j : Int) := by omega
          rw [List.take_of_length_le (Nat.le_of_eq HRL.out)] at hXY
          have HXY := Lib.hid hXY
          have HN2 : Hid (32 + NR = N) := by show _ = _; rw [HNR.out]; omega
          have HOL := Lib.hid hown
          have HRY := Lib.hid hry
          have HBE := Lib.hid hB
          clear hXY hX hY hown hry hlb hB
          go_wp2_with (at_builtin; refine wpList_app rfl (.tmp 98) (.tmp 99) 22 rfl w.heap.size 5 1 1 Try.underlying22 eU8 (.slice A1 32 c1) 32 (u8s X) (by rfl) (by exact HOL.out) A2 NR c2 (u8s Y) (by rfl) (by exact HRY.out.toS) (u8s_one _) (by omega) (by omega) HBE.out.size ?_
                       intro A5 c5 w5 hown5 hc5 hg5 hat5
                       have HO5 := Lib.hid hown5
                       rw [← u8s_append, ← HXY.out, HN2.out] at HO5
                       have HE5 := Lib.hid (HBE.out.grown hg5 HBE.out.size (fun k hk => (HOL.out.lt k hk).1))
                       rw [HN2.out] at hc5
                       clear hown5 hg5 hat5)
          obtain ⟨g, rfl, hg, _, hr5⟩ := own_pos HO5.out (by omega)
          have HR5 := Lib.hid hr5
          clear hr5
          go_ret2
          exact ⟨g, c5, (by rw [HN2.out]; rfl), hc5, hg, HR5.out, HE5.out⟩

theorem rnats4 (w : World) (a b c d : Nat) : Rd (w.alloc (.cells #[.int .i64 (a : Int), .int .i64 (b : Int), .int .i64 (c : Int), .int .i64 (d : Int)] 3)) (some ⟨w.heap.size, 0, none⟩) 4 (natsOf [a, b, c, d]) := nats4 w a b c d
set_option maxHeartbeats 1000000 in
theorem rseal_any (A B : Option Addr) (c d N : Nat) (key b : List UInt8) (w : World) (h : Rd w A 32 (u8s key)) (h2 : Rd w B N (u8s b)) (hd : N ≤ d) (h32 : 32 < N) (hN : N ≤ 4096) :
    Calls Try.prog 38 #[.slice A 32 c, .slice B N d] w fun e w' => ∃ g c', e = .returned (.tuple #[.slice (some ⟨g, 0, none⟩) N c', .int .i64 0]) ∧ N ≤ c' ∧ w.heap.size ≤ g ∧ Rd w' (some ⟨g, 0, none⟩) N (u8s (Wd.seal_ key b)) ∧ Below w.heap.size w w' := by
  have hr := rrounds_any A B (some ⟨w.heap.size, 0, none⟩) c d N 4 4 key b [1, 2, 3, 4] _ (h.alloc _) (h2.alloc _) hd (rnats4 w 1 2 3 4) h32 hN (by omega) (by decide)
  have e2 : (w.alloc (.cells #[.int .i64 ((1 : Nat) : Int), .int .i64 ((2 : Nat) : Int), .int .i64 ((3 : Nat) : Int), .int .i64 ((4 : Nat) : Int)] 3)).heap.size = w.heap.size + 1 := by simp
  rw [e2] at hr
  have HR : Hid (Calls Try.prog 61 #[.slice A 32 c, .slice B N d, .slice (some ⟨w.heap.size, 0, none⟩) 4 4] (w.alloc (.cells #[.int .i64 1, .int .i64 2, .int .i64 3, .int .i64 4] 3)) fun e w' => ∃ g c', e = .returned (.tuple #[.slice (some ⟨g, 0, none⟩) N c', .int .i64 0]) ∧ N ≤ c' ∧ w.heap.size + 1 ≤ g ∧ Rd w' (some ⟨g, 0, none⟩) N (u8s (Wd.seal_ key b)) ∧ Below (w.heap.size + 1) (w.alloc (.cells #[.int .i64 1, .int .i64 2, .int .i64 3, .int .i64 4] 3)) w') := hr
  clear h h2 hr e2
  go_enter Try.func38, Try.ntmps38
  go_wp2_with (go_at_call 61; (with_reducible refine HR.out.mono ?_); rintro e w1 ⟨g, c', rfl, hc', hg, hr1, hB⟩; have HR1 := Lib.hid hr1; clear hr1)
  go_ret2
  exact ⟨g, c', rfl, hc', by omega, HR1.out, ((Below.refl _ _).alloc (Nat.le_refl _) _).trans (hB.mono (Nat.le_succ _))⟩
set_option maxHeartbeats 1000000 in
theorem ropen_any (A B : Option Addr) (c d N : Nat) (key b : List UInt8) (w : World) (h : Rd w A 32 (u8s key)) (h2 : Rd w B N (u8s b)) (hd : N ≤ d) (h32 : 32 < N) (hN : N ≤ 4096) :
    Calls Try.prog 43 #[.slice A 32 c, .slice B N d] w fun e w' => ∃ g c', e = .returned (.tuple #[.slice (some ⟨g, 0, none⟩) N c', .int .i64 0]) ∧ N ≤ c' ∧ w.heap.size ≤ g ∧ Rd w' (some ⟨g, 0, none⟩) N (u8s (Wd.open_ key b)) ∧ Below w.heap.size w w' := by
  have hr := rrounds_any A B (some ⟨w.heap.size, 0, none⟩) c d N 4 4 key b [4, 3, 2, 1] _ (h.alloc _) (h2.alloc _) hd (rnats4 w 4 3 2 1) h32 hN (by omega) (by decide)
  have e2 : (w.alloc (.cells #[.int .i64 ((4 : Nat) : Int), .int .i64 ((3 : Nat) : Int), .int .i64 ((2 : Nat) : Int), .int .i64 ((1 : Nat) : Int)] 3)).heap.size = w.heap.size + 1 := by simp
  rw [e2] at hr
  have HR : Hid (Calls Try.prog 61 #[.slice A 32 c, .slice B N d, .slice (some ⟨w.heap.size, 0, none⟩) 4 4] (w.alloc (.cells #[.int .i64 4, .int .i64 3, .int .i64 2, .int .i64 1] 3)) fun e w' => ∃ g c', e = .returned (.tuple #[.slice (some ⟨g, 0, none⟩) N c', .int .i64 0]) ∧ N ≤ c' ∧ w.heap.size + 1 ≤ g ∧ Rd w' (some ⟨g, 0, none⟩) N (u8s (Wd.open_ key b)) ∧ Below (w.heap.size + 1) (w.alloc (.cells #[.int .i64 4, .int .i64 3, .int .i64 2, .int .i64 1] 3)) w') := hr
  clear h h2 hr e2
  go_enter Try.func43, Try.ntmps43
  go_wp2_with (go_at_call 61; (with_reducible refine HR.out.mono ?_); rintro e w1 ⟨g, c', rfl, hc', hg, hr1, hB⟩; have HR1 := Lib.hid hr1; clear hr1)
  go_ret2
  exact ⟨g, c', rfl, hc', by omega, HR1.out, ((Below.refl _ _).alloc (Nat.le_refl _) _).trans (hB.mono (Nat.le_succ _))⟩
end Go.Proofs.Ytgkhglnfbhdkeaa
