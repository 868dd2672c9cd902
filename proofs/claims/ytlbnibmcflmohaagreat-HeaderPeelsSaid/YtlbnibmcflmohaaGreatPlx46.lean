/- Part of the proof: Bld. -/
import Derived.Test.YtlbnibmcflmohaaGreatPlx44
namespace Go.Proofs.YtlbnibmcflmohaaGreat
open Go.RowKit
attribute [local go_sem ↓] ldq_cm ldq_34
set_option maxRecDepth 100000 in
set_option maxHeartbeats 8000000 in
theorem build_ok (A B : Option Addr) (k c d : Nat) (cs : List Cm) (ss : List Sp) (w : World) (h1 : RdS 20 w A (k + 1) (cs.flatMap Cm.cells)) (h2 : RdS 192 w B (k + 1) (ss.flatMap Sp.cells)) (hcs : ∀ c ∈ cs, c.ok) (hss : ∀ s ∈ ss, s.ok)
    (hcl : cs.length = k + 1) (hsl : ss.length = k + 1) (hd : k + 1 ≤ d) (he : berr cs (k + 1) = 0) :
    Calls Tryz.prog 8 #[.slice A (k + 1) c, .slice B (k + 1) d] w fun e w' => e = .returned (.tuple #[.agg (u8s (hst cs ss (k + 1) (k + 1))).toArray, .int .i64 0]) ∧ Below w.heap.size w w' := by
  obtain ⟨hj1, hk5, hj2, hck⟩ := berr_zero he
  have hk : k ≤ 4 := by omega
  have HBE : Hid (∀ W, Below w.heap.size w W → Calls Tryz.prog 18 #[.slice A (k + 1) c, .int .i64 ((k : Int) + 1)] W fun e w' => e = .returned (.int .i64 0) ∧ Below W.heap.size W w') := fun W hB => by
    have h5 := berr_any A (k + 1) c (k + 1) cs W (h1.bel hB (Nat.le_refl _)) hcs hcl (by omega) (by omega)
    rw [he] at h5
    exact h5
  obtain ⟨L, hL⟩ : ∃ L, L = 48 * k := ⟨_, rfl⟩
  have HFI : Hid (∀ W, Below w.heap.size w W → Calls Tryz.prog 19 #[.slice B (k + 1) d] W fun e w' => ∃ A' c', e = .returned (.tuple #[.slice A' L c', .int .i64 0]) ∧ L ≤ c' ∧ w'.ownsRow W.heap.size 5 1 (.slice A' L c') L (u8s (fil ss k)) ∧ Below W.heap.size W w') := fun W hB => by
    rw [hL]
    exact filler_any B k d ss W (h2.bel hB (Nat.le_refl _)) hss hsl hk hd
  have HCK := Lib.hid hck
  have HCS := Lib.hid hcs
  have HSS := Lib.hid hss
  have HCL := Lib.hid hcl
  have HSL := Lib.hid hsl
  have HR1 := Lib.hid h1
  have HR2 := Lib.hid h2
  have HFL := Lib.hid (fil_len ss k (by omega))
  have HHL := Lib.hid (fun m hm => hst_len (n := k + 1) hcs hss hcl hsl hk5 m hm)
  have HE0 : Hid (Below w.heap.size w (w.alloc (.cells Tryz.zeroCells37 37))) := (Below.refl _ w).alloc (Nat.le_refl _) _
  have HG0 : Hid (Blk (w.alloc (.cells Tryz.zeroCells37 37)) w.heap.size 37 (u8s z288)) := Blk.new' rfl zc34'
  have h10 : ¬ ((k : Int) + 1 < 1) := by omega
  have HLL := Lib.hid hL
  have hL2 : L ≤ 192 := by omega
  clear h1 h2 hcs hss hcl hsl hck he hj1 hj2 hL
  go_enter Tryz.func8, Tryz.ntmps8
  go_wp2_with (first | (go_at_call 18; (with_reducible refine (HBE.out _ (by exact HE0.out)).mono ?_); rintro e w1 ⟨rfl, hB1⟩; have HE1 := Lib.hid (HE0.out.trans (hB1.mono (by simp))); have HG1 := qbl HG0 hB1; clear hB1) | (go_at_call 19; (with_reducible refine (HFI.out _ (by exact HE1.out)).mono ?_); rintro e w3 ⟨A7, c7, rfl, hc7, hown3, hB3⟩; have HE3 := qtr HE1 hB3; have HG3 := qbl HG1 hB3; have HF3 := Lib.hid (Rd.of_own hown3); clear hown3 hB3))
  obtain ⟨W9, hW9⟩ : ∃ W9, W9 = w3.alloc (.cells Tryz.zeroCells37 37) := ⟨_, rfl⟩
  have hs3 := HE3.out.size
  have hg30 := HG3.out.lt
  have HE9 : Hid (Below w.heap.size w W9) := by rw [hW9]; exact HE3.out.alloc hs3 _
  have HG9 : Hid (Blk W9 w.heap.size 37 (u8s z288)) := by rw [hW9]; exact HG3.out.alloc _
  have HP9 : Hid (Blk W9 w3.heap.size 37 (u8s (hst cs ss (k + 1) 0))) := by rw [hW9]; exact Blk.new' rfl zc34'
  have HF9 : Hid (Rd W9 A7 L (u8s (fil ss k))) := by rw [hW9]; exact HF3.out.alloc _
  have HFA : Hid (0 < L → ∀ ad : Addr, A7 = some ad → ad.block ≠ w3.heap.size) := HF3.out.apart (Nat.le_refl _)
  rw [← hW9]
  have HKP : Hid (∀ W, Wrote w3.heap.size W9 W → Below w.heap.size w W ∧ Blk W w.heap.size 37 (u8s z288) ∧ Rd W A7 L (u8s (fil ss k)) ∧ RdS 20 W A (k + 1) (cs.flatMap Cm.cells) ∧ RdS 192 W B (k + 1) (ss.flatMap Sp.cells)) := fun W hW => by
    have hB : Below w.heap.size w W := hW.below HE9.out hs3 HE9.out.size
    exact ⟨hB, HG9.out.wrote hW (by omega), HF9.out.wrote hW HFA.out, HR1.out.bel hB (Nat.le_refl _), HR2.out.bel hB (Nat.le_refl _)⟩
  clear hW9 HF3 HG3 HE3 HE1 HG1 HBE HFI HE0 HG0 HF9 HFA HG9 HE9 HR1 HR2 h10
  go_loopg [10] (k + 1) (fun kk q wr => ∃ m : Nat, m ≤ k + 1 ∧ kk = k + 1 - m ∧ q = .int .i64 ((k : Int) - (m : Int)) ∧ Blk wr w3.heap.size 37 (u8s (hst cs ss (k + 1) m)) ∧ Wrote w3.heap.size W9 wr)
  case atStart => exact ⟨0, by omega, rfl, by go_num, HP9.out, Wrote.refl _ _⟩
  case round =>
    clear HP9
    obtain ⟨m, hm, hgk, rfl, hb, hW⟩ := hrel
    have HGK := Lib.hid hgk
    clear hgk
    by_cases hlt : m < k + 1
    · obtain ⟨i, hi⟩ : ∃ i, i = k - m := ⟨_, rfl⟩
      rw [show (k : Int) - (m : Int) = (i : Int) by omega]
      have hi0 : (0 : Int) ≤ (i : Int) := by omega
      have hik : (i : Int) < (k : Int) + 1 := by omega
      obtain ⟨cm, hci⟩ : ∃ c, cs[i]? = some c := ⟨_, List.getElem?_eq_getElem (by rw [HCL.out]; omega)⟩
      obtain ⟨s, hsi⟩ : ∃ s, ss[i]? = some s := ⟨_, List.getElem?_eq_getElem (by rw [HSL.out]; omega)⟩
      have hcok := HCS.out cm (List.mem_of_getElem? hci)
      have hsok := HSS.out s (List.mem_of_getElem? hsi)
      have hch := (HCK.out i cm hci).1
      obtain ⟨q1, q2, q3, q4, q5⟩ := HKP.out wr hW
      obtain ⟨b, off, rfl, hbl, hrg⟩ := cm_range q4 HCS.out hci (by omega)
      obtain ⟨b2, off2, rfl, _, _⟩ := sp_range q5 HSS.out hsi (by omega)
      have HSR : Hid (∀ W, Wrote w3.heap.size W9 W → b2 < W.heap.size ∧ W.rangeAt b2 (off2 + i * 192) s.cells) := fun W hW => by
        obtain ⟨_, _, _, _, p5⟩ := HKP.out W hW
        obtain ⟨b3, off3, e3, h3, h4⟩ := sp_range p5 HSS.out hsi (by omega)
        injection e3 with e3
        injection e3 with e4 e5
        subst e4
        subst e5
        exact ⟨h3, h4⟩
      have HKM : Hid (∀ W, Wrote w3.heap.size W9 W → Rd W (some ⟨b2, off2 + i * 192, none⟩) 32 (u8s s.mac)) := fun W hW => by
        have h5 := rd_of_range (HSR.out W hW).2 (HSR.out W hW).1 0 32 (by rw [Sp.bytes_len hsok]; omega)
        rwa [Sp.at_mac hsok, Nat.add_zero] at h5
      have HKS : Hid (∀ W, Wrote w3.heap.size W9 W → Rd W (some ⟨b2, off2 + i * 192 + 32, none⟩) 32 (u8s s.stream)) := fun W hW => by
        have h5 := rd_of_range (HSR.out W hW).2 (HSR.out W hW).1 32 32 (by rw [Sp.bytes_len hsok]; omega)
        rwa [Sp.at_stream hsok] at h5
      have HKA : Hid (∀ W, Wrote w3.heap.size W9 W → W.rangeAt b2 (off2 + i * 192 + 128) (u8s s.alpha)) := fun W hW j v hv => by
        have h5 := (HSR.out W hW).2 (128 + j) v (by
          rw [← Sp.at_alpha hsok, u8s_getElem?, List.getElem?_take] at hv
          split at hv
          · rw [Sp.cells, u8s_getElem?]; rwa [List.getElem?_drop] at hv
          · cases hv)
        rwa [← Nat.add_assoc] at h5
      have hld : (ldAt 50 (.pointer (some ⟨b, off + i * 20, none⟩))).run Tryz.prog wr = .ok (.agg cm.cells.toArray) wr := run_loadAt_mid wr b (off + i * 20) 50 cm.cells _ hrg Tryz.underlying50 rfl (by rw [Cm.cells_len hcok]; exact hd76c)
      have HEN : Hid (∀ W, Calls Tryz.prog 20 #[.agg cm.cells.toArray] W fun e w' => ∃ g c', e = .returned (.tuple #[.slice (some ⟨g, 0, none⟩) 32 c', .int .i64 0]) ∧ 32 ≤ c' ∧ W.heap.size ≤ g ∧ Rd w' (some ⟨g, 0, none⟩) 32 (u8s cm.enc) ∧ Below W.heap.size W w') := fun W => by
        refine (enc_any cm hcok hch W).mono ?_
        rintro e w' ⟨A', c', rfl, hc', ho, hB⟩
        obtain ⟨g, rfl, hg, _, hr⟩ := own_pos ho (by omega)
        exact ⟨g, c', rfl, hc', hg, hr, hB⟩
      have HNX := Lib.hid (hst_next (cs := cs) (ss := ss) (n := k + 1) (m := m) (i := i) (by omega) hci hsi)
      have hPl := HHL.out m hm
      have hel := Cm.enc_len hcok
      have hfl := HFL.out
      obtain ⟨F, hF⟩ : ∃ F, F = fil ss k := ⟨_, rfl⟩
      rw [show k + 1 - 1 = k from rfl, ← hF] at HNX
      rw [← hF] at HKP hfl
      obtain ⟨P, hPP⟩ : ∃ P, P = hst cs ss (k + 1) m := ⟨_, rfl⟩
      rw [← hPP] at hb hPl HNX
      have hal := hsok.2.2.2.2.1
      have hbtl := betaOf_len (s := s) (m := m) (f := F) (P := P) hcok (by have := HLL.out; omega) hPl
      have HBT : Hid (betaOf cm s F m P = if m = 0 then Ch.turn s.stream (cm.enc ++ List.replicate (240 - F.length - 32) 0) ++ F else Ch.turn s.stream (cm.enc ++ ((P.drop 32).take 16 ++ (P.drop 48).take 192))) := rfl
      have HNX2 : Hid (hst cs ss (k + 1) (m + 1) = s.alpha ++ ((Mc.tag s.mac (s.alpha ++ betaOf cm s F m P)).take 16 ++ betaOf cm s F m P)) := HNX.out
      obtain ⟨BT, hBT⟩ : ∃ BT, BT = betaOf cm s F m P := ⟨_, rfl⟩
      rw [← hBT] at HBT HNX2 hbtl
      have hFl2 : F.length = L := by rw [hfl, HLL.out]
      have HS1 := Lib.hid (w_alpha (P := P) hal)
      have HS2 := Lib.hid (w_beta (b := BT) hPl hal hbtl)
      have HS3 := Lib.hid (w_tag (t0 := (P.drop 32).take 16) (t := (Mc.tag s.mac (s.alpha ++ BT)).take 16) (b := BT) hal (by simp [hPl]) (by rw [List.length_take, Mc.tag_len]; rfl))
      have hx2l : (s.alpha ++ ((P.drop 32).take 16 ++ BT)).length = 288 := by simp [hal, hPl, hbtl]
      have HSH : Hid (∀ (W : World) (gl : Nat), Wrote w3.heap.size W9 W → Blk W gl 23 [.slice (some ⟨w3.heap.size, 0, none⟩) 32 32, .slice (some ⟨w3.heap.size, 48, none⟩) 240 240] → Blk W w3.heap.size 37 (u8s (s.alpha ++ ((P.drop 32).take 16 ++ BT))) → Calls Tryz.prog 23 #[.slice (some ⟨b2, off2 + i * 192, none⟩) 32 32, .slice (some ⟨gl, 0, none⟩) 2 2] W fun e w' => ∃ g, e = .returned (.slice (some ⟨g, 0, none⟩) 16 16) ∧ W.heap.size ≤ g ∧ Blk w' g 5 (u8s ((Mc.tag s.mac (s.alpha ++ BT)).take 16)) ∧ Below W.heap.size W w') := fun W gl hW h1 h2 => by
        have e1 : ((u8s (s.alpha ++ ((P.drop 32).take 16 ++ BT))).drop 0).take 32 = u8s s.alpha := by rw [List.drop_zero, u8s_take, List.take_left' hal]
        have e2 : ((u8s (s.alpha ++ ((P.drop 32).take 16 ++ BT))).drop 48).take 240 = u8s BT := by
          rw [u8s_drop, u8s_take, ← List.append_assoc, List.drop_left' (by simp [hal, hPl]), List.take_of_length_le (by rw [hbtl]; exact Nat.le_refl _)]
        have h5 := short_any (some ⟨b2, off2 + i * 192, none⟩) 32 32 s.mac (some ⟨gl, 0, none⟩) 2 2 [s.alpha, BT] W (HKM.out W hW) (by omega) (by omega) (RdB.of_blk h1 ⟨.of_blk h2 0 32 32 s.alpha (by rw [u8s_length, hx2l]; omega) (by omega) e1, .of_blk h2 48 240 240 BT (by rw [u8s_length, hx2l]; omega) (by omega) e2, trivial⟩) (by omega) (by simp [hal, hbtl])
        rw [show [s.alpha, BT].flatten = s.alpha ++ BT by simp] at h5
        exact h5
      have HAL := Lib.hid hal
      have HX2 := Lib.hid hx2l
      have HTL : Hid ((u8s ((Mc.tag s.mac (s.alpha ++ BT)).take 16)).length = 16) := by show _ = _; rw [u8s_length, List.length_take, Mc.tag_len]; rfl
      have HBL := Lib.hid hbtl
      have HPL := Lib.hid hPl
      have HP := Lib.hid hb
      have HW := Lib.hid hW
      have HEL := Lib.hid hel
      have HFL2 := Lib.hid hFl2
      have HI : Hid (i + m = k) := by show _ = _; omega
      clear hci hsi hcok hsok hch q1 q2 q3 q4 q5 hrg hPl hel hfl hF hPP hal hbtl hBT hFl2 hx2l hb hW HNX hi
      by_cases hm0 : m = 0
      · subst hm0
        obtain rfl : i = k := HI.out
        have heq : ((i : Int) == (i : Int)) = true := by simp
        rw [if_pos rfl] at HBT
        obtain ⟨Z, hZ⟩ : ∃ Z, Z = 240 - L - 32 := ⟨_, rfl⟩
        have hZI : (240 : Int) - (L : Int) - 32 = (Z : Int) := by omega
        obtain ⟨M, hM⟩ : ∃ M, M = 240 - L := ⟨_, rfl⟩
        have HML : Hid (M + L = 240) := by show _ = _; omega
        have hM240 : M ≤ 240 := by omega
        have hM0 : 32 ≤ M := by omega
        have hZ2 : Z ≤ 240 := by omega
        have HZM : Hid (32 + Z = M) := by show _ = _; omega
        rw [HFL2.out, ← hZ] at HBT
        have HT : Hid (∀ (W : World) (gl g1 gz c1 : Nat), Wrote w3.heap.size W9 W → Blk W gl 23 [.slice (some ⟨g1, 0, none⟩) 32 c1, .slice (some ⟨gz, 0, none⟩) Z Z] → Rd W (some ⟨g1, 0, none⟩) 32 (u8s cm.enc) → 32 ≤ c1 → Blk W gz 5 (u8s (List.replicate Z 0)) → Calls Tryz.prog 21 #[.slice (some ⟨b2, off2 + i * 192 + 32, none⟩) 32 32, .slice (some ⟨gl, 0, none⟩) 2 2] W fun e w' => ∃ g c', e = .returned (.tuple #[.slice (some ⟨g, 0, none⟩) M c', .int .i64 0]) ∧ M ≤ c' ∧ W.heap.size ≤ g ∧ Rd w' (some ⟨g, 0, none⟩) M (u8s (Ch.turn s.stream (cm.enc ++ List.replicate Z 0))) ∧ Below W.heap.size W w') := fun W gl g1 gz c1 hW h1 h2 h3 h4 => by
          refine (turn_to (some ⟨b2, off2 + i * 192 + 32, none⟩) 32 s.stream (some ⟨gl, 0, none⟩) 2 2 [cm.enc, List.replicate Z 0] (cm.enc ++ List.replicate Z 0) M W (HKS.out W hW) (RdB.of_blk h1 ⟨.of_rd h2 h3, .of_blk h4 0 Z Z _ (by rw [u8s_length, List.length_replicate]; omega) (Nat.le_refl _) (by rw [List.drop_zero, List.take_of_length_le (by rw [u8s_length, List.length_replicate]; omega)]), trivial⟩) (by omega) (by simp) (by rw [List.length_append, HEL.out, List.length_replicate]; exact HZM.out) (by omega)).mono ?_
          rintro e w' ⟨A', c', rfl, hc', ho, hB⟩
          obtain ⟨g, rfl, hg, _, hr⟩ := own_pos ho (by omega)
          exact ⟨g, c', rfl, hc', hg, hr, hB⟩
        have HJ : Hid (∀ (W : World) (gl g2 c2 : Nat), Blk W gl 23 [.slice (some ⟨g2, 0, none⟩) M c2, .slice A7 L c7] → Rd W (some ⟨g2, 0, none⟩) M (u8s (Ch.turn s.stream (cm.enc ++ List.replicate Z 0))) → M ≤ c2 → Rd W A7 L (u8s F) → Calls Tryz.prog 22 #[.slice (some ⟨gl, 0, none⟩) 2 2] W fun e w' => ∃ g c', e = .returned (.slice (some ⟨g, 0, none⟩) 240 c') ∧ W.heap.size ≤ g ∧ Rd w' (some ⟨g, 0, none⟩) 240 (u8s BT) ∧ Below W.heap.size W w') := fun W gl g2 c2 h1 h2 h3 h4 => by
          refine (join_to _ 2 2 [Ch.turn s.stream (cm.enc ++ List.replicate Z 0), F] W (RdB.of_blk h1 ⟨.of_rd h2 h3, .of_rd h4 hc7, trivial⟩) (by omega) BT 240 (by rw [HBT.out]; simp) HBL.out (by omega)).mono ?_
          rintro e w' ⟨A', c', rfl, hc', ho, hB⟩
          obtain ⟨g, rfl, hg, _, hr⟩ := own_pos ho (by omega)
          exact ⟨g, c', rfl, hg, hr, hB⟩
        have hg3 := HP.out.lt
        clear hZ hM
        go_upto_region 20 with (first
          | (go_at_call 20; (with_reducible refine (HEN.out _).mono ?_); rintro e w1 ⟨g1, c1, rfl, hc1, hg1, hr1, hB1⟩; have HR1 := Lib.hid hr1; have HW1 := Lib.hid (HW.out.then hB1); have HP1 := qbl HP hB1; have hs1 := hB1.size; clear hr1 hB1)
          | (refine wpList_make1 rfl (.tmp 61) (.tmp 61) 23 rfl 5 (.int .u8 0) 1 Tryz.underlying23 iU8 rfl .i64 .i64 (Z : Int) (Z : Int) (by rfl) (by rfl) Z Z rfl rfl (by omega) (by omega) (by omega) ?_; intro w2 hb2 hgr2 hs2; have HZ2 : Hid (Blk w2 w1.heap.size 5 (u8s (List.replicate Z 0))) := (by show Blk _ _ _ _; rw [show u8s (List.replicate Z 0) = rep Z (.int .u8 0) from u8s_zeros Z]; exact hb2); have hB2 := grown_below hgr2; have HW2 := Lib.hid (HW1.out.then hB2); have HP2 := qbl HP1 hB2; have HR2 := Lib.hid (HR1.out.below hB2); have hs2a := Nat.le_of_eq hs2.symm; clear hb2 hgr2 hB2 hs2)
          | (go_at_call 21; (with_reducible refine (HT.out _ _ _ _ _ (by exact HW2.out.alloc _) (by exact Blk.new' rfl rfl) (by exact HR2.out.alloc _) (by exact hc1) (by exact HZ2.out.alloc _)).mono ?_); rintro e w4 ⟨g4, c4, rfl, hc4, hg4, hr4, hB4⟩; have HW4 := Lib.hid ((HW2.out.alloc _).then hB4); have HP4 := Lib.hid ((HP2.out.alloc _).below hB4 (by simp; have := HP2.out.lt; omega)); have HR4 := Lib.hid hr4; have hs4 := hB4.size; have HF4 := Lib.hid (HKP.out _ HW4.out).2.2.1; clear hr4 hB4)
          | (go_at_call 22; (with_reducible refine (HJ.out _ _ _ _ (by exact Blk.new' rfl rfl) (by exact HR4.out.alloc _) (by exact hc4) (by exact HF4.out.alloc _)).mono ?_); rintro e w5 ⟨g5, c5, rfl, hg5, hr5, hB5⟩; have HWT := Lib.hid ((HW4.out.alloc _).then hB5); have HPT := Lib.hid ((HP4.out.alloc _).below hB5 (by simp; have := HP4.out.lt; omega)); have HBTR := Lib.hid hr5; have hg5w : w3.heap.size < g5 := (by have := HP4.out.lt; simp at hg5; omega); clear hr5 hB5))
        go_wp2_with (first
          | refine wpList_load_mid rfl 26 (.tmp 103) rfl b2 (off2 + i * 192 + 128) (by rfl) (u8s s.alpha) _ (HKA.out _ HWT.out) Tryz.underlying26 rfl (by rw [u8s_length, HAL.out]; exact hd24) ?_
          | (refine wpList_store rfl 26 (.tmp 105) (.tmp 104) rfl w3.heap.size 0 (u8s s.alpha) (by rfl) (by rfl) 37 (u8s P) HPT.out (by rw [u8s_length, HAL.out]; exact hd24) (u8s_one _) (by rw [u8s_length, u8s_length, HAL.out, HPL.out]; omega) ?_
             intro w6 hb6 ho6
             rw [HS1.out] at hb6
             have HP6 := Lib.hid hb6
             have HW6 := Lib.hid (HWT.out.only ho6)
             have HB6 := Lib.hid (ho6.rd HBTR.out (fun ad e => by injection e with e; subst e; show g5 ≠ w3.heap.size; omega))
             clear hb6 ho6)
          | (refine wpList_copy rfl (.tmp 107) (.tmp 108) 23 rfl 5 Tryz.underlying23 u8_one1 w3.heap.size 48 240 240 (by rfl) (some ⟨g5, 0, none⟩) 240 c5 (by rfl) 37 _ HP6.out (u8s BT) HB6.out (u8s_one _) (by rw [u8s_length, List.length_append, List.length_drop, HAL.out, HPL.out]; exact Nat.le_refl _) ?_
             intro w7 hb7 ho7
             rw [HS2.out] at hb7
             have HP7 := Lib.hid hb7
             have HW7 := Lib.hid (HW6.out.only ho7)
             clear hb7 ho7))
        have hg7 := HP7.out.lt
        go_region_held3 (fun _ => True) (trivial) ((first | (go_at_call 23; (refine (HSH.out _ _ (by repeat (first | exact HW7.out | apply Wrote.drew | apply Wrote.alloc)) (by repeat (first | exact Blk.new' (by simp) rfl | apply Blk.drew | apply Blk.alloc)) (by repeat (first | exact HP7.out | apply Blk.drew | apply Blk.alloc))).mono ?_); rintro e w8 ⟨g8, rfl, hg8, hb8, hB8⟩; have HB8 := Lib.hid hb8; have HW8 : Wrote w3.heap.size W9 w8 := Wrote.then (by repeat (first | exact HW7.out | apply Wrote.drew | apply Wrote.alloc)) hB8; have HP8 : Hid (Blk w8 w3.heap.size 37 (u8s (s.alpha ++ ((P.drop 32).take 16 ++ BT)))) := Blk.below (by repeat (first | exact HP7.out | apply Blk.drew | apply Blk.alloc)) hB8 (by simp; omega)) | (refine step_copy rfl (.tmp 111) (.tmp 123) 23 rfl 5 Tryz.underlying23 u8_one1 w3.heap.size 32 16 16 (by rfl) (some ⟨g8, 0, none⟩) 16 16 (by rfl) 37 _ HP8.out (u8s ((Mc.tag s.mac (s.alpha ++ BT)).take 16)) (by have h9 := HB8.out.rdAll; rw [List.length_take, Mc.tag_len] at h9; exact h9) (u8s_one _) (by rw [u8s_length, HX2.out]; omega) ?_; intro w10 hb10 ho10)))
        rw [HS3.out] at hb10
        have HP10 := Lib.hid hb10
        have HW10 := Lib.hid (HW8.only ho10)
        clear hb10 ho10
        go_wp2_with fail
        go_roundg (i + 1 - (0 + 1))
        case measure => have := HGK.out; omega
        case rel => exact ⟨0 + 1, by have := HI.out; omega, rfl, by have := HI.out; first | go_num | (congr 1; omega), by rw [HNX2.out]; exact HP10.out, HW10.out⟩
      · have heq : ((i : Int) == (k : Int)) = false := by have := HI.out; rw [beq_eq_false_iff_ne]; omega
        rw [if_neg hm0] at HBT
        have HT : Hid (∀ (W : World) (gl g1 c1 : Nat), Wrote w3.heap.size W9 W → Blk W gl 23 [.slice (some ⟨g1, 0, none⟩) 32 c1, .slice (some ⟨w3.heap.size, 32, none⟩) 16 16, .slice (some ⟨w3.heap.size, 48, none⟩) 192 240] → Rd W (some ⟨g1, 0, none⟩) 32 (u8s cm.enc) → 32 ≤ c1 → Blk W w3.heap.size 37 (u8s P) → Calls Tryz.prog 21 #[.slice (some ⟨b2, off2 + i * 192 + 32, none⟩) 32 32, .slice (some ⟨gl, 0, none⟩) 3 3] W fun e w' => ∃ g c', e = .returned (.tuple #[.slice (some ⟨g, 0, none⟩) 240 c', .int .i64 0]) ∧ W.heap.size ≤ g ∧ Rd w' (some ⟨g, 0, none⟩) 240 (u8s BT) ∧ Below W.heap.size W w') := fun W gl g1 c1 hW h1 h2 h3 h4 => by
          rw [HBT.out]
          refine (turn_to (some ⟨b2, off2 + i * 192 + 32, none⟩) 32 s.stream (some ⟨gl, 0, none⟩) 3 3 [cm.enc, (P.drop 32).take 16, (P.drop 48).take 192] (cm.enc ++ ((P.drop 32).take 16 ++ (P.drop 48).take 192)) 240 W (HKS.out W hW) (RdB.of_blk h1 ⟨.of_rd h2 h3, .of_blk h4 32 16 16 _ (by rw [u8s_length, HPL.out]; omega) (by omega) (by rw [u8s_drop, u8s_take]), .of_blk h4 48 192 240 _ (by rw [u8s_length, HPL.out]; omega) (by omega) (by rw [u8s_drop, u8s_take]), trivial⟩) (by omega) (by simp) (by simp [HEL.out, HPL.out]) (by omega)).mono ?_
          rintro e w' ⟨A', c', rfl, hc', ho, hB⟩
          obtain ⟨g, rfl, hg, _, hr⟩ := own_pos ho (by omega)
          exact ⟨g, c', rfl, hg, hr, hB⟩
        have hg3 := HP.out.lt
        go_upto_region 19 with (first | (go_at_call 20; (with_reducible refine (HEN.out _).mono ?_); rintro e w1 ⟨g1, c1, rfl, hc1, hg1, hr1, hB1⟩; have HR1 := Lib.hid hr1; have HW1 := Lib.hid (HW.out.then hB1); have HP1 := qbl HP hB1; have hs1 := hB1.size; clear hr1 hB1))
        go_region_held3 (fun _ => True) (trivial) ((go_at_call 21; (refine (HT.out _ _ _ _ (by repeat (first | exact HW1.out | apply Wrote.drew | apply Wrote.alloc)) (by repeat (first | exact Blk.new' (by simp) rfl | apply Blk.drew | apply Blk.alloc)) (by repeat (first | exact HR1.out | apply Rd.drew | apply Rd.alloc)) (by exact hc1) (by repeat (first | exact HP1.out | apply Blk.drew | apply Blk.alloc))).mono ?_); rintro e w5 ⟨g5, c5, rfl, hg5, hr5, hB5⟩; have HWT0 : Wrote w3.heap.size W9 w5 := Wrote.then (by repeat (first | exact HW1.out | apply Wrote.drew | apply Wrote.alloc)) hB5; have HPT0 : Blk w5 w3.heap.size 37 (u8s P) := Blk.below (by repeat (first | exact HP1.out | apply Blk.drew | apply Blk.alloc)) hB5 (by have := HP1.out.lt; simp; omega); have hg5w : w3.heap.size < g5 := (by have := HP1.out.lt; simp at hg5; omega)))
        have HWT := Lib.hid HWT0
        have HPT := Lib.hid HPT0
        have HBTR := Lib.hid hr5
        clear HWT0 HPT0 hr5 hB5
        go_wp2_with (first
          | refine wpList_load_mid rfl 26 (.tmp 103) rfl b2 (off2 + i * 192 + 128) (by rfl) (u8s s.alpha) _ (HKA.out _ HWT.out) Tryz.underlying26 rfl (by rw [u8s_length, HAL.out]; exact hd24) ?_
          | (refine wpList_store rfl 26 (.tmp 105) (.tmp 104) rfl w3.heap.size 0 (u8s s.alpha) (by rfl) (by rfl) 37 (u8s P) HPT.out (by rw [u8s_length, HAL.out]; exact hd24) (u8s_one _) (by rw [u8s_length, u8s_length, HAL.out, HPL.out]; omega) ?_
             intro w6 hb6 ho6
             rw [HS1.out] at hb6
             have HP6 := Lib.hid hb6
             have HW6 := Lib.hid (HWT.out.only ho6)
             have HB6 := Lib.hid (ho6.rd HBTR.out (fun ad e => by injection e with e; subst e; show g5 ≠ w3.heap.size; omega))
             clear hb6 ho6)
          | (refine wpList_copy rfl (.tmp 107) (.tmp 108) 23 rfl 5 Tryz.underlying23 u8_one1 w3.heap.size 48 240 240 (by rfl) (some ⟨g5, 0, none⟩) 240 c5 (by rfl) 37 _ HP6.out (u8s BT) HB6.out (u8s_one _) (by rw [u8s_length, List.length_append, List.length_drop, HAL.out, HPL.out]; exact Nat.le_refl _) ?_
             intro w7 hb7 ho7
             rw [HS2.out] at hb7
             have HP7 := Lib.hid hb7
             have HW7 := Lib.hid (HW6.out.only ho7)
             clear hb7 ho7))
        have hg7 := HP7.out.lt
        go_region_held3 (fun _ => True) (trivial) ((first | (go_at_call 23; (refine (HSH.out _ _ (by repeat (first | exact HW7.out | apply Wrote.drew | apply Wrote.alloc)) (by repeat (first | exact Blk.new' (by simp) rfl | apply Blk.drew | apply Blk.alloc)) (by repeat (first | exact HP7.out | apply Blk.drew | apply Blk.alloc))).mono ?_); rintro e w8 ⟨g8, rfl, hg8, hb8, hB8⟩; have HB8 := Lib.hid hb8; have HW8 : Wrote w3.heap.size W9 w8 := Wrote.then (by repeat (first | exact HW7.out | apply Wrote.drew | apply Wrote.alloc)) hB8; have HP8 : Hid (Blk w8 w3.heap.size 37 (u8s (s.alpha ++ ((P.drop 32).take 16 ++ BT)))) := Blk.below (by repeat (first | exact HP7.out | apply Blk.drew | apply Blk.alloc)) hB8 (by simp; omega)) | (refine step_copy rfl (.tmp 111) (.tmp 123) 23 rfl 5 Tryz.underlying23 u8_one1 w3.heap.size 32 16 16 (by rfl) (some ⟨g8, 0, none⟩) 16 16 (by rfl) 37 _ HP8.out (u8s ((Mc.tag s.mac (s.alpha ++ BT)).take 16)) (by have h9 := HB8.out.rdAll; rw [List.length_take, Mc.tag_len] at h9; exact h9) (u8s_one _) (by rw [u8s_length, HX2.out]; omega) ?_; intro w10 hb10 ho10)))
        rw [HS3.out] at hb10
        have HP10 := Lib.hid hb10
        have HW10 := Lib.hid (HW8.only ho10)
        clear hb10 ho10
        go_wp2_with fail
        go_roundg (k + 1 - (m + 1))
        case measure => have := HGK.out; omega
        case rel => exact ⟨m + 1, by have := HI.out; omega, rfl, by have := HI.out; first | go_num | (congr 1; omega), by rw [HNX2.out]; exact HP10.out, HW10.out⟩
    · obtain rfl : m = k + 1 := by omega
      rw [show (k : Int) - ((k + 1 : Nat) : Int) = -1 by omega]
      have HP := Lib.hid hb
      obtain ⟨q1, q2, _, _, _⟩ := HKP.out wr hW
      have HQ1 := Lib.hid q1
      have HQ2 := Lib.hid q2
      have HLN := Lib.hid (HHL.out (k + 1) (Nat.le_refl _))
      obtain ⟨P, hPP⟩ : ∃ P, P = hst cs ss (k + 1) (k + 1) := ⟨_, rfl⟩
      have HPE := Lib.hid hPP
      rw [← hPP] at hb HLN HP
      have hPl : (u8s P).length = 288 := by rw [u8s_length, HLN.out]
      have hld := hd_ld hb hPl
      have HPL := Lib.hid hPl
      clear hb hW q1 q2 hPl hlt hPP
      go_wp2_with (refine wpList_store_all rfl 37 (.tmp 4) (.tmp 125) rfl w.heap.size (u8s P) (by rfl) (by rfl) 37 _ HQ2.out (by rw [HPL.out]; exact hd34) (u8s_one _) (by rw [HPL.out, z288_len]) ?_; intro w8 hb8 ho8; have HB8 := Lib.hid hb8; have HE8 := Lib.hid (ho8.below HQ1.out (Nat.le_refl _) HQ1.out.size); clear hb8 ho8)
      exact bodyPost_ret (res_cell_tmp rfl _ _ _ _ rfl HB8.out _ Tryz.underlying37 rfl (by rw [HPL.out]; exact hd34)) rfl ⟨by rw [HPE.out]; rfl, HE8.out⟩
end Go.Proofs.YtlbnibmcflmohaaGreat
