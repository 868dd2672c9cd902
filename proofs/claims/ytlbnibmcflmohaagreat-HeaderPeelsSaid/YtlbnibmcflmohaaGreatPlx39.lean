/- Part of the proof: Fil, Opr. -/
import Derived.Test.YtlbnibmcflmohaaGreatPlx37
namespace Go.Proofs.YtlbnibmcflmohaaGreat
open Go.RowKit
theorem sp_range {w : World} {A : Option Addr} {n : Nat} {l : List Sp} (h : RdS 192 w A n (l.flatMap Sp.cells)) (hs : ∀ s ∈ l, s.ok) {i : Nat} {s : Sp} (hi : l[i]? = some s) (hn : 0 < n) :
    ∃ b off, A = some ⟨b, off, none⟩ ∧ b < w.heap.size ∧ w.rangeAt b (off + i * 192) s.cells := by
  obtain ⟨b, off, e, hb, hc⟩ := h.2 hn
  refine ⟨b, off, e, hb, fun j v hv => ?_⟩
  have h1 := flatMap_at (f := Sp.cells) (sz := 192) (fun a ha => Sp.cells_len (hs a ha)) hi hv
  rw [Nat.add_assoc]
  exact hc _ _ h1
def fil (ss : List Sp) : Nat → List UInt8
  | 0 => []
  | k + 1 => Ch.xor (fil ss k ++ List.replicate 48 0) ((Ch.piece ((ss[k]?.map Sp.stream).getD []) 0 288).drop (288 - (48 * k + 48)))
theorem fil_len (ss : List Sp) (k : Nat) (h : k ≤ 5) : (fil ss k).length = 48 * k := by
  induction k with
  | zero => rfl
  | succ k ih =>
    have ih := ih (by omega)
    rw [fil, Ch.xor_len _ _ (by rw [List.length_append, ih, List.length_replicate, List.length_drop, Ch.piece_len]; omega), List.length_append, ih, List.length_replicate]
    omega
theorem fil_next {ss : List Sp} {k : Nat} {s : Sp} (h : ss[k]? = some s) : fil ss (k + 1) = Ch.xor (fil ss k ++ List.replicate 48 0) ((Ch.piece s.stream 0 288).drop (288 - (48 * k + 48))) := by rw [fil, h]; rfl
theorem Sp.cells_one (s : Sp) : ∀ v ∈ s.cells, v.oneCell' = true := u8s_one _
def z48 : List UInt8 := List.replicate 48 0
theorem zcSp : Tryz.zeroCells43 = (u8s (List.replicate 192 0)).toArray := by kernel_rfl
attribute [local go_sem ↓] ldq_69
set_option maxRecDepth 100000 in
set_option maxHeartbeats 4000000 in
theorem filler_any (A : Option Addr) (m c : Nat) (ss : List Sp) (w : World) (h : RdS 192 w A (m + 1) (ss.flatMap Sp.cells)) (hs : ∀ s ∈ ss, s.ok) (hl : ss.length = m + 1) (hm : m ≤ 4) (hc : m + 1 ≤ c) :
    Calls Tryz.prog 19 #[.slice A (m + 1) c] w fun e w' => ∃ A' c', e = .returned (.tuple #[.slice A' (48 * m) c', .int .i64 0]) ∧ 48 * m ≤ c' ∧ w'.ownsRow w.heap.size 5 1 (.slice A' (48 * m) c') (48 * m) (u8s (fil ss m)) ∧ Below w.heap.size w w' := by
  have HR := Lib.hid h
  have HS := Lib.hid hs
  have HL := Lib.hid hl
  obtain ⟨b, off, rfl, hb, _⟩ := h.2 (by omega)
  have h1 : ¬ ((m : Int) + 1 < 1) := by omega
  have h5 : ¬ ((5 : Int) < (m : Int) + 1) := by omega
  have HMK : Hid (∀ W, (Instr.makeSlice 23 (.int .i64 48) (.int .i64 48)).run Tryz.prog W = .ok (.slice (some ⟨W.heap.size, 0, none⟩) 48 48) (W.alloc (.cells (u8s z48).toArray 5))) := fun W => by kernel_rfl
  have HO0 : Hid (w.ownsRow w.heap.size 5 1 (.slice none 0 0) 0 (u8s (fil ss 0))) := World.ownsRow_nil _ _ _ _
  clear h hs hl
  go_enter Tryz.func19, Tryz.ntmps19
  go_wp2_with fail
  go_loopg [4, 24] m (fun kk v q wr => ∃ k : Nat, k ≤ m ∧ kk = m - k ∧ q = .int .i64 k ∧ (∃ A' c', v = .slice A' (48 * k) c' ∧ 48 * k ≤ c' ∧ wr.ownsRow w.heap.size 5 1 (.slice A' (48 * k) c') (48 * k) (u8s (fil ss k))) ∧ Below w.heap.size w wr)
  case atStart => exact ⟨0, by omega, rfl, rfl, ⟨none, 0, rfl, by omega, HO0.out⟩, Below.refl _ _⟩
  case round =>
    clear HO0
    obtain ⟨k, hk, hgk, rfl, ⟨A', c', rfl, hc', hown⟩, hB⟩ := hrel
    have HGK := Lib.hid hgk
    clear hgk
    by_cases hlt : k < m
    · have hlt2 : (k : Int) < (m : Int) := by omega
      obtain ⟨s, hsi⟩ : ∃ s, ss[k]? = some s := ⟨_, List.getElem?_eq_getElem (by rw [HL.out]; omega)⟩
      have hok := HS.out s (List.mem_of_getElem? hsi)
      obtain ⟨b2, o2, e2, hb2, hrg⟩ := sp_range (HR.out.bel hB (Nat.le_refl _)) HS.out hsi (by omega)
      injection e2 with e2
      injection e2 with e2 e3
      subst e2
      subst e3
      have hld : (ldAt 43 (.pointer (some ⟨b, off + k * 192, none⟩))).run Tryz.prog wr = .ok (.agg s.cells.toArray) wr := run_loadAt_mid wr b (off + k * 192) 43 s.cells _ hrg Tryz.underlying43 rfl (by rw [Sp.cells_len hok]; exact hd69)
      have HNX := Lib.hid (fil_next hsi)
      have hfl := fil_len ss k (by omega)
      have HSL := Lib.hid (Sp.cells_len hok)
      have HST : Hid (∀ W, Blk W wr.heap.size 43 s.cells → Calls Tryz.prog 40 #[.slice (some ⟨wr.heap.size, 32, none⟩) 32 32, .int .i64 288] W fun e w' => ∃ g c', e = .returned (.tuple #[.slice (some ⟨g, 0, none⟩) 288 c', .int .i64 0]) ∧ 288 ≤ c' ∧ w'.ownsRow W.heap.size 5 1 (.slice (some ⟨g, 0, none⟩) 288 c') 288 (u8s (Ch.piece s.stream 0 288)) ∧ Below W.heap.size W w') := fun W hb => by
        refine (stream_any (some ⟨wr.heap.size, 32, none⟩) 32 s.stream 288 W (Sp.rd hb hok 32 s.stream (by omega) (Sp.at_stream hok)) (by omega)).mono ?_
        rintro e w' ⟨A', c', rfl, hc', ho, hB⟩
        obtain ⟨g, rfl, _⟩ := own_pos ho (by omega)
        exact ⟨g, c', rfl, hc', ho, hB⟩
      have HS1 := Lib.hid (Sp.cells_one s)
      have hpl := Ch.piece_len s.stream 0 288
      obtain ⟨F, hF⟩ : ∃ F, F = fil ss k := ⟨_, rfl⟩
      rw [← hF] at HNX hfl hown
      obtain ⟨S, hS⟩ : ∃ S, S = Ch.piece s.stream 0 288 := ⟨_, rfl⟩
      rw [← hS] at HNX HST hpl
      obtain ⟨L, hL⟩ : ∃ L, L = 48 * k + 48 := ⟨_, rfl⟩
      obtain ⟨D, hD⟩ : ∃ D, D = 288 - L := ⟨_, rfl⟩
      rw [← hL, ← hD] at HNX
      have hDI : (288 : Int) - (L : Int) = (D : Int) := by omega
      have hD0 : (0 : Int) ≤ (D : Int) := by omega
      have hD8 : (D : Int) ≤ 288 := by omega
      have hL8 : 288 - D = L := by omega
      have hD9 : D ≤ 240 := by omega
      have HJ : Hid (∀ (W : World) (gl gz : Nat), Blk W gl 23 [.slice A' (48 * k) c', .slice (some ⟨gz, 0, none⟩) 48 48] → Rd W A' (48 * k) (u8s F) → Blk W gz 5 (u8s z48) → Calls Tryz.prog 22 #[.slice (some ⟨gl, 0, none⟩) 2 2] W fun e w' => ∃ g c', e = .returned (.slice (some ⟨g, 0, none⟩) L c') ∧ L ≤ c' ∧ w'.ownsRow W.heap.size 5 1 (.slice (some ⟨g, 0, none⟩) L c') L (u8s (F ++ List.replicate 48 0)) ∧ Below W.heap.size W w') := fun W gl gz h1 h2 h3 => by
        refine (join_to _ 2 2 [F, List.replicate 48 0] W (RdB.of_blk h1 ⟨.of_rd h2 hc', .of_blk h3 0 48 48 z48 (by rw [u8s_length, z48, List.length_replicate]; omega) (by omega) (by rw [List.drop_zero, List.take_of_length_le (by rw [u8s_length, z48, List.length_replicate]; omega)]), trivial⟩) (by omega) (F ++ List.replicate 48 0) L (by simp) (by simp [hfl, hL]) (by omega)).mono ?_
        rintro e w' ⟨A2, c2, rfl, hc2, ho, hB⟩
        obtain ⟨g, rfl, _⟩ := own_pos ho (by omega)
        exact ⟨g, c2, rfl, hc2, ho, hB⟩
      have HX : Hid (∀ (W : World) (gl g9 g7 c9 c7 : Nat), Blk W gl 23 [.slice (some ⟨g9, 0, none⟩) L c9, .slice (some ⟨g7, D, none⟩) (288 - D) (c7 - D)] → Rd W (some ⟨g9, 0, none⟩) L (u8s (F ++ List.replicate 48 0)) → L ≤ c9 → Rd W (some ⟨g7, 0, none⟩) 288 (u8s S) → 288 ≤ c7 → Calls Tryz.prog 41 #[.slice (some ⟨gl, 0, none⟩) 2 2] W fun e w' => ∃ A2 c2, e = .returned (.tuple #[.slice A2 L c2, .int .i64 0]) ∧ L ≤ c2 ∧ w'.ownsRow W.heap.size 5 1 (.slice A2 L c2) L (u8s (fil ss (k + 1))) ∧ Below W.heap.size W w') := fun W gl g9 g7 c9 c7 h1 h2 h9 h3 h7 => by
        rw [HNX.out]
        have h8 := rd_mid h3 D (288 - D) (by omega)
        rw [Nat.zero_add, List.take_of_length_le (by rw [List.length_drop, hpl]; omega)] at h8
        exact pxor_any _ 2 L (F ++ List.replicate 48 0) (S.drop D) W (RdB.of_blk h1 ⟨.of_rd h2 h9, .of_rd h8 (by omega), trivial⟩) (by simp [hfl, hL]) (by rw [List.length_drop, hpl]; omega) (by omega)
      generalize s.cells = C at *
      have HOW := Lib.hid hown
      have HB := Lib.hid hB
      have HLL := Lib.hid hL
      have HL8 := Lib.hid hL8
      clear hsi hok hrg hfl hpl hF hS hown hB hL hD hL8
      have hmk := HMK.out
      have hbs := HB.out.size
      go_wp2_with (first
        | (refine wpList_store_all rfl 43 (.tmp 6) (.tmp 27) rfl wr.heap.size C (by rfl) (by rfl) 43 (u8s (List.replicate 192 0)) (by exact Blk.new' rfl zcSp) (by rw [HSL.out]; exact hd69) HS1.out (by rw [HSL.out]; rfl) ?_
           intro w1 hb1 ho1
           have HE1 := Lib.hid (ho1.below (HB.out.alloc hbs _) hbs (Nat.le_trans hbs (by simp)))
           have HB1 := Lib.hid hb1
           have HO1 := Lib.hid (own_only (HOW.out.alloc _) ho1 (fun k hk => by have h9 := (HOW.out.lt k hk).2; omega))
           have hs1 := ho1.size
           clear hb1 ho1)
        | (go_at_call 40; (with_reducible refine (HST.out _ (by exact HB1.out)).mono ?_); rintro e w2 ⟨g2, c2, rfl, hc2, hown2, hB2⟩
           have HE2 := qtr HE1 hB2
           have HO2 := Lib.hid (own_below HO1.out hB2)
           have HP2 := Lib.hid (Rd.of_own hown2)
           have hs2 := hB2.size
           have hg2 : ¬ c2 = D := by omega
           have hg3 : (D : Int) ≤ (c2 : Int) := by omega
           clear hown2 hB2)
        | (go_at_call 22; (with_reducible refine (HJ.out _ _ _ (by exact Blk.new' (by simp) rfl) (by exact (((Rd.of_own HO2.out).alloc _).alloc _)) (by exact (Blk.new' rfl rfl).alloc _)).mono ?_); rintro e w3 ⟨g3, c3, rfl, hc3, hown3, hB3⟩
           have HE3 := Lib.hid ((HE2.out.alloc HE2.out.size _).alloc (Nat.le_trans HE2.out.size (by simp)) _ |>.trans (hB3.mono (Nat.le_trans HE2.out.size (by simp; omega))))
           have HP3 := Lib.hid (((HP2.out.alloc _).alloc _).below hB3)
           have HJ3 := Lib.hid (Rd.of_own hown3)
           have hs3 := hB3.size
           clear hown3 hB3)
        | (go_at_call 41; (with_reducible refine (HX.out _ _ _ _ _ _ (by exact Blk.new' rfl rfl) (by exact HJ3.out.alloc _) (by exact hc3) (by exact HP3.out.alloc _) (by exact hc2)).mono ?_); rintro e w4 ⟨A4, c4, rfl, hc4, hown4, hB4⟩
           have HE4 := Lib.hid ((HE3.out.alloc HE3.out.size _).trans (hB4.mono (Nat.le_trans HE3.out.size (by simp))))
           have HO4 := Lib.hid (own_mono hown4 (base' := w.heap.size) (Nat.le_trans HE3.out.size (by simp)))
           clear hown4 hB4))
      go_roundg (m - (k + 1))
      case measure => have := HGK.out; omega
      case rel => exact ⟨k + 1, by omega, rfl, by go_num, ⟨A4, c4, by rw [HLL.out]; rfl, by have := HLL.out; omega, by have h9 := HO4.out; rw [HLL.out] at h9; exact h9⟩, HE4.out⟩
    · obtain rfl : k = m := by omega
      have hlt2 : ¬ (k : Int) < (k : Int) := by omega
      have HOW := Lib.hid hown
      clear hown
      go_wp2_with fail
      go_ret2
      exact ⟨A', c', rfl, hc', HOW.out, hB⟩
end Go.Proofs.YtlbnibmcflmohaaGreat
namespace Go.Proofs.YtlbnibmcflmohaaGreat
open Go.RowKit
theorem splice_app {α : Type} (A C T : List α) (n : Nat) (h : A.length = n) : splice (A ++ C) n T = A ++ T ++ C.drop T.length := by
  subst h
  simp [splice]
theorem next_cells {M P : List UInt8} {Z : List Value} (hm : M.length = 32) (hp : P.length = 288) (hz : Z.length = 288) :
    splice (splice (splice Z 0 (u8s M)) 32 ((u8s (P.drop 32)).take 16)) 48 ((u8s (P.drop 48)).take 240) = u8s (M ++ P.drop 32) := by
  have e1 : splice Z 0 (u8s M) = u8s M ++ Z.drop 32 := by simp [splice, u8s_length, hm]
  have hT : ((u8s (P.drop 32)).take 16).length = 16 := by simp [u8s_length, hp]
  have hB : ((u8s (P.drop 48)).take 240).length = 240 := by simp [u8s_length, hp]
  rw [e1, splice_app (u8s M) (Z.drop 32) _ 32 (by rw [u8s_length, hm]), splice_app (u8s M ++ (u8s (P.drop 32)).take 16) _ _ 48 (by rw [List.length_append, hT, u8s_length, hm]), hT, hB]
  rw [List.drop_drop, List.drop_drop, List.drop_of_length_le (l := Z) (by rw [hz]; omega), List.append_nil, u8s_take, u8s_take, ← u8s_append, ← u8s_append, List.append_assoc]
  rw [List.take_of_length_le (l := P.drop 48) (by simp [hp]), show P.drop 48 = (P.drop 32).drop 16 by rw [List.drop_drop], List.take_append_drop]
theorem Rd.apart' {w : World} {A : Option Addr} {n g : Nat} {xs : List Value} (h : Rd w A (n + 1) xs) (hg : w.heap.size ≤ g) : ∀ ad, A = some ad → ad.block ≠ g := by
  intro ad hA
  exact (h.apart hg) (by omega) ad hA
attribute [local go_sem ↓] ldq_34 ldq_69 ldq_cm
set_option maxRecDepth 100000 in
set_option maxHeartbeats 4000000 in
theorem open_relay (s : Sp) (hs : s.ok) (h : List UInt8) (hh : h.length = 288) (hf : fits s h = true) (hd : dce ((plainOf s h).take 32) = 0) (hk : (dcm ((plainOf s h).take 32)).k = 1) (w : World) :
    Calls Tryz.prog 11 #[.agg (u8s h).toArray, .agg s.cells.toArray] w fun e w' => e = .returned (.tuple #[.agg (if mE s.blind s.alpha = 0 then (dcm ((plainOf s h).take 32)).cells else Cm.zero.cells).toArray, .agg (u8s (if mE s.blind s.alpha = 0 then mB s.blind s.alpha ++ (plainOf s h).drop 32 else z288)).toArray, .int .i64 (mE s.blind s.alpha : Int)]) ∧ Below w.heap.size w w' := by
  have HF := Lib.hid (fun W => fits_any s hs h hh W)
  rw [hf] at HF
  have HT : Hid (∀ (W : World) (gl gz : Nat), Blk W gl 23 [.slice (some ⟨w.heap.size, 48, none⟩) 240 240, .slice (some ⟨gz, 0, none⟩) 48 48] → Blk W w.heap.size 37 (u8s h) → Blk W (w.heap.size + 1) 43 s.cells → Blk W gz 5 (u8s (List.replicate 48 0)) →
      Calls Tryz.prog 21 #[.slice (some ⟨w.heap.size + 1, 32, none⟩) 32 32, .slice (some ⟨gl, 0, none⟩) 2 2] W fun e w' => ∃ g c', e = .returned (.tuple #[.slice (some ⟨g, 0, none⟩) 288 c', .int .i64 0]) ∧ 288 ≤ c' ∧ w'.ownsRow W.heap.size 5 1 (.slice (some ⟨g, 0, none⟩) 288 c') 288 (u8s (plainOf s h)) ∧ Below W.heap.size W w') := fun W gl gz h1 h2 h3 h4 => by
    refine (turn_to (some ⟨w.heap.size + 1, 32, none⟩) 32 s.stream (some ⟨gl, 0, none⟩) 2 2 [(h.drop 48).take 240, List.replicate 48 0] ((h.drop 48).take 240 ++ List.replicate 48 0) 288 W (Sp.rd h3 hs 32 s.stream (by omega) (Sp.at_stream hs))
      (RdB.of_blk h1 ⟨.of_blk h2 48 240 240 _ (by rw [u8s_length, hh]; omega) (by omega) (by rw [u8s_drop, u8s_take]), .of_blk h4 0 48 48 _ (by rw [u8s_length, List.length_replicate]; omega) (by omega) (by rw [List.drop_zero, List.take_of_length_le (by rw [u8s_length, List.length_replicate]; omega)]), trivial⟩) (by omega) (by simp) (by simp [hh]) (by omega)).mono ?_
    rintro e w' ⟨A', c', rfl, hc', ho, hB⟩
    obtain ⟨g, rfl, _⟩ := own_pos ho (by omega)
    exact ⟨g, c', rfl, hc', ho, hB⟩
  have hmk : ∀ W, (Instr.makeSlice 23 (.int .i64 48) (.int .i64 48)).run Tryz.prog W = .ok (.slice (some ⟨W.heap.size, 0, none⟩) 48 48) (W.alloc (.cells (u8s (List.replicate 48 0)).toArray 5)) := fun W => by kernel_rfl
  have hpl := plainOf_len s hh
  have HD : Hid (∀ (W : World) (g c : Nat), 32 ≤ c → Rd W (some ⟨g, 0, none⟩) 288 (u8s (plainOf s h)) → Calls Tryz.prog 26 #[.slice (some ⟨g, 0, none⟩) 32 c] W fun e w' => e = .returned (.tuple #[.agg (if dce ((plainOf s h).take 32) = 0 then (dcm ((plainOf s h).take 32)).cells else Cm.zero.cells).toArray, .int .i64 (dce ((plainOf s h).take 32) : Int)]) ∧ Below W.heap.size W w') := fun W g c hc hr => by
    have h5 := rd_mid hr 0 32 (by omega)
    rw [List.drop_zero, Nat.zero_add] at h5
    exact cdec_any _ c _ W h5 hc
  obtain ⟨R, hR⟩ : ∃ R, R = (if dce ((plainOf s h).take 32) = 0 then (dcm ((plainOf s h).take 32)).cells else Cm.zero.cells) := ⟨_, rfl⟩
  rw [← hR] at HD
  have hpl2 : ((plainOf s h).take 32).length = 32 := by rw [List.length_take, hpl]; rfl
  have HRL : Hid (R.length = 20) := by show _ = _; rw [hR]; split <;> first | exact Cm.cells_len (dcm_ok hpl2) | rfl
  have HR1 : Hid (∀ v ∈ R, v.oneCell' = true) := by show ∀ v ∈ R, _; rw [hR]; split <;> exact Cm.cells_one _
  rw [hd, if_pos rfl] at hR
  rw [hd] at HD
  have HR0 : Hid (R[0]? = some (.int .u8 (dcm ((plainOf s h).take 32)).k.toNat)) := by rw [hR]; rfl
  rw [hk] at HR0
  rw [← hR]
  clear hR hpl2 hd hk
  have HNX := Lib.hid (fun W => next_any s hs W)
  have HML := Lib.hid (mB_len s.blind s.alpha)
  have hP := plainOf_len s hh
  obtain ⟨P, hPd⟩ : ∃ P, P = plainOf s h := ⟨_, rfl⟩
  rw [← hPd] at HD HT hP ⊢
  have HPL := Lib.hid hP
  generalize mB s.blind s.alpha = M at *
  generalize mE s.blind s.alpha = E at *
  clear hP
  have hsl := Sp.cells_len hs
  have hhl : (u8s h).length = 288 := by rw [u8s_length, hh]
  generalize u8s h = U at *
  generalize s.cells = S at *
  clear hs hh hf hpl hPd
  have HSL := Lib.hid hsl
  have hb2 : Blk ((((w.alloc (.cells U.toArray 37)).alloc (.cells S.toArray 43)).alloc (.cells Cm.zero.cells.toArray 50)).alloc (.cells Tryz.zeroCells37 37)) w.heap.size 37 U := (((Blk.new w _ _).alloc _).alloc _).alloc _
  have hb3 : Blk ((((w.alloc (.cells U.toArray 37)).alloc (.cells S.toArray 43)).alloc (.cells Cm.zero.cells.toArray 50)).alloc (.cells Tryz.zeroCells37 37)) (w.heap.size + 1) 43 S := ((Blk.new' (by simp) rfl).alloc _).alloc _
  have hb4 : Blk ((((w.alloc (.cells U.toArray 37)).alloc (.cells S.toArray 43)).alloc (.cells Cm.zero.cells.toArray 50)).alloc (.cells Tryz.zeroCells37 37)) (w.heap.size + 2) 50 Cm.zero.cells := (Blk.new' (by simp) rfl).alloc _
  have hb5 : Blk ((((w.alloc (.cells U.toArray 37)).alloc (.cells S.toArray 43)).alloc (.cells Cm.zero.cells.toArray 50)).alloc (.cells Tryz.zeroCells37 37)) (w.heap.size + 3) 37 (u8s z288) := Blk.new' (by simp) zc34'
  have hE : Below w.heap.size w ((((w.alloc (.cells U.toArray 37)).alloc (.cells S.toArray 43)).alloc (.cells Cm.zero.cells.toArray 50)).alloc (.cells Tryz.zeroCells37 37)) := ((((Below.refl _ w).alloc (Nat.le_refl _) _).alloc (by simp) _).alloc (by simp; omega) _).alloc (by simp; omega) _
  have hl1 : ∀ o1 o2, (ldAt 37 (.pointer (some ⟨w.heap.size, 0, none⟩))).run Tryz.prog ((((w.alloc (.cells U.toArray 37)).alloc (.cells S.toArray 43)).alloc o1).alloc o2) = .ok (.agg U.toArray) ((((w.alloc (.cells U.toArray 37)).alloc (.cells S.toArray 43)).alloc o1).alloc o2) := fun o1 o2 => hd_ld ((((Blk.new w _ _).alloc _).alloc o1).alloc o2) hhl
  have hl2 : ∀ o1 o2, (ldAt 43 (.pointer (some ⟨w.heap.size + 1, 0, none⟩))).run Tryz.prog ((((w.alloc (.cells U.toArray 37)).alloc (.cells S.toArray 43)).alloc o1).alloc o2) = .ok (.agg S.toArray) ((((w.alloc (.cells U.toArray 37)).alloc (.cells S.toArray 43)).alloc o1).alloc o2) := fun o1 o2 => sp_ld (((Blk.new' (by simp) rfl).alloc o1).alloc o2) hsl
  have HB2 := Lib.hid hb2
  have HB3 := Lib.hid hb3
  have HB4 := Lib.hid hb4
  have HB5 := Lib.hid hb5
  have HE := Lib.hid hE
  clear hb2 hb3 hb4 hb5 hE hsl hhl
  go_enter Tryz.func11, Tryz.ntmps11
  go_upto_region 3 with (go_at_call 10; (with_reducible refine (HF.out _).mono ?_); rintro e w1 ⟨rfl, hB1⟩; have HE1 := Lib.hid (HE.out.trans (hB1.mono (by simp; omega))); have HZ2 := qbl HB2 hB1; have HZ3 := qbl HB3 hB1; have HZ4 := qbl HB4 hB1; have HZ5 := qbl HB5 hB1; clear hB1)
  go_region_held3 (fun _ => True) (trivial) ((go_at_call 21; (refine (HT.out _ _ _ (by repeat (first | exact Blk.new' (by simp) rfl | apply Blk.drew | apply Blk.alloc)) (by repeat (first | exact HZ2.out | apply Blk.drew | apply Blk.alloc)) (by repeat (first | exact HZ3.out | apply Blk.drew | apply Blk.alloc)) (by repeat (first | exact Blk.new' (by simp) rfl | apply Blk.drew | apply Blk.alloc))).mono ?_); rintro e w4 ⟨g4, c4, rfl, hc4, hown4, hB4⟩))
  have HS4 : Hid (Below w1.heap.size w1 w4) := (((Below.refl _ w1).drew.alloc (by simp) _).alloc (by simp <;> omega) _).trans (hB4.mono (by simp <;> omega))
  have hs1 := HE1.out.size
  have hz4 := HZ4.out.lt
  have hz5 := HZ5.out.lt
  have hs4 := HS4.out.size
  have HE4 := Lib.hid (HE1.out.trans (HS4.out.mono hs1))
  have HY3 := Lib.hid (HZ3.out.below HS4.out HZ3.out.lt)
  have HY4 := Lib.hid (HZ4.out.below HS4.out HZ4.out.lt)
  have HY5 := Lib.hid (HZ5.out.below HS4.out HZ5.out.lt)
  have HR4 := Lib.hid (Rd.of_own hown4)
  have hc32 : 32 ≤ c4 := by omega
  have HC4 : Hid (288 ≤ c4) := hc4
  have HZ3' := Lib.hid HZ3.out.lt
  clear hown4 hB4 HT HB2 HB3 HB4 HB5 HE HZ2 HZ3 HZ4 HZ5 HE1
  go_upto_region 12 with (first
    | (go_at_call 26; (with_reducible refine (HD.out _ _ _ (by exact hc32) (by exact HR4.out)).mono ?_); rintro e w5 ⟨rfl, hB5⟩
       have HE5 := qtr HE4 hB5
       have HX3 := qbl HY3 hB5
       have HX4 := qbl HY4 hB5
       have HX5 := qbl HY5 hB5
       have HR5 := Lib.hid (HR4.out.below hB5)
       have hs5 := hB5.size
       clear hB5)
    | (refine wpList_store_all rfl 50 (.tmp 9) (.tmp 37) rfl w5.heap.size R (by rfl) (by rfl) 50 Cm.zero.cells (by exact Blk.new' rfl rfl) (by rw [HRL.out]; exact hd76c) HR1.out (by rw [HRL.out]; rfl) ?_; intro w6 hb6 ho6
       have HE6 := Lib.hid (ho6.below (HE5.out.alloc HE5.out.size _) HE5.out.size (Nat.le_trans HE5.out.size (by simp)))
       have HV3 := qal ho6 HX3 (by have := HX3.out.lt; omega)
       have HV4 := Lib.hid (ho6.blk (HX4.out.alloc _) (by omega))
       have HV5 := Lib.hid (ho6.blk (HX5.out.alloc _) (by omega))
       have HV9 := Lib.hid hb6
       have HR6 := Lib.hid (ho6.rd (HR5.out.alloc _) ((HR5.out).apart' (Nat.le_refl _)))
       have c90 := (hb6.cell 0).trans HR0.out
       clear hb6 ho6))
  have hl3 : ∀ o, (ldAt 43 (.pointer (some ⟨w.heap.size + 1, 0, none⟩))).run Tryz.prog (w6.alloc o) = .ok (.agg S.toArray) (w6.alloc o) := fun o => sp_ld (HV3.out.alloc o) HSL.out
  have HA10 : Hid (Blk (w6.alloc (.cells Tryz.zeroCells37 37)) w6.heap.size 37 (u8s z288)) := Blk.new' rfl zc34'
  have HBA : Hid (Below w6.heap.size w6 (w6.alloc (.cells Tryz.zeroCells37 37))) := (Below.refl _ _).alloc (Nat.le_refl _) _
  go_upto_region 13 with (first
    | (go_at_call 17; (with_reducible refine (HNX.out _).mono ?_); rintro e w8 ⟨rfl, hB8⟩
       have HB8 := qtr HBA hB8
       have HX10 := qbl HA10 hB8
       clear hB8)
    | (refine wpList_store rfl 26 (.tmp 53) (.tmp 51) rfl w6.heap.size 0 (u8s M) (by rfl) (by rfl) 37 (u8s z288) (by exact HX10.out) (by rw [u8s_length, HML.out]; exact hd32) (u8s_one _) (by rw [u8s_length, HML.out, z288_len]; omega) ?_; intro w9 hb9 ho9))
  have HB9 := Lib.hid (ho9.below HB8.out (Nat.le_refl _) HB8.out.size)
  have HH9 := Lib.hid hb9
  have HK4 := Lib.hid (HV4.out.below HB9.out HV4.out.lt)
  have HK5 := Lib.hid (HV5.out.below HB9.out HV5.out.lt)
  have HK9 := Lib.hid (HV9.out.below HB9.out HV9.out.lt)
  have HKR := Lib.hid (HR6.out.below HB9.out)
  have HG6 : Hid (g4 ≠ w6.heap.size) := (HR6.out.apart' (n := 287) (g := w6.heap.size) (Nat.le_refl _)) _ rfl
  have HKE := Lib.hid (HE6.out.trans (HB9.out.mono HE6.out.size))
  have HG4 := Lib.hid HV4.out.lt
  have HG5 := Lib.hid HV5.out.lt
  have HG9 := Lib.hid HV9.out.lt
  clear hb9 ho9 hl3 HA10 HBA HB8 HX10 HV3 HV4 HV5 HV9 HR6
  rcases Nat.eq_zero_or_pos E with hE0 | hE0
  · obtain rfl : E = 0 := hE0
    have HRA : Hid (Rd w9.drew (some ⟨g4, 32, none⟩) 256 (u8s (P.drop 32))) := by
      have h5 := rd_mid HKR.out 32 256 (by omega)
      rw [List.take_of_length_le (by rw [List.length_drop, HPL.out]; exact Nat.le_refl _), Nat.zero_add] at h5
      exact h5.drew
    have hc4' := HC4.out
    have hca : (288 : Int) ≤ (c4 : Int) := by omega
    have n32 : ¬ c4 = 32 := by omega
    have n48 : ¬ c4 = 48 := by omega
    have HHD : Hid (Blk w9.drew w6.heap.size 37 (splice (u8s z288) 0 (u8s M))) := HH9.out.drew
    have hl0 : (splice (u8s z288) 0 (u8s M)).length = 288 := by simp [splice, u8s_length, HML.out, z288]
    go_wp2
    go_region_held3 (fun _ => True) (trivial) ((refine step_copy rfl (.tmp 60) (.tmp 62) 23 rfl 5 Tryz.underlying23 u8_one1 w6.heap.size 32 16 16 (by rfl) (some ⟨g4, 32, none⟩) 256 (c4 - 32) (by rfl) 37 _ (by exact HHD.out) (u8s (P.drop 32)) (by exact HRA.out) (u8s_one _) (by rw [hl0]; omega) ?_; intro w10 hb10 ho10))
    have hl1' : (splice (splice (u8s z288) 0 (u8s M)) 32 ((u8s (P.drop 32)).take 16)).length = 288 := by simp [splice, u8s_length, HML.out, z288, HPL.out]
    have hBx := ho10.below (Below.refl w6.heap.size w9.drew) (Nat.le_refl _) (by have := HH9.out.lt; show w6.heap.size ≤ w9.heap.size; omega)
    have HJ4 := Lib.hid (ho10.blk HK4.out.drew (by have := HG4.out; omega))
    have HJ5 := Lib.hid (ho10.blk HK5.out.drew (by have := HG5.out; omega))
    have HJ9 := Lib.hid (ho10.blk HK9.out.drew (by have := HG9.out; omega))
    have HJR := Lib.hid (ho10.rd HKR.out.drew (by rintro ad e; injection e with e; subst e; exact HG6.out))
    have HJE := Lib.hid (ho10.below HKE.out.drew (by have := HG4.out; omega) HKE.out.drew.size)
    have HJH := Lib.hid hb10
    clear hb10 ho10 hBx HHD HRA hl0 HK4 HK5 HK9 HKR HKE
    have HRA : Hid (Rd w10.drew (some ⟨g4, 48, none⟩) 240 (u8s (P.drop 48))) := by
      have h5 := rd_mid HJR.out 48 240 (by omega)
      rw [List.take_of_length_le (by rw [List.length_drop, HPL.out]; exact Nat.le_refl _), Nat.zero_add] at h5
      exact h5.drew
    go_wp2
    go_region_held3 (fun _ => True) (trivial) ((refine step_copy rfl (.tmp 65) (.tmp 67) 23 rfl 5 Tryz.underlying23 u8_one1 w6.heap.size 48 240 240 (by rfl) (some ⟨g4, 48, none⟩) 240 (c4 - 48) (by rfl) 37 _ (by exact HJH.out.drew) (u8s (P.drop 48)) (by exact HRA.out) (u8s_one _) (by rw [hl1']; omega) ?_; intro w11 hb11 ho11))
    have hfin : splice (splice (splice (u8s z288) 0 (u8s M)) 32 ((u8s (P.drop 32)).take 16)) 48 ((u8s (P.drop 48)).take 240) = u8s (M ++ P.drop 32) := by
      exact next_cells HML.out HPL.out z288_len
    rw [hfin] at hb11
    have HL4 := Lib.hid (ho11.blk HJ4.out.drew (by have := HG4.out; omega))
    have HL5 := Lib.hid (ho11.blk HJ5.out.drew (by have := HG5.out; omega))
    have HL9 := Lib.hid (ho11.blk HJ9.out.drew (by have := HG9.out; omega))
    have HLE := Lib.hid (ho11.below HJE.out.drew (by have := HG4.out; omega) HJE.out.drew.size)
    have HLH := Lib.hid hb11
    have hnl : (u8s (M ++ P.drop 32)).length = 288 := by rw [u8s_length, List.length_append, HML.out, List.length_drop, HPL.out]
    have HNL := Lib.hid hnl
    clear hb11 ho11 hfin hl1' HJ4 HJ5 HJ9 HJR HJE HJH HRA hnl
    go_wp2
    refine region_K (by kernel_rfl) 3 (fun w' => Blk w' w5.heap.size 50 R ∧ Blk w' w6.heap.size 37 (u8s (M ++ P.drop 32))) ?_
    refine AnyK.load 0 (v := .agg R.toArray) rfl (by kernel_rfl) (by kernel_rfl) (by kernel_rfl) (fun _ _ _ h => h) rfl (fun w' hw' => ey_loadR (x := .tmp 9) (by rfl) (by kernel_rfl) (cm_ld hw'.1 HRL.out)) ⟨HL9.out.drew, HLH.out.drew⟩ ?_
    refine AnyK.load 1 (v := .agg (u8s (M ++ P.drop 32)).toArray) rfl (by kernel_rfl) (by kernel_rfl) (by kernel_rfl) (fun _ _ _ h => h) rfl (fun w' hw' => ey_loadR (x := .tmp 10) (by rfl) (by kernel_rfl) (hd_ld hw'.2 HNL.out)) ⟨HL9.out.drew, HLH.out.drew⟩ ?_
    refine AnyK.storeAll 2 (w.heap.size + 2) R 50 _ (by rfl) rfl rfl (by rfl) (by kernel_rfl) (by kernel_rfl) (by kernel_rfl) HL4.out.drew (by rw [HRL.out]; exact hd76c) HR1.out (by rw [HRL.out]; rfl) (fun _ _ ho _ => ⟨ho.blk HL9.out.drew (by omega), ho.blk HLH.out.drew (by have := HG4.out; omega)⟩) ?_
    intro w12 hb12 ho12
    have hE12 := ho12.below HLE.out.drew (by omega) HLE.out.drew.size
    refine AnyK.storeAll 3 (w.heap.size + 3) (u8s (M ++ P.drop 32)) 37 _ (by rfl) rfl rfl (by rfl) (by kernel_rfl) (by kernel_rfl) (by kernel_rfl) (ho12.blk HL5.out.drew (by omega)) (by rw [HNL.out]; exact hd34) (u8s_one _) (by rw [HNL.out, z288_len]) (fun _ _ _ h => (by cases h)) ?_
    intro w13 hb13 ho13
    have HE13 := Lib.hid (ho13.below hE12 (by omega) hE12.size)
    have HB13 := Lib.hid hb13
    have HC13 := Lib.hid (ho13.blk hb12 (by omega))
    refine AnyK.val 4 (v := .int .i64 0) (by rfl) (by kernel_rfl) rfl (by kernel_rfl) (fun h => (by cases h)) ?_
    refine AnyK.done (by kernel_rfl) ?_
    clear hb12 ho12 hb13 ho13 hE12
    go_wp2
    exact bodyPost_ret (res_cct (p := 4) (q := 5) (u := 6) (ty := 50) (ty' := 37) rfl _ (w.heap.size + 2) (w.heap.size + 3) _ _ R (u8s (M ++ P.drop 32)) (by kernel_rfl) (by kernel_rfl) HC13.out _ Tryz.underlying50 rfl (by rw [HRL.out]; exact hd76c) HB13.out _ Tryz.underlying37 rfl (by rw [HNL.out]; exact hd34)) rfl ⟨by kernel_rfl, HE13.out⟩
  · have he : ¬ (E : Int) = 0 := by omega
    have HE0 : Hid (E ≠ 0) := (by show _ ≠ _; omega)
    clear hE0
    go_wp2_with (first
      | refine wpList_build rfl 50 [] rfl [] (by rfl) _ (build_cm0 _) ?_
      | refine wpList_build rfl 37 [] rfl [] (by rfl) _ (build34_z _) ?_
      | (refine wpList_store_all rfl 50 (.tmp 4) (.tmp 56) rfl (w.heap.size + 2) Cm.zero.cells (by rfl) (by rfl) 50 _ HK4.out (by exact hd76c) (Cm.cells_one _) (by exact rfl) ?_; intro w7 hb7 ho7
         have HE7 := Lib.hid (ho7.below HKE.out (by omega) HKE.out.size)
         have HU4 := Lib.hid hb7
         have HU5 := Lib.hid (ho7.blk HK5.out (by omega))
         clear hb7 ho7)
      | (refine wpList_store_all rfl 37 (.tmp 5) (.tmp 57) rfl (w.heap.size + 3) (u8s z288) (by rfl) (by rfl) 37 _ HU5.out (by rw [z288_len]; exact hd34) (u8s_one _) (by exact rfl) ?_; intro w10 hb8 ho8
         have HE8 := Lib.hid (ho8.below HE7.out (by omega) HE7.out.size)
         have HW4 := Lib.hid (ho8.blk HU4.out (by omega))
         have HW5 := Lib.hid hb8
         clear hb8 ho8))
    exact bodyPost_ret (res_cct rfl _ _ _ _ _ _ _ rfl rfl HW4.out _ Tryz.underlying50 rfl (by exact hd76c) HW5.out _ Tryz.underlying37 rfl (by rw [z288_len]; exact hd34)) rfl ⟨by first | rfl | (rw [if_neg HE0.out, if_neg HE0.out]; rfl), HE8.out⟩
end Go.Proofs.YtlbnibmcflmohaaGreat
