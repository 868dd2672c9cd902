/- Part of the proof: R54, R55. -/
import Derived.Test.YtlbnibmcflmohaaGreatPlx34
namespace Go.Proofs.YtlbnibmcflmohaaGreat
open Go.RowKit
theorem fold_st (d c B P t o q L H x y : Nat) (h : d + c * P = L + 38 * H) (hs : t = c + x + 38 * y) (ht : t = o + B * q) : d + o * P + q * (P * B) = L + x * P + 38 * (H + y * P) := by
  have h1 : t * P = c * P + x * P + 38 * y * P := by rw [hs, Nat.add_mul, Nat.add_mul]
  have h2 : t * P = o * P + B * q * P := by rw [ht, Nat.add_mul]
  have h3 : q * (P * B) = B * q * P := by grind
  have h4 : 38 * (H + y * P) = 38 * H + 38 * y * P := by grind
  omega
theorem w_split (ws : List Nat) (hl : ws.length = 17) : numL 4294967296 ws = numL 4294967296 (ws.take 8) + 115792089237316195423570985008687907853269984665640564039457584007913129639936 * numL 4294967296 (ws.drop 8) := numL_cut 4294967296 ws 8 (by omega)
theorem pad17 (ds : List Nat) (c : Nat) (hd : ds.length = 9) : (ds ++ List.replicate (17 - 9) 0).set 9 c = (ds ++ [c]) ++ List.replicate 7 0 := pad_set ds 9 17 c hd (by omega)
theorem numL_pad (B : Nat) : ∀ (l : List Nat) (n : Nat), numL B (l ++ List.replicate n 0) = numL B l
  | [], n => by rw [List.nil_append]; exact numL_zero B n
  | x :: l, n => by rw [List.cons_append, numL, numL, numL_pad B l n]
theorem pad_lt {l : List Nat} {B n : Nat} (hB : 0 < B) (h : ∀ y ∈ l, y < B) : ∀ y ∈ l ++ List.replicate n 0, y < B := by
  intro y hy
  rcases List.mem_append.1 hy with hy | hy
  · exact h y hy
  · rw [List.eq_of_mem_replicate hy]; exact hB
theorem fold_mod (L H V W : Nat) (hW : W = L + 115792089237316195423570985008687907853269984665640564039457584007913129639936 * H) (hV : V = L + 38 * H) : V % pr = W % pr := by
  rw [hW, hV, show L + 115792089237316195423570985008687907853269984665640564039457584007913129639936 * H = L + 38 * H + pr * (2 * H) by simp only [pr]; omega, Nat.add_mul_mod_self_left]
attribute [local go_sem ↓] ldq_w17 ldq_n8
set_option maxRecDepth 100000 in
set_option maxHeartbeats 2000000 in
theorem folded_any (ws : List Nat) (w : World) (hl : ws.length = 17) (hlt : ∀ x ∈ ws, x < 4294967296) :
    Calls Tryz.prog 56 #[.agg (u64l ws).toArray] w fun e w' => e = .returned (.agg (n8 (numL 4294967296 ws % pr)).toArray) ∧ Below w.heap.size w w' := by
  have HB0 : Hid (Blk ((w.alloc (.cells (u64l ws).toArray 110)).alloc (.cells o8.toArray 56)) w.heap.size 110 (u64l ws) ∧ Blk ((w.alloc (.cells (u64l ws).toArray 110)).alloc (.cells o8.toArray 56)) (w.heap.size + 1) 56 o8 ∧ Below w.heap.size w ((w.alloc (.cells (u64l ws).toArray 110)).alloc (.cells o8.toArray 56))) :=
    ⟨(Blk.new w _ _).alloc _, Blk.new' (by simp) rfl, ((Below.refl _ w).alloc (Nat.le_refl _) _).alloc (by simp) _⟩
  obtain ⟨W0, hW0⟩ : ∃ W0, W0 = numL 4294967296 ws := ⟨_, rfl⟩
  have HW0 := Lib.hid hW0
  rw [← hW0]
  clear hW0
  go_enter Tryz.func56, Tryz.ntmps56
  go_wp2
  go_loopg [] W0 (fun kk wr => ∃ vs : List Nat, kk = numL 4294967296 vs ∧ vs.length = 17 ∧ (∀ x ∈ vs, x < 4294967296) ∧ numL 4294967296 vs % pr = W0 % pr ∧ Blk wr w.heap.size 110 (u64l vs) ∧ Blk wr (w.heap.size + 1) 56 o8 ∧ Below w.heap.size w wr)
  case atStart => exact ⟨ws, HW0.out, hl, hlt, by rw [← HW0.out], HB0.out.1, HB0.out.2.1, HB0.out.2.2⟩
  case round =>
    clear HB0 HW0 hl hlt
    obtain ⟨vs, hgk, hvl, hvlt, hvm, hA, hZ, hE⟩ := hrel
    have HGK := Lib.hid hgk
    have HVM := Lib.hid hvm
    have HVS := Lib.hid (w_split vs hvl)
    have hld := w17_ld hA hvl
    have HHI := Lib.hid (fun W => high_any vs W hvl)
    have HL8 : Hid (numL 4294967296 (vs.take 8) < 115792089237316195423570985008687907853269984665640564039457584007913129639936) := by
      have h := numL_lt 4294967296 (vs.take 8) (fun x hx => hvlt x (List.mem_of_mem_take hx))
      rw [List.length_take, hvl] at h
      exact h
    have HVL := Lib.hid hvl
    have HLT := Lib.hid hvlt
    have HA := Lib.hid hA
    have HZ := Lib.hid hZ
    have HE := Lib.hid hE
    clear hA hZ hE hgk hvm hvl hvlt
    obtain ⟨H, hH⟩ : ∃ H, H = numL 4294967296 (vs.drop 8) := ⟨_, rfl⟩
    rw [← hH] at HHI HVS
    have HHD := Lib.hid hH
    clear hH
    rcases Nat.eq_zero_or_pos H with h0 | h0
    · have hd : decide (0 < H) = false := decide_eq_false (by omega)
      have H0 := Lib.hid h0
      clear h0
      go_upto_region 16 with (go_at_call 75; (with_reducible refine (HHI.out _).mono ?_); rintro e w3 ⟨rfl, hB⟩; have HA3 := qbl HA hB; have HZ3 := qbl HZ hB; have HE3 := qtr HE hB; clear hB)
      have HO3 : Hid (Blk (w3.alloc (.cells o8.toArray 56)) w3.heap.size 56 (u32d (vs.take 0 ++ List.replicate (8 - 0) 0))) := Blk.new' rfl rfl
      have HA4 := Lib.hid (HA3.out.alloc (.cells o8.toArray 56))
      have HZ4 := Lib.hid (HZ3.out.alloc (.cells o8.toArray 56))
      have HE4 := Lib.hid (HE3.out.alloc HE3.out.size (.cells o8.toArray 56))
      have HG : Hid (w.heap.size < w3.heap.size ∧ w.heap.size + 1 < w3.heap.size) := ⟨HA3.out.lt, HZ3.out.lt⟩
      clear HA HZ HE HA3 HZ3 HE3 hld hd HHI
      go_wp2
      go_loopg [7] 8 (fun kk q wr => ∃ i : Nat, kk = 8 - i ∧ q = .int .i64 (i : Int) ∧ i ≤ 8 ∧ Blk wr w.heap.size 110 (u64l vs) ∧ Blk wr (w.heap.size + 1) 56 o8 ∧ Blk wr w3.heap.size 56 (u32d (vs.take i ++ List.replicate (8 - i) 0)) ∧ Below w.heap.size w wr)
      case atStart => exact ⟨0, rfl, rfl, by omega, HA4.out, HZ4.out, HO3.out, HE4.out⟩
      case round =>
        clear HA4 HZ4 HE4 HO3
        obtain ⟨i, hgk2, rfl, hi, hA, hZ, hO, hE⟩ := hrel
        rcases Nat.lt_or_ge i 8 with hlt | hge
        · have hlt2 : (i : Int) < 8 := by omega
          have hvl := HVL.out
          obtain ⟨x, hx⟩ : ∃ x, x = vs.getD i 0 := ⟨_, rfl⟩
          have hx32 : x < 4294967296 := by rw [hx]; exact getD_mem_lt (by omega) HLT.out i
          have cx : wr.cell? ⟨w.heap.size, i, none⟩ = some (.int .u64 (x : Int)) := (hA.cell i).trans (hx ▸ u64l_get (by omega))
          have cz : wr.cell? ⟨w3.heap.size, i, none⟩ = some (.int .u32 (((vs.take i ++ List.replicate (8 - i) 0).getD i 0 : Nat) : Int)) := (hO.cell i).trans (u32d_get (by simp; omega))
          have fz : wr.frozen? ⟨w3.heap.size, i, none⟩ = false := hO.frozen i
          have hxm : (x : Int) % 4294967296 = (x : Int) := by omega
          have HAx := Lib.hid (hA.far (p := ⟨w3.heap.size, i, none⟩) (by have := HG.out.1; show w.heap.size ≠ w3.heap.size; omega) (.int .u32 (x : Int)))
          have HZx := Lib.hid (hZ.far (p := ⟨w3.heap.size, i, none⟩) (by have := HG.out.2; show w.heap.size + 1 ≠ w3.heap.size; omega) (.int .u32 (x : Int)))
          have HOx : Hid (Blk (wr.setCell ⟨w3.heap.size, i, none⟩ (.int .u32 (x : Int))) w3.heap.size 56 (u32d (vs.take (i + 1) ++ List.replicate (8 - (i + 1)) 0))) := by
            have h1 := hO.set_ i (.int .u32 (x : Int))
            rw [u32d_set, pad_set (vs.take i) i 8 x (by rw [List.length_take]; omega) hlt] at h1
            rw [show vs.take (i + 1) = vs.take i ++ [x] by rw [List.take_add_one, hx, List.getD_eq_getElem?_getD, List.getElem?_eq_getElem (by omega)]; rfl]
            exact h1
          have HEx := Lib.hid (hE.setCell (p := ⟨w3.heap.size, i, none⟩) (by have := HG.out.1; show w.heap.size ≤ w3.heap.size; omega) (.int .u32 (x : Int)))
          have HGK2 := Lib.hid hgk2
          clear hA hZ hO hE hgk2 hx hvl
          go_wp2
          go_roundg (8 - (i + 1))
          case measure => have := HGK2.out; omega
          case rel => exact ⟨i + 1, rfl, by go_num, by omega, HAx.out, HZx.out, HOx.out, HEx.out⟩
        · obtain rfl : i = 8 := by omega
          have hlt2 : ¬ ((8 : Nat) : Int) < 8 := by omega
          rw [show 8 - 8 = 0 by omega, List.replicate_zero, List.append_nil] at hO
          have hl8 : (vs.take 8).length = 8 := by rw [List.length_take, HVL.out]; rfl
          rw [n8_of hl8 (fun x hx => HLT.out x (List.mem_of_mem_take hx))] at hO
          obtain ⟨L, hL⟩ : ∃ L, L = numL 4294967296 (vs.take 8) := ⟨_, rfl⟩
          have HLL : Hid (L % pr = W0 % pr) := (by show _ = _; rw [← HVM.out, HVS.out, H0.out, hL, Nat.mul_zero, Nat.add_zero])
          have hL8 := HL8.out
          rw [← hL] at hO hL8
          have HNO := Lib.hid (fun W => rnorm_n L hL8 W)
          have hld := n8_run hO
          have HZx := Lib.hid hZ
          have HEx := Lib.hid hE
          clear hA hZ hO hE hgk2 hL hL8 hl8
          go_wp2_with (first
            | (go_at_call 27; (with_reducible refine (HNO.out _).mono ?_); rintro e w5 ⟨rfl, hB⟩; have HZ5 := qbl HZx hB; have HE5 := qtr HEx hB; clear hB)
            | (refine wpList_store_all rfl 56 (.tmp 2) (.tmp 48) rfl (w.heap.size + 1) (n8 (L % pr)) (by rfl) (by rfl) 56 _ HZ5.out (by exact hdN8' _) (n8_one _) (by rw [n8_len]; rfl) ?_; intro w6 hb6 ho6; have HB6 := Lib.hid hb6; have HE6 := Lib.hid (ho6.below HE5.out (by omega) HE5.out.size); clear hb6 ho6))
          exact bodyPost_ret (res_cell rfl _ _ _ _ rfl HB6.out _ Tryz.underlying56 rfl (by exact hdN8' _)) rfl ⟨by rw [HLL.out], HE6.out⟩
    · have hd : decide (0 < H) = true := decide_eq_true h0
      have H0 := Lib.hid h0
      clear h0
      go_upto_region 5 with (go_at_call 75; (with_reducible refine (HHI.out _).mono ?_); rintro e w3 ⟨rfl, hB⟩; have HA3 := qbl HA hB; have HZ3 := qbl HZ hB; have HE3 := qtr HE hB; clear hB)
      have HO3 : Hid (Blk (w3.alloc (.cells o17.toArray 110)) w3.heap.size 110 (u64l ([] ++ List.replicate (17 - 0) 0))) := Blk.new' rfl rfl
      have HA4 := Lib.hid (HA3.out.alloc (.cells o17.toArray 110))
      have HZ4 := Lib.hid (HZ3.out.alloc (.cells o17.toArray 110))
      have HE4 := Lib.hid (HE3.out.alloc HE3.out.size (.cells o17.toArray 110))
      have HG : Hid (w.heap.size < w3.heap.size ∧ w.heap.size + 1 < w3.heap.size) := ⟨HA3.out.lt, HZ3.out.lt⟩
      clear HA HZ HE HA3 HZ3 HE3 hld hd HHI
      go_wp2
      go_loopg [4, 5] 9 (fun kk qc q wr => ∃ (i c : Nat) (ds : List Nat), kk = 9 - i ∧ qc = .int .u64 (c : Int) ∧ q = .int .i64 (i : Int) ∧ i ≤ 9 ∧ c ≤ 40 ∧ ds.length = i ∧ (∀ x ∈ ds, x < 4294967296) ∧ numL 4294967296 ds + c * 4294967296 ^ i = numL 4294967296 ((vs.take 8).take i) + 38 * numL 4294967296 ((vs.drop 8).take i) ∧ Blk wr w.heap.size 110 (u64l vs) ∧ Blk wr (w.heap.size + 1) 56 o8 ∧ Blk wr w3.heap.size 110 (u64l (ds ++ List.replicate (17 - i) 0)) ∧ Below w.heap.size w wr)
      case atStart => exact ⟨0, 0, [], rfl, rfl, rfl, by omega, by omega, rfl, by simp, by simp [numL], HA4.out, HZ4.out, HO3.out, HE4.out⟩
      case round =>
        clear HA4 HZ4 HE4 HO3
        obtain ⟨i, c, ds, hgk2, rfl, rfl, hi, hc, hds, hdl, hnum, hA, hZ, hO, hE⟩ := hrel
        have hvl := HVL.out
        rcases Nat.lt_or_ge i 9 with hlt | hge
        · have hlt2 : (i : Int) < 9 := by omega
          obtain ⟨y, hy⟩ : ∃ y, y = vs.getD (i + 8) 0 := ⟨_, rfl⟩
          obtain ⟨x, hx⟩ : ∃ x, x = (vs.take 8).getD i 0 := ⟨_, rfl⟩
          have hy32 : y < 4294967296 := by rw [hy]; exact getD_mem_lt (by omega) HLT.out _
          have hx32 : x < 4294967296 := by rw [hx]; exact getD_mem_lt (by omega) (fun z hz => HLT.out z (List.mem_of_mem_take hz)) _
          have cy : wr.cell? ⟨w.heap.size, i + 8, none⟩ = some (.int .u64 (y : Int)) := (hA.cell (i + 8)).trans (hy ▸ u64l_get (by omega))
          have cz : wr.cell? ⟨w3.heap.size, i, none⟩ = some (.int .u64 (((ds ++ List.replicate (17 - i) 0).getD i 0 : Nat) : Int)) := (hO.cell i).trans (u64l_get (by simp; omega))
          have fz : wr.frozen? ⟨w3.heap.size, i, none⟩ = false := hO.frozen i
          obtain ⟨t, ht⟩ : ∃ t, t = c + x + 38 * y := ⟨_, rfl⟩
          obtain ⟨o, ho⟩ : ∃ o, o = t % 4294967296 := ⟨_, rfl⟩
          obtain ⟨q, hq⟩ : ∃ q, q = t / 4294967296 := ⟨_, rfl⟩
          have ho32 : o < 4294967296 := by rw [ho]; exact Nat.mod_lt _ (by omega)
          have hoi : (t : Int) % 4294967296 = (o : Int) := by omega
          have hqi : (t : Int) / 4294967296 = (q : Int) := by omega
          have htl : (t : Int) < 18446744073709551616 := by omega
          have HQ : Hid (q ≤ 40) := (by show _ ≤ _; omega)
          have HST : Hid (numL 4294967296 (ds ++ [o]) + q * 4294967296 ^ (i + 1) = numL 4294967296 ((vs.take 8).take (i + 1)) + 38 * numL 4294967296 ((vs.drop 8).take (i + 1))) := by
            show _ = _
            have e2 : numL 4294967296 ((vs.drop 8).take (i + 1)) = numL 4294967296 ((vs.drop 8).take i) + y * 4294967296 ^ i := by
              rw [numL_take _ (vs.drop 8) i (by simp; omega), getD_drop, hy, Nat.add_comm 8 i]
            have e1 : numL 4294967296 ((vs.take 8).take (i + 1)) = numL 4294967296 ((vs.take 8).take i) + x * 4294967296 ^ i := by
              rcases Nat.lt_or_ge i 8 with h8 | h8
              · rw [numL_take _ (vs.take 8) i (by simp; omega), hx]
              · have f1 : (vs.take 8).take (i + 1) = vs.take 8 := List.take_of_length_le (by rw [List.length_take]; omega)
                have f0 : (vs.take 8).take i = vs.take 8 := List.take_of_length_le (by rw [List.length_take]; omega)
                have fx : x = 0 := by rw [hx, List.getD_eq_getElem?_getD, List.getElem?_eq_none (by rw [List.length_take]; omega)]; rfl
                rw [f1, f0, fx, Nat.zero_mul, Nat.add_zero]
            rw [numL_snoc, hds, e1, e2, Nat.pow_succ]
            exact fold_st _ c 4294967296 _ t o q _ _ x y hnum ht (by omega)
          have HDL := Lib.hid (snoc_lt hdl ho32)
          have HDS : Hid ((ds ++ [o]).length = i + 1) := by show _ = _; simp [hds]
          have HAx := Lib.hid (hA.far (p := ⟨w3.heap.size, i, none⟩) (by have := HG.out.1; show w.heap.size ≠ w3.heap.size; omega) (.int .u64 (o : Int)))
          have HZx := Lib.hid (hZ.far (p := ⟨w3.heap.size, i, none⟩) (by have := HG.out.2; show w.heap.size + 1 ≠ w3.heap.size; omega) (.int .u64 (o : Int)))
          have HOx : Hid (Blk (wr.setCell ⟨w3.heap.size, i, none⟩ (.int .u64 (o : Int))) w3.heap.size 110 (u64l ((ds ++ [o]) ++ List.replicate (17 - (i + 1)) 0))) := by
            have h1 := hO.set_ i (.int .u64 (o : Int))
            rw [u64l_set, pad_set ds i 17 o hds (by omega)] at h1
            exact h1
          have HEx := Lib.hid (hE.setCell (p := ⟨w3.heap.size, i, none⟩) (by have := HG.out.1; show w.heap.size ≤ w3.heap.size; omega) (.int .u64 (o : Int)))
          have HGK2 := Lib.hid hgk2
          rcases Nat.lt_or_ge i 8 with h8 | h8
          · have h8i : (i : Int) < 8 := by omega
            have cx : wr.cell? ⟨w.heap.size, i, none⟩ = some (.int .u64 (x : Int)) := (hA.cell i).trans ((u64l_get (by omega)).trans (by rw [hx]; simp [List.getD_eq_getElem?_getD, h8]))
            obtain ⟨t1, ht1⟩ : ∃ t1, t1 = c + x := ⟨_, rfl⟩
            obtain ⟨m, hm⟩ : ∃ m, m = 38 * y := ⟨_, rfl⟩
            have ht1i : (c : Int) + (x : Int) = (t1 : Int) := by omega
            have hmi : (38 : Int) * (y : Int) = (m : Int) := by omega
            have htmi : (t1 : Int) + (m : Int) = (t : Int) := by omega
            have ht1l : (t1 : Int) < 18446744073709551616 := by omega
            have hml : (m : Int) < 18446744073709551616 := by omega
            clear hA hZ hO hE hgk2 hx hy hvl ht ho hq ht1 hm hnum hds hdl
            go_wp2
            go_roundg (9 - (i + 1))
            case measure => have := HGK2.out; omega
            case rel => exact ⟨i + 1, q, ds ++ [o], rfl, rfl, by go_num, by omega, HQ.out, HDS.out, HDL.out, HST.out, HAx.out, HZx.out, HOx.out, HEx.out⟩
          · have h8i : ¬ (i : Int) < 8 := by omega
            have hx0 : x = 0 := by rw [hx, List.getD_eq_getElem?_getD, List.getElem?_eq_none (by simp; omega)]; rfl
            obtain ⟨m, hm⟩ : ∃ m, m = 38 * y := ⟨_, rfl⟩
            have hmi : (38 : Int) * (y : Int) = (m : Int) := by omega
            have htmi : (c : Int) + (m : Int) = (t : Int) := by omega
            have hml : (m : Int) < 18446744073709551616 := by omega
            clear hA hZ hO hE hgk2 hx hy hvl ht ho hq hm hnum hds hdl hx0
            go_wp2
            go_roundg (9 - (i + 1))
            case measure => have := HGK2.out; omega
            case rel => exact ⟨i + 1, q, ds ++ [o], rfl, rfl, by go_num, by omega, HQ.out, HDS.out, HDL.out, HST.out, HAx.out, HZx.out, HOx.out, HEx.out⟩
        · obtain rfl : i = 9 := by omega
          have hlt2 : ¬ ((9 : Nat) : Int) < 9 := by omega
          have cz : wr.cell? ⟨w3.heap.size, 9, none⟩ = some (.int .u64 (((ds ++ List.replicate (17 - 9) 0).getD 9 0 : Nat) : Int)) := (hO.cell 9).trans (u64l_get (by simp; omega))
          have fz : wr.frozen? ⟨w3.heap.size, 9, none⟩ = false := hO.frozen 9
          rw [List.take_of_length_le (l := vs.take 8) (by simp; omega), List.take_of_length_le (l := vs.drop 8) (by simp; omega), ← HHD.out] at hnum
          obtain ⟨us, hus⟩ : ∃ us, us = (ds ++ [c]) ++ List.replicate 7 0 := ⟨_, rfl⟩
          have HUN : Hid (numL 4294967296 us = numL 4294967296 (vs.take 8) + 38 * H) := (by show _ = _; rw [hus, numL_pad, numL_snoc, hds, hnum])
          have HUL : Hid (us.length = 17) := (by show _ = _; rw [hus]; simp [hds])
          have HUT : Hid (∀ x ∈ us, x < 4294967296) := (by show ∀ x ∈ us, _; rw [hus]; exact pad_lt (by omega) (snoc_lt hdl (by omega)))
          have HOx : Hid (Blk (wr.setCell ⟨w3.heap.size, 9, none⟩ (.int .u64 (c : Int))) w3.heap.size 110 (u64l us)) := by
            have h1 := hO.set_ 9 (.int .u64 (c : Int))
            rw [u64l_set, pad17 ds c hds, ← hus] at h1
            exact h1
          have HAx := Lib.hid (hA.far (p := ⟨w3.heap.size, 9, none⟩) (by have := HG.out.1; show w.heap.size ≠ w3.heap.size; omega) (.int .u64 (c : Int)))
          have HZx := Lib.hid (hZ.far (p := ⟨w3.heap.size, 9, none⟩) (by have := HG.out.2; show w.heap.size + 1 ≠ w3.heap.size; omega) (.int .u64 (c : Int)))
          have HEx := Lib.hid (hE.setCell (p := ⟨w3.heap.size, 9, none⟩) (by have := HG.out.1; show w.heap.size ≤ w3.heap.size; omega) (.int .u64 (c : Int)))
          have hld := w17_ld HOx.out HUL.out
          clear hA hZ hO hE hgk2 hvl hnum hds hdl hus
          go_wp2_with (refine wpList_store_all rfl 110 (.tmp 1) (.tmp 36) rfl w.heap.size (u64l us) (by rfl) (by rfl) 110 _ HAx.out (by exact hdW17 _ (by rw [u64l_len, HUL.out])) (u64l_one _) (by rw [u64l_len, u64l_len, HUL.out, HVL.out]) ?_; intro w6 hb6 ho6; have HB6 := Lib.hid hb6; have HZ6 := Lib.hid (ho6.blk HZx.out (by omega)); have HE6 := Lib.hid (ho6.below HEx.out (by omega) HEx.out.size); clear hb6 ho6)
          go_roundg (numL 4294967296 us)
          case measure => have h1 := HGK.out; have h2 := HUN.out; have h3 := HVS.out; have h4 := H0.out; omega
          case rel => exact ⟨us, rfl, HUL.out, HUT.out, (fold_mod _ H _ _ HVS.out HUN.out).trans HVM.out, HB6.out, HZ6.out, HE6.out⟩
end Go.Proofs.YtlbnibmcflmohaaGreat
namespace Go.Proofs.YtlbnibmcflmohaaGreat
open Go.RowKit
theorem szU32r (w : World) : (sizeOf 47).run Tryz.prog w = .ok 1 w := by kernel_rfl
theorem agU32r (w : World) : (isAgg 47).run Tryz.prog w = .ok false w := by kernel_rfl
theorem wrap64 (n : Nat) (h : n < 18446744073709551616) (z : Int) (hz : z = (n : Int)) : IntKind.u64.wrap z = (n : Int) := by
  rw [IntKind.wrap_u64]; omega
theorem radd_st (d c P t o q L H x y : Nat) (h : d + c * P = L + H) (hs : t = c + x + y) (ht : t = o + 4294967296 * q) : d + o * P + q * (P * 4294967296) = L + x * P + (H + y * P) := by
  have h1 : t * P = c * P + x * P + y * P := by rw [hs, Nat.add_mul, Nat.add_mul]
  have h2 : t * P = o * P + 4294967296 * q * P := by rw [ht, Nat.add_mul]
  have h3 : q * (P * 4294967296) = 4294967296 * q * P := by grind
  omega
attribute [local go_sem ↓] ldq_w17 ldq_n8
set_option maxRecDepth 100000 in
set_option maxHeartbeats 2000000 in
theorem radd_n (a b : Nat) (w : World) (ha : a < 115792089237316195423570985008687907853269984665640564039457584007913129639936) (hb : b < 115792089237316195423570985008687907853269984665640564039457584007913129639936) :
    Calls Tryz.prog 30 #[.agg (n8 a).toArray, .agg (n8 b).toArray] w fun e w' => e = .returned (.agg (n8 ((a + b) % pr)).toArray) ∧ Below w.heap.size w w' := by
  obtain ⟨xa, hxa⟩ : ∃ xa, xa = dig 8 a := ⟨_, rfl⟩
  obtain ⟨xb, hxb⟩ : ∃ xb, xb = dig 8 b := ⟨_, rfl⟩
  have HAN : Hid (numL 4294967296 xa = a) := (by show _ = _; rw [hxa, n8_num a ha])
  have HBN : Hid (numL 4294967296 xb = b) := (by show _ = _; rw [hxb, n8_num b hb])
  have HLA : Hid (xa.length = 8 ∧ ∀ x ∈ xa, x < 4294967296) := (by rw [hxa]; exact ⟨dig_len _ _, dig_lt _ _⟩)
  have HLB : Hid (xb.length = 8 ∧ ∀ x ∈ xb, x < 4294967296) := (by rw [hxb]; exact ⟨dig_len _ _, dig_lt _ _⟩)
  rw [n8, n8, ← hxa, ← hxb]
  clear hxa hxb ha hb
  obtain ⟨W1, hW1⟩ : ∃ W1, W1 = (((w.alloc (.cells (u32d xa).toArray 56)).alloc (.cells (u32d xb).toArray 56)).alloc (.cells o8.toArray 56)).alloc (.cells o17.toArray 110) := ⟨_, rfl⟩
  have HM0 : Hid (Blk W1 w.heap.size 56 (u32d xa) ∧ Blk W1 (w.heap.size + 1) 56 (u32d xb) ∧ Blk W1 (w.heap.size + 2) 56 o8 ∧ Blk W1 (w.heap.size + 3) 110 (u64l ([] ++ List.replicate (17 - 0) 0)) ∧ Below w.heap.size w W1) :=
    hW1 ▸ ⟨(((Blk.new w _ _).alloc _).alloc _).alloc _, ((Blk.new' (by simp) rfl).alloc _).alloc _, (Blk.new' (by simp) rfl).alloc _, Blk.new' (by simp) rfl, ((((Below.refl _ w).alloc (Nat.le_refl _) _).alloc (by simp) _).alloc (by simp <;> omega) _).alloc (by simp <;> omega) _⟩
  go_enter Tryz.func30, Tryz.ntmps30
  go_wp2
  go_loopg [6, 7] 8 (fun kk qc q wr => ∃ (i c : Nat) (ds : List Nat), kk = 8 - i ∧ qc = .int .u64 (c : Int) ∧ q = .int .i64 (i : Int) ∧ i ≤ 8 ∧ c ≤ 1 ∧ ds.length = i ∧ (∀ x ∈ ds, x < 4294967296) ∧ numL 4294967296 ds + c * 4294967296 ^ i = numL 4294967296 (xa.take i) + numL 4294967296 (xb.take i) ∧ Blk wr w.heap.size 56 (u32d xa) ∧ Blk wr (w.heap.size + 1) 56 (u32d xb) ∧ Blk wr (w.heap.size + 2) 56 o8 ∧ Blk wr (w.heap.size + 3) 110 (u64l (ds ++ List.replicate (17 - i) 0)) ∧ Below w.heap.size w wr)
  case atStart => exact ⟨0, 0, [], rfl, rfl, rfl, by omega, by omega, rfl, by simp, by simp [numL], hW1 ▸ HM0.out⟩
  case round =>
    clear HM0 hW1
    obtain ⟨i, c, ds, hgk, rfl, rfl, hi, hc, hds, hdl, hnum, hA, hB, hZ, hO, hE⟩ := hrel
    rcases Nat.lt_or_ge i 8 with hlt | hge
    · have hlt2 : (i : Int) < 8 := by omega
      obtain ⟨x, hx⟩ : ∃ x, x = xa.getD i 0 := ⟨_, rfl⟩
      obtain ⟨y, hy⟩ : ∃ y, y = xb.getD i 0 := ⟨_, rfl⟩
      have hx32 : x < 4294967296 := by rw [hx]; exact getD_mem_lt (by omega) HLA.out.2 i
      have hy32 : y < 4294967296 := by rw [hy]; exact getD_mem_lt (by omega) HLB.out.2 i
      have cx : wr.cell? ⟨w.heap.size, i, none⟩ = some (.int .u32 (x : Int)) := (hA.cell i).trans (hx ▸ u32d_get (by have := HLA.out.1; omega))
      have cy : wr.cell? ⟨w.heap.size + 1, i, none⟩ = some (.int .u32 (y : Int)) := (hB.cell i).trans (hy ▸ u32d_get (by have := HLB.out.1; omega))
      have cz : wr.drew.cell? ⟨w.heap.size + 3, i, none⟩ = some (.int .u64 (((ds ++ List.replicate (17 - i) 0).getD i 0 : Nat) : Int)) := (hO.drew.cell i).trans (u64l_get (by simp; omega))
      have fz : wr.drew.frozen? ⟨w.heap.size + 3, i, none⟩ = false := hO.drew.frozen i
      obtain ⟨t, ht⟩ : ∃ t, t = c + x + y := ⟨_, rfl⟩
      obtain ⟨o, ho⟩ : ∃ o, o = t % 4294967296 := ⟨_, rfl⟩
      obtain ⟨q, hq⟩ : ∃ q, q = t / 4294967296 := ⟨_, rfl⟩
      have ho32 : o < 4294967296 := by rw [ho]; exact Nat.mod_lt _ (by omega)
      have hoi : (t : Int) % 4294967296 = (o : Int) := by omega
      have hqi : (t : Int) / 4294967296 = (q : Int) := by omega
      have HQ : Hid (q ≤ 1) := (by show _ ≤ _; omega)
      have HST : Hid (numL 4294967296 (ds ++ [o]) + q * 4294967296 ^ (i + 1) = numL 4294967296 (xa.take (i + 1)) + numL 4294967296 (xb.take (i + 1))) := by
        show _ = _
        rw [numL_snoc, hds, numL_take _ xa i (by have := HLA.out.1; omega), numL_take _ xb i (by have := HLB.out.1; omega), ← hx, ← hy, Nat.pow_succ]
        exact radd_st _ c _ t o q _ _ x y hnum ht (by omega)
      have HDL := Lib.hid (snoc_lt hdl ho32)
      have HDS : Hid ((ds ++ [o]).length = i + 1) := by show _ = _; simp [hds]
      have hA := hA.drew
      have hB := hB.drew
      have hZ := hZ.drew
      have hO := hO.drew
      have hE := hE.drew
      have HAx := Lib.hid (hA.far (p := ⟨w.heap.size + 3, i, none⟩) (by show w.heap.size ≠ w.heap.size + 3; omega) (.int .u64 (o : Int)))
      have HBx := Lib.hid (hB.far (p := ⟨w.heap.size + 3, i, none⟩) (by show w.heap.size + 1 ≠ w.heap.size + 3; omega) (.int .u64 (o : Int)))
      have HZx := Lib.hid (hZ.far (p := ⟨w.heap.size + 3, i, none⟩) (by show w.heap.size + 2 ≠ w.heap.size + 3; omega) (.int .u64 (o : Int)))
      have HOx : Hid (Blk (wr.drew.setCell ⟨w.heap.size + 3, i, none⟩ (.int .u64 (o : Int))) (w.heap.size + 3) 110 (u64l ((ds ++ [o]) ++ List.replicate (17 - (i + 1)) 0))) := by
        have h1 := hO.set_ i (.int .u64 (o : Int))
        rw [u64l_set, pad_set ds i 17 o hds (by omega)] at h1
        exact h1
      have HEx := Lib.hid (hE.setCell (p := ⟨w.heap.size + 3, i, none⟩) (by show w.heap.size ≤ w.heap.size + 3; omega) (.int .u64 (o : Int)))
      have HGK := Lib.hid hgk
      have hT : wr.drew.cell? ⟨w.heap.size, i, none⟩ = some (.int .u32 (x : Int)) ∧ wr.drew.cell? ⟨w.heap.size + 1, i, none⟩ = some (.int .u32 (y : Int)) := ⟨cx, cy⟩
      have w1 : IntKind.u64.wrap (x : Int) = (x : Int) := wrap64 x (by omega) _ rfl
      have w2 : IntKind.u64.wrap (y : Int) = (y : Int) := wrap64 y (by omega) _ rfl
      have w3 : IntKind.u64.wrap ((c : Int) + (x : Int)) = ((c + x : Nat) : Int) := wrap64 (c + x) (by omega) _ (by omega)
      have w4 : IntKind.u64.wrap (((c + x : Nat) : Int) + (y : Int)) = (t : Int) := wrap64 t (by omega) _ (by omega)
      clear hA hB hZ hO hE hgk hnum hds hdl hx hy ht ho hq cx cy
      go_wp2
      refine region_K (by kernel_rfl) 11 (fun w' => w'.cell? ⟨w.heap.size, i, none⟩ = some (.int .u32 (x : Int)) ∧ w'.cell? ⟨w.heap.size + 1, i, none⟩ = some (.int .u32 (y : Int))) ?_
      refine AnyK.pure 0 (v := .int .u64 (c : Int)) rfl (by kernel_rfl) (fun _ _ _ h => h) rfl (fun _ => by kernel_rfl) (fun _ => hT) ?_
      refine AnyK.pure 1 (v := .int .i64 (i : Int)) rfl (by kernel_rfl) (fun _ _ _ h => h) rfl (fun _ => by kernel_rfl) (fun _ => hT) ?_
      refine AnyK.pure 2 (v := .pointer (some ⟨w.heap.size, i, none⟩)) rfl (by kernel_rfl) (fun _ _ _ h => h) rfl (fun _ => (ey_idxA (t := 56) (e := 47) (x := .tmp 2) (y := .tmp 13) (g := w.heap.size) (off := 0) (m := 8) (p := i) (by rfl) (by kernel_rfl) (by kernel_rfl) hlt (by kernel_rfl) szU32r).trans (by rw [Nat.zero_add])) (fun _ => hT) ?_
      refine AnyK.load 3 (v := .int .u32 (x : Int)) rfl (by kernel_rfl) (by kernel_rfl) (by kernel_rfl) (fun _ _ _ h => h) rfl (fun w' hw' => ey_load (t := 47) (x := .tmp 14) (p := ⟨w.heap.size, i, none⟩) (by rfl) (by kernel_rfl) agU32r hw'.1) hT ?_
      refine AnyK.pure 4 (v := .int .u64 (x : Int)) rfl (by kernel_rfl) (fun _ _ _ h => h) rfl (fun _ => Eq.trans (b := .ok (.value (.int .u64 (IntKind.u64.wrap ((x : Int))))) _) (by kernel_rfl) (by rw [w1])) (fun _ => hT) ?_
      refine AnyK.pure 5 (v := .int .u64 ((c + x : Nat) : Int)) rfl (by kernel_rfl) (fun _ _ _ h => h) rfl (fun _ => Eq.trans (b := .ok (.value (.int .u64 (IntKind.u64.wrap ((c : Int) + (x : Int))))) _) (by kernel_rfl) (by rw [w3])) (fun _ => hT) ?_
      refine AnyK.pure 6 (v := .int .i64 (i : Int)) rfl (by kernel_rfl) (fun _ _ _ h => h) rfl (fun _ => by kernel_rfl) (fun _ => hT) ?_
      refine AnyK.pure 7 (v := .pointer (some ⟨(w.heap.size + 1), i, none⟩)) rfl (by kernel_rfl) (fun _ _ _ h => h) rfl (fun _ => (ey_idxA (t := 56) (e := 47) (x := .tmp 3) (y := .tmp 18) (g := (w.heap.size + 1)) (off := 0) (m := 8) (p := i) (by rfl) (by kernel_rfl) (by kernel_rfl) hlt (by kernel_rfl) szU32r).trans (by rw [Nat.zero_add])) (fun _ => hT) ?_
      refine AnyK.load 8 (v := .int .u32 (y : Int)) rfl (by kernel_rfl) (by kernel_rfl) (by kernel_rfl) (fun _ _ _ h => h) rfl (fun w' hw' => ey_load (t := 47) (x := .tmp 19) (p := ⟨w.heap.size + 1, i, none⟩) (by rfl) (by kernel_rfl) agU32r hw'.2) hT ?_
      refine AnyK.pure 9 (v := .int .u64 (y : Int)) rfl (by kernel_rfl) (fun _ _ _ h => h) rfl (fun _ => Eq.trans (b := .ok (.value (.int .u64 (IntKind.u64.wrap ((y : Int))))) _) (by kernel_rfl) (by rw [w2])) (fun _ => hT) ?_
      refine AnyK.pure 10 (v := .int .u64 (t : Int)) rfl (by kernel_rfl) (fun _ _ _ h => h) rfl (fun _ => Eq.trans (b := .ok (.value (.int .u64 (IntKind.u64.wrap (((c + x : Nat) : Int) + (y : Int))))) _) (by kernel_rfl) (by rw [w4])) (fun _ => hT) ?_
      refine AnyK.val 11 (v := .int .u64 (t : Int)) rfl (by kernel_rfl) rfl (by kernel_rfl) (fun h => (by cases h)) ?_
      refine AnyK.done (by kernel_rfl) ?_
      clear hT w1 w2 w3 w4
      go_wp2
      go_roundg (8 - (i + 1))
      case measure => have := HGK.out; omega
      case rel => exact ⟨i + 1, q, ds ++ [o], rfl, rfl, by go_num, by omega, HQ.out, HDS.out, HDL.out, HST.out, HAx.out, HBx.out, HZx.out, HOx.out, HEx.out⟩
    · obtain rfl : i = 8 := by omega
      have hlt2 : ¬ ((8 : Nat) : Int) < 8 := by omega
      have cz : wr.cell? ⟨w.heap.size + 3, 8, none⟩ = some (.int .u64 (((ds ++ List.replicate (17 - 8) 0).getD 8 0 : Nat) : Int)) := (hO.cell 8).trans (u64l_get (by simp <;> omega))
      have fz : wr.frozen? ⟨w.heap.size + 3, 8, none⟩ = false := hO.frozen 8
      rw [List.take_of_length_le (by have := HLA.out.1; omega), List.take_of_length_le (by have := HLB.out.1; omega), HAN.out, HBN.out] at hnum
      obtain ⟨us, hus⟩ : ∃ us, us = (ds ++ [c]) ++ List.replicate (17 - (8 + 1)) 0 := ⟨_, rfl⟩
      have HUN : Hid (numL 4294967296 us = a + b) := (by show _ = _; rw [hus, numL_pad, numL_snoc, hds, hnum])
      have HUL : us.length = 17 := by rw [hus]; simp [hds]
      have HUT : ∀ x ∈ us, x < 4294967296 := by rw [hus]; exact pad_lt (by omega) (snoc_lt hdl (by omega))
      have HFO := Lib.hid (fun W => folded_any us W HUL HUT)
      rw [HUN.out] at HFO
      have HOx : Blk (wr.setCell ⟨w.heap.size + 3, 8, none⟩ (.int .u64 (c : Int))) (w.heap.size + 3) 110 (u64l us) := by
        have h1 := hO.set_ 8 (.int .u64 (c : Int))
        rw [u64l_set, pad_set ds 8 17 c hds (by omega), ← hus] at h1
        exact h1
      have HZx := Lib.hid (hZ.far (p := ⟨w.heap.size + 3, 8, none⟩) (by show w.heap.size + 2 ≠ w.heap.size + 3; omega) (.int .u64 (c : Int)))
      have HEx := Lib.hid (hE.setCell (p := ⟨w.heap.size + 3, 8, none⟩) (by show w.heap.size ≤ w.heap.size + 3; omega) (.int .u64 (c : Int)))
      have hld := w17_ld HOx HUL
      clear hA hB hZ hO hE hgk hnum hds hdl hus HUL HUT HOx
      go_wp2_with (first
        | (go_at_call 56; (with_reducible refine (HFO.out _).mono ?_); rintro e w5 ⟨rfl, hB⟩; have HZ5 := qbl HZx hB; have HE5 := qtr HEx hB; clear hB)
        | (refine wpList_store_all rfl 56 (.tmp 4) (.tmp 32) rfl (w.heap.size + 2) (n8 ((a + b) % pr)) (by rfl) (by rfl) 56 _ HZ5.out (by exact hdN8' _) (n8_one _) (by rw [n8_len]; rfl) ?_; intro w6 hb6 ho6; have HB6 := Lib.hid hb6; have HE6 := Lib.hid (ho6.below HE5.out (by omega) HE5.out.size); clear hb6 ho6))
      exact bodyPost_ret (res_cell rfl _ _ _ _ rfl HB6.out _ Tryz.underlying56 rfl (by exact hdN8' _)) rfl ⟨rfl, HE6.out⟩
end Go.Proofs.YtlbnibmcflmohaaGreat
