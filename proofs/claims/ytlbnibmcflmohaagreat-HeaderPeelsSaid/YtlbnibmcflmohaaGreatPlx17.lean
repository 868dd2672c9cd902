/- Part of the proof: Mul. -/
import Derived.Deep.DeepCutAuto
import Derived.Test.YtlbnibmcflmohaaGreatPlx14
namespace Go.Proofs.YtlbnibmcflmohaaGreat
open Go.RowKit
attribute [local go_sem ↓] ldq_el
theorem szU64 (w : World) : (sizeOf 48).run Tryz.prog w = .ok 1 w := by kernel_rfl
theorem agU64 (w : World) : (isAgg 48).run Tryz.prog w = .ok false w := by kernel_rfl
theorem lt_i64 {a b : Nat} (h : a < 8) (h2 : b < 8) : IntKind.i64.wrap ((a : Int) + (b : Int)) = ((a + b : Nat) : Int) := (IntWalk.i64_in _ (by omega)).trans (by omega)
def MW (w : World) (xa xb : List Nat) (wr : World) (ws : List Nat) : Prop :=
  Blk wr w.heap.size 80 (u64l xa) ∧ Blk wr (w.heap.size + 1) 80 (u64l xb) ∧ Blk wr (w.heap.size + 2) 80 (l4 0 0 0 0) ∧ Blk wr (w.heap.size + 3) 151 (u64l ws) ∧ Below w.heap.size w wr
theorem MW.set {w wr : World} {xa xb ws : List Nat} (h : MW w xa xb wr ws) (i v : Nat) : MW w xa xb (wr.setCell ⟨w.heap.size + 3, i, none⟩ (.int .u64 (v : Int))) (ws.set i v) :=
  ⟨h.1.far (p := ⟨w.heap.size + 3, i, none⟩) (by simp) _, h.2.1.far (p := ⟨w.heap.size + 3, i, none⟩) (by simp) _, h.2.2.1.far (p := ⟨w.heap.size + 3, i, none⟩) (by simp) _, u64l_set ws i v ▸ h.2.2.2.1.set_ i (.int .u64 (v : Int)), h.2.2.2.2.setCell (p := ⟨w.heap.size + 3, i, none⟩) (Nat.le_add_right _ _) _⟩
theorem MW.drew {w wr : World} {xa xb ws : List Nat} (h : MW w xa xb wr ws) : MW w xa xb wr.drew ws := ⟨h.1.drew, h.2.1.drew, h.2.2.1.drew, h.2.2.2.1.drew, h.2.2.2.2.drew⟩
set_option maxRecDepth 100000 in
set_option maxHeartbeats 2000000 in
theorem mul_anyL (xa xb : List Nat) (la : xa.length = 4) (lb : xb.length = 4) (ha : ∀ x ∈ xa, x < 18446744073709551616) (hb : ∀ x ∈ xb, x < 18446744073709551616) (w : World) :
    Calls Tryz.prog 71 #[.agg (u64l xa).toArray, .agg (u64l xb).toArray] w fun e w' => e = .returned (.agg (elc (numL 18446744073709551616 xa * numL 18446744073709551616 xb % pr)).toArray) ∧ Below w.heap.size w w' := by
  have HA := Lib.hid ha
  have HB := Lib.hid hb
  have HLA := Lib.hid la
  have HLB := Lib.hid lb
  have HM0 : Hid (MW w xa xb ((((w.alloc (.cells (u64l xa).toArray 80)).alloc (.cells (u64l xb).toArray 80)).alloc (.cells (l4 0 0 0 0).toArray 80)).alloc (.cells (u64l [0,0,0,0,0,0,0,0]).toArray 151)) [0,0,0,0,0,0,0,0]) :=
    ⟨(((Blk.new w _ _).alloc _).alloc _).alloc _, ((Blk.new' (by simp) rfl).alloc _).alloc _, (Blk.new' (by simp) rfl).alloc _, Blk.new' (by simp) rfl, ((((Below.refl _ w).alloc (Nat.le_refl _) _).alloc (by simp) _).alloc (by simp <;> omega) _).alloc (by simp <;> omega) _⟩
  clear ha hb la lb
  go_enter Tryz.func71, Tryz.ntmps71
  go_wp2
  go_loopg [12] 4 (fun kk q12 wr => ∃ (i : Nat) (ws : List Nat), kk = 4 - i ∧ q12 = .int .i64 (i : Int) ∧ i ≤ 4 ∧ ws.length = 8 ∧ (∀ x ∈ ws, x < 18446744073709551616) ∧ (∀ k, i + 4 ≤ k → ws.getD k 0 = 0) ∧
    numL 18446744073709551616 ws = numL 18446744073709551616 (xa.take i) * numL 18446744073709551616 xb ∧ MW w xa xb wr ws)
  case atStart => exact ⟨0, [0,0,0,0,0,0,0,0], rfl, rfl, by omega, rfl, by simp, by intro k hk; simp [List.getD_eq_getElem?_getD]; rcases k with _ | _ | _ | _ | _ | _ | _ | _ | k <;> simp, by simp [numL], HM0.out⟩
  case round =>
    obtain ⟨i, ws, hgk, rfl, hi4, hl8, hws, hz, hn, hM⟩ := hrel
    clear HM0
    rcases Nat.lt_or_ge i 4 with hi | hi
    · have hlt : (i : Int) < 4 := by omega
      go_wp2
      have HM := Lib.hid hM
      have HZ := Lib.hid hz
      have HN := Lib.hid hn
      have HWS := Lib.hid hws
      clear hM hz hn hws
      go_loopg [7, 15] 4 (fun kk q7 q15 wr2 => ∃ (j c : Nat) (vs : List Nat), kk = 4 - j ∧ q15 = .int .i64 (j : Int) ∧ q7 = .int .u64 (c : Int) ∧ j ≤ 4 ∧ vs.length = 8 ∧ (∀ x ∈ vs, x < 18446744073709551616) ∧ c < 18446744073709551616 ∧ (∀ k, i + 4 ≤ k → vs.getD k 0 = 0) ∧
        numL 18446744073709551616 vs + c * 18446744073709551616 ^ (i + j) = numL 18446744073709551616 (xa.take i) * numL 18446744073709551616 xb + xa.getD i 0 * 18446744073709551616 ^ i * numL 18446744073709551616 (xb.take j) ∧ MW w xa xb wr2 vs)
      case atStart => exact ⟨0, 0, ws, rfl, rfl, rfl, by omega, hl8, HWS.out, by omega, HZ.out, by rw [HN.out]; simp [numL], HM.out⟩
      case round =>
        obtain ⟨j, c, vs, hgk2, rfl, rfl, hj4, hv8, hvs, hc, hz2, hn2, hM2⟩ := hrel
        clear HM HZ HN HWS hl8
        rcases Nat.lt_or_ge j 4 with hj | hj
        · have hlt2 : (j : Int) < 4 := by omega
          have hij := lt_i64 (a := i) (b := j) (by omega) (by omega)
          have hca : (u64l xa)[i]? = some (.int .u64 ((xa.getD i 0 : Nat) : Int)) := u64l_get (by rw [HLA.out]; omega)
          have hcb : (u64l xb)[j]? = some (.int .u64 ((xb.getD j 0 : Nat) : Int)) := u64l_get (by rw [HLB.out]; omega)
          have hcv : (u64l vs)[i + j]? = some (.int .u64 ((vs.getD (i + j) 0 : Nat) : Int)) := u64l_get (by omega)
          obtain ⟨x, hx⟩ : ∃ x, x = xa.getD i 0 := ⟨_, rfl⟩
          obtain ⟨y, hy⟩ : ∃ y, y = xb.getD j 0 := ⟨_, rfl⟩
          obtain ⟨z, hzz⟩ : ∃ z, z = vs.getD (i + j) 0 := ⟨_, rfl⟩
          have HXL : Hid (x < 18446744073709551616 ∧ y < 18446744073709551616 ∧ z < 18446744073709551616) := ⟨by rw [hx]; exact getD_mem_lt (by omega) HA.out i, by rw [hy]; exact getD_mem_lt (by omega) HB.out j, by rw [hzz]; exact getD_mem_lt (by omega) hvs _⟩
          rw [← hx] at hca hn2
          rw [← hy] at hcb
          rw [← hzz] at hcv
          have hT : wr.drew.cell? ⟨w.heap.size, i, none⟩ = some (.int .u64 (x : Int)) ∧ wr.drew.cell? ⟨w.heap.size + 1, j, none⟩ = some (.int .u64 (y : Int)) ∧ wr.drew.cell? ⟨w.heap.size + 3, i + j, none⟩ = some (.int .u64 (z : Int)) :=
            ⟨(hM2.drew.1.cell i).trans hca, (hM2.drew.2.1.cell j).trans hcb, (hM2.drew.2.2.2.1.cell (i + j)).trans hcv⟩
          have hff := hM2.drew.2.2.2.1.frozen (i + j)
          have HM2 := Lib.hid hM2
          have HX := Lib.hid hx; have HY := Lib.hid hy; have HZZ := Lib.hid hzz; have HN2 := Lib.hid hn2; have HZ2 := Lib.hid hz2; have HVS := Lib.hid hvs
          clear hM2 hca hcb hcv hx hy hzz hn2 hz2 hvs
          go_wp2
          refine region_K (by kernel_rfl) 20 (fun w' => w'.cell? ⟨w.heap.size, i, none⟩ = some (.int .u64 (x : Int)) ∧ w'.cell? ⟨w.heap.size + 1, j, none⟩ = some (.int .u64 (y : Int)) ∧ w'.cell? ⟨w.heap.size + 3, i + j, none⟩ = some (.int .u64 (z : Int))) ?_
          refine AnyK.pure 0 (v := .int .i64 (i : Int)) rfl (by kernel_rfl) (fun _ _ _ h => h) rfl (fun _ => by kernel_rfl) (fun _ => hT) ?_
          refine AnyK.pure 1 (v := .int .i64 (j : Int)) rfl (by kernel_rfl) (fun _ _ _ h => h) rfl (fun _ => by kernel_rfl) (fun _ => hT) ?_
          refine AnyK.pure 2 (v := .int .i64 ((i + j : Nat) : Int)) rfl (by kernel_rfl) (fun _ _ _ h => h) rfl (fun _ => Eq.trans (b := .ok (.value (.int .i64 (IntKind.i64.wrap ((i : Int) + (j : Int))))) _) (by kernel_rfl) (by rw [hij])) (fun _ => hT) ?_
          refine AnyK.pure 3 (v := .int .i64 (i : Int)) rfl (by kernel_rfl) (fun _ _ _ h => h) rfl (fun _ => by kernel_rfl) (fun _ => hT) ?_
          refine AnyK.pure 4 (v := .pointer (some ⟨w.heap.size, i, none⟩)) rfl (by kernel_rfl) (fun _ _ _ h => h) rfl (fun _ => (ey_idxA (t := 80) (e := 48) (x := .tmp 2) (y := .tmp 22) (g := w.heap.size) (off := 0) (m := 4) (p := i) (by rfl) (by kernel_rfl) (by kernel_rfl) hi (by kernel_rfl) szU64).trans (by rw [Nat.zero_add])) (fun _ => hT) ?_
          refine AnyK.load 5 (v := .int .u64 (x : Int)) rfl (by kernel_rfl) (by kernel_rfl) (by kernel_rfl) (fun _ _ _ h => h) rfl (fun w' hw' => ey_load (t := 48) (x := .tmp 23) (p := ⟨w.heap.size, i, none⟩) (by rfl) (by kernel_rfl) agU64 hw'.1) hT ?_
          refine AnyK.pure 6 (v := .int .i64 (j : Int)) rfl (by kernel_rfl) (fun _ _ _ h => h) rfl (fun _ => by kernel_rfl) (fun _ => hT) ?_
          refine AnyK.pure 7 (v := .pointer (some ⟨(w.heap.size + 1), j, none⟩)) rfl (by kernel_rfl) (fun _ _ _ h => h) rfl (fun _ => (ey_idxA (t := 80) (e := 48) (x := .tmp 3) (y := .tmp 25) (g := (w.heap.size + 1)) (off := 0) (m := 4) (p := j) (by rfl) (by kernel_rfl) (by kernel_rfl) hj (by kernel_rfl) szU64).trans (by rw [Nat.zero_add])) (fun _ => hT) ?_
          refine AnyK.load 8 (v := .int .u64 (y : Int)) rfl (by kernel_rfl) (by kernel_rfl) (by kernel_rfl) (fun _ _ _ h => h) rfl (fun w' hw' => ey_load (t := 48) (x := .tmp 26) (p := ⟨(w.heap.size + 1), j, none⟩) (by rfl) (by kernel_rfl) agU64 hw'.2.1) hT ?_
          refine AnyK.pure 9 (v := .int .i64 (i : Int)) rfl (by kernel_rfl) (fun _ _ _ h => h) rfl (fun _ => by kernel_rfl) (fun _ => hT) ?_
          refine AnyK.pure 10 (v := .int .i64 (j : Int)) rfl (by kernel_rfl) (fun _ _ _ h => h) rfl (fun _ => by kernel_rfl) (fun _ => hT) ?_
          refine AnyK.pure 11 (v := .int .i64 ((i + j : Nat) : Int)) rfl (by kernel_rfl) (fun _ _ _ h => h) rfl (fun _ => Eq.trans (b := .ok (.value (.int .i64 (IntKind.i64.wrap ((i : Int) + (j : Int))))) _) (by kernel_rfl) (by rw [hij])) (fun _ => hT) ?_
          refine AnyK.pure 12 (v := .pointer (some ⟨(w.heap.size + 3), i + j, none⟩)) rfl (by kernel_rfl) (fun _ _ _ h => h) rfl (fun _ => (ey_idxA (t := 151) (e := 48) (x := .tmp 5) (y := .tmp 30) (g := (w.heap.size + 3)) (off := 0) (m := 8) (p := i + j) (by rfl) (by kernel_rfl) (by kernel_rfl) (by omega) (by kernel_rfl) szU64).trans (by rw [Nat.zero_add])) (fun _ => hT) ?_
          refine AnyK.load 13 (v := .int .u64 (z : Int)) rfl (by kernel_rfl) (by kernel_rfl) (by kernel_rfl) (fun _ _ _ h => h) rfl (fun w' hw' => ey_load (t := 48) (x := .tmp 31) (p := ⟨(w.heap.size + 3), i + j, none⟩) (by rfl) (by kernel_rfl) agU64 hw'.2.2) hT ?_
          refine AnyK.pure 14 (v := .int .u64 (c : Int)) rfl (by kernel_rfl) (fun _ _ _ h => h) rfl (fun _ => by kernel_rfl) (fun _ => hT) ?_
          refine AnyK.enter 15 (d := some 34) (f := 87) (args := #[.int .u64 (x : Int), .int .u64 (y : Int), .int .u64 (z : Int), .int .u64 (c : Int)]) (by rfl) (by kernel_rfl) (by kernel_rfl) ?_
          refine (step_any x y z c HXL.out.1 HXL.out.2.1 HXL.out.2.2 hc _).mono ?_
          rintro e w2 ⟨lo, hi', rfl, hlo, hhi, hs, rfl⟩
          refine ⟨_, rfl, fun _ => hT, ?_⟩
          refine AnyK.pure 16 (v := .tuple #[.int .u64 (lo : Int), .int .u64 (hi' : Int)]) rfl (by kernel_rfl) (fun _ _ _ h => h) rfl (fun _ => by kernel_rfl) (fun _ => hT) ?_
          refine AnyK.pure 17 (v := .int .u64 (lo : Int)) rfl (by kernel_rfl) (fun _ _ _ h => h) rfl (fun _ => by kernel_rfl) (fun _ => hT) ?_
          refine AnyK.pure 18 (v := .int .u64 (hi' : Int)) rfl (by kernel_rfl) (fun _ _ _ h => h) rfl (fun _ => by kernel_rfl) (fun _ => hT) ?_
          refine AnyK.pure 19 (v := .pointer (some ⟨(w.heap.size + 3), i + j, none⟩)) rfl (by kernel_rfl) (fun _ _ _ h => h) rfl (fun _ => (ey_idxA (t := 151) (e := 48) (x := .tmp 5) (y := .tmp 21) (g := (w.heap.size + 3)) (off := 0) (m := 8) (p := i + j) (by rfl) (by kernel_rfl) (by kernel_rfl) (by omega) (by kernel_rfl) szU64).trans (by rw [Nat.zero_add])) (fun _ => hT) ?_
          refine AnyK.store 20 (d := none) (op := .store 48 (.tmp 37) (.tmp 35)) (by kernel_rfl) (fun o ho => ey_store (p := ⟨w.heap.size + 3, i + j, none⟩) (k := .u64) (n := (lo : Int)) ho (by kernel_rfl) (by kernel_rfl) szU64 hT.2.2 hff) (by kernel_rfl) (fun h => (by cases h)) ?_
          refine AnyK.val 21 (v := .int .u64 (hi' : Int)) rfl (by kernel_rfl) rfl (by kernel_rfl) (fun h => (by cases h)) ?_
          refine AnyK.done (by kernel_rfl) ?_
          have HM3 := Lib.hid (HM2.out.drew.set (i + j) lo)
          have HS := Lib.hid hs
          clear hT hff hs HM2
          have HFF : Hid ((∀ x ∈ vs.set (i + j) lo, x < 18446744073709551616) ∧ (∀ k, i + 4 ≤ k → (vs.set (i + j) lo).getD k 0 = 0) ∧ numL 18446744073709551616 (vs.set (i + j) lo) + hi' * 18446744073709551616 ^ (i + (j + 1)) = numL 18446744073709551616 (xa.take i) * numL 18446744073709551616 xb + xa.getD i 0 * 18446744073709551616 ^ i * numL 18446744073709551616 (xb.take (j + 1))) := by
            refine ⟨set_mem_lt HVS.out _ hlo, fun k hk => (by rw [getD_set_ne _ _ _ _ (by omega)]; exact HZ2.out k hk), ?_⟩
            have e1 := numL_set 18446744073709551616 vs (i + j) lo (by omega)
            have e2 := numL_take 18446744073709551616 xb j (by rw [HLB.out]; omega)
            have e3 := HN2.out
            rw [← HZZ.out] at e1
            rw [← HY.out] at e2
            rw [HX.out] at e3 HS
            have e4 : (18446744073709551616 : Nat) ^ (i + (j + 1)) = 18446744073709551616 ^ (i + j) * 18446744073709551616 := Nat.pow_succ ..
            have e5 : (18446744073709551616 : Nat) ^ (i + j) = 18446744073709551616 ^ i * 18446744073709551616 ^ j := Nat.pow_add ..
            rw [e4]
            refine mul_in 18446744073709551616 _ _ (18446744073709551616 ^ i) y z c lo hi' _ _ _ _ (18446744073709551616 ^ (i + j)) e3 HS.out e1 ?_
            rw [e2, Nat.mul_add, e5]
            grind
          go_wp2
          go_roundg (4 - (j + 1))
          case measure => omega
          case rel => exact ⟨j + 1, hi', vs.set (i + j) lo, rfl, by go_num, rfl, by omega, by simp [hv8], HFF.out.1, hhi, HFF.out.2.1, HFF.out.2.2, HM3.out⟩
        · have hlt2 : ¬ (j : Int) < 4 := by omega
          have cv : (u64l vs)[i + 4]? = some (.int .u64 ((vs.getD (i + 4) 0 : Nat) : Int)) := u64l_get (by omega)
          have cc := (hM2.2.2.2.1.cell (i + 4)).trans cv
          have ff := hM2.2.2.2.1.frozen (i + 4)
          have HM3 := Lib.hid (hM2.set (i + 4) c)
          have hj5 : j = 4 := by omega
          have HFF : Hid ((vs.set (i + 4) c).length = 8 ∧ (∀ x ∈ vs.set (i + 4) c, x < 18446744073709551616) ∧ (∀ k, i + 5 ≤ k → (vs.set (i + 4) c).getD k 0 = 0) ∧ numL 18446744073709551616 (vs.set (i + 4) c) = numL 18446744073709551616 (xa.take (i + 1)) * numL 18446744073709551616 xb) := by
            subst hj5
            refine ⟨by simp [hv8], set_mem_lt hvs _ hc, fun k hk => (by rw [getD_set_ne _ _ _ _ (by omega)]; exact hz2 k (by omega)), ?_⟩
            have e1 := numL_set 18446744073709551616 vs (i + 4) c (by omega)
            rw [hz2 (i + 4) (by omega)] at e1
            have e2 := numL_take 18446744073709551616 xa i (by rw [HLA.out]; omega)
            rw [List.take_of_length_le (l := xb) (by rw [HLB.out]; omega)] at hn2
            rw [e2]
            grind
          obtain ⟨us, hus⟩ : ∃ us, us = vs.set (i + 4) c := ⟨_, rfl⟩
          obtain ⟨u, hu⟩ : ∃ u, u = vs.getD (i + 4) 0 := ⟨_, rfl⟩
          rw [← hus] at HM3 HFF
          rw [← hu] at cc
          clear cv hM2 hz2 hn2 hvs hj5 hus hu hv8 hlt hgk2
          have cc' : wr.cell? ⟨w.heap.size + 1 + 1 + 1, i + 4, none⟩ = some (.int .u64 (u : Int)) := cc
          have ff' : wr.frozen? ⟨w.heap.size + 1 + 1 + 1, i + 4, none⟩ = false := ff
          clear cc ff
          go_wp2
          go_roundg (4 - (i + 1))
          case measure => omega
          case rel => exact ⟨i + 1, us, rfl, by go_num, by omega, HFF.out.1, HFF.out.2.1, fun k hk => HFF.out.2.2.1 k (by omega), HFF.out.2.2.2, HM3.out⟩
    · have hlt : ¬ (i : Int) < 4 := by omega
      obtain rfl : i = 4 := by omega
      obtain ⟨N, hN⟩ : ∃ N, N = wr.heap.size := ⟨_, rfl⟩
      have HQ : Hid (Blk (wr.alloc (.cells (u64l [0,0,0,0]).toArray 80)) N 80 (u64l [0,0,0,0]) ∧ MW w xa xb (wr.alloc (.cells (u64l [0,0,0,0]).toArray 80)) ws) := ⟨Blk.new' hN rfl, hM.1.alloc _, hM.2.1.alloc _, hM.2.2.1.alloc _, hM.2.2.2.1.alloc _, hM.2.2.2.2.alloc hM.2.2.2.2.size _⟩
      have HNG : Hid (w.heap.size + 3 < N) := by have := hM.2.2.2.1.lt; show _ < _; omega
      have HNN : Hid (numL 18446744073709551616 ws = numL 18446744073709551616 xa * numL 18446744073709551616 xb) := by
        rw [List.take_of_length_le (l := xa) (by rw [HLA.out]; omega)] at hn
        exact hn
      have HWS := Lib.hid hws
      clear hM hz hn hws hgk
      go_wp2
      rw [← hN]
      clear hN
      go_loopg [10, 44] 4 (fun kk q10 q44 wr2 => ∃ (i c : Nat) (os : List Nat), kk = 4 - i ∧ q44 = .int .i64 (i : Int) ∧ q10 = .int .u64 (c : Int) ∧ i ≤ 4 ∧ os.length = 4 ∧ (∀ x ∈ os, x < 18446744073709551616) ∧ c < 18446744073709551616 ∧ (∀ k, i ≤ k → os.getD k 0 = 0) ∧
        numL 18446744073709551616 os + c * 18446744073709551616 ^ i = 38 * numL 18446744073709551616 ((ws.drop 4).take i) + numL 18446744073709551616 (ws.take i) ∧ Blk wr2 N 80 (u64l os) ∧ MW w xa xb wr2 ws)
      case atStart => exact ⟨0, 0, [0,0,0,0], rfl, rfl, rfl, by omega, rfl, by simp, by omega, by intro k hk; rcases k with _ | _ | _ | _ | k <;> simp [List.getD_eq_getElem?_getD], by simp [numL], HQ.out.1, HQ.out.2⟩
      case round =>
        obtain ⟨i, c, os, hgk, rfl, rfl, hi4, ho4, hos, hc, hz, hn, hbo, hM⟩ := hrel
        clear HQ
        rcases Nat.lt_or_ge i 4 with hi | hi
        · have hlt2 : (i : Int) < 4 := by omega
          have hiw : IntKind.i64.wrap ((i : Int) + 4) = ((i + 4 : Nat) : Int) := (IntWalk.i64_in _ (by omega)).trans (by omega)
          have hca : (u64l ws)[i + 4]? = some (.int .u64 ((ws.getD (i + 4) 0 : Nat) : Int)) := u64l_get (by omega)
          have hcb : (u64l ws)[i]? = some (.int .u64 ((ws.getD i 0 : Nat) : Int)) := u64l_get (by omega)
          have hcv : (u64l os)[i]? = some (.int .u64 ((os.getD i 0 : Nat) : Int)) := u64l_get (by omega)
          obtain ⟨x, hx⟩ : ∃ x, x = ws.getD (i + 4) 0 := ⟨_, rfl⟩
          obtain ⟨y, hy⟩ : ∃ y, y = ws.getD i 0 := ⟨_, rfl⟩
          have HXL : Hid (x < 18446744073709551616 ∧ y < 18446744073709551616) := ⟨by rw [hx]; exact getD_mem_lt (by omega) HWS.out _, by rw [hy]; exact getD_mem_lt (by omega) HWS.out _⟩
          rw [← hx] at hca
          rw [← hy] at hcb
          have hT : wr.drew.cell? ⟨w.heap.size + 3, i + 4, none⟩ = some (.int .u64 (x : Int)) ∧ wr.drew.cell? ⟨w.heap.size + 3, i, none⟩ = some (.int .u64 (y : Int)) :=
            ⟨(hM.drew.2.2.2.1.cell (i + 4)).trans hca, (hM.drew.2.2.2.1.cell i).trans hcb⟩
          have hcc := (hbo.drew.cell i).trans hcv
          have hff := hbo.drew.frozen i
          have HM2 := Lib.hid hM; have HBO := Lib.hid hbo
          have HX := Lib.hid hx; have HY := Lib.hid hy; have HN2 := Lib.hid hn; have HZ2 := Lib.hid hz; have HVS := Lib.hid hos
          clear hM hbo hca hcb hcv hx hy hn hz hos
          go_wp2
          refine region_K (by kernel_rfl) 14 (fun w' => w'.cell? ⟨w.heap.size + 3, i + 4, none⟩ = some (.int .u64 (x : Int)) ∧ w'.cell? ⟨w.heap.size + 3, i, none⟩ = some (.int .u64 (y : Int))) ?_
          refine AnyK.pure 0 (v := .int .i64 (i : Int)) rfl (by kernel_rfl) (fun _ _ _ h => h) rfl (fun _ => by kernel_rfl) (fun _ => hT) ?_
          refine AnyK.pure 1 (v := .int .i64 (i : Int)) rfl (by kernel_rfl) (fun _ _ _ h => h) rfl (fun _ => by kernel_rfl) (fun _ => hT) ?_
          refine AnyK.pure 2 (v := .int .i64 ((i + 4 : Nat) : Int)) rfl (by kernel_rfl) (fun _ _ _ h => h) rfl (fun _ => Eq.trans (b := .ok (.value (.int .i64 (IntKind.i64.wrap ((i : Int) + 4)))) _) (by kernel_rfl) (by rw [hiw])) (fun _ => hT) ?_
          refine AnyK.pure 3 (v := .pointer (some ⟨(w.heap.size + 3), i + 4, none⟩)) rfl (by kernel_rfl) (fun _ _ _ h => h) rfl (fun _ => (ey_idxA (t := 151) (e := 48) (x := .tmp 5) (y := .tmp 50) (g := (w.heap.size + 3)) (off := 0) (m := 8) (p := i + 4) (by rfl) (by kernel_rfl) (by kernel_rfl) (by omega) (by kernel_rfl) szU64).trans (by rw [Nat.zero_add])) (fun _ => hT) ?_
          refine AnyK.load 4 (v := .int .u64 (x : Int)) rfl (by kernel_rfl) (by kernel_rfl) (by kernel_rfl) (fun _ _ _ h => h) rfl (fun w' hw' => ey_load (t := 48) (x := .tmp 51) (p := ⟨(w.heap.size + 3), i + 4, none⟩) (by rfl) (by kernel_rfl) agU64 hw'.1) hT ?_
          refine AnyK.pure 5 (v := .int .i64 (i : Int)) rfl (by kernel_rfl) (fun _ _ _ h => h) rfl (fun _ => by kernel_rfl) (fun _ => hT) ?_
          refine AnyK.pure 6 (v := .pointer (some ⟨(w.heap.size + 3), i, none⟩)) rfl (by kernel_rfl) (fun _ _ _ h => h) rfl (fun _ => (ey_idxA (t := 151) (e := 48) (x := .tmp 5) (y := .tmp 53) (g := (w.heap.size + 3)) (off := 0) (m := 8) (p := i) (by rfl) (by kernel_rfl) (by kernel_rfl) (by omega) (by kernel_rfl) szU64).trans (by rw [Nat.zero_add])) (fun _ => hT) ?_
          refine AnyK.load 7 (v := .int .u64 (y : Int)) rfl (by kernel_rfl) (by kernel_rfl) (by kernel_rfl) (fun _ _ _ h => h) rfl (fun w' hw' => ey_load (t := 48) (x := .tmp 54) (p := ⟨(w.heap.size + 3), i, none⟩) (by rfl) (by kernel_rfl) agU64 hw'.2) hT ?_
          refine AnyK.pure 8 (v := .int .u64 (c : Int)) rfl (by kernel_rfl) (fun _ _ _ h => h) rfl (fun _ => by kernel_rfl) (fun _ => hT) ?_
          refine AnyK.enter 9 (d := some 57) (f := 87) (args := #[.int .u64 (x : Int), .int .u64 38, .int .u64 (y : Int), .int .u64 (c : Int)]) (by rfl) (by kernel_rfl) (by kernel_rfl) ?_
          refine (step_any x 38 y c HXL.out.1 (by omega) HXL.out.2 hc _).mono ?_
          rintro e w2 ⟨lo, hi', rfl, hlo, hhi, hs, rfl⟩
          refine ⟨_, rfl, fun _ => hT, ?_⟩
          refine AnyK.pure 10 (v := .tuple #[.int .u64 (lo : Int), .int .u64 (hi' : Int)]) rfl (by kernel_rfl) (fun _ _ _ h => h) rfl (fun _ => by kernel_rfl) (fun _ => hT) ?_
          refine AnyK.pure 11 (v := .int .u64 (lo : Int)) rfl (by kernel_rfl) (fun _ _ _ h => h) rfl (fun _ => by kernel_rfl) (fun _ => hT) ?_
          refine AnyK.pure 12 (v := .int .u64 (hi' : Int)) rfl (by kernel_rfl) (fun _ _ _ h => h) rfl (fun _ => by kernel_rfl) (fun _ => hT) ?_
          refine AnyK.pure 13 (v := .pointer (some ⟨N, i, none⟩)) rfl (by kernel_rfl) (fun _ _ _ h => h) rfl (fun _ => (ey_idxA (t := 80) (e := 48) (x := .tmp 9) (y := .tmp 48) (g := N) (off := 0) (m := 4) (p := i) (by rfl) (by kernel_rfl) (by kernel_rfl) hi (by kernel_rfl) szU64).trans (by rw [Nat.zero_add])) (fun _ => hT) ?_
          refine AnyK.store 14 (d := none) (op := .store 48 (.tmp 60) (.tmp 58)) (by kernel_rfl) (fun o ho => ey_store (p := ⟨N, i, none⟩) (k := .u64) (n := (lo : Int)) ho (by kernel_rfl) (by kernel_rfl) szU64 hcc hff) (by kernel_rfl) (fun h => (by cases h)) ?_
          refine AnyK.val 15 (v := .int .u64 (hi' : Int)) rfl (by kernel_rfl) rfl (by kernel_rfl) (fun h => (by cases h)) ?_
          refine AnyK.done (by kernel_rfl) ?_
          have HM3 := Lib.hid (show MW w xa xb (wr.drew.setCell ⟨N, i, none⟩ (.int .u64 (lo : Int))) ws from ⟨HM2.out.drew.1.far (p := ⟨N, i, none⟩) (by have := HNG.out; show _ ≠ N; omega) _, HM2.out.drew.2.1.far (p := ⟨N, i, none⟩) (by have := HNG.out; show _ ≠ N; omega) _, HM2.out.drew.2.2.1.far (p := ⟨N, i, none⟩) (by have := HNG.out; show _ ≠ N; omega) _, HM2.out.drew.2.2.2.1.far (p := ⟨N, i, none⟩) (by have := HNG.out; show _ ≠ N; omega) _, HM2.out.drew.2.2.2.2.setCell (p := ⟨N, i, none⟩) (by have := HNG.out; show _ ≤ N; omega) _⟩)
          have HBO3 := Lib.hid (HBO.out.drew.set_ i (.int .u64 (lo : Int)))
          rw [u64l_set] at HBO3
          have HFF : Hid ((∀ x ∈ os.set i lo, x < 18446744073709551616) ∧ (∀ k, i + 1 ≤ k → (os.set i lo).getD k 0 = 0) ∧ numL 18446744073709551616 (os.set i lo) + hi' * 18446744073709551616 ^ (i + 1) = 38 * numL 18446744073709551616 ((ws.drop 4).take (i + 1)) + numL 18446744073709551616 (ws.take (i + 1))) := by
            refine ⟨set_mem_lt HVS.out _ hlo, fun k hk => (by rw [getD_set_ne _ _ _ _ (by omega)]; exact HZ2.out k (by omega)), ?_⟩
            have e1 := numL_set 18446744073709551616 os i lo (by omega)
            rw [HZ2.out i (Nat.le_refl _)] at e1
            have e2 := numL_take 18446744073709551616 (ws.drop 4) i (by simp; omega)
            have e2' : (ws.drop 4).getD i 0 = x := by rw [HX.out, List.getD_eq_getElem?_getD, List.getElem?_drop, List.getD_eq_getElem?_getD, Nat.add_comm]
            have e3 := numL_take 18446744073709551616 ws i (by omega)
            rw [← HY.out] at e3
            rw [e2'] at e2
            have e4 : (18446744073709551616 : Nat) ^ (i + 1) = 18446744073709551616 ^ i * 18446744073709551616 := Nat.pow_succ ..
            have e5 := HN2.out
            rw [e4, e2, e3]
            clear e4 e2 e3 e2'
            grind
          clear hT hcc hff hs HM2 HBO
          go_wp2
          go_roundg (4 - (i + 1))
          case measure => omega
          case rel => exact ⟨i + 1, hi', os.set i lo, rfl, by go_num, rfl, by omega, by simp [ho4], HFF.out.1, hhi, HFF.out.2.1, HFF.out.2.2, HBO3.out, HM3.out⟩
        · have hlt2 : ¬ (i : Int) < 4 := by omega
          obtain rfl : i = 4 := by omega
          obtain ⟨o0, o1, o2, o3, rfl⟩ : ∃ o0 o1 o2 o3, os = [o0, o1, o2, o3] := by
            rcases os with _ | ⟨o0, _ | ⟨o1, _ | ⟨o2, _ | ⟨o3, _ | ⟨o4, os⟩⟩⟩⟩⟩ <;> simp at ho4
            exact ⟨_, _, _, _, rfl⟩
          have x0 := hos o0 (by simp); have x1 := hos o1 (by simp); have x2 := hos o2 (by simp); have x3 := hos o3 (by simp)
          obtain ⟨H, hH⟩ : ∃ H, H = numL 18446744073709551616 (ws.drop 4) := ⟨_, rfl⟩
          obtain ⟨LL, hLL⟩ : ∃ LL, LL = numL 18446744073709551616 (ws.take 4) := ⟨_, rfl⟩
          have yH : H < 115792089237316195423570985008687907853269984665640564039457584007913129639936 := by
            have := numL_lt 18446744073709551616 (ws.drop 4) (fun x hx => HWS.out x (List.mem_of_mem_drop hx))
            rw [← hH, show (ws.drop 4).length = 4 by simp [hl8]] at this
            exact this
          have yL : LL < 115792089237316195423570985008687907853269984665640564039457584007913129639936 := by
            have := numL_lt 18446744073709551616 (ws.take 4) (fun x hx => HWS.out x (List.mem_of_mem_take hx))
            rw [← hLL, show (ws.take 4).length = 4 by simp [hl8]] at this
            exact this
          have yC : numL 18446744073709551616 xa * numL 18446744073709551616 xb = LL + 115792089237316195423570985008687907853269984665640564039457584007913129639936 * H := by
            rw [← HNN.out, hH, hLL]
            exact numL_cut 18446744073709551616 ws 4 (by omega)
          have yO : v4 o0 o1 o2 o3 + c * 115792089237316195423570985008687907853269984665640564039457584007913129639936 = 38 * H + LL := by
            have h1 := hn
            rw [List.take_of_length_le (l := ws.drop 4) (by simp [hl8]), ← hH, ← hLL] at h1
            have h2 : numL 18446744073709551616 [o0, o1, o2, o3] = v4 o0 o1 o2 o3 := by simp only [numL, v4]; omega
            rw [h2] at h1
            exact h1
          have c38 : c ≤ 38 := by simp only [v4] at yO; omega
          have HY := Lib.hid (And.intro yC yO)
          have hb4 : Blk wr N 80 (l4 o0 o1 o2 o3) := hbo
          have HBO := Lib.hid hb4
          have HR := Lib.hid hM.2.2.1
          have HE := Lib.hid hM.2.2.2.2
          have hld := el_ld hb4
          obtain ⟨n1, hn1⟩ : ∃ n, n = 38 * c := ⟨_, rfl⟩
          have e1 : (38 : Int) * (c : Int) = (n1 : Int) := by omega
          have t0 : (0 : Int) ≤ (c : Int) := by omega
          have t1 : (c : Int) ≤ 38 := by omega
          have HP1 := Lib.hid (fun W => plus_any o0 o1 o2 o3 n1 x0 x1 x2 x3 (by omega) W)
          have HX1 : Hid (n1 = 38 * c ∧ c ≤ 38 ∧ o0 < 18446744073709551616 ∧ o1 < 18446744073709551616 ∧ o2 < 18446744073709551616 ∧ o3 < 18446744073709551616) := ⟨hn1, c38, x0, x1, x2, x3⟩
          clear hb4 hbo hM hos hz hn hgk hH hLL yH yL yC yO c38 x0 x1 x2 x3 hn1 hc ho4 hi4 hi HWS HNN hl8
          go_upto_region 21 with (first
            | (go_at_call 76; (with_reducible refine (HP1.out _).mono ?_); rintro e w1 ⟨s0, s1, s2, s3, k, rfl, hv, hB1⟩; have HO1 := qbl HBO hB1; have HR1 := qbl HR hB1; have HE1 := qtr HE hB1; have HV1 := Lib.hid hv; clear hB1 hv)
            | (refine wpList_store_all rfl 80 (.tmp 9) (.tmp 67) rfl N (l4 s0 s1 s2 s3) (by rfl) (by rfl) 80 _ HO1.out (by exact hdEl) (l4_one _ _ _ _) rfl ?_; intro w2 hb2 ho2; have HO2 := Lib.hid hb2; have HE2 := Lib.hid (ho2.below HE1.out (Nat.le_of_lt (Nat.lt_of_le_of_lt (Nat.le_add_right _ 3) HNG.out)) HE1.out.size); have HR2 := Lib.hid (ho2.blk HR1.out (Nat.ne_of_lt (Nat.lt_trans (by omega) HNG.out))); clear hb2 ho2))
          clear hld e1 t0 t1
          have k1 := HV1.out.2.2.2.2.1
          obtain ⟨n2, hn2⟩ : ∃ n, n = 38 * k := ⟨_, rfl⟩
          have e2 : (38 : Int) * (k : Int) = (n2 : Int) := by omega
          have u0' : (0 : Int) ≤ (k : Int) := by omega
          have u1' : (k : Int) ≤ 1 := by omega
          have HP2 := Lib.hid (fun W => plus_any s0 s1 s2 s3 n2 HV1.out.1 HV1.out.2.1 HV1.out.2.2.1 HV1.out.2.2.2.1 (by omega) W)
          have HX2 := Lib.hid hn2
          have hld2 := el_ld HO2.out
          clear k1 hn2
          go_upto_region 22 with (first
            | (go_at_call 76; (with_reducible refine (HP2.out _).mono ?_); rintro e w3 ⟨z0, z1, z2, z3, k2, rfl, hv, hB1⟩; have HO3 := qbl HO2 hB1; have HR3 := qbl HR2 hB1; have HE3 := qtr HE2 hB1; have HV2 := Lib.hid hv; clear hB1 hv)
            | (refine wpList_store_all rfl 80 (.tmp 9) (.tmp 74) rfl N (l4 z0 z1 z2 z3) (by rfl) (by rfl) 80 _ HO3.out (by exact hdEl) (l4_one _ _ _ _) rfl ?_; intro w4 hb2 ho2; have HO4 := Lib.hid hb2; have HE4 := Lib.hid (ho2.below HE3.out (Nat.le_of_lt (Nat.lt_of_le_of_lt (Nat.le_add_right _ 3) HNG.out)) HE3.out.size); have HR4 := Lib.hid (ho2.blk HR3.out (Nat.ne_of_lt (Nat.lt_trans (by omega) HNG.out))); clear hb2 ho2))
          clear hld2 e2 u0' u1'
          have hld3 := el_ld HO4.out
          have HP3 := Lib.hid (fun W => norm_any z0 z1 z2 z3 HV2.out.1 HV2.out.2.1 HV2.out.2.2.1 HV2.out.2.2.2.1 W)
          go_wp2_with (first
            | ((with_reducible refine (HP3.out _).mono ?_); rintro e w5 ⟨r0, r1, r2, r3, q, rfl, hv, hB1⟩; have HR5 := qbl HR4 hB1; have HE5 := qtr HE4 hB1; have HV3 := Lib.hid hv; clear hB1 hv)
            | (refine wpList_store_all rfl 80 (.tmp 4) (.tmp 77) rfl (w.heap.size + 2) (l4 r0 r1 r2 r3) (by rfl) (by rfl) 80 _ HR5.out (by exact hdEl) (l4_one _ _ _ _) rfl ?_; intro w6 hb2 ho2; have HR6 := Lib.hid hb2; have HE6 := Lib.hid (ho2.below HE5.out (Nat.le_add_right _ 2) HE5.out.size); clear hb2 ho2))
          refine bodyPost_ret (res_cell rfl _ _ _ _ rfl HR6.out _ Tryz.underlying80 rfl (by exact hdEl)) rfl ⟨?_, HE6.out⟩
          have a1 := HX1.out; have a2 := HX2.out; have a3 := HV1.out; have a4 := HV2.out; have a5 := HV3.out; have a6 := HY.out
          rw [l4_of _ _ _ _ a5.1 a5.2.1 a5.2.2.1 a5.2.2.2.1]
          have b1 : v4 s0 s1 s2 s3 + k * 115792089237316195423570985008687907853269984665640564039457584007913129639936 = v4 o0 o1 o2 o3 + 38 * c := by simp only [v4]; have := a3.2.2.2.2.2; omega
          have b2 : v4 z0 z1 z2 z3 + k2 * 115792089237316195423570985008687907853269984665640564039457584007913129639936 = v4 s0 s1 s2 s3 + 38 * k := by simp only [v4]; have := a4.2.2.2.2.2; omega
          have b3 : v4 s0 s1 s2 s3 < 115792089237316195423570985008687907853269984665640564039457584007913129639936 := by simp only [v4]; omega
          have b4 : v4 o0 o1 o2 o3 < 115792089237316195423570985008687907853269984665640564039457584007913129639936 := by simp only [v4]; omega
          have b5 : v4 z0 z1 z2 z3 = v4 s0 s1 s2 s3 + 38 * k := by omega
          rw [mul_fin _ H LL (v4 o0 o1 o2 o3) c k (v4 s0 s1 s2 s3) (v4 z0 z1 z2 z3) (v4 r0 r1 r2 r3) q a6.1 a6.2 b1 b5 a5.2.2.2.2.2 a5.2.2.2.2.1]
end Go.Proofs.YtlbnibmcflmohaaGreat
