/- Part of the proof: R56, R57, R58. -/
import Derived.Test.YtlbnibmcflmohaaGreatPlx36
namespace Go.Proofs.YtlbnibmcflmohaaGreat
open Go.RowKit
theorem wrapI (n : Nat) (h : n < 1000000) (z : Int) (hz : z = (n : Int)) : IntKind.i64.wrap z = (n : Int) := by
  subst hz
  simp [IntKind.wrap, go_sem]
  omega
theorem mul_sq {x y : Nat} (hx : x < 4294967296) (hy : y < 4294967296) : x * y ≤ 18446744065119617025 := by
  have h := Nat.mul_le_mul (show x ≤ 4294967295 by omega) (show y ≤ 4294967295 by omega)
  omega
theorem set_ge (zs : List Nat) (s v k : Nat) (hk : s < k) : (zs.set s v).getD k 0 = zs.getD k 0 := getD_set_ne zs s k v (by omega)
attribute [local go_sem ↓] ldq_w17 ldq_n8
set_option maxRecDepth 100000 in
set_option maxHeartbeats 4000000 in
theorem rmul_n (a b : Nat) (w : World) (ha : a < 115792089237316195423570985008687907853269984665640564039457584007913129639936) (hb : b < 115792089237316195423570985008687907853269984665640564039457584007913129639936) :
    Calls Tryz.prog 32 #[.agg (n8 a).toArray, .agg (n8 b).toArray] w fun e w' => e = .returned (.agg (n8 (a * b % pr)).toArray) ∧ Below w.heap.size w w' := by
  obtain ⟨xa, hxa⟩ : ∃ xa, xa = dig 8 a := ⟨_, rfl⟩
  obtain ⟨xb, hxb⟩ : ∃ xb, xb = dig 8 b := ⟨_, rfl⟩
  have HAN : Hid (numL 4294967296 xa = a) := (by show _ = _; rw [hxa, n8_num a ha])
  have HBN : Hid (numL 4294967296 xb = b) := (by show _ = _; rw [hxb, n8_num b hb])
  have HLA : Hid (xa.length = 8 ∧ ∀ x ∈ xa, x < 4294967296) := (by rw [hxa]; exact ⟨dig_len _ _, dig_lt _ _⟩)
  have HLB : Hid (xb.length = 8 ∧ ∀ x ∈ xb, x < 4294967296) := (by rw [hxb]; exact ⟨dig_len _ _, dig_lt _ _⟩)
  rw [n8, n8, ← hxa, ← hxb]
  clear hxa hxb ha hb
  obtain ⟨W1, hW1⟩ : ∃ W1, W1 = (((w.alloc (.cells (u32d xa).toArray 56)).alloc (.cells (u32d xb).toArray 56)).alloc (.cells o8.toArray 56)).alloc (.cells o17.toArray 110) := ⟨_, rfl⟩
  have HM0 : Hid (Blk W1 w.heap.size 56 (u32d xa) ∧ Blk W1 (w.heap.size + 1) 56 (u32d xb) ∧ Blk W1 (w.heap.size + 2) 56 o8 ∧ Blk W1 (w.heap.size + 3) 110 (u64l (List.replicate 17 0)) ∧ Below w.heap.size w W1) :=
    hW1 ▸ ⟨(((Blk.new w _ _).alloc _).alloc _).alloc _, ((Blk.new' (by simp) rfl).alloc _).alloc _, (Blk.new' (by simp) rfl).alloc _, Blk.new' (by simp) rfl, ((((Below.refl _ w).alloc (Nat.le_refl _) _).alloc (by simp) _).alloc (by simp <;> omega) _).alloc (by simp <;> omega) _⟩
  go_enter Tryz.func32, Tryz.ntmps32
  go_wp2
  go_loopg [6] 8 (fun kk q wr => ∃ (i : Nat) (zs : List Nat), kk = 8 - i ∧ q = .int .i64 (i : Int) ∧ i ≤ 8 ∧ zs.length = 17 ∧ (∀ x ∈ zs, x < 4294967296) ∧ (∀ k, i + 8 ≤ k → zs.getD k 0 = 0) ∧ numL 4294967296 zs = numL 4294967296 (xa.take i) * b ∧ Blk wr w.heap.size 56 (u32d xa) ∧ Blk wr (w.heap.size + 1) 56 (u32d xb) ∧ Blk wr (w.heap.size + 2) 56 o8 ∧ Blk wr (w.heap.size + 3) 110 (u64l zs) ∧ Below w.heap.size w wr)
  case atStart => exact ⟨0, List.replicate 17 0, rfl, rfl, by omega, rfl, by intro x hx; rw [List.eq_of_mem_replicate hx]; omega, by intro k _; rw [List.getD_eq_getElem?_getD, List.getElem?_replicate]; split <;> rfl, by rw [numL_zero]; simp [numL], hW1 ▸ HM0.out⟩
  case round =>
    clear HM0 hW1
    obtain ⟨i, zs, hgk, rfl, hi, hzl, hzt, hz0, hnum, hA, hB, hZ, hO, hE⟩ := hrel
    rcases Nat.lt_or_ge i 8 with hlt | hge
    · have hlt2 : (i : Int) < 8 := by omega
      obtain ⟨x, hx⟩ : ∃ x, x = xa.getD i 0 := ⟨_, rfl⟩
      have hx32 : x < 4294967296 := by rw [hx]; exact getD_mem_lt (by omega) HLA.out.2 i
      have HX := Lib.hid hx
      have HGK := Lib.hid hgk
      have HN0 := Lib.hid hnum
      have HS0 : Hid (zs.length = 17 ∧ (∀ x ∈ zs, x < 4294967296) ∧ (∀ k, i + 8 ≤ k → zs.getD k 0 = 0) ∧ Blk wr w.heap.size 56 (u32d xa) ∧ Blk wr (w.heap.size + 1) 56 (u32d xb) ∧ Blk wr (w.heap.size + 2) 56 o8 ∧ Blk wr (w.heap.size + 3) 110 (u64l zs) ∧ Below w.heap.size w wr) := ⟨hzl, hzt, hz0, hA, hB, hZ, hO, hE⟩
      clear hx hgk hnum hzl hzt hz0 hA hB hZ hO hE
      go_wp2
      go_loopg [7, 8] 8 (fun kk qc q wr => ∃ (j c : Nat) (us : List Nat), kk = 8 - j ∧ qc = .int .u64 (c : Int) ∧ q = .int .i64 (j : Int) ∧ j ≤ 8 ∧ c < 4294967296 ∧ us.length = 17 ∧ (∀ x ∈ us, x < 4294967296) ∧ (∀ k, i + 8 ≤ k → us.getD k 0 = 0) ∧ numL 4294967296 us + c * 4294967296 ^ (i + j) = numL 4294967296 (xa.take i) * b + x * 4294967296 ^ i * numL 4294967296 (xb.take j) ∧ Blk wr w.heap.size 56 (u32d xa) ∧ Blk wr (w.heap.size + 1) 56 (u32d xb) ∧ Blk wr (w.heap.size + 2) 56 o8 ∧ Blk wr (w.heap.size + 3) 110 (u64l us) ∧ Below w.heap.size w wr)
      case atStart => exact ⟨0, 0, zs, rfl, rfl, rfl, by omega, by omega, HS0.out.1, HS0.out.2.1, HS0.out.2.2.1, by rw [HN0.out]; simp [numL], HS0.out.2.2.2⟩
      case round =>
        clear HS0 HN0
        obtain ⟨j, c, us, hgk, rfl, rfl, hj, hc, hul, hut, hu0, hnum, hA, hB, hZ, hO, hE⟩ := hrel
        rcases Nat.lt_or_ge j 8 with hjt | hjge
        · have hjt2 : (j : Int) < 8 := by omega
          obtain ⟨s, hs⟩ : ∃ s, s = i + j := ⟨_, rfl⟩
          have hs17 : s < 17 := by omega
          have hsi : (i : Int) + (j : Int) = (s : Int) := by omega
          obtain ⟨y, hy⟩ : ∃ y, y = xb.getD j 0 := ⟨_, rfl⟩
          obtain ⟨z, hz⟩ : ∃ z, z = us.getD s 0 := ⟨_, rfl⟩
          have hy32 : y < 4294967296 := by rw [hy]; exact getD_mem_lt (by omega) HLB.out.2 j
          have hz32 : z < 4294967296 := by rw [hz]; exact getD_mem_lt (by omega) hut s
          have cx : wr.cell? ⟨w.heap.size, i, none⟩ = some (.int .u32 (x : Int)) := (hA.cell i).trans (HX.out ▸ u32d_get (by have := HLA.out.1; omega))
          have cy : wr.cell? ⟨w.heap.size + 1, j, none⟩ = some (.int .u32 (y : Int)) := (hB.cell j).trans (hy ▸ u32d_get (by have := HLB.out.1; omega))
          have cz : wr.cell? ⟨w.heap.size + 3, s, none⟩ = some (.int .u64 (z : Int)) := (hO.cell s).trans (hz ▸ u64l_get (by omega))
          have cz' : wr.drew.cell? ⟨w.heap.size + 3, s, none⟩ = some (.int .u64 (z : Int)) := cz
          have fz : wr.drew.frozen? ⟨w.heap.size + 3, s, none⟩ = false := hO.drew.frozen s
          obtain ⟨m, hm⟩ : ∃ m, m = x * y := ⟨_, rfl⟩
          have hml : m ≤ 18446744065119617025 := by rw [hm]; exact mul_sq hx32 hy32
          have hmi : (x : Int) * (y : Int) = (m : Int) := by rw [hm]; push_cast; rfl
          obtain ⟨t, ht⟩ : ∃ t, t = c + z + m := ⟨_, rfl⟩
          obtain ⟨o, ho⟩ : ∃ o, o = t % 4294967296 := ⟨_, rfl⟩
          obtain ⟨q, hq⟩ : ∃ q, q = t / 4294967296 := ⟨_, rfl⟩
          have ho32 : o < 4294967296 := by rw [ho]; exact Nat.mod_lt _ (by omega)
          have hoi : (t : Int) % 4294967296 = (o : Int) := by omega
          have hqi : (t : Int) / 4294967296 = (q : Int) := by omega
          have HQ : Hid (q < 4294967296) := (by show _ < _; omega)
          have HST : Hid (numL 4294967296 (us.set s o) + q * 4294967296 ^ (i + (j + 1)) = numL 4294967296 (xa.take i) * b + x * 4294967296 ^ i * numL 4294967296 (xb.take (j + 1))) := by
            show _ = _
            rw [← Nat.add_assoc, Nat.pow_succ]
            refine mul_in 4294967296 _ x (4294967296 ^ i) y z c o q (numL 4294967296 (xb.take j)) _ (numL 4294967296 us) _ (4294967296 ^ (i + j)) hnum (by rw [← hm]; omega) ?_ ?_
            · have := numL_set 4294967296 us s o (by omega)
              rw [← hz, hs] at this
              rw [hs]; exact this
            · rw [numL_take _ xb j (by have := HLB.out.1; omega), ← hy, Nat.mul_add, Nat.pow_add]
              grind
          have HUL : Hid ((us.set s o).length = 17) := (by show _ = _; rw [List.length_set, hul])
          have HUT := Lib.hid (set_mem_lt hut s ho32)
          have HU0 : Hid (∀ k, i + 8 ≤ k → (us.set s o).getD k 0 = 0) := fun k hk => by rw [set_ge us s o k (by omega)]; exact hu0 k hk
          have hA := hA.drew
          have hB := hB.drew
          have hZ := hZ.drew
          have hO := hO.drew
          have hE := hE.drew
          have HAx := Lib.hid (hA.far (p := ⟨w.heap.size + 3, s, none⟩) (by show w.heap.size ≠ w.heap.size + 3; omega) (.int .u64 (o : Int)))
          have HBx := Lib.hid (hB.far (p := ⟨w.heap.size + 3, s, none⟩) (by show w.heap.size + 1 ≠ w.heap.size + 3; omega) (.int .u64 (o : Int)))
          have HZx := Lib.hid (hZ.far (p := ⟨w.heap.size + 3, s, none⟩) (by show w.heap.size + 2 ≠ w.heap.size + 3; omega) (.int .u64 (o : Int)))
          have HOx : Hid (Blk (wr.drew.setCell ⟨w.heap.size + 3, s, none⟩ (.int .u64 (o : Int))) (w.heap.size + 3) 110 (u64l (us.set s o))) := (u64l_set us s o) ▸ hO.set_ s _
          have HEx := Lib.hid (hE.setCell (p := ⟨w.heap.size + 3, s, none⟩) (by show w.heap.size ≤ w.heap.size + 3; omega) (.int .u64 (o : Int)))
          have HGK2 := Lib.hid hgk
          have hT : wr.drew.cell? ⟨w.heap.size, i, none⟩ = some (.int .u32 (x : Int)) ∧ wr.drew.cell? ⟨w.heap.size + 1, j, none⟩ = some (.int .u32 (y : Int)) ∧ wr.drew.cell? ⟨w.heap.size + 3, s, none⟩ = some (.int .u64 (z : Int)) := ⟨cx, cy, cz⟩
          have w0 : IntKind.i64.wrap ((i : Int) + (j : Int)) = (s : Int) := wrapI s (by omega) _ hsi
          have w1 : IntKind.u64.wrap (x : Int) = (x : Int) := wrap64 x (by omega) _ rfl
          have w2 : IntKind.u64.wrap (y : Int) = (y : Int) := wrap64 y (by omega) _ rfl
          have w3 : IntKind.u64.wrap ((c : Int) + (z : Int)) = ((c + z : Nat) : Int) := wrap64 (c + z) (by omega) _ (by omega)
          have w4 : IntKind.u64.wrap ((x : Int) * (y : Int)) = (m : Int) := wrap64 m (by omega) _ hmi
          have w5 : IntKind.u64.wrap (((c + z : Nat) : Int) + (m : Int)) = (t : Int) := wrap64 t (by omega) _ (by omega)
          clear hA hB hZ hO hE hgk hnum hul hut hu0 hy hz ht ho hq hm cx cy cz hs hmi
          go_wp2
          refine region_K (by kernel_rfl) 17 (fun w' => w'.cell? ⟨w.heap.size, i, none⟩ = some (.int .u32 (x : Int)) ∧ w'.cell? ⟨w.heap.size + 1, j, none⟩ = some (.int .u32 (y : Int)) ∧ w'.cell? ⟨w.heap.size + 3, s, none⟩ = some (.int .u64 (z : Int))) ?_
          refine AnyK.pure 0 (v := .int .u64 (c : Int)) rfl (by kernel_rfl) (fun _ _ _ h => h) rfl (fun _ => by kernel_rfl) (fun _ => hT) ?_
          refine AnyK.pure 1 (v := .int .i64 (i : Int)) rfl (by kernel_rfl) (fun _ _ _ h => h) rfl (fun _ => by kernel_rfl) (fun _ => hT) ?_
          refine AnyK.pure 2 (v := .int .i64 (j : Int)) rfl (by kernel_rfl) (fun _ _ _ h => h) rfl (fun _ => by kernel_rfl) (fun _ => hT) ?_
          refine AnyK.pure 3 (v := .int .i64 (s : Int)) rfl (by kernel_rfl) (fun _ _ _ h => h) rfl (fun _ => Eq.trans (b := .ok (.value (.int .i64 (IntKind.i64.wrap ((i : Int) + (j : Int))))) _) (by kernel_rfl) (by rw [w0])) (fun _ => hT) ?_
          refine AnyK.pure 4 (v := .pointer (some ⟨(w.heap.size + 3), s, none⟩)) rfl (by kernel_rfl) (fun _ _ _ h => h) rfl (fun _ => (ey_idxA (t := 110) (e := 48) (x := .tmp 5) (y := .tmp 20) (g := (w.heap.size + 3)) (off := 0) (m := 17) (p := s) (by rfl) (by kernel_rfl) (by kernel_rfl) hs17 (by kernel_rfl) szU64).trans (by rw [Nat.zero_add])) (fun _ => hT) ?_
          refine AnyK.load 5 (v := .int .u64 (z : Int)) rfl (by kernel_rfl) (by kernel_rfl) (by kernel_rfl) (fun _ _ _ h => h) rfl (fun w' hw' => ey_load (t := 48) (x := .tmp 21) (p := ⟨w.heap.size + 3, s, none⟩) (by rfl) (by kernel_rfl) agU64 hw'.2.2) hT ?_
          refine AnyK.pure 6 (v := .int .u64 ((c + z : Nat) : Int)) rfl (by kernel_rfl) (fun _ _ _ h => h) rfl (fun _ => Eq.trans (b := .ok (.value (.int .u64 (IntKind.u64.wrap ((c : Int) + (z : Int))))) _) (by kernel_rfl) (by rw [w3])) (fun _ => hT) ?_
          refine AnyK.pure 7 (v := .int .i64 (i : Int)) rfl (by kernel_rfl) (fun _ _ _ h => h) rfl (fun _ => by kernel_rfl) (fun _ => hT) ?_
          refine AnyK.pure 8 (v := .pointer (some ⟨w.heap.size, i, none⟩)) rfl (by kernel_rfl) (fun _ _ _ h => h) rfl (fun _ => (ey_idxA (t := 56) (e := 47) (x := .tmp 2) (y := .tmp 24) (g := w.heap.size) (off := 0) (m := 8) (p := i) (by rfl) (by kernel_rfl) (by kernel_rfl) hlt (by kernel_rfl) szU32r).trans (by rw [Nat.zero_add])) (fun _ => hT) ?_
          refine AnyK.load 9 (v := .int .u32 (x : Int)) rfl (by kernel_rfl) (by kernel_rfl) (by kernel_rfl) (fun _ _ _ h => h) rfl (fun w' hw' => ey_load (t := 47) (x := .tmp 25) (p := ⟨w.heap.size, i, none⟩) (by rfl) (by kernel_rfl) agU32r hw'.1) hT ?_
          refine AnyK.pure 10 (v := .int .u64 (x : Int)) rfl (by kernel_rfl) (fun _ _ _ h => h) rfl (fun _ => Eq.trans (b := .ok (.value (.int .u64 (IntKind.u64.wrap ((x : Int))))) _) (by kernel_rfl) (by rw [w1])) (fun _ => hT) ?_
          refine AnyK.pure 11 (v := .int .i64 (j : Int)) rfl (by kernel_rfl) (fun _ _ _ h => h) rfl (fun _ => by kernel_rfl) (fun _ => hT) ?_
          refine AnyK.pure 12 (v := .pointer (some ⟨(w.heap.size + 1), j, none⟩)) rfl (by kernel_rfl) (fun _ _ _ h => h) rfl (fun _ => (ey_idxA (t := 56) (e := 47) (x := .tmp 3) (y := .tmp 28) (g := (w.heap.size + 1)) (off := 0) (m := 8) (p := j) (by rfl) (by kernel_rfl) (by kernel_rfl) hjt (by kernel_rfl) szU32r).trans (by rw [Nat.zero_add])) (fun _ => hT) ?_
          refine AnyK.load 13 (v := .int .u32 (y : Int)) rfl (by kernel_rfl) (by kernel_rfl) (by kernel_rfl) (fun _ _ _ h => h) rfl (fun w' hw' => ey_load (t := 47) (x := .tmp 29) (p := ⟨w.heap.size + 1, j, none⟩) (by rfl) (by kernel_rfl) agU32r hw'.2.1) hT ?_
          refine AnyK.pure 14 (v := .int .u64 (y : Int)) rfl (by kernel_rfl) (fun _ _ _ h => h) rfl (fun _ => Eq.trans (b := .ok (.value (.int .u64 (IntKind.u64.wrap ((y : Int))))) _) (by kernel_rfl) (by rw [w2])) (fun _ => hT) ?_
          refine AnyK.pure 15 (v := .int .u64 (m : Int)) rfl (by kernel_rfl) (fun _ _ _ h => h) rfl (fun _ => Eq.trans (b := .ok (.value (.int .u64 (IntKind.u64.wrap ((x : Int) * (y : Int))))) _) (by kernel_rfl) (by rw [w4])) (fun _ => hT) ?_
          refine AnyK.pure 16 (v := .int .u64 (t : Int)) rfl (by kernel_rfl) (fun _ _ _ h => h) rfl (fun _ => Eq.trans (b := .ok (.value (.int .u64 (IntKind.u64.wrap (((c + z : Nat) : Int) + (m : Int))))) _) (by kernel_rfl) (by rw [w5])) (fun _ => hT) ?_
          refine AnyK.val 17 (v := .int .u64 (t : Int)) rfl (by kernel_rfl) rfl (by kernel_rfl) (fun h => (by cases h)) ?_
          refine AnyK.done (by kernel_rfl) ?_
          clear hT w0 w1 w2 w3 w4 w5
          go_wp2
          go_roundg (8 - (j + 1))
          case measure => have := HGK2.out; omega
          case rel => exact ⟨j + 1, q, us.set s o, rfl, rfl, by go_num, by omega, HQ.out, HUL.out, HUT.out, HU0.out, HST.out, HAx.out, HBx.out, HZx.out, HOx.out, HEx.out⟩
        · obtain rfl : j = 8 := by omega
          have hjt2 : ¬ ((8 : Nat) : Int) < 8 := by omega
          obtain ⟨s, hs⟩ : ∃ s, s = i + 8 := ⟨_, rfl⟩
          have hs17 : s < 17 := by omega
          have hsi : (i : Int) + 8 = (s : Int) := by omega
          have cz : wr.cell? ⟨w.heap.size + 3, s, none⟩ = some (.int .u64 ((us.getD s 0 : Nat) : Int)) := (hO.cell s).trans (u64l_get (by omega))
          have fz : wr.frozen? ⟨w.heap.size + 3, s, none⟩ = false := hO.frozen s
          have HST : Hid (numL 4294967296 (us.set s c) = numL 4294967296 (xa.take (i + 1)) * b) := by
            show _ = _
            have h1 := numL_set 4294967296 us s c (by omega)
            rw [hu0 s (by omega), Nat.zero_mul, Nat.add_zero, hs] at h1
            rw [hs, h1, hnum, List.take_of_length_le (l := xb) (by have := HLB.out.1; omega), HBN.out, numL_take _ xa i (by have := HLA.out.1; omega), ← HX.out, Nat.add_mul]
          have HUL : Hid ((us.set s c).length = 17) := (by show _ = _; rw [List.length_set, hul])
          have HUT := Lib.hid (set_mem_lt hut s hc)
          have HU0 : Hid (∀ k, i + 1 + 8 ≤ k → (us.set s c).getD k 0 = 0) := fun k hk => by rw [set_ge us s c k (by omega)]; exact hu0 k (by omega)
          have HAx := Lib.hid (hA.far (p := ⟨w.heap.size + 3, s, none⟩) (by show w.heap.size ≠ w.heap.size + 3; omega) (.int .u64 (c : Int)))
          have HBx := Lib.hid (hB.far (p := ⟨w.heap.size + 3, s, none⟩) (by show w.heap.size + 1 ≠ w.heap.size + 3; omega) (.int .u64 (c : Int)))
          have HZx := Lib.hid (hZ.far (p := ⟨w.heap.size + 3, s, none⟩) (by show w.heap.size + 2 ≠ w.heap.size + 3; omega) (.int .u64 (c : Int)))
          have HOx : Hid (Blk (wr.setCell ⟨w.heap.size + 3, s, none⟩ (.int .u64 (c : Int))) (w.heap.size + 3) 110 (u64l (us.set s c))) := (u64l_set us s c) ▸ hO.set_ s _
          have HEx := Lib.hid (hE.setCell (p := ⟨w.heap.size + 3, s, none⟩) (by show w.heap.size ≤ w.heap.size + 3; omega) (.int .u64 (c : Int)))
          clear hA hB hZ hO hE hgk hnum hul hut hu0 hs
          go_wp2
          go_roundg (8 - (i + 1))
          case measure => have := HGK.out; omega
          case rel => exact ⟨i + 1, us.set s c, rfl, by go_num, by omega, HUL.out, HUT.out, HU0.out, HST.out, HAx.out, HBx.out, HZx.out, HOx.out, HEx.out⟩
    · obtain rfl : i = 8 := by omega
      have hlt2 : ¬ ((8 : Nat) : Int) < 8 := by omega
      rw [List.take_of_length_le (by have := HLA.out.1; omega), HAN.out] at hnum
      have HFO := Lib.hid (fun W => folded_any zs W hzl hzt)
      rw [hnum] at HFO
      have hld := w17_ld hO hzl
      have HZx := Lib.hid hZ
      have HEx := Lib.hid hE
      clear hA hB hZ hO hE hgk hnum hzl hzt hz0
      go_wp2_with (first
        | (go_at_call 56; (with_reducible refine (HFO.out _).mono ?_); rintro e w5 ⟨rfl, hB⟩; have HZ5 := qbl HZx hB; have HE5 := qtr HEx hB; clear hB)
        | (refine wpList_store_all rfl 56 (.tmp 4) (.tmp 47) rfl (w.heap.size + 2) (n8 (a * b % pr)) (by rfl) (by rfl) 56 _ HZ5.out (by exact hdN8' _) (n8_one _) (by rw [n8_len]; rfl) ?_; intro w6 hb6 ho6; have HB6 := Lib.hid hb6; have HE6 := Lib.hid (ho6.below HE5.out (by omega) HE5.out.size); clear hb6 ho6))
      exact bodyPost_ret (res_cell rfl _ _ _ _ rfl HB6.out _ Tryz.underlying56 rfl (by exact hdN8' _)) rfl ⟨rfl, HE6.out⟩
end Go.Proofs.YtlbnibmcflmohaaGreat
namespace Go.Proofs.YtlbnibmcflmohaaGreat
open Go.RowKit
theorem bld38 (w : World) : (Instr.build 56 [(0, .int .u32 38)].toArray).run Tryz.prog w = .ok (.agg (n8 38).toArray) w := by kernel_rfl
theorem sub_below (a b : Nat) (_h : a % pr < b % pr) : (a % pr + 115792089237316195423570985008687907853269984665640564039457584007913129639936 - b % pr - 38) % pr = fsub a b := by
  rw [fsub, ← Nat.mod_add_mod]
  have h1 := pr_lt' a
  have h2 := pr_lt' b
  simp only [pr] at *
  omega
theorem sub_above (a b : Nat) (h : b % pr ≤ a % pr) : (a % pr - b % pr) % pr = fsub a b := by
  rw [fsub, ← Nat.mod_add_mod]
  have h1 := pr_lt' a
  have h2 := pr_lt' b
  simp only [pr] at *
  omega
attribute [local go_sem ↓] ldq_n8
set_option maxRecDepth 100000 in
set_option maxHeartbeats 1000000 in
theorem rsub_n (a b : Nat) (w : World) (ha : a < 115792089237316195423570985008687907853269984665640564039457584007913129639936) (hb : b < 115792089237316195423570985008687907853269984665640564039457584007913129639936) :
    Calls Tryz.prog 31 #[.agg (n8 a).toArray, .agg (n8 b).toArray] w fun e w' => e = .returned (.agg (n8 (fsub a b)).toArray) ∧ Below w.heap.size w w' := by
  have HB0 : Hid (Blk (((w.alloc (.cells (n8 a).toArray 56)).alloc (.cells (n8 b).toArray 56)).alloc (.cells o8.toArray 56)) w.heap.size 56 (n8 a) ∧ Blk (((w.alloc (.cells (n8 a).toArray 56)).alloc (.cells (n8 b).toArray 56)).alloc (.cells o8.toArray 56)) (w.heap.size + 1) 56 (n8 b) ∧ Blk (((w.alloc (.cells (n8 a).toArray 56)).alloc (.cells (n8 b).toArray 56)).alloc (.cells o8.toArray 56)) (w.heap.size + 2) 56 o8 ∧ Below w.heap.size w (((w.alloc (.cells (n8 a).toArray 56)).alloc (.cells (n8 b).toArray 56)).alloc (.cells o8.toArray 56))) :=
    ⟨((Blk.new w _ _).alloc _).alloc _, (Blk.new' (by simp) rfl).alloc _, Blk.new' (by simp) rfl, (((Below.refl _ w).alloc (Nat.le_refl _) _).alloc (by simp) _).alloc (by simp <;> omega) _⟩
  have ha' : a % pr < 115792089237316195423570985008687907853269984665640564039457584007913129639936 := pr_lt a
  have hb' : b % pr < 115792089237316195423570985008687907853269984665640564039457584007913129639936 := pr_lt b
  obtain ⟨D, hD⟩ : ∃ D, D = (if a % pr < b % pr then a % pr + 115792089237316195423570985008687907853269984665640564039457584007913129639936 - b % pr else a % pr - b % pr) := ⟨_, rfl⟩
  have HM : Hid (∀ W, Calls Tryz.prog 53 #[.agg (n8 (a % pr)).toArray, .agg (n8 (b % pr)).toArray] W fun e w' => e = .returned (.tuple #[.agg (n8 D).toArray, .bool (decide (a % pr < b % pr))]) ∧ Below W.heap.size W w') := fun W => hD ▸ minus_n (a % pr) (b % pr) W ha' hb'
  have HDD := Lib.hid hD
  have HNA := Lib.hid (fun W => rnorm_n a ha W)
  have HNB := Lib.hid (fun W => rnorm_n b hb W)
  clear hD ha hb ha' hb'
  go_enter Tryz.func31, Tryz.ntmps31
  go_wp2
  obtain ⟨W1, hW1⟩ : ∃ W1, W1 = ((w.alloc (.cells (n8 a).toArray 56)).alloc (.cells (n8 b).toArray 56)).alloc (.cells o8.toArray 56) := ⟨_, rfl⟩
  rw [← hW1] at HB0
  refine region_K (by kernel_rfl) 9 (fun w' => Below W1.heap.size W1 w') ?_
  have HR0 : Hid (Below W1.heap.size W1 { (((w.alloc (.cells (n8 a).toArray 56)).alloc (.cells (n8 b).toArray 56)).alloc (.cells o8.toArray 56)) with drawn := (((w.alloc (.cells (n8 a).toArray 56)).alloc (.cells (n8 b).toArray 56)).alloc (.cells o8.toArray 56)).drawn + 1 }) := hW1 ▸ (Below.refl _ W1).drew
  refine AnyK.load 0 (v := .agg (n8 a).toArray) rfl (by kernel_rfl) (by kernel_rfl) (by kernel_rfl) (fun _ _ _ h => h) rfl (fun w' hw' => ey_loadR (x := .tmp 2) (by rfl) (by kernel_rfl) (n8_run (HB0.out.1.below hw' HB0.out.1.lt))) HR0.out ?_
  refine AnyK.load 2 (v := .agg (n8 b).toArray) rfl (by kernel_rfl) (by kernel_rfl) (by kernel_rfl) (fun _ _ _ h => h) rfl (fun w' hw' => ey_loadR (x := .tmp 3) (by rfl) (by kernel_rfl) (n8_run (HB0.out.2.1.below hw' HB0.out.2.1.lt))) HR0.out ?_
  refine AnyG.start W1.heap.size [⟨8, 5, 56, o8, fun g => .pointer (some ⟨g, 0, none⟩)⟩] (fun W => Below W1.heap.size W1 W) 8 rfl HR0.out ?_
  have HFL : Hid (∀ (W : World) (b : Act) (o : Oper), o.op = .alloc 56 → (execOp b.eval o).run Tryz.prog W = .ok (.value (.pointer (some ⟨W.heap.size, 0, none⟩))) (W.alloc (.cells o8.toArray 56))) := fun W b o ho => by
    unfold execOp
    rw [ho]
    kernel_rfl
  refine AnyG.step 1 (di := 9) [] (fun _ : Unit => .agg (n8 (a % pr)).toArray) (fun _ W => Below W1.heap.size W1 W) (by rfl) rfl (by simp) (by simp) (by kernel_rfl) ?_ ?_ (fun W o h => h.alloc h.size o) (fun W h => h.size) (fun W h => h) (fun _ W h => h) ?_
  · intro F W hF hR hok hrd K hK
    obtain ⟨s1, rfl⟩ := flt_of hF
    rcases s1 with _ | k1 <;>
      (refine wp_enter (f := 27) (args := #[.agg (n8 a).toArray]) (by kernel_rfl) ?_; refine (HNA.out W).mono ?_; rintro e w' ⟨rfl, hB⟩; exact ⟨_, rfl, hK () _ (hR.trans (hB.mono hR.size)) hB⟩)
  · intro f hf
    simp only [List.mem_cons, List.not_mem_nil, or_false] at hf
    subst hf
    exact ⟨_, rfl, rfl, rfl, fun F W _ => HFL.out _ _ _ rfl⟩
  intro _
  refine AnyG.step 3 (di := 11) [] (fun _ : Unit => .agg (n8 (b % pr)).toArray) (fun _ W => Below W1.heap.size W1 W) (by rfl) rfl (by simp) (by simp) (by kernel_rfl) ?_ ?_ (fun W o h => h.alloc h.size o) (fun W h => h.size) (fun W h => h) (fun _ W h => h) ?_
  · intro F W hF hR hok hrd K hK
    obtain ⟨s1, rfl⟩ := flt_of hF
    rcases s1 with _ | k1 <;>
      (refine wp_enter (f := 27) (args := #[.agg (n8 b).toArray]) (by kernel_rfl) ?_; refine (HNB.out W).mono ?_; rintro e w' ⟨rfl, hB⟩; exact ⟨_, rfl, hK () _ (hR.trans (hB.mono hR.size)) hB⟩)
  · intro f hf
    simp only [List.mem_cons, List.not_mem_nil, or_false] at hf
    subst hf
    exact ⟨_, rfl, rfl, rfl, fun F W _ => HFL.out _ _ _ rfl⟩
  intro _
  refine AnyG.step 4 (di := 12) [] (fun _ : Unit => .tuple #[.agg (n8 D).toArray, .bool (decide (a % pr < b % pr))]) (fun _ W => Below W1.heap.size W1 W) (by rfl) rfl (by simp) (by simp) (by kernel_rfl) ?_ ?_ (fun W o h => h.alloc h.size o) (fun W h => h.size) (fun W h => h) (fun _ W h => h) ?_
  · intro F W hF hR hok hrd K hK
    obtain ⟨s1, rfl⟩ := flt_of hF
    rcases s1 with _ | k1 <;>
      (refine wp_enter (f := 53) (args := #[.agg (n8 (a % pr)).toArray, .agg (n8 (b % pr)).toArray]) (by kernel_rfl) ?_; refine (HM.out W).mono ?_; rintro e w' ⟨rfl, hB⟩; exact ⟨_, rfl, hK () _ (hR.trans (hB.mono hR.size)) hB⟩)
  · intro f hf
    simp only [List.mem_cons, List.not_mem_nil, or_false] at hf
    subst hf
    exact ⟨_, rfl, rfl, rfl, fun F W _ => HFL.out _ _ _ rfl⟩
  intro _
  refine AnyG.pure 5 (di := 7) (v := .tuple #[.agg (n8 D).toArray, .bool (decide (a % pr < b % pr))]) rfl rfl rfl (by simp) (by kernel_rfl) (fun _ _ _ h => h) (fun F W hF => by obtain ⟨s1, rfl⟩ := flt_of hF; rcases s1 with _ | k1 <;> kernel_rfl) (fun W h => h) ?_
  refine AnyG.pure 6 (di := 13) (v := .agg (n8 D).toArray) rfl rfl rfl (by simp) (by kernel_rfl) (fun _ _ _ h => h) (fun F W hF => by obtain ⟨s1, rfl⟩ := flt_of hF; rcases s1 with _ | k1 <;> kernel_rfl) (fun W h => h) ?_
  refine AnyG.pure 7 (di := 14) (v := .bool (decide (a % pr < b % pr))) rfl rfl rfl (by simp) (by kernel_rfl) (fun _ _ _ h => h) (fun F W hF => by obtain ⟨s1, rfl⟩ := flt_of hF; rcases s1 with _ | k1 <;> kernel_rfl) (fun W h => h) ?_
  refine AnyG.fin (by simp) (by kernel_rfl) ?_ (fun W o h => h.alloc h.size o) (fun W h => h.size) (fun W h => h) ?_
  · intro f hf
    simp only [List.mem_cons, List.not_mem_nil, or_false] at hf
    subst hf
    exact ⟨_, rfl, rfl, rfl, fun F W _ => HFL.out _ _ _ rfl⟩
  intro F W hF h0 hR hok
  obtain ⟨gl, rfl⟩ := flt_all hF h0
  obtain ⟨⟨hga, hba, _⟩, _⟩ := hok
  refine AnyK.storeAll 9 gl (n8 D) 56 o8 (by rfl) rfl rfl (by rfl) (by kernel_rfl) (by kernel_rfl) (by kernel_rfl) hba (by exact hdN8' _) (n8_one _) (by rw [n8_len]; rfl) (fun _ _ _ h => (by cases h)) ?_
  intro w5 hb5 ho5
  have hB5 := ho5.below hR hga hR.size
  refine AnyK.val 10 (v := .bool (decide (a % pr < b % pr))) (by rfl) (by kernel_rfl) rfl (by kernel_rfl) (fun h => (by cases h)) ?_
  refine AnyK.done (by kernel_rfl) ?_
  have HD5 := Lib.hid hb5
  have HZ5 := Lib.hid (HB0.out.2.2.1.below hB5 HB0.out.2.2.1.lt)
  have HE5 := Lib.hid (HB0.out.2.2.2.trans (hB5.mono HB0.out.2.2.2.size))
  have HG : Hid (w.heap.size + 2 ≠ gl ∧ w.heap.size ≤ gl) := (by have := HB0.out.2.2.1.lt; show _ ∧ _; omega)
  clear hb5 ho5 hB5 hR hga hba hF h0 HFL HR0 HB0 hW1 HM HNA HNB
  simp only [putF]
  have hl5 := n8_run HD5.out
  rcases Nat.lt_or_ge (a % pr) (b % pr) with hc | hc
  · have hd1 : decide (a % pr < b % pr) = true := decide_eq_true hc
    have HDX : Hid (D = a % pr + 115792089237316195423570985008687907853269984665640564039457584007913129639936 - b % pr) := (by show _ = _; rw [HDD.out, if_pos hc])
    have hDl : D < 115792089237316195423570985008687907853269984665640564039457584007913129639936 ∧ ¬ D < 38 := by
      have h1 := pr_lt' a
      have h2 := pr_lt' b
      rw [HDX.out]
      simp only [pr] at *
      omega
    have HM2 : Hid (∀ W, Calls Tryz.prog 53 #[.agg (n8 D).toArray, .agg (n8 38).toArray] W fun e w' => e = .returned (.tuple #[.agg (n8 (D - 38)).toArray, .bool false]) ∧ Below W.heap.size W w') := fun W => by
      have h := minus_n D 38 W hDl.1 (by omega)
      rw [if_neg hDl.2, decide_eq_false hDl.2] at h
      exact h
    have HNO := Lib.hid (fun W => rnorm_n (D - 38) (by omega) W)
    have HF : Hid ((D - 38) % pr = fsub a b) := (by show _ = _; rw [HDX.out]; exact sub_below a b hc)
    rw [HF.out] at HNO
    clear hc hDl
    go_wp2_with (first
      | (refine wpList_build rfl 56 [(0, .const (.int .u32 38))] rfl _ (by rfl) _ (bld38 _) ?_)
      | (go_at_call 53; (with_reducible refine (HM2.out _).mono ?_); rintro e w6 ⟨rfl, hB⟩; have HD6 := qbl HD5 hB; have HZ6 := qbl HZ5 hB; have HE6 := qtr HE5 hB; clear hB)
      | (refine wpList_store_all rfl 56 (.tmp 5) (.tmp 20) rfl gl (n8 (D - 38)) (by rfl) (by rfl) 56 _ HD6.out (by exact hdN8' _) (n8_one _) (by rw [n8_len, n8_len]) ?_; intro w7 hb7 ho7; have HZ7 := Lib.hid (ho7.blk HZ6.out HG.out.1); have HE7 := Lib.hid (ho7.below HE6.out HG.out.2 HE6.out.size); have hl7 := n8_run hb7; clear hb7 ho7)
      | (go_at_call 27; (with_reducible refine (HNO.out _).mono ?_); rintro e w8 ⟨rfl, hB⟩; have HZ8 := qbl HZ7 hB; have HE8 := qtr HE7 hB; clear hB)
      | (refine wpList_store_all rfl 56 (.tmp 4) (.tmp 23) rfl (w.heap.size + 2) (n8 (fsub a b)) (by rfl) (by rfl) 56 _ HZ8.out (by exact hdN8' _) (n8_one _) (by rw [n8_len]; rfl) ?_; intro w9 hb9 ho9; have HB9 := Lib.hid hb9; have HE9 := Lib.hid (ho9.below HE8.out (by omega) HE8.out.size); clear hb9 ho9))
    exact bodyPost_ret (res_cell rfl _ _ _ _ rfl HB9.out _ Tryz.underlying56 rfl (by exact hdN8' _)) rfl ⟨rfl, HE9.out⟩
  · have hd1 : decide (a % pr < b % pr) = false := decide_eq_false (by omega)
    have HDX : Hid (D = a % pr - b % pr) := (by show _ = _; rw [HDD.out, if_neg (by omega)])
    have hDl : D < 115792089237316195423570985008687907853269984665640564039457584007913129639936 := by
      have h1 := pr_lt a
      rw [HDX.out]
      omega
    have HNO := Lib.hid (fun W => rnorm_n D hDl W)
    have HF : Hid (D % pr = fsub a b) := (by show _ = _; rw [HDX.out]; exact sub_above a b hc)
    rw [HF.out] at HNO
    clear hc hDl
    go_wp2_with (first
      | (go_at_call 27; (with_reducible refine (HNO.out _).mono ?_); rintro e w8 ⟨rfl, hB⟩; have HZ8 := qbl HZ5 hB; have HE8 := qtr HE5 hB; clear hB)
      | (refine wpList_store_all rfl 56 (.tmp 4) (.tmp 23) rfl (w.heap.size + 2) (n8 (fsub a b)) (by rfl) (by rfl) 56 _ HZ8.out (by exact hdN8' _) (n8_one _) (by rw [n8_len]; rfl) ?_; intro w9 hb9 ho9; have HB9 := Lib.hid hb9; have HE9 := Lib.hid (ho9.below HE8.out (by omega) HE8.out.size); clear hb9 ho9))
    exact bodyPost_ret (res_cell rfl _ _ _ _ rfl HB9.out _ Tryz.underlying56 rfl (by exact hdN8' _)) rfl ⟨rfl, HE9.out⟩
end Go.Proofs.YtlbnibmcflmohaaGreat
namespace Go.Proofs.YtlbnibmcflmohaaGreat
open Go.RowKit
theorem bld1 (w : World) : (Instr.build 56 [(0, .int .u32 1)].toArray).run Tryz.prog w = .ok (.agg (n8 1).toArray) w := by kernel_rfl
theorem pow_bit (E i : Nat) : E % 2 ^ (i + 1) = E % 2 ^ i + 2 ^ i * (E / 2 ^ i % 2) := by
  rw [Nat.pow_succ, Nat.mod_mul]
theorem pow_one (a E i : Nat) (h : E / 2 ^ i % 2 = 1) (o s : Nat) (ho : o % pr = a ^ (E % 2 ^ i) % pr) (hs : s % pr = a ^ 2 ^ i % pr) : o * s % pr = a ^ (E % 2 ^ (i + 1)) % pr := by
  rw [pow_bit, h, Nat.mul_one, Nat.pow_add, Nat.mul_mod, ho, hs, ← Nat.mul_mod]
theorem pow_nul (a E i : Nat) (h : E / 2 ^ i % 2 = 0) (o : Nat) (ho : o % pr = a ^ (E % 2 ^ i) % pr) : o % pr = a ^ (E % 2 ^ (i + 1)) % pr := by
  rw [pow_bit, h, Nat.mul_zero, Nat.add_zero, ho]
theorem pow_sqr (a i s : Nat) (hs : s % pr = a ^ 2 ^ i % pr) : s * s % pr = a ^ 2 ^ (i + 1) % pr := by
  rw [Nat.mul_mod, hs, ← Nat.mul_mod, ← Nat.pow_add, Nat.pow_succ, Nat.mul_two]
attribute [local go_sem ↓] ldq_n8
set_option maxRecDepth 100000 in
set_option maxHeartbeats 2000000 in
theorem rpow_n (a : Nat) (A : Option Addr) (c : Nat) (es : List UInt8) (w : World) (ha : a < 115792089237316195423570985008687907853269984665640564039457584007913129639936) (h : Rd w A 32 (u8s es)) :
    Calls Tryz.prog 57 #[.agg (n8 a).toArray, .slice A 32 c] w fun e w' => e = .returned (.agg (n8 (a ^ leN es % pr)).toArray) ∧ Below w.heap.size w w' := by
  have HR := Lib.hid h
  have HL := Lib.hid h.len
  have HEL : Hid (leN es < 2 ^ 256) := (by have h1 := leN_lt es; rw [h.len] at h1; exact h1)
  obtain ⟨E, hE⟩ : ∃ E, E = leN es := ⟨_, rfl⟩
  have HKB : Hid (∀ t, (kbit es t).toNat = E / 2 ^ t % 2) := fun t => hE ▸ kbit_eq es t
  rw [← hE] at HEL ⊢
  clear hE h
  have HB0 : Hid (Blk ((w.alloc (.cells (n8 a).toArray 56)).alloc (.cells o8.toArray 56)) w.heap.size 56 (n8 a) ∧ Blk ((w.alloc (.cells (n8 a).toArray 56)).alloc (.cells o8.toArray 56)) (w.heap.size + 1) 56 o8 ∧ Below w.heap.size w ((w.alloc (.cells (n8 a).toArray 56)).alloc (.cells o8.toArray 56))) :=
    ⟨(Blk.new w _ _).alloc _, Blk.new' (by simp) rfl, ((Below.refl _ w).alloc (Nat.le_refl _) _).alloc (by simp) _⟩
  have HA : Hid (a < 115792089237316195423570985008687907853269984665640564039457584007913129639936) := ha
  clear ha
  go_enter Tryz.func57, Tryz.ntmps57
  go_upto_region 2 with (first
    | (refine wpList_build rfl 56 [(0, .const (.int .u32 1))] rfl _ (by rfl) _ (bld1 _) ?_)
    | (refine wpList_store_all rfl 56 (.tmp 5) (.tmp 8) rfl (w.heap.size + 2) (n8 1) (by rfl) (by rfl) 56 o8 (by exact Blk.new' (by simp) rfl) (by exact hdN8' _) (n8_one _) (by rw [n8_len]; rfl) ?_; intro w1 hb1 ho1))
  have HA1 := Lib.hid (ho1.blk (HB0.out.1.alloc _) (by omega))
  have HZ1 := Lib.hid (ho1.blk (HB0.out.2.1.alloc _) (by omega))
  have HE1 := Lib.hid (ho1.below (HB0.out.2.2.alloc HB0.out.2.2.size _) (by omega) (by have := HB0.out.2.2.size; simp <;> omega))
  have HO1 := Lib.hid hb1
  have hl1 : ∀ o, (ldAt 56 (.pointer (some ⟨w.heap.size, 0, none⟩))).run Tryz.prog (w1.alloc o) = .ok (.agg (n8 a).toArray) (w1.alloc o) := fun o => n8_run (HA1.out.alloc o)
  have hl1' := n8_run HA1.out
  have HG : Hid (w.heap.size + 2 < w1.heap.size) := HO1.out.lt
  clear hb1 ho1 HB0
  go_upto_region 3 with (refine wpList_store_all rfl 56 (.tmp 6) (.tmp 9) rfl w1.heap.size (n8 a) (by rfl) (by rfl) 56 o8 (by exact Blk.new' rfl rfl) (by exact hdN8' _) (n8_one _) (by rw [n8_len]; rfl) ?_; intro w2 hb2 ho2)
  have hg := HG.out
  have HZ2 := Lib.hid (ho2.blk (HZ1.out.alloc _) (by omega))
  have HO2 := Lib.hid (ho2.blk (HO1.out.alloc _) (by omega))
  have HS2 := Lib.hid hb2
  have HE2 := Lib.hid (ho2.below (HE1.out.alloc HE1.out.size _) HE1.out.size (by simp; omega))
  clear hb2 ho2 hl1 hl1' HA1 HZ1 HE1 HO1 hg
  go_wp2
  go_loopg [7] 256 (fun kk q wr => ∃ (i o s : Nat), kk = 256 - i ∧ q = .int .i64 (i : Int) ∧ i ≤ 256 ∧ o < 115792089237316195423570985008687907853269984665640564039457584007913129639936 ∧ s < 115792089237316195423570985008687907853269984665640564039457584007913129639936 ∧ o % pr = a ^ (E % 2 ^ i) % pr ∧ s % pr = a ^ 2 ^ i % pr ∧ Blk wr (w.heap.size + 1) 56 o8 ∧ Blk wr (w.heap.size + 2) 56 (n8 o) ∧ Blk wr w1.heap.size 56 (n8 s) ∧ Below w.heap.size w wr)
  case atStart => exact ⟨0, 1, a, rfl, rfl, by omega, by omega, HA.out, by rw [Nat.pow_zero, Nat.mod_one, Nat.pow_zero], by rw [Nat.pow_zero, Nat.pow_one], HZ2.out, HO2.out, HS2.out, HE2.out⟩
  case round =>
    clear HZ2 HO2 HS2 HE2
    obtain ⟨i, o, s, hgk, rfl, hi, ho, hs, hom, hsm, hZ, hO, hS, hE⟩ := hrel
    rcases Nat.lt_or_ge i 256 with hlt | hge
    · have hlt2 : (i : Int) < 256 := by omega
      obtain ⟨q, hq⟩ : ∃ q, q = i / 8 := ⟨_, rfl⟩
      obtain ⟨r, hr⟩ : ∃ r, r = i % 8 := ⟨_, rfl⟩
      obtain ⟨b, off, x, rfl, hbw, hux, hcw⟩ := HR.out.u8 (k := q) (by omega)
      obtain ⟨X, hX⟩ : ∃ X, X = x.toNat := ⟨_, rfl⟩
      have hcx : wr.cell? ⟨b, off + q, none⟩ = some (.int .u8 (X : Int)) := (hE.cell hbw).trans (hX ▸ hcw)
      have hX8 : X < 256 := by rw [hX]; exact x.toNat_lt
      have hqi : (i : Int) / 8 = (q : Int) := by omega
      have hri : (i : Int) % 8 = (r : Int) := by omega
      have hq32 : (q : Int) < 32 := by omega
      have hr8 : (r : Int) < 8 := by omega
      have hr0 : (0 : Int) ≤ (r : Int) := by omega
      obtain ⟨y, hyd⟩ : ∃ y, y = X / 2 ^ r := ⟨_, rfl⟩
      have hy : (X : Int) / 2 ^ r = (y : Int) := by rw [hyd]; push_cast; rfl
      have hy8 : y < 256 := by rw [hyd]; exact Nat.lt_of_le_of_lt (Nat.div_le_self _ _) hX8
      have HBIT : Hid (E / 2 ^ i % 2 = y % 2) := by
        show _ = _
        rw [← HKB.out i, kbit, ← hq, ← hr, List.getD_eq_getElem?_getD, hux]
        show (x.toNat / 2 ^ r % 2 == 1).toNat = _
        rw [← hX, ← hyd]
        rcases Nat.mod_two_eq_zero_or_one y with h3 | h3 <;> rw [h3] <;> rfl
      have HSQ := Lib.hid (fun W => rmul_n s s W hs hs)
      have HOS := Lib.hid (fun W => rmul_n o s W ho hs)
      have HNS := Lib.hid (pow_sqr a i s hsm)
      have HOM := Lib.hid hom
      have HSM := Lib.hid hsm
      have HOL := Lib.hid ho
      have HGK := Lib.hid hgk
      have hlS := n8_run hS
      have hlO := n8_run hO
      have HZ := Lib.hid hZ
      have HO := Lib.hid hO
      have HS := Lib.hid hS
      have HE := Lib.hid hE
      have hg := HG.out
      have HXE : Hid (w.heap.size ≤ w1.heap.size) := (by show _ ≤ _; omega)
      clear hZ hO hS hE hgk hom hsm ho hs hyd hq hr hX hcw hux hbw hg
      rcases Nat.mod_two_eq_zero_or_one y with h01 | h01
      · have hyi : (y : Int) % 2 = 0 := by omega
        rw [h01] at HBIT
        have HN := Lib.hid (pow_nul a E i HBIT.out o HOM.out)
        clear h01 hlO
        go_wp2_with (first
          | (go_at_call 32; (with_reducible refine (HSQ.out _).mono ?_); rintro e w3 ⟨rfl, hB⟩; have HZ3 := qbl HZ hB; have HO3 := qbl HO hB; have HS3 := qbl HS hB; have HE3 := qtr HE hB; clear hB)
          | (refine wpList_store_all rfl 56 (.tmp 6) (.tmp 32) rfl w1.heap.size (n8 (s * s % pr)) (by rfl) (by rfl) 56 _ HS3.out (by exact hdN8' _) (n8_one _) (by rw [n8_len, n8_len]) ?_; intro w4 hb4 ho4; have HS4 := Lib.hid hb4; have HZ4 := Lib.hid (ho4.blk HZ3.out (by have := HG.out; omega)); have HO4 := Lib.hid (ho4.blk HO3.out (by have := HG.out; omega)); have HE4 := Lib.hid (ho4.below HE3.out HXE.out HE3.out.size); clear hb4 ho4))
        go_roundg (256 - (i + 1))
        case measure => have := HGK.out; omega
        case rel => exact ⟨i + 1, o, s * s % pr, rfl, by go_num, by omega, HOL.out, pr_lt _, HN.out, by rw [Nat.mod_mod]; exact HNS.out, HZ4.out, HO4.out, HS4.out, HE4.out⟩
      · have hyi : (y : Int) % 2 = 1 := by omega
        rw [h01] at HBIT
        have HN := Lib.hid (pow_one a E i HBIT.out o s HOM.out HSM.out)
        clear h01
        go_wp2_with (first
          | (go_at_call 32; (with_reducible refine (HSQ.out _).mono ?_); rintro e w5 ⟨rfl, hB⟩; have HZ5 := qbl HZ4 hB; have HO5 := qbl HO4 hB; have HS5 := qbl HS4 hB; have HE5 := qtr HE4 hB; clear hB)
          | (refine wpList_store_all rfl 56 (.tmp 6) (.tmp 32) rfl w1.heap.size (n8 (s * s % pr)) (by rfl) (by rfl) 56 _ HS5.out (by exact hdN8' _) (n8_one _) (by rw [n8_len, n8_len]) ?_; intro w6 hb4 ho4; have HS6 := Lib.hid hb4; have HZ6 := Lib.hid (ho4.blk HZ5.out (by have := HG.out; omega)); have HO6 := Lib.hid (ho4.blk HO5.out (by have := HG.out; omega)); have HE6 := Lib.hid (ho4.below HE5.out HXE.out HE5.out.size); clear hb4 ho4)
          | (go_at_call 32; (with_reducible refine (HOS.out _).mono ?_); rintro e w3 ⟨rfl, hB⟩; have HZ3 := qbl HZ hB; have HO3 := qbl HO hB; have HS3 := qbl HS hB; have HE3 := qtr HE hB; clear hB)
          | (refine wpList_store_all rfl 56 (.tmp 5) (.tmp 29) rfl (w.heap.size + 2) (n8 (o * s % pr)) (by rfl) (by rfl) 56 _ HO3.out (by exact hdN8' _) (n8_one _) (by rw [n8_len, n8_len]) ?_; intro w4 hb4 ho4; have HO4 := Lib.hid hb4; have HZ4 := Lib.hid (ho4.blk HZ3.out (by omega)); have HS4 := Lib.hid (ho4.blk HS3.out (by have := HG.out; omega)); have HE4 := Lib.hid (ho4.below HE3.out (by omega) HE3.out.size); have hlS4 := n8_run HS4.out; clear hb4 ho4))
        go_roundg (256 - (i + 1))
        case measure => have := HGK.out; omega
        case rel => exact ⟨i + 1, o * s % pr, s * s % pr, rfl, by go_num, by omega, pr_lt _, pr_lt _, by rw [Nat.mod_mod]; exact HN.out, by rw [Nat.mod_mod]; exact HNS.out, HZ6.out, HO6.out, HS6.out, HE6.out⟩
    · obtain rfl : i = 256 := by omega
      have hlt2 : ¬ ((256 : Nat) : Int) < 256 := by omega
      rw [Nat.mod_eq_of_lt HEL.out] at hom
      have HNO := Lib.hid (fun W => rnorm_n o ho W)
      rw [hom] at HNO
      have hlO := n8_run hO
      have HZ := Lib.hid hZ
      have HE := Lib.hid hE
      clear hZ hO hS hE hgk hom hsm ho hs
      go_wp2_with (first
        | (go_at_call 27; (with_reducible refine (HNO.out _).mono ?_); rintro e w3 ⟨rfl, hB⟩; have HZ3 := qbl HZ hB; have HE3 := qtr HE hB; clear hB)
        | (refine wpList_store_all rfl 56 (.tmp 4) (.tmp 34) rfl (w.heap.size + 1) (n8 (a ^ E % pr)) (by rfl) (by rfl) 56 _ HZ3.out (by exact hdN8' _) (n8_one _) (by rw [n8_len]; rfl) ?_; intro w4 hb4 ho4; have HB4 := Lib.hid hb4; have HE4 := Lib.hid (ho4.below HE3.out (by omega) HE3.out.size); clear hb4 ho4))
      exact bodyPost_ret (res_cell rfl _ _ _ _ rfl HB4.out _ Tryz.underlying56 rfl (by exact hdN8' _)) rfl ⟨rfl, HE4.out⟩
end Go.Proofs.YtlbnibmcflmohaaGreat
