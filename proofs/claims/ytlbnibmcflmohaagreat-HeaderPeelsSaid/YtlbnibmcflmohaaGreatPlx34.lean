/- Part of the proof: R51, Rgh, R52, R53. -/
import Derived.Test.YtlbnibmcflmohaaGreatPlx32
namespace Go.Proofs.YtlbnibmcflmohaaGreat
open Go.RowKit
theorem minus_st (t o o' ds xa xb P x y v : Nat) (h : ds + xb = xa + o * P) (hx : t = y + o) (hv : v + t = x + o' * 4294967296) : ds + v * P + (xb + y * P) = xa + x * P + o' * (P * 4294967296) := by
  subst hx
  have h1 : v * P + (y + o) * P = x * P + o' * 4294967296 * P := by rw [← Nat.add_mul, hv, Nat.add_mul]
  grind
attribute [local go_sem ↓] ldq_n8
set_option maxRecDepth 100000 in
set_option maxHeartbeats 1000000 in
theorem minus_any (xa xb : List Nat) (w : World) (hA : xa.length = 8) (hB : xb.length = 8) (lA : ∀ x ∈ xa, x < 4294967296) (lB : ∀ x ∈ xb, x < 4294967296) :
    Calls Tryz.prog 53 #[.agg (u32d xa).toArray, .agg (u32d xb).toArray] w fun e w' => ∃ (os : List Nat) (o : Nat), e = .returned (.tuple #[.agg (u32d os).toArray, .bool ((o : Int) == 1)]) ∧ os.length = 8 ∧ (∀ x ∈ os, x < 4294967296) ∧ o ≤ 1 ∧ numL 4294967296 os + numL 4294967296 xb = numL 4294967296 xa + o * 4294967296 ^ 8 ∧ Below w.heap.size w w' := by
  obtain ⟨W1, hW1⟩ : ∃ W1, W1 = (((w.alloc (.cells (u32d xa).toArray 56)).alloc (.cells (u32d xb).toArray 56)).alloc (.cells o8.toArray 56)).alloc (.cells o8.toArray 56) := ⟨_, rfl⟩
  have HM0 : Hid (Blk W1 w.heap.size 56 (u32d xa) ∧ Blk W1 (w.heap.size + 1) 56 (u32d xb) ∧ Blk W1 (w.heap.size + 2) 56 o8 ∧ Blk W1 (w.heap.size + 3) 56 o8 ∧ Below w.heap.size w W1) :=
    hW1 ▸ ⟨(((Blk.new w _ _).alloc _).alloc _).alloc _, ((Blk.new' (by simp) rfl).alloc _).alloc _, (Blk.new' (by simp) rfl).alloc _, Blk.new' (by simp) rfl, ((((Below.refl _ w).alloc (Nat.le_refl _) _).alloc (by simp) _).alloc (by simp <;> omega) _).alloc (by simp <;> omega) _⟩
  go_enter Tryz.func53, Tryz.ntmps53
  go_wp2
  go_loopg [7, 8] 8 (fun kk oq q wr => ∃ (i o : Nat) (ds : List Nat), kk = 8 - i ∧ oq = .int .u64 (o : Int) ∧ q = .int .i64 (i : Int) ∧ i ≤ 8 ∧ o ≤ 1 ∧ ds.length = i ∧ (∀ x ∈ ds, x < 4294967296) ∧ numL 4294967296 ds + numL 4294967296 (xb.take i) = numL 4294967296 (xa.take i) + o * 4294967296 ^ i ∧ Blk wr w.heap.size 56 (u32d xa) ∧ Blk wr (w.heap.size + 1) 56 (u32d xb) ∧ Blk wr (w.heap.size + 2) 56 o8 ∧ Blk wr (w.heap.size + 3) 56 (u32d (ds ++ List.replicate (8 - i) 0)) ∧ Below w.heap.size w wr)
  case atStart => exact ⟨0, 0, [], rfl, rfl, rfl, by omega, by omega, rfl, by simp, by simp [numL], hW1 ▸ HM0.out⟩
  case round =>
    clear HM0 hW1
    obtain ⟨i, o, ds, hgk, rfl, rfl, hi, ho, hds, hdl, hnum, hbA, hbB, hbZ, hbO, hE⟩ := hrel
    rcases Nat.lt_or_ge i 8 with hlt | hge
    · have hlt2 : (i : Int) < 8 := by omega
      obtain ⟨x, hx⟩ : ∃ x, x = xa.getD i 0 := ⟨_, rfl⟩
      obtain ⟨y, hy⟩ : ∃ y, y = xb.getD i 0 := ⟨_, rfl⟩
      have hx32 : x < 4294967296 := by rw [hx]; exact getD_mem_lt (by omega) lA i
      have hy32 : y < 4294967296 := by rw [hy]; exact getD_mem_lt (by omega) lB i
      have cx : wr.cell? ⟨w.heap.size, i, none⟩ = some (.int .u32 (x : Int)) := (hbA.cell i).trans (hx ▸ u32d_get (by omega))
      have cy : wr.cell? ⟨w.heap.size + 1, i, none⟩ = some (.int .u32 (y : Int)) := (hbB.cell i).trans (hy ▸ u32d_get (by omega))
      have cz : wr.cell? ⟨w.heap.size + 3, i, none⟩ = some (.int .u32 (((ds ++ List.replicate (8 - i) 0).getD i 0 : Nat) : Int)) := (hbO.cell i).trans (u32d_get (by simp; omega))
      have fz : wr.frozen? ⟨w.heap.size + 3, i, none⟩ = false := hbO.frozen i
      obtain ⟨t, ht⟩ : ∃ t, t = y + o := ⟨_, rfl⟩
      have hti : (y : Int) + (o : Int) = (t : Int) := by omega
      have ht64 : (t : Int) < 4294967297 := by omega
      obtain ⟨o', v, ho', hv32, hv⟩ : ∃ o' v : Nat, o' ≤ 1 ∧ v < 4294967296 ∧ v + t = x + o' * 4294967296 ∧ (o' = 1 ↔ x < t) := by
        rcases Nat.lt_or_ge x t with h1 | h1
        · exact ⟨1, x + 4294967296 - t, by omega, by omega, by omega, by omega⟩
        · exact ⟨0, x - t, by omega, by omega, by omega, by omega⟩
      have HST : Hid (numL 4294967296 (ds ++ [v]) + numL 4294967296 (xb.take (i + 1)) = numL 4294967296 (xa.take (i + 1)) + o' * 4294967296 ^ (i + 1)) := by
        show _ = _
        rw [numL_snoc, numL_take _ xb i (by omega), numL_take _ xa i (by omega), hds, ← hx, ← hy, Nat.pow_succ]
        exact minus_st t o o' _ _ _ _ x y v hnum ht hv.1
      have HDL := Lib.hid (snoc_lt hdl hv32)
      have HDS : Hid ((ds ++ [v]).length = i + 1) := by show _ = _; simp [hds]
      have HO' := Lib.hid ho'
      have HGK := Lib.hid hgk
      have HA := Lib.hid (hbA.far (p := ⟨w.heap.size + 3, i, none⟩) (by show w.heap.size ≠ w.heap.size + 3; omega) (.int .u32 (v : Int)))
      have HB := Lib.hid (hbB.far (p := ⟨w.heap.size + 3, i, none⟩) (by show w.heap.size + 1 ≠ w.heap.size + 3; omega) (.int .u32 (v : Int)))
      have HZ := Lib.hid (hbZ.far (p := ⟨w.heap.size + 3, i, none⟩) (by show w.heap.size + 2 ≠ w.heap.size + 3; omega) (.int .u32 (v : Int)))
      have HO : Hid (Blk (wr.setCell ⟨w.heap.size + 3, i, none⟩ (.int .u32 (v : Int))) (w.heap.size + 3) 56 (u32d ((ds ++ [v]) ++ List.replicate (8 - (i + 1)) 0))) := by
        have h1 := hbO.set_ i (.int .u32 (v : Int))
        rw [u32d_set, pad_set ds i 8 v hds hlt] at h1
        exact h1
      have HE := Lib.hid (hE.setCell (p := ⟨w.heap.size + 3, i, none⟩) (by show w.heap.size ≤ w.heap.size + 3; omega) (.int .u32 (v : Int)))
      clear hbA hbB hbZ hbO hE hgk hnum hx hy ht hds hdl
      rcases Nat.lt_or_ge x t with hc | hc
      · obtain rfl : o' = 1 := hv.2.2 hc
        have hci : (x : Int) < (t : Int) := by omega
        have hvi : (x : Int) + 4294967296 - (t : Int) = (v : Int) := by omega
        clear hc hv ho'
        go_wp2
        go_roundg (8 - (i + 1))
        case measure => have := HGK.out; omega
        case rel => exact ⟨i + 1, 1, ds ++ [v], rfl, rfl, by go_num, by omega, by omega, HDS.out, HDL.out, HST.out, HA.out, HB.out, HZ.out, HO.out, HE.out⟩
      · obtain rfl : o' = 0 := by have := hv.2; omega
        have hci : ¬ (x : Int) < (t : Int) := by omega
        have hvi : (x : Int) - (t : Int) = (v : Int) := by omega
        clear hc hv ho'
        go_wp2
        go_roundg (8 - (i + 1))
        case measure => have := HGK.out; omega
        case rel => exact ⟨i + 1, 0, ds ++ [v], rfl, rfl, by go_num, by omega, by omega, HDS.out, HDL.out, HST.out, HA.out, HB.out, HZ.out, HO.out, HE.out⟩
    · obtain rfl : i = 8 := by omega
      have hlt2 : ¬ ((8 : Nat) : Int) < 8 := by omega
      rw [List.take_of_length_le (by omega), List.take_of_length_le (by omega)] at hnum
      rw [show 8 - 8 = 0 by omega, List.replicate_zero, List.append_nil] at hbO
      have hld := n8_ld hbO hds
      have HZ := Lib.hid hbZ
      have HE := Lib.hid hE
      have HN := Lib.hid hnum
      have HDL := Lib.hid hdl
      have HDS := Lib.hid hds
      have HO := Lib.hid ho
      clear hbA hbB hbZ hbO hE hgk hnum hdl hds ho
      go_wp2_with (refine wpList_store_all rfl 56 (.tmp 4) (.tmp 36) rfl (w.heap.size + 2) (u32d ds) (by rfl) (by rfl) 56 _ HZ.out (hdN8 _ (by rw [u32d_len, HDS.out])) (u32d_one _) (by rw [u32d_len, HDS.out]; rfl) ?_; intro w5 hb5 ho5; have HB5 := Lib.hid hb5; have HE5 := Lib.hid (ho5.below HE.out (by omega) HE.out.size); clear hb5 ho5)
      exact bodyPost_ret (res_cell_tmp rfl _ _ _ _ rfl HB5.out _ Tryz.underlying56 rfl (hdN8 _ (by rw [u32d_len, HDS.out]))) rfl ⟨ds, o, rfl, HDS.out, HDL.out, HO.out, HN.out, HE5.out⟩
def n8 (n : Nat) : List Value := u32d (dig 8 n)
theorem n8_of {l : List Nat} (hl : l.length = 8) (h : ∀ x ∈ l, x < 4294967296) : u32d l = n8 (numL 4294967296 l) := by
  rw [n8, ← hl, dig_numL l h]
theorem n8_len (n : Nat) : (n8 n).length = 8 := by rw [n8, u32d_len, dig_len]
theorem n8_num (n : Nat) (h : n < 115792089237316195423570985008687907853269984665640564039457584007913129639936) : numL 4294967296 (dig 8 n) = n := by
  rw [numL_dig]
  exact Nat.mod_eq_of_lt h
theorem minus_n (a b : Nat) (w : World) (ha : a < 115792089237316195423570985008687907853269984665640564039457584007913129639936) (hb : b < 115792089237316195423570985008687907853269984665640564039457584007913129639936) :
    Calls Tryz.prog 53 #[.agg (n8 a).toArray, .agg (n8 b).toArray] w fun e w' => e = .returned (.tuple #[.agg (n8 (if a < b then a + 115792089237316195423570985008687907853269984665640564039457584007913129639936 - b else a - b)).toArray, .bool (decide (a < b))]) ∧ Below w.heap.size w w' := by
  refine (minus_any (dig 8 a) (dig 8 b) w (dig_len _ _) (dig_len _ _) (dig_lt _ _) (dig_lt _ _)).mono ?_
  rintro e w' ⟨os, o, rfl, hl, hlt, ho, hn, hB⟩
  refine ⟨?_, hB⟩
  have h1 := numL_lt 4294967296 os hlt
  rw [hl] at h1
  rw [n8_num a ha, n8_num b hb] at hn
  simp only [Nat.reducePow] at hn h1
  rw [n8_of hl hlt]
  obtain ⟨N, hN⟩ : ∃ N, N = numL 4294967296 os := ⟨_, rfl⟩
  rw [← hN] at hn h1 ⊢
  rcases Nat.lt_or_ge a b with h | h
  · obtain rfl : o = 1 := by omega
    rw [if_pos h, decide_eq_true h, show N = a + 115792089237316195423570985008687907853269984665640564039457584007913129639936 - b by omega]; rfl
  · obtain rfl : o = 0 := by omega
    rw [if_neg (by omega), decide_eq_false (by omega), show N = a - b by omega]; rfl
set_option maxRecDepth 100000 in
theorem prime_n (w : World) : Calls Tryz.prog 54 #[] w fun e w' => e = .returned (.agg (n8 pr).toArray) ∧ Below w.heap.size w w' := by
  go_enter Tryz.func54, Tryz.ntmps54
  go_wp2
  refine bodyPost_ret (res_cell rfl _ w.heap.size 56 (n8 pr) rfl ?_ _ Tryz.underlying56 rfl (hdN8 _ (n8_len _))) rfl ⟨rfl, ?_⟩
  · exact Blk.new' rfl (by kernel_rfl)
  · exact (Below.refl _ w).alloc (Nat.le_refl _) _
end Go.Proofs.YtlbnibmcflmohaaGreat
namespace Go.Proofs.YtlbnibmcflmohaaGreat
open Go.RowKit
section
variable {P : Program} {ops : Array Oper} {Q : Exit → Act → World → Prop} {md : Region.Mode} {T : World → Prop} {k : Nat} {B : Nat} {fs : List Flt}
def okPure (md : Region.Mode) (ops : Array Oper) (listed : Array Bool) (js must : List Nat) (k i : Nat) : Bool :=
  (subs js).all fun S => (!(must.all S.contains)) || takeB md ops (setJ listed S) k i
theorem AnyG.pure {fuel : Nat} {listed : Array Bool} {a : Act} {R : World → Prop} (i : Nat) {oi : Oper} {di : Tmp} {must : List Nat} {v : Value} (hi : ops[i]? = some oi) (hid : oi.dst = some di) (hig : oi.guard = none) (hdi : ∀ f ∈ fs, f.d ≠ di)
    (chk : okPure md ops listed (fs.map (·.j)) must k i = true) (hQ : ∀ c a w, Q (.panic c) (a.put oi.dst v) w → Q (.panic c) a w)
    (hy : ∀ F W, F.map (·.1) = fs → (execOp (putF a F).eval oi).run P W = .ok (.value v) W) (hT : ∀ W, R W → T W)
    (h : AnyG P md ops Q k T B fs must fuel (listed.setIfInBounds i true) (a.put (some di) v) R) : AnyG P md ops Q k T B fs must (fuel + 1) listed a R := by
  intro F W hF hR hok hm
  have e : F.map (·.1.j) = fs.map (·.j) := by rw [← hF, List.map_map]; rfl
  have h1 := List.all_eq_true.1 chk (doneJ F) (e ▸ doneJ_subs F)
  rw [hm, Bool.not_true, Bool.false_or] at h1
  rw [show fuel + 1 + leftN F = (fuel + leftN F) + 1 by omega]
  refine AnyK.pure i hi h1 hQ hig (fun w => hy F w hF) (fun _ => hT W hR) ?_
  have h2 := h F W hF hR hok hm
  rw [← setJ_set, ← putF_put F a di v (fun z hz => hdi z.1 (by rw [← hF]; exact List.mem_map.2 ⟨z, hz, rfl⟩))] at h2
  rw [hid]
  exact h2
end
theorem flt_of {f : Flt} {F : List (Flt × Option Nat)} (h : F.map (·.1) = [f]) : ∃ s, F = [(f, s)] := by
  rcases F with _ | ⟨⟨a, s1⟩, _ | ⟨b, r⟩⟩
  · cases h
  · simp only [List.map_cons, List.map_nil, List.cons.injEq] at h
    obtain ⟨rfl, _⟩ := h
    exact ⟨s1, rfl⟩
  · simp at h
theorem flt_all {f : Flt} {F : List (Flt × Option Nat)} (h : F.map (·.1) = [f]) (h0 : leftN F = 0) : ∃ g, F = [(f, some g)] := by
  obtain ⟨s1, rfl⟩ := flt_of h
  rcases s1 with _ | g
  · simp [leftN] at h0
  exact ⟨g, rfl⟩
end Go.Proofs.YtlbnibmcflmohaaGreat
namespace Go.Proofs.YtlbnibmcflmohaaGreat
open Go.RowKit
theorem n8_one (n : Nat) : ∀ v ∈ n8 n, v.oneCell' = true := u32d_one _
theorem n8_run {w : World} {g : Nat} {t : TypeId} {n : Nat} (h : Blk w g t (n8 n)) : (ldAt 56 (.pointer (some ⟨g, 0, none⟩))).run Tryz.prog w = .ok (.agg (n8 n).toArray) w := n8_ld h (dig_len _ _)
theorem hdN8' (n : Nat) : (Tryz.prog.info? 56).map (·.size) = some (n8 n).length := hdN8 _ (n8_len n)
attribute [local go_sem ↓] ldq_n8
set_option maxRecDepth 100000 in
set_option maxHeartbeats 1000000 in
theorem rnorm_n (n : Nat) (hn : n < 115792089237316195423570985008687907853269984665640564039457584007913129639936) (w : World) :
    Calls Tryz.prog 27 #[.agg (n8 n).toArray] w fun e w' => e = .returned (.agg (n8 (n % pr)).toArray) ∧ Below w.heap.size w w' := by
  have HB0 : Hid (Blk ((w.alloc (.cells (n8 n).toArray 56)).alloc (.cells o8.toArray 56)) w.heap.size 56 (n8 n) ∧ Blk ((w.alloc (.cells (n8 n).toArray 56)).alloc (.cells o8.toArray 56)) (w.heap.size + 1) 56 o8 ∧ Below w.heap.size w ((w.alloc (.cells (n8 n).toArray 56)).alloc (.cells o8.toArray 56))) :=
    ⟨(Blk.new w _ _).alloc _, Blk.new' (by simp) rfl, ((Below.refl _ w).alloc (Nat.le_refl _) _).alloc (by simp) _⟩
  go_enter Tryz.func27, Tryz.ntmps27
  go_wp2
  go_loopg [] n (fun kk wr => ∃ x : Nat, kk = x ∧ x % pr = n % pr ∧ x < 115792089237316195423570985008687907853269984665640564039457584007913129639936 ∧ Blk wr w.heap.size 56 (n8 x) ∧ Blk wr (w.heap.size + 1) 56 o8 ∧ Below w.heap.size w wr)
  case atStart => exact ⟨n, rfl, rfl, hn, HB0.out.1, HB0.out.2.1, HB0.out.2.2⟩
  case round =>
    clear HB0
    obtain ⟨x, hgk, hxn, hx, hA, hZ, hE⟩ := hrel
    have HGK := Lib.hid hgk
    have HXN := Lib.hid hxn
    have HA := Lib.hid hA
    have HZ := Lib.hid hZ
    have HE := Lib.hid hE
    have hpr : pr < 115792089237316195423570985008687907853269984665640564039457584007913129639936 := by simp [pr]
    obtain ⟨D, hD⟩ : ∃ D, D = (if x < pr then x + 115792089237316195423570985008687907853269984665640564039457584007913129639936 - pr else x - pr) := ⟨_, rfl⟩
    have HM : Hid (∀ W, Calls Tryz.prog 53 #[.agg (n8 x).toArray, .agg (n8 pr).toArray] W fun e w' => e = .returned (.tuple #[.agg (n8 D).toArray, .bool (decide (x < pr))]) ∧ Below W.heap.size W w') := fun W => hD ▸ minus_n x pr W hx hpr
    have HDD := Lib.hid hD
    have HXL := Lib.hid hx
    clear hA hZ hE hgk hxn hD hx hpr
    go_wp2
    refine region_K (by kernel_rfl) 7 (fun w' => Below wr.heap.size wr w') ?_
    have HR0 : Hid (Below wr.heap.size wr { wr with drawn := wr.drawn + 1 }) := (Below.refl _ wr).drew
    refine AnyK.load 0 (v := .agg (n8 x).toArray) rfl (by kernel_rfl) (by kernel_rfl) (by kernel_rfl) (fun _ _ _ h => h) rfl (fun w' hw' => ey_loadR (x := .tmp 1) (by rfl) (by kernel_rfl) (n8_run (HA.out.below hw' HA.out.lt))) HR0.out ?_
    refine AnyG.start wr.heap.size [⟨6, 3, 56, o8, fun g => .pointer (some ⟨g, 0, none⟩)⟩] (fun W => Below wr.heap.size wr W) 7 rfl HR0.out ?_
    have HFL : Hid (∀ (W : World) (b : Act) (o : Oper), o.op = .alloc 56 → (execOp b.eval o).run Tryz.prog W = .ok (.value (.pointer (some ⟨W.heap.size, 0, none⟩))) (W.alloc (.cells o8.toArray 56))) := fun W b o ho => by
      unfold execOp
      rw [ho]
      kernel_rfl
    refine AnyG.step 1 (di := 7) [] (fun _ : Unit => .agg (n8 pr).toArray) (fun _ W => Below wr.heap.size wr W) (by rfl) rfl (by simp) (by simp) (by kernel_rfl) ?_ ?_ (fun W o h => h.alloc h.size o) (fun W h => h.size) (fun W h => h) (fun _ W h => h) ?_
    · intro F W hF hR hok hrd K hK
      obtain ⟨s1, rfl⟩ := flt_of hF
      rcases s1 with _ | k1 <;>
        (refine wp_enter (f := 54) (args := #[]) (by kernel_rfl) ?_; refine (prime_n W).mono ?_; rintro e w' ⟨rfl, hB⟩; exact ⟨_, rfl, hK () _ (hR.trans (hB.mono hR.size)) hB⟩)
    · intro f hf
      simp only [List.mem_cons, List.not_mem_nil, or_false] at hf
      subst hf
      exact ⟨_, rfl, rfl, rfl, fun F W _ => HFL.out _ _ _ rfl⟩
    intro _
    refine AnyG.step 2 (di := 8) [] (fun _ : Unit => .tuple #[.agg (n8 D).toArray, .bool (decide (x < pr))]) (fun _ W => Below wr.heap.size wr W) (by rfl) rfl (by simp) (by simp) (by kernel_rfl) ?_ ?_ (fun W o h => h.alloc h.size o) (fun W h => h.size) (fun W h => h) (fun _ W h => h) ?_
    · intro F W hF hR hok hrd K hK
      obtain ⟨s1, rfl⟩ := flt_of hF
      rcases s1 with _ | k1 <;>
        (refine wp_enter (f := 53) (args := #[.agg (n8 x).toArray, .agg (n8 pr).toArray]) (by kernel_rfl) ?_; refine (HM.out W).mono ?_; rintro e w' ⟨rfl, hB⟩; exact ⟨_, rfl, hK () _ (hR.trans (hB.mono hR.size)) hB⟩)
    · intro f hf
      simp only [List.mem_cons, List.not_mem_nil, or_false] at hf
      subst hf
      exact ⟨_, rfl, rfl, rfl, fun F W _ => HFL.out _ _ _ rfl⟩
    intro _
    refine AnyG.pure 3 (di := 5) (v := .tuple #[.agg (n8 D).toArray, .bool (decide (x < pr))]) rfl rfl rfl (by simp) (by kernel_rfl) (fun _ _ _ h => h) (fun F W hF => by obtain ⟨s1, rfl⟩ := flt_of hF; rcases s1 with _ | k1 <;> kernel_rfl) (fun W h => h) ?_
    refine AnyG.pure 4 (di := 9) (v := .agg (n8 D).toArray) rfl rfl rfl (by simp) (by kernel_rfl) (fun _ _ _ h => h) (fun F W hF => by obtain ⟨s1, rfl⟩ := flt_of hF; rcases s1 with _ | k1 <;> kernel_rfl) (fun W h => h) ?_
    refine AnyG.pure 5 (di := 10) (v := .bool (decide (x < pr))) rfl rfl rfl (by simp) (by kernel_rfl) (fun _ _ _ h => h) (fun F W hF => by obtain ⟨s1, rfl⟩ := flt_of hF; rcases s1 with _ | k1 <;> kernel_rfl) (fun W h => h) ?_
    refine AnyG.fin (by simp) (by kernel_rfl) ?_ (fun W o h => h.alloc h.size o) (fun W h => h.size) (fun W h => h) ?_
    · intro f hf
      simp only [List.mem_cons, List.not_mem_nil, or_false] at hf
      subst hf
      exact ⟨_, rfl, rfl, rfl, fun F W _ => HFL.out _ _ _ rfl⟩
    intro F W hF h0 hR hok
    obtain ⟨gl, rfl⟩ := flt_all hF h0
    obtain ⟨⟨hga, hba, _⟩, _⟩ := hok
    refine AnyK.storeAll 7 gl (n8 D) 56 o8 (by rfl) rfl rfl (by rfl) (by kernel_rfl) (by kernel_rfl) (by kernel_rfl) hba (by exact hdN8' _) (n8_one _) (by rw [n8_len]; rfl) (fun _ _ _ h => (by cases h)) ?_
    intro w5 hb5 ho5
    have hB5 := ho5.below hR hga hR.size
    refine AnyK.val 8 (v := .bool (decide (x < pr))) (by rfl) (by kernel_rfl) rfl (by kernel_rfl) (fun h => (by cases h)) ?_
    refine AnyK.done (by kernel_rfl) ?_
    have HD5 := Lib.hid hb5
    have HA5 := qbl HA hB5
    have HZ5 := qbl HZ hB5
    have HE5 := qtr HE hB5
    have HG : Hid (w.heap.size ≠ gl ∧ w.heap.size + 1 ≠ gl ∧ w.heap.size ≤ gl) := (by have := HZ.out.lt; show _ ∧ _ ∧ _; omega)
    clear hb5 ho5 hB5 hR hga hba hF h0 HFL HR0 HA HZ HE HM
    simp only [putF]
    have hl1 := n8_run HA5.out
    have hl3 := n8_run HD5.out
    rcases Nat.lt_or_ge x pr with hc | hc
    · have hd1 : decide (x < pr) = true := decide_eq_true hc
      have HC := Lib.hid hc
      clear hc hl3
      go_wp2_with (refine wpList_store_all rfl 56 (.tmp 2) (.tmp 12) rfl (w.heap.size + 1) (n8 x) (by rfl) (by rfl) 56 _ HZ5.out (by exact hdN8' _) (n8_one _) (by rw [n8_len]; rfl) ?_; intro w6 hb6 ho6; have HB6 := Lib.hid hb6; have HE6 := Lib.hid (ho6.below HE5.out (by omega) HE5.out.size); clear hb6 ho6)
      exact bodyPost_ret (res_cell rfl _ _ _ _ rfl HB6.out _ Tryz.underlying56 rfl (by exact hdN8' _)) rfl ⟨by rw [← HXN.out, Nat.mod_eq_of_lt HC.out], HE6.out⟩
    · have hd1 : decide (x < pr) = false := decide_eq_false (by omega)
      have HDX : Hid (D = x - pr) := (by show _ = _; rw [HDD.out, if_neg (by omega)])
      have HC := Lib.hid hc
      clear hc hl1
      go_wp2_with (refine wpList_store_all rfl 56 (.tmp 1) (.tmp 13) rfl w.heap.size (n8 D) (by rfl) (by rfl) 56 _ HA5.out (by exact hdN8' _) (n8_one _) (by rw [n8_len, n8_len]) ?_; intro w6 hb6 ho6; have HB6 := Lib.hid hb6; have HZ6 := Lib.hid (ho6.blk HZ5.out (by omega)); have HE6 := Lib.hid (ho6.below HE5.out (by omega) HE5.out.size); clear hb6 ho6)
      go_roundg D
      case measure => have h1 := HGK.out; have h2 := HDX.out; have h3 := HC.out; have h4 := pr_two; omega
      case rel => exact ⟨D, rfl, by rw [HDX.out, ← HXN.out]; exact (Nat.mod_eq_sub_mod HC.out).symm, by have h1 := HXL.out; have h2 := HDX.out; omega, HB6.out, HZ6.out, HE6.out⟩
end Go.Proofs.YtlbnibmcflmohaaGreat
namespace Go.Proofs.YtlbnibmcflmohaaGreat
open Go.RowKit
theorem numL_pos (B : Nat) (hB : 0 < B) : ∀ (l : List Nat) (j : Nat), 0 < l.getD j 0 → 0 < numL B l
  | [], j, h => by simp at h
  | x :: xs, 0, h => by simp at h; simp only [numL]; omega
  | x :: xs, j + 1, h => by
      have ih := numL_pos B hB xs j (by simpa using h)
      have : 0 < B * numL B xs := Nat.mul_pos hB ih
      simp only [numL]; omega
theorem numL_null (B : Nat) : ∀ (l : List Nat), (∀ j, l.getD j 0 = 0) → numL B l = 0
  | [], _ => rfl
  | x :: xs, h => by
      have h0 := h 0
      have ih := numL_null B xs fun j => by have := h (j + 1); simpa using this
      simp at h0
      simp only [numL, ih, h0]; simp
theorem getD_drop (l : List Nat) (k j : Nat) : (l.drop k).getD j 0 = l.getD (k + j) 0 := by simp [List.getD_eq_getElem?_getD, List.getElem?_drop]
attribute [local go_sem ↓] ldq_w17 ldq_n8
set_option maxRecDepth 100000 in
set_option maxHeartbeats 1000000 in
theorem high_any (ws : List Nat) (w : World) (hl : ws.length = 17) :
    Calls Tryz.prog 75 #[.agg (u64l ws).toArray] w fun e w' => e = .returned (.bool (decide (0 < numL 4294967296 (ws.drop 8)))) ∧ Below w.heap.size w w' := by
  have HB0 : Hid (Blk (w.alloc (.cells (u64l ws).toArray 110)) w.heap.size 110 (u64l ws) ∧ Below w.heap.size w (w.alloc (.cells (u64l ws).toArray 110))) := ⟨Blk.new _ _ _, (Below.refl _ w).alloc (Nat.le_refl _) _⟩
  have HN : Hid (∀ j, 8 ≤ j → 0 < ws.getD j 0 → 0 < numL 4294967296 (ws.drop 8)) := fun j h8 h => numL_pos _ (by omega) _ (j - 8) (by rw [getD_drop, show 8 + (j - 8) = j by omega]; exact h)
  have HO : Hid ((∀ j, 8 ≤ j → j < 17 → ws.getD j 0 = 0) → numL 4294967296 (ws.drop 8) = 0) := fun h => numL_null _ _ fun j => by
    rw [getD_drop]
    rcases Nat.lt_or_ge (8 + j) 17 with h1 | h1
    · exact h _ (by omega) h1
    · rw [List.getD_eq_getElem?_getD, List.getElem?_eq_none (by omega)]; rfl
  generalize numL 4294967296 (ws.drop 8) = H at *
  go_enter Tryz.func75, Tryz.ntmps75
  go_wp2
  go_loopg [3] 9 (fun kk q wr => ∃ i : Nat, kk = 17 - i ∧ q = .int .i64 (i : Int) ∧ 8 ≤ i ∧ i ≤ 17 ∧ (∀ j, 8 ≤ j → j < i → ws.getD j 0 = 0) ∧ Blk wr w.heap.size 110 (u64l ws) ∧ Below w.heap.size w wr)
  case atStart => exact ⟨8, rfl, rfl, by omega, by omega, by intro j h1 h2; omega, HB0.out.1, HB0.out.2⟩
  case round =>
    clear HB0
    obtain ⟨i, hgk, rfl, h8, h17, hz, hA, hE⟩ := hrel
    rcases Nat.lt_or_ge i 17 with hlt | hge
    · have hlt2 : (i : Int) < 17 := by omega
      obtain ⟨x, hx⟩ : ∃ x, x = ws.getD i 0 := ⟨_, rfl⟩
      have cx : wr.cell? ⟨w.heap.size, i, none⟩ = some (.int .u64 (x : Int)) := (hA.cell i).trans (hx ▸ u64l_get (by omega))
      have HZ := Lib.hid hz
      have HX := Lib.hid hx
      have HA := Lib.hid hA
      have HE := Lib.hid hE
      have HGK := Lib.hid hgk
      have H8 := Lib.hid h8
      clear hz hx hA hE hgk
      rcases Nat.eq_zero_or_pos x with h0 | h0
      · subst h0
        go_wp2
        go_roundg (17 - (i + 1))
        case measure => have := HGK.out; omega
        case rel => exact ⟨i + 1, rfl, by go_num, by omega, by omega, by
          intro j h1 h2
          rcases Nat.lt_or_ge j i with h3 | h3
          · exact HZ.out j h1 h3
          · obtain rfl : j = i := by omega
            exact HX.out.symm, HA.out, HE.out⟩
      · have h0i : (0 : Int) < (x : Int) := by omega
        have HP : Hid (0 < H) := (by show _ < _; exact HN.out i h8 (by rw [← HX.out]; exact h0))
        clear h0
        go_wp2
        go_ret
        exact ⟨by rw [decide_eq_true HP.out]; rfl, HE.out⟩
    · obtain rfl : i = 17 := by omega
      have hlt2 : ¬ ((17 : Nat) : Int) < 17 := by omega
      have HP : Hid (H = 0) := HO.out hz
      have HE := Lib.hid hE
      clear hz hA hE hgk
      go_wp2
      go_ret
      exact ⟨by rw [decide_eq_false (by rw [HP.out]; omega)]; rfl, HE.out⟩
end Go.Proofs.YtlbnibmcflmohaaGreat
