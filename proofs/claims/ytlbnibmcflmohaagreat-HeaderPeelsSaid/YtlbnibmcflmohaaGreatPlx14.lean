/- Part of the proof: Ofe, El, Num, R5p. -/
import Derived.Test.YtlbnibmcflmohaaGreatPlx11
namespace Go.Proofs.YtlbnibmcflmohaaGreat
open Go.RowKit
theorem of_any (n : Nat) (w : World) :
    Calls Tryz.prog 35 #[.int .u64 (n : Int)] w fun e w' => e = .returned (.agg (l4 n 0 0 0).toArray) ∧ Below w.heap.size w w' := by
  go_enter Tryz.func35, Tryz.ntmps35
  go_wp2
  refine bodyPost_ret (res_cell rfl _ w.heap.size 80 (l4 n 0 0 0) rfl ?_ _ Tryz.underlying80 rfl (by exact hdEl)) rfl ⟨rfl, ?_⟩
  · exact Blk.new' rfl rfl
  · exact (Below.refl _ w).alloc (Nat.le_refl _) _
end Go.Proofs.YtlbnibmcflmohaaGreat
namespace Go.Proofs.YtlbnibmcflmohaaGreat
open Go.RowKit
def elc (n : Nat) : List Value := l4 (n % 18446744073709551616) (n / 18446744073709551616 % 18446744073709551616) (n / 340282366920938463463374607431768211456 % 18446744073709551616) (n / 6277101735386680763835789423207666416102355444464034512896 % 18446744073709551616)
theorem l4_of (a b c d : Nat) (h0 : a < 18446744073709551616) (h1 : b < 18446744073709551616) (h2 : c < 18446744073709551616) (h3 : d < 18446744073709551616) : l4 a b c d = elc (v4 a b c d) := by
  simp only [elc, v4]
  congr 1 <;> omega
theorem v4_of (n : Nat) (h : n < 115792089237316195423570985008687907853269984665640564039457584007913129639936) : v4 (n % 18446744073709551616) (n / 18446744073709551616 % 18446744073709551616) (n / 340282366920938463463374607431768211456 % 18446744073709551616) (n / 6277101735386680763835789423207666416102355444464034512896 % 18446744073709551616) = n := by
  simp only [v4]
  omega
theorem mod_of (n v q : Nat) (h : n = v + q * pr) (hv : v < pr) : v = n % pr := by simp only [pr] at *; omega
theorem sub_of (a b r q q' : Nat) (h : a + q' * pr = r + b + q * pr) (hv : r < pr) : r = (a + (pr - b % pr)) % pr := by simp only [pr] at *; omega
theorem pr_lt (n : Nat) : n % pr < 115792089237316195423570985008687907853269984665640564039457584007913129639936 := by simp only [pr]; omega
theorem pr_lt' (n : Nat) : n % pr < pr := Nat.mod_lt _ (by simp [pr])
theorem elc_one (n : Nat) : ∀ v ∈ elc n, v.oneCell' = true := l4_one _ _ _ _
theorem norm_el (n : Nat) (hn : n < 115792089237316195423570985008687907853269984665640564039457584007913129639936) (w : World) :
    Calls Tryz.prog 58 #[.agg (elc n).toArray] w fun e w' => e = .returned (.agg (elc (n % pr)).toArray) ∧ Below w.heap.size w w' := by
  refine (norm_any _ _ _ _ (Nat.mod_lt _ (by omega)) (Nat.mod_lt _ (by omega)) (Nat.mod_lt _ (by omega)) (Nat.mod_lt _ (by omega)) w).mono ?_
  rintro e w' ⟨s0, s1, s2, s3, q, rfl, ⟨h0, h1, h2, h3, h4, h5⟩, hB⟩
  rw [v4_of n hn] at h5
  exact ⟨by rw [l4_of _ _ _ _ h0 h1 h2 h3, mod_of _ _ _ h5 h4], hB⟩
theorem add_el (a b : Nat) (ha : a < 115792089237316195423570985008687907853269984665640564039457584007913129639936) (hb : b < 115792089237316195423570985008687907853269984665640564039457584007913129639936) (h : a + b < 115792089237316195423570985008687907853269984665640564039457584007913129639936) (w : World) :
    Calls Tryz.prog 85 #[.agg (elc a).toArray, .agg (elc b).toArray] w fun e w' => e = .returned (.agg (elc ((a + b) % pr)).toArray) ∧ Below w.heap.size w w' := by
  refine (fieldadd_any _ _ _ _ _ _ _ _ (Nat.mod_lt _ (by omega)) (Nat.mod_lt _ (by omega)) (Nat.mod_lt _ (by omega)) (Nat.mod_lt _ (by omega)) (Nat.mod_lt _ (by omega)) (Nat.mod_lt _ (by omega)) (Nat.mod_lt _ (by omega)) (Nat.mod_lt _ (by omega)) (by rw [v4_of a ha, v4_of b hb]; exact h) w).mono ?_
  rintro e w' ⟨s0, s1, s2, s3, q, rfl, ⟨h0, h1, h2, h3, h4, h5⟩, hB⟩
  rw [v4_of a ha, v4_of b hb] at h5
  exact ⟨by rw [l4_of _ _ _ _ h0 h1 h2 h3, mod_of _ _ _ h5 h4], hB⟩
theorem of_el (n : Nat) (hn : n < 18446744073709551616) (w : World) :
    Calls Tryz.prog 35 #[.int .u64 (n : Int)] w fun e w' => e = .returned (.agg (elc n).toArray) ∧ Below w.heap.size w w' := by
  refine (of_any n w).mono ?_
  rintro e w' ⟨rfl, hB⟩
  exact ⟨by rw [l4_of n 0 0 0 hn (by omega) (by omega) (by omega)]; simp [v4], hB⟩
theorem elc_ld {w : World} {g : Nat} {t : TypeId} {n : Nat} (hb : Blk w g t (elc n)) : (ldAt 80 (.pointer (some ⟨g, 0, none⟩))).run Tryz.prog w = .ok (.agg (elc n).toArray) w := el_ld hb
end Go.Proofs.YtlbnibmcflmohaaGreat
namespace Go.Proofs.YtlbnibmcflmohaaGreat
open Go.RowKit
def numL (B : Nat) : List Nat → Nat
  | [] => 0
  | x :: xs => x + B * numL B xs
theorem numL_set (B : Nat) : ∀ (l : List Nat) (k v : Nat), k < l.length → numL B (l.set k v) + l.getD k 0 * B ^ k = numL B l + v * B ^ k
  | [], k, v, h => by simp at h
  | x :: xs, 0, v, h => by simp [numL]; omega
  | x :: xs, k + 1, v, h => by
      have ih := numL_set B xs k v (by simpa using h)
      simp only [List.set_cons_succ, numL, List.getD_cons_succ, Nat.pow_succ]
      grind
theorem numL_take (B : Nat) : ∀ (l : List Nat) (k : Nat), k < l.length → numL B (l.take (k + 1)) = numL B (l.take k) + l.getD k 0 * B ^ k
  | [], k, h => by simp at h
  | x :: xs, 0, h => by simp [numL]
  | x :: xs, k + 1, h => by
      have ih := numL_take B xs k (by simpa using h)
      simp only [List.take_succ_cons, numL, List.getD_cons_succ, Nat.pow_succ]
      grind
theorem numL_cut (B : Nat) : ∀ (l : List Nat) (k : Nat), k ≤ l.length → numL B l = numL B (l.take k) + B ^ k * numL B (l.drop k)
  | l, 0, h => by simp [numL]
  | [], k + 1, h => by simp at h
  | x :: xs, k + 1, h => by
      have ih := numL_cut B xs k (by simpa using h)
      simp only [List.take_succ_cons, List.drop_succ_cons, numL, Nat.pow_succ]
      grind
theorem numL_lt (B : Nat) : ∀ (l : List Nat), (∀ x ∈ l, x < B) → numL B l < B ^ l.length
  | [], _ => by simp [numL]
  | x :: xs, h => by
      have ih := numL_lt B xs (fun y hy => h y (List.mem_cons_of_mem _ hy))
      have hx := h x List.mem_cons_self
      simp only [numL, List.length_cons, Nat.pow_succ]
      have h1 : B * numL B xs + B ≤ B * B ^ xs.length := by
        have := Nat.mul_le_mul_left B ih
        rw [Nat.mul_succ] at this; exact this
      have h2 : B * B ^ xs.length = B ^ xs.length * B := Nat.mul_comm _ _
      omega
theorem numL_zero (B n : Nat) : numL B (List.replicate n 0) = 0 := by
  induction n with
  | zero => rfl
  | succ n ih => simp [List.replicate_succ, numL, ih]
theorem mul_in (B N a P bj x c lo hi bt bt' n n' Q : Nat) (h : n + c * Q = N + a * P * bt) (hs : hi * B + lo = a * bj + x + c) (hn : n' + x * Q = n + lo * Q) (hbt : P * bt' = P * bt + bj * Q) :
    n' + hi * (Q * B) = N + a * P * bt' := by
  have h1 : a * P * bt' = a * P * bt + a * bj * Q := by grind
  have h2 : hi * (Q * B) + lo * Q = a * bj * Q + x * Q + c * Q := by grind
  omega
theorem mul_fin (ab H L o c k s s' r q : Nat) (h : ab = L + 115792089237316195423570985008687907853269984665640564039457584007913129639936 * H) (ho : o + c * 115792089237316195423570985008687907853269984665640564039457584007913129639936 = 38 * H + L) (hs : s + k * 115792089237316195423570985008687907853269984665640564039457584007913129639936 = o + 38 * c) (hs' : s' = s + 38 * k) (hr : s' = r + q * pr) (hrp : r < pr) : r = ab % pr := by
  simp only [pr] at *
  have e : ab = s' + 2 * 57896044618658097711785492504343953926634992332820282019728792003956564819949 * (c + k + H) := by omega
  clear h ho hs
  omega
def u64l (l : List Nat) : List Value := l.map fun (n : Nat) => .int .u64 (n : Int)
theorem u64l_get {l : List Nat} {i : Nat} (hi : i < l.length) : (u64l l)[i]? = some (.int .u64 ((l.getD i 0 : Nat) : Int)) := by
  simp [u64l, List.getD_eq_getElem?_getD, hi]
theorem u64l_set (l : List Nat) (i n : Nat) : (u64l l).set i (.int .u64 (n : Int)) = u64l (l.set i n) := by simp [u64l, List.map_set]
theorem getD_mem_lt {l : List Nat} {B : Nat} (hB : 0 < B) (h : ∀ x ∈ l, x < B) (i : Nat) : l.getD i 0 < B := by
  rw [List.getD_eq_getElem?_getD]
  by_cases hi : i < l.length
  · rw [List.getElem?_eq_getElem hi]; exact h _ (List.getElem_mem hi)
  · simp [List.getElem?_eq_none (Nat.le_of_not_lt hi), hB]
theorem set_mem_lt {l : List Nat} {B : Nat} (h : ∀ x ∈ l, x < B) (i : Nat) {v : Nat} (hv : v < B) : ∀ x ∈ l.set i v, x < B := by
  intro x hx
  rcases List.mem_or_eq_of_mem_set hx with h1 | rfl
  · exact h x h1
  · exact hv
theorem getD_set_ne (l : List Nat) (i k v : Nat) (h : i ≠ k) : (l.set i v).getD k 0 = l.getD k 0 := by
  simp [List.getD_eq_getElem?_getD, List.getElem?_set_ne h]
end Go.Proofs.YtlbnibmcflmohaaGreat
namespace Go.Proofs.YtlbnibmcflmohaaGreat
open Go.RowKit
def dig : Nat → Nat → List Nat
  | 0, _ => []
  | k + 1, n => n % 4294967296 :: dig k (n / 4294967296)
theorem dig_len : ∀ k n, (dig k n).length = k
  | 0, _ => rfl
  | k + 1, n => by rw [dig, List.length_cons, dig_len]
theorem dig_lt : ∀ k n, ∀ x ∈ dig k n, x < 4294967296
  | 0, _, x, h => by cases h
  | k + 1, n, x, h => by
      rw [dig, List.mem_cons] at h
      rcases h with rfl | h
      · exact Nat.mod_lt _ (by omega)
      · exact dig_lt k _ x h
theorem numL_dig : ∀ k n, numL 4294967296 (dig k n) = n % 4294967296 ^ k
  | 0, n => by rw [dig, numL, Nat.pow_zero, Nat.mod_one]
  | k + 1, n => by rw [dig, numL, numL_dig k, Nat.pow_succ, Nat.mul_comm (4294967296 ^ k), Nat.mod_mul]
theorem dig_numL : ∀ l : List Nat, (∀ x ∈ l, x < 4294967296) → dig l.length (numL 4294967296 l) = l
  | [], _ => rfl
  | x :: xs, h => by
      have hx := h x List.mem_cons_self
      rw [List.length_cons, dig, numL]
      have e1 : (x + 4294967296 * numL 4294967296 xs) % 4294967296 = x := by omega
      have e2 : (x + 4294967296 * numL 4294967296 xs) / 4294967296 = numL 4294967296 xs := by omega
      rw [e1, e2, dig_numL xs fun y hy => h y (List.mem_cons_of_mem _ hy)]
theorem numL_snoc (B : Nat) : ∀ (l : List Nat) (x : Nat), numL B (l ++ [x]) = numL B l + x * B ^ l.length
  | [], x => by simp [numL]
  | y :: l, x => by
      have ih := numL_snoc B l x
      simp only [List.cons_append, numL, ih, List.length_cons, Nat.pow_succ]
      grind
theorem snoc_lt {l : List Nat} {B x : Nat} (h : ∀ y ∈ l, y < B) (hx : x < B) : ∀ y ∈ l ++ [x], y < B := by
  intro y hy
  rcases List.mem_append.1 hy with hy | hy
  · exact h y hy
  · simp only [List.mem_cons, List.not_mem_nil, or_false] at hy
    rw [hy]; exact hx
theorem pad_set (ds : List Nat) (i n v : Nat) (hi : ds.length = i) (h : i < n) : (ds ++ List.replicate (n - i) 0).set i v = (ds ++ [v]) ++ List.replicate (n - (i + 1)) 0 := by
  rw [List.set_append_right _ _ (by omega), hi, Nat.sub_self, show n - i = n - (i + 1) + 1 by omega, List.replicate_succ, List.set_cons_zero, List.append_assoc]
  rfl
def u32d (l : List Nat) : List Value := l.map fun (n : Nat) => .int .u32 (n : Int)
theorem u32d_len (l : List Nat) : (u32d l).length = l.length := by simp [u32d]
theorem u32d_get {l : List Nat} {i : Nat} (hi : i < l.length) : (u32d l)[i]? = some (.int .u32 ((l.getD i 0 : Nat) : Int)) := by
  simp [u32d, List.getD_eq_getElem?_getD, hi]
theorem u32d_set (l : List Nat) (i n : Nat) : (u32d l).set i (.int .u32 (n : Int)) = u32d (l.set i n) := by simp [u32d, List.map_set]
theorem u32d_one (l : List Nat) : ∀ v ∈ u32d l, v.oneCell' = true := by
  intro v hv
  obtain ⟨n, _, rfl⟩ := List.mem_map.1 hv
  rfl
theorem u64l_one (l : List Nat) : ∀ v ∈ u64l l, v.oneCell' = true := by
  intro v hv
  obtain ⟨n, _, rfl⟩ := List.mem_map.1 hv
  rfl
theorem u64l_len (l : List Nat) : (u64l l).length = l.length := by simp [u64l]
theorem ldq_n8 (v : Value) : Instr.loadAt 56 v = ldAt 56 v := rfl
theorem ldq_w17 (v : Value) : Instr.loadAt 110 v = ldAt 110 v := rfl
theorem hdN8 : ∀ k, k = 8 → (Tryz.prog.info? 56).map (·.size) = some k := by
  rintro k rfl
  kernel_rfl
theorem hdW17 : ∀ k, k = 17 → (Tryz.prog.info? 110).map (·.size) = some k := by
  rintro k rfl
  kernel_rfl
theorem n8_ld {w : World} {g : Nat} {t : TypeId} {l : List Nat} (h : Blk w g t (u32d l)) (hl : l.length = 8) : (ldAt 56 (.pointer (some ⟨g, 0, none⟩))).run Tryz.prog w = .ok (.agg (u32d l).toArray) w :=
  ldAt_run h 56 0 (u32d l) (by rw [List.drop_zero]; exact List.take_of_length_le (Nat.le_refl _)) _ Tryz.underlying56 rfl (hdN8 _ (by rw [u32d_len, hl]))
theorem w17_ld {w : World} {g : Nat} {t : TypeId} {l : List Nat} (h : Blk w g t (u64l l)) (hl : l.length = 17) : (ldAt 110 (.pointer (some ⟨g, 0, none⟩))).run Tryz.prog w = .ok (.agg (u64l l).toArray) w :=
  ldAt_run h 110 0 (u64l l) (by rw [List.drop_zero]; exact List.take_of_length_le (Nat.le_refl _)) _ Tryz.underlying110 rfl (hdW17 _ (by rw [u64l_len, hl]))
def o8 : List Value := u32d (List.replicate 8 0)
def o17 : List Value := u64l (List.replicate 17 0)
end Go.Proofs.YtlbnibmcflmohaaGreat
