/- Part of the proof: RfA. -/
import Derived.IntWalk
import Derived.Test.YtlbnibmcflmohaaFlx03
namespace Go.Proofs.Ytlbnibmcflmohaa
open Go.RowKit
theorem n32_rotr (x : UInt32) (k : Nat) (h1 : 1 ≤ k) (h2 : k ≤ 31) : bits .or .u32 (n32 x / 2 ^ k) (n32 x * 2 ^ (32 - k) % (4294967296 : Int)) = n32 (Sh.rotr x (UInt32.ofNat k)) := by
  have hx := x.toNat_lt
  unfold n32
  have e1 : (x.toNat : Int) * 2 ^ (32 - k) % 4294967296 = ((x.toNat * 2 ^ (32 - k) % 4294967296 : Nat) : Int) := by simp
  have e2 : (x.toNat : Int) / 2 ^ k = ((x.toNat / 2 ^ k : Nat) : Int) := by simp
  have hlt : x.toNat / 2 ^ k < 4294967296 := Nat.lt_of_le_of_lt (Nat.div_le_self _ _) hx
  rw [e1, e2, u32_or_nat _ _ hlt (Nat.mod_lt _ (by omega))]
  have m1 : (UInt32.ofNat k).toNat = k := by rw [UInt32.toNat_ofNat']; omega
  have m2 : (32 - UInt32.ofNat k).toNat = 32 - k := by
    rw [UInt32.toNat_sub, m1]
    simp
    omega
  unfold Sh.rotr
  rw [UInt32.toNat_or, UInt32.toNat_shiftRight, UInt32.toNat_shiftLeft, m1, m2, Nat.mod_eq_of_lt (show k < 32 by omega), Nat.mod_eq_of_lt (show 32 - k < 32 by omega), Nat.shiftLeft_eq, Nat.shiftRight_eq_div_pow]
set_option maxHeartbeats 1000000 in
theorem rright_2 (x : UInt32) (w : World) : Calls Try.prog 79 #[.int .u32 (n32 x), .int .i64 2] w fun e w' => e = .returned (.int .u32 (n32 (Sh.rotr x 2))) ∧ ∃ q, w' = w.drewN q := by
  have HR : Hid (bits .or .u32 (n32 x / 4) (n32 x * 1073741824 % (4294967296 : Int)) = n32 (Sh.rotr x 2)) := n32_rotr x 2 (by omega) (by omega)
  go_enter Try.func79, Try.ntmps79
  go_wp2_with fail
  go_quiet (fail)
  go_wp2_with fail
  go_ret
  exact ⟨by rw [← HR.out]; rfl, _, rfl⟩
set_option maxHeartbeats 1000000 in
theorem rright_6 (x : UInt32) (w : World) : Calls Try.prog 79 #[.int .u32 (n32 x), .int .i64 6] w fun e w' => e = .returned (.int .u32 (n32 (Sh.rotr x 6))) ∧ ∃ q, w' = w.drewN q := by
  have HR : Hid (bits .or .u32 (n32 x / 64) (n32 x * 67108864 % (4294967296 : Int)) = n32 (Sh.rotr x 6)) := n32_rotr x 6 (by omega) (by omega)
  go_enter Try.func79, Try.ntmps79
  go_wp2_with fail
  go_quiet (fail)
  go_wp2_with fail
  go_ret
  exact ⟨by rw [← HR.out]; rfl, _, rfl⟩
set_option maxHeartbeats 1000000 in
theorem rright_7 (x : UInt32) (w : World) : Calls Try.prog 79 #[.int .u32 (n32 x), .int .i64 7] w fun e w' => e = .returned (.int .u32 (n32 (Sh.rotr x 7))) ∧ ∃ q, w' = w.drewN q := by
  have HR : Hid (bits .or .u32 (n32 x / 128) (n32 x * 33554432 % (4294967296 : Int)) = n32 (Sh.rotr x 7)) := n32_rotr x 7 (by omega) (by omega)
  go_enter Try.func79, Try.ntmps79
  go_wp2_with fail
  go_quiet (fail)
  go_wp2_with fail
  go_ret
  exact ⟨by rw [← HR.out]; rfl, _, rfl⟩
set_option maxHeartbeats 1000000 in
theorem rright_11 (x : UInt32) (w : World) : Calls Try.prog 79 #[.int .u32 (n32 x), .int .i64 11] w fun e w' => e = .returned (.int .u32 (n32 (Sh.rotr x 11))) ∧ ∃ q, w' = w.drewN q := by
  have HR : Hid (bits .or .u32 (n32 x / 2048) (n32 x * 2097152 % (4294967296 : Int)) = n32 (Sh.rotr x 11)) := n32_rotr x 11 (by omega) (by omega)
  go_enter Try.func79, Try.ntmps79
  go_wp2_with fail
  go_quiet (fail)
  go_wp2_with fail
  go_ret
  exact ⟨by rw [← HR.out]; rfl, _, rfl⟩
set_option maxHeartbeats 1000000 in
theorem rright_13 (x : UInt32) (w : World) : Calls Try.prog 79 #[.int .u32 (n32 x), .int .i64 13] w fun e w' => e = .returned (.int .u32 (n32 (Sh.rotr x 13))) ∧ ∃ q, w' = w.drewN q := by
  have HR : Hid (bits .or .u32 (n32 x / 8192) (n32 x * 524288 % (4294967296 : Int)) = n32 (Sh.rotr x 13)) := n32_rotr x 13 (by omega) (by omega)
  go_enter Try.func79, Try.ntmps79
  go_wp2_with fail
  go_quiet (fail)
  go_wp2_with fail
  go_ret
  exact ⟨by rw [← HR.out]; rfl, _, rfl⟩
set_option maxHeartbeats 1000000 in
theorem rright_17 (x : UInt32) (w : World) : Calls Try.prog 79 #[.int .u32 (n32 x), .int .i64 17] w fun e w' => e = .returned (.int .u32 (n32 (Sh.rotr x 17))) ∧ ∃ q, w' = w.drewN q := by
  have HR : Hid (bits .or .u32 (n32 x / 131072) (n32 x * 32768 % (4294967296 : Int)) = n32 (Sh.rotr x 17)) := n32_rotr x 17 (by omega) (by omega)
  go_enter Try.func79, Try.ntmps79
  go_wp2_with fail
  go_quiet (fail)
  go_wp2_with fail
  go_ret
  exact ⟨by rw [← HR.out]; rfl, _, rfl⟩
set_option maxHeartbeats 1000000 in
theorem rright_18 (x : UInt32) (w : World) : Calls Try.prog 79 #[.int .u32 (n32 x), .int .i64 18] w fun e w' => e = .returned (.int .u32 (n32 (Sh.rotr x 18))) ∧ ∃ q, w' = w.drewN q := by
  have HR : Hid (bits .or .u32 (n32 x / 262144) (n32 x * 16384 % (4294967296 : Int)) = n32 (Sh.rotr x 18)) := n32_rotr x 18 (by omega) (by omega)
  go_enter Try.func79, Try.ntmps79
  go_wp2_with fail
  go_quiet (fail)
  go_wp2_with fail
  go_ret
  exact ⟨by rw [← HR.out]; rfl, _, rfl⟩
set_option maxHeartbeats 1000000 in
theorem rright_19 (x : UInt32) (w : World) : Calls Try.prog 79 #[.int .u32 (n32 x), .int .i64 19] w fun e w' => e = .returned (.int .u32 (n32 (Sh.rotr x 19))) ∧ ∃ q, w' = w.drewN q := by
  have HR : Hid (bits .or .u32 (n32 x / 524288) (n32 x * 8192 % (4294967296 : Int)) = n32 (Sh.rotr x 19)) := n32_rotr x 19 (by omega) (by omega)
  go_enter Try.func79, Try.ntmps79
  go_wp2_with fail
  go_quiet (fail)
  go_wp2_with fail
  go_ret
  exact ⟨by rw [← HR.out]; rfl, _, rfl⟩
set_option maxHeartbeats 1000000 in
theorem rright_22 (x : UInt32) (w : World) : Calls Try.prog 79 #[.int .u32 (n32 x), .int .i64 22] w fun e w' => e = .returned (.int .u32 (n32 (Sh.rotr x 22))) ∧ ∃ q, w' = w.drewN q := by
  have HR : Hid (bits .or .u32 (n32 x / 4194304) (n32 x * 1024 % (4294967296 : Int)) = n32 (Sh.rotr x 22)) := n32_rotr x 22 (by omega) (by omega)
  go_enter Try.func79, Try.ntmps79
  go_wp2_with fail
  go_quiet (fail)
  go_wp2_with fail
  go_ret
  exact ⟨by rw [← HR.out]; rfl, _, rfl⟩
set_option maxHeartbeats 1000000 in
theorem rright_25 (x : UInt32) (w : World) : Calls Try.prog 79 #[.int .u32 (n32 x), .int .i64 25] w fun e w' => e = .returned (.int .u32 (n32 (Sh.rotr x 25))) ∧ ∃ q, w' = w.drewN q := by
  have HR : Hid (bits .or .u32 (n32 x / 33554432) (n32 x * 128 % (4294967296 : Int)) = n32 (Sh.rotr x 25)) := n32_rotr x 25 (by omega) (by omega)
  go_enter Try.func79, Try.ntmps79
  go_wp2_with fail
  go_quiet (fail)
  go_wp2_with fail
  go_ret
  exact ⟨by rw [← HR.out]; rfl, _, rfl⟩
set_option maxRecDepth 100000 in
set_option maxHeartbeats 1000000 in
theorem rfirst_any (w : World) : Calls Try.prog 63 #[] w fun e w' => e = .returned (.agg (u32s Sh.start.list).toArray) ∧ Below w.heap.size w w' := by
  go_enter Try.func63, Try.ntmps63
  go_wp2_with fail
  exact bodyPost_ret (res_cell rfl _ w.heap.size 95 (u32s Sh.start.list) rfl (Blk.new' rfl rfl) _ Try.underlying95 rfl hd144) rfl ⟨rfl, (Below.refl _ _).alloc (Nat.le_refl _) _⟩
attribute [local go_sem ↓] ldq_199 stq_199
set_option maxRecDepth 100000 in
set_option maxHeartbeats 1000000 in
theorem rtable_any (w : World) : Calls Try.prog 78 #[] w fun e w' => e = .returned (.agg (u32s Sh.ks).toArray) ∧ Below w.heap.size w w' := by
  have HI : Hid ((Try.prog.info? 140).map (·.size) = some (u32s Sh.ks).length) := hd199
  have HL : Hid ((u32s Sh.ks).length = 64) := rfl
  have hone : Hid (∀ v ∈ u32s Sh.ks, v.oneCell' = true) := u32s_one _
  have HE : Hid ((u32s Sh.ks).toArray = #[.int .u32 1116352408, .int .u32 1899447441, .int .u32 3049323471, .int .u32 3921009573, .int .u32 961987163, .int .u32 1508970993, .int .u32 2453635748, .int .u32 2870763221, .int .u32 3624381080, .int .u32 310598401, .int .u32 607225278, .int .u32 1426881987, .int .u32 1925078388, .int .u32 2162078206, .int .u32 2614888103, .int .u32 3248222580, .int .u32 3835390401, .int .u32 4022224774, .int .u32 264347078, .int .u32 604807628, .int .u32 770255983, .int .u32 1249150122, .int .u32 1555081692, .int .u32 1996064986, .int .u32 2554220882, .int .u32 2821834349, .int .u32 2952996808, .int .u32 3210313671, .int .u32 3336571891, .int .u32 3584528711, .int .u32 113926993, .int .u32 338241895, .int .u32 666307205, .int .u32 773529912, .int .u32 1294757372, .int .u32 1396182291, .int .u32 1695183700, .int .u32 1986661051, .int .u32 2177026350, .int .u32 2456956037, .int .u32 2730485921, .int .u32 2820302411, .int .u32 3259730800, .int .u32 3345764771, .int .u32 3516065817, .int .u32 3600352804, .int .u32 4094571909, .int .u32 275423344, .int .u32 430227734, .int .u32 506948616, .int .u32 659060556, .int .u32 883997877, .int .u32 958139571, .int .u32 1322822218, .int .u32 1537002063, .int .u32 1747873779, .int .u32 1955562222, .int .u32 2024104815, .int .u32 2227730452, .int .u32 2361852424, .int .u32 2428436474, .int .u32 2756734187, .int .u32 3204031479, .int .u32 3329325298]) := rfl
  obtain ⟨U, hU⟩ : ∃ U, U = u32s Sh.ks := ⟨_, rfl⟩
  rw [← hU] at HI hone HL HE
  have HUE := Lib.hid hU
  clear hU
  have hz : Blk (w.alloc (.cells #[.int .u32 0, .int .u32 0, .int .u32 0, .int .u32 0, .int .u32 0, .int .u32 0, .int .u32 0, .int .u32 0, .int .u32 0, .int .u32 0, .int .u32 0, .int .u32 0, .int .u32 0, .int .u32 0, .int .u32 0, .int .u32 0, .int .u32 0, .int .u32 0, .int .u32 0, .int .u32 0, .int .u32 0, .int .u32 0, .int .u32 0, .int .u32 0, .int .u32 0, .int .u32 0, .int .u32 0, .int .u32 0, .int .u32 0, .int .u32 0, .int .u32 0, .int .u32 0, .int .u32 0, .int .u32 0, .int .u32 0, .int .u32 0, .int .u32 0, .int .u32 0, .int .u32 0, .int .u32 0, .int .u32 0, .int .u32 0, .int .u32 0, .int .u32 0, .int .u32 0, .int .u32 0, .int .u32 0, .int .u32 0, .int .u32 0, .int .u32 0, .int .u32 0, .int .u32 0, .int .u32 0, .int .u32 0, .int .u32 0, .int .u32 0, .int .u32 0, .int .u32 0, .int .u32 0, .int .u32 0, .int .u32 0, .int .u32 0, .int .u32 0, .int .u32 0] 140)) w.heap.size 140 (row32 [] 64) := Blk.new w _ _
  have hB : Below w.heap.size w (w.alloc (.cells #[.int .u32 0, .int .u32 0, .int .u32 0, .int .u32 0, .int .u32 0, .int .u32 0, .int .u32 0, .int .u32 0, .int .u32 0, .int .u32 0, .int .u32 0, .int .u32 0, .int .u32 0, .int .u32 0, .int .u32 0, .int .u32 0, .int .u32 0, .int .u32 0, .int .u32 0, .int .u32 0, .int .u32 0, .int .u32 0, .int .u32 0, .int .u32 0, .int .u32 0, .int .u32 0, .int .u32 0, .int .u32 0, .int .u32 0, .int .u32 0, .int .u32 0, .int .u32 0, .int .u32 0, .int .u32 0, .int .u32 0, .int .u32 0, .int .u32 0, .int .u32 0, .int .u32 0, .int .u32 0, .int .u32 0, .int .u32 0, .int .u32 0, .int .u32 0, .int .u32 0, .int .u32 0, .int .u32 0, .int .u32 0, .int .u32 0, .int .u32 0, .int .u32 0, .int .u32 0, .int .u32 0, .int .u32 0, .int .u32 0, .int .u32 0, .int .u32 0, .int .u32 0, .int .u32 0, .int .u32 0, .int .u32 0, .int .u32 0, .int .u32 0, .int .u32 0] 140)) := (Below.refl _ _).alloc (Nat.le_refl _) _
  have hst := stAt_run (P := Try.prog) hz 140 0 U (by rw [HL.out]; exact Nat.le_refl _) hone.out HI.out
  have hb4 := Lib.hid (setCells_heap w.heap.size _ U 0 _ _ hz (by rw [HL.out]; exact Nat.le_refl _))
  rw [splice_whole _ _ (by rw [HL.out]; rfl)] at hb4
  have hB4 := Lib.hid (setCells_below w.heap.size w.heap.size w U 0 _ hB (Nat.le_refl _))
  rw [HE.out] at hst
  clear hz hB
  go_enter Try.func78, Try.ntmps78
  go_wp2_with fail
  exact bodyPost_ret (res_cell rfl _ w.heap.size 140 U rfl hb4.out _ Try.underlying140 rfl HI.out) rfl ⟨by rw [HUE.out], hB4.out⟩
end Go.Proofs.Ytlbnibmcflmohaa
/- shallotref02.Compress: the state behind a block. -/
namespace Go.Proofs.Ytlbnibmcflmohaa
open Go.RowKit
attribute [local go_sem ↓] ldq_199 stq_199
theorem n32_compl2 (x : UInt32) : bits .xor .u32 (if IntKind.u32.signed = true then -1 else IntKind.u32.max) (n32 x) = n32 (~~~ x) := n32_compl x
attribute [local go_sem] n32_compl2 n32_xor n32_and n32_or n32_addm n32_add n32_compl n32_shr3 n32_shr10
def bp (l : List UInt8) (t : Nat) : Nat → UInt32
  | 0 => 0
  | i + 1 => bp l t i * 256 + (l.getD (4 * t + i) 0).toUInt32
theorem bp4 (l : List UInt8) (t : Nat) : bp l t 4 = Sh.be32 (l.getD (4 * t) 0) (l.getD (4 * t + 1) 0) (l.getD (4 * t + 2) 0) (l.getD (4 * t + 3) 0) := by
  apply UInt32.toNat_inj.1
  simp only [bp, Sh.be32, UInt32.toNat_add, UInt32.toNat_mul, UInt8.toNat_toUInt32, UInt32.toNat_ofNat', Nat.add_zero]
  have h0 := (l.getD (4 * t) 0).toNat_lt
  have h1 := (l.getD (4 * t + 1) 0).toNat_lt
  have h2 := (l.getD (4 * t + 2) 0).toNat_lt
  have h3 := (l.getD (4 * t + 3) 0).toNat_lt
  simp
theorem bp_step (b : UInt32) (x : UInt8) : n32 b * 256 % (4294967296 : Int) + (x.toNat : Int) = n32 (b * 256 + x.toUInt32) := by
  unfold n32
  have := x.toNat_lt
  have := b.toNat_lt
  rw [UInt32.toNat_add, UInt32.toNat_mul, UInt8.toNat_toUInt32]
  simp
  omega
def shiftI (R : Sh.St) (i : Nat) : List UInt32 := R.list.take (i + 1) ++ (R.list.drop i).take (7 - i)
theorem shiftI_set (R : Sh.St) (i : Nat) (h1 : 1 ≤ i) (h2 : i ≤ 7) (x : UInt32) (hx : R.list[i - 1]? = some x) : (shiftI R i).set i x = shiftI R (i - 1) := by
  obtain ⟨a, b, c, d, e, f, g, h⟩ := R
  obtain rfl | rfl | rfl | rfl | rfl | rfl | rfl : i = 1 ∨ i = 2 ∨ i = 3 ∨ i = 4 ∨ i = 5 ∨ i = 6 ∨ i = 7 := by omega
  all_goals (simp [Sh.St.list] at hx; subst hx; rfl)
theorem shiftI_get (R : Sh.St) (i : Nat) (h1 : 1 ≤ i) (h2 : i ≤ 7) : (shiftI R i)[i - 1]? = R.list[i - 1]? := by
  obtain ⟨a, b, c, d, e, f, g, h⟩ := R
  obtain rfl | rfl | rfl | rfl | rfl | rfl | rfl : i = 1 ∨ i = 2 ∨ i = 3 ∨ i = 4 ∨ i = 5 ∨ i = 6 ∨ i = 7 := by omega
  all_goals rfl
theorem shiftI_len (R : Sh.St) (i : Nat) (h2 : i ≤ 7) : (shiftI R i).length = 8 := by simp [shiftI, Sh.St.list]; omega
theorem row32_zero (l : List UInt32) (N t : Nat) (h : l.length = t) (hN : t < N) : (row32 l N).set t (.int .u32 0) = row32 l N := by
  subst h
  unfold row32
  rw [List.set_append_right _ _ (by rw [u32s_len]; exact Nat.le_refl _), u32s_len, Nat.sub_self]
  obtain ⟨k, hk⟩ : ∃ k, N - l.length = k + 1 := ⟨N - l.length - 1, by omega⟩
  rw [hk]
  simp [rep, List.replicate_succ]
theorem row32_setset (l : List UInt32) (N t : Nat) (h : l.length = t) (hN : t < N) (x : UInt32) : (row32 l N).set t (.int .u32 (n32 x)) = row32 (l ++ [x]) N := by
  subst h
  exact row32_set l N x hN
theorem rq_2 (x : UInt32) (w : World) (n : Nat) : Calls Try.prog 79 #[.int .u32 (n32 x), .int .i64 2] (w.drewN n) fun e w'' => e = .returned (.int .u32 (n32 (Sh.rotr x 2))) ∧ ∃ m, w'' = w.drewN m := Calls.quiet_of (rright_2 x (w.drewN n))
theorem rq_6 (x : UInt32) (w : World) (n : Nat) : Calls Try.prog 79 #[.int .u32 (n32 x), .int .i64 6] (w.drewN n) fun e w'' => e = .returned (.int .u32 (n32 (Sh.rotr x 6))) ∧ ∃ m, w'' = w.drewN m := Calls.quiet_of (rright_6 x (w.drewN n))
theorem rq_11 (x : UInt32) (w : World) (n : Nat) : Calls Try.prog 79 #[.int .u32 (n32 x), .int .i64 11] (w.drewN n) fun e w'' => e = .returned (.int .u32 (n32 (Sh.rotr x 11))) ∧ ∃ m, w'' = w.drewN m := Calls.quiet_of (rright_11 x (w.drewN n))
theorem rq_13 (x : UInt32) (w : World) (n : Nat) : Calls Try.prog 79 #[.int .u32 (n32 x), .int .i64 13] (w.drewN n) fun e w'' => e = .returned (.int .u32 (n32 (Sh.rotr x 13))) ∧ ∃ m, w'' = w.drewN m := Calls.quiet_of (rright_13 x (w.drewN n))
theorem rq_22 (x : UInt32) (w : World) (n : Nat) : Calls Try.prog 79 #[.int .u32 (n32 x), .int .i64 22] (w.drewN n) fun e w'' => e = .returned (.int .u32 (n32 (Sh.rotr x 22))) ∧ ∃ m, w'' = w.drewN m := Calls.quiet_of (rright_22 x (w.drewN n))
theorem rq_25 (x : UInt32) (w : World) (n : Nat) : Calls Try.prog 79 #[.int .u32 (n32 x), .int .i64 25] (w.drewN n) fun e w'' => e = .returned (.int .u32 (n32 (Sh.rotr x 25))) ∧ ∃ m, w'' = w.drewN m := Calls.quiet_of (rright_25 x (w.drewN n))
theorem u32s_set' (s : List UInt32) (i : Nat) (x : UInt32) : (u32s s).set i (.int .u32 (n32 x)) = u32s (s.set i x) := by unfold u32s; rw [List.map_set]; rfl
theorem int_pred (i : Nat) (h : 0 < i) : Value.int .i64 ((i : Int) - 1) = .int .i64 ((i - 1 : Nat) : Int) := by rw [show (i : Int) - 1 = ((i - 1 : Nat) : Int) by omega]
def addI (s R : Sh.St) (i : Nat) : List UInt32 := List.zipWith (· + ·) (s.list.take i) (R.list.take i) ++ s.list.drop i
theorem addI_get (s R : Sh.St) (i : Nat) (h : i < 8) : (addI s R i)[i]? = s.list[i]? := by
  obtain rfl | rfl | rfl | rfl | rfl | rfl | rfl | rfl : i = 0 ∨ i = 1 ∨ i = 2 ∨ i = 3 ∨ i = 4 ∨ i = 5 ∨ i = 6 ∨ i = 7 := by omega
  all_goals rfl
theorem addI_set (s R : Sh.St) (i : Nat) (x y : UInt32) (hx : s.list[i]? = some x) (hy : R.list[i]? = some y) : (addI s R i).set i (x + y) = addI s R (i + 1) := by
  have h : i < 8 := (List.getElem?_eq_some_iff.1 hx).1
  obtain ⟨a, b, c, d, e, f, g, h'⟩ := s
  obtain ⟨a', b', c', d', e', f', g', h''⟩ := R
  obtain rfl | rfl | rfl | rfl | rfl | rfl | rfl | rfl : i = 0 ∨ i = 1 ∨ i = 2 ∨ i = 3 ∨ i = 4 ∨ i = 5 ∨ i = 6 ∨ i = 7 := by omega
  all_goals (simp [Sh.St.list] at hx hy; subst hx; subst hy; rfl)
structure RIn (w : World) (s : Sh.St) (g : Nat) (wr : World) : Prop where
  st : Blk wr w.heap.size 95 (st8 s)
  out : Blk wr (w.heap.size + 1) 95 (u32s [0, 0, 0, 0, 0, 0, 0, 0])
  ks : Blk wr g 140 (u32s Sh.ks)
  big : w.heap.size + 2 < g
  bel : Below w.heap.size w wr
theorem RIn.far {w : World} {s : Sh.St} {g : Nat} {wr : World} (h : RIn w s g wr) {p : Addr} (h1 : w.heap.size + 2 ≤ p.block) (h2 : p.block ≠ g) (u : Value) : RIn w s g (wr.setCell p u) :=
  ⟨h.st.far (by omega) u, h.out.far (by omega) u, h.ks.far (by omega) u, h.big, h.bel.setCell (by omega) u⟩
theorem RIn.drewN {w : World} {s : Sh.St} {g : Nat} {wr : World} (h : RIn w s g wr) (n : Nat) : RIn w s g (wr.drewN n) := ⟨h.st.drewN n, h.out.drewN n, h.ks.drewN n, h.big, Below.drewN' h.bel n⟩
theorem RIn.drew {w : World} {s : Sh.St} {g : Nat} {wr : World} (h : RIn w s g wr) : RIn w s g wr.drew := ⟨h.st.drew, h.out.drew, h.ks.drew, h.big, h.bel.drew⟩
set_option maxRecDepth 100000 in
set_option maxHeartbeats 4000000 in
theorem rcompress_any (s : Sh.St) (A : Option Addr) (c : Nat) (l : List UInt8) (w : World) (h : Rd w A 64 (u8s l)) :
    Calls Try.prog 64 #[.agg (st8 s).toArray, .slice A 64 c] w fun e w' => e = .returned (.agg (st8 (Sh.comp s l)).toArray) ∧ Below w.heap.size w w' := by
  have HTB := Lib.hid rtable_any
  have HV1 : Hid ((u32s Sh.ks).length = 64) := rfl
  have HVo : Hid (∀ v ∈ u32s Sh.ks, v.oneCell' = true) := u32s_one _
  have HVi : Hid ((Try.prog.info? 140).map (·.size) = some (u32s Sh.ks).length) := hd199
  obtain ⟨V, hV⟩ : ∃ V, V = u32s Sh.ks := ⟨_, rfl⟩
  rw [← hV] at HTB HV1 HVo HVi
  have HVE := Lib.hid hV
  have HLL := Lib.hid h.len
  have HR := Lib.hid h
  clear hV h
  unfold st8
  go_enter Try.func64, Try.ntmps64
  go_wp2_with (first
    | (go_at_call 78; (with_reducible refine (HTB.out _).mono ?_); rintro e w1 ⟨rfl, hB1⟩)
    | (refine wpList_store_all rfl 140 (.tmp 6) (.tmp 18) rfl w1.heap.size V (by rfl) (by rfl) 140 (row32 [] 64) (by exact Blk.new' rfl rfl) HVi.out HVo.out (by rw [HV1.out]; rfl) ?_; intro w2 hb2 ho2
       have hs1 : w.heap.size + 2 < w1.heap.size := by { have h5 := hB1.size; simp at h5; omega }
       have HS2 := Lib.hid (ho2.blk (((((Blk.new' (w := w) (cs := st8 s) (t := 95) rfl rfl).alloc _).alloc _).below hB1 (by simp <;> omega)).alloc _) (by omega))
       have HO2 := Lib.hid (ho2.blk (((((Blk.new' (by simp) rfl : Blk _ (w.heap.size + 1) 95 (u32s [0, 0, 0, 0, 0, 0, 0, 0])).alloc _)).below hB1 (by simp <;> omega)).alloc _) (by omega))
       have HW2 := Lib.hid (ho2.blk ((((Blk.new' (by simp) rfl : Blk _ (w.heap.size + 2) 140 (row32 [] 64))).below hB1 (by simp <;> omega)).alloc _) (by omega))
       have hbz : Below w.heap.size w w1 := ((((Below.refl _ w).alloc (Nat.le_refl _) _).alloc (by simp) _).alloc (by simp <;> omega) _).trans (hB1.mono (by simp <;> omega))
       have HB2 := Lib.hid (ho2.below (hbz.alloc (by omega) _) (by omega) (by simp <;> omega))
       have hs2 : w2.heap.size = w1.heap.size + 1 := by { rw [ho2.size]; simp }
       have HSZ := Lib.hid hs2
       have d0 := HS2.out.cell 0
       have d1 := HS2.out.cell 1
       have d2 := HS2.out.cell 2
       have d3 := HS2.out.cell 3
       have d4 := HS2.out.cell 4
       have d5 := HS2.out.cell 5
       have d6 := HS2.out.cell 6
       have d7 := HS2.out.cell 7
       simp only [st8, List.getElem?_cons_zero, List.getElem?_cons_succ] at d0 d1 d2 d3 d4 d5 d6 d7
       clear hs2 ho2 hbz))
  have HRI : Hid (RIn w s w1.heap.size (w2.alloc (.cells (st8 s).toArray 95))) := ⟨HS2.out.alloc _, HO2.out.alloc _, by rw [← HVE.out]; exact hb2.alloc _, hs1, HB2.out.alloc (by have := HSZ.out; omega) _⟩
  have HRW : Hid (Blk (w2.alloc (.cells (st8 s).toArray 95)) (w.heap.size + 2) 140 (row32 (Sh.words l 0) 64)) := HW2.out.alloc _
  have HRV : Hid (Blk (w2.alloc (.cells (st8 s).toArray 95)) w2.heap.size 95 (st8 s)) := Blk.new' rfl rfl
  have hgv : w1.heap.size < w2.heap.size := by have := HSZ.out; omega
  clear d0 d1 d2 d3 d4 d5 d6 d7 HS2 HO2 HW2 HB2 hb2 hB1 HSZ
  generalize w1.heap.size = g at *
  generalize w2.heap.size = gv at *
  go_loopg [8] 64 (fun k q wr => ∃ (t : Nat) (R : Sh.St), t ≤ 64 ∧ k = 64 - t ∧ q = .int .i64 t ∧ Hid (Sh.rounds l s t = R) ∧ RIn w s g wr ∧ Blk wr (w.heap.size + 2) 140 (row32 (Sh.words l t) 64) ∧ Blk wr gv 95 (st8 R))
  case atStart => exact ⟨0, s, by omega, rfl, rfl, rfl, HRI.out, HRW.out, HRV.out⟩
  case round =>
    clear HRI HRW HRV
    obtain ⟨t, R, ht, hgk, rfl, HRR, hI, hw, hv⟩ := hrel
    have HGK := Lib.hid hgk
    clear hgk
    by_cases hlt : t < 64
    · have hlt2 : (t : Int) < 64 := by omega
      have HI := Lib.hid hI
      have HW := Lib.hid hw
      have HVV := Lib.hid hv
      have HWL : Hid ((Sh.words l t).length = t) := Sh.words_len l t
      have hw2 := hw.lt
      have hrl : (row32 (Sh.words l t) 64).length = 64 := row32_len _ _ (by rw [HWL.out]; omega)
      have HRWL := Lib.hid hrl
      obtain ⟨wo, hwo⟩ : ∃ wo : World, wo = wr := ⟨_, rfl⟩
      subst hwo
      clear hI hw hv hrl
      by_cases h16 : t < 16
      · have h162 : (t : Int) < 16 := by omega
        go_wp2_with fail
        go_loopg [9] 4 (fun k q wr => ∃ i : Nat, i ≤ 4 ∧ k = 4 - i ∧ q = .int .i64 i ∧ RIn w s g wr ∧ Blk wr (w.heap.size + 2) 140 ((row32 (Sh.words l t) 64).set t (.int .u32 (n32 (bp l t i)))) ∧ Blk wr gv 95 (st8 R))
        case atStart => exact ⟨0, by omega, rfl, rfl, HI.out, by rw [show Value.int .u32 (n32 (bp l t 0)) = .int .u32 0 from rfl, row32_zero _ _ _ HWL.out (by omega)]; exact HW.out, HVV.out⟩
        case round =>
          clear HI HW HVV
          obtain ⟨i, hi, hgk, rfl, hI, hw, hv⟩ := hrel
          have HGK2 := Lib.hid hgk
          clear hgk
          by_cases hi4 : i < 4
          · have hi42 : (i : Int) < 4 := by omega
            obtain ⟨m, hm⟩ : ∃ m, m = 4 * t + i := ⟨_, rfl⟩
            have hmi : 4 * (t : Int) + (i : Int) = (m : Int) := by omega
            have hm0 : (0 : Int) ≤ (m : Int) := by omega
            have hm64 : (m : Int) < 64 := by omega
            obtain ⟨b, off, x, rfl, hbl, HX, cx⟩ := (HR.out.below hI.bel).u8 (k := m) (by omega)
            have HBS : Hid (bp l t (i + 1) = bp l t i * 256 + x.toUInt32) := by
              show bp l t i * 256 + (l.getD (4 * t + i) 0).toUInt32 = _
              rw [← hm, List.getD_eq_getElem?_getD, HX.out]
              rfl
            obtain ⟨B, hB⟩ : ∃ B, B = bp l t i := ⟨_, rfl⟩
            rw [← hB] at hw HBS
            have cw : wr.cell? ⟨w.heap.size + 1 + 1, t, none⟩ = some (.int .u32 (n32 B)) := by
              show wr.cell? ⟨w.heap.size + 2, t, none⟩ = _
              rw [hw.cell, List.getElem?_set_self (by rw [HRWL.out]; exact hlt)]
            have fw : wr.frozen? ⟨w.heap.size + 1 + 1, t, none⟩ = false := hw.frozen t
            have HSB := Lib.hid (bp_step B x)
            have hxb := x.toNat_lt
            have hnb := n32_bound B
            have hlw := hw.lt
            have HI2 := Lib.hid ((hI.far (p := ⟨w.heap.size + 1 + 1, t, none⟩) (Nat.le_refl _) (by have := hI.big; show w.heap.size + 1 + 1 ≠ g; omega) (.int .u32 (n32 (B * 256 + x.toUInt32)))).drew)
            have HW2 : Hid (Blk (wr.setCell ⟨w.heap.size + 1 + 1, t, none⟩ (.int .u32 (n32 (B * 256 + x.toUInt32)))).drew (w.heap.size + 2) 140 ((row32 (Sh.words l t) 64).set t (.int .u32 (n32 (bp l t (i + 1)))))) := by
              have h5 := (hw.set_ t (.int .u32 (n32 (B * 256 + x.toUInt32)))).drew
              rw [List.set_set, ← HBS.out] at h5
              rw [← HBS.out]
              exact h5
            have HV2 := Lib.hid ((hv.far (p := ⟨w.heap.size + 1 + 1, t, none⟩) (by have := hI.big; show gv ≠ w.heap.size + 1 + 1; omega) (.int .u32 (n32 (B * 256 + x.toUInt32)))).drew)
            have hbig := hI.big
            clear hI hw hv hB hm
            go_wp2_with fail
            go_region
            rw [HSB.out]
            obtain ⟨w5, hw5⟩ : ∃ w5, w5 = (wr.setCell ⟨w.heap.size + 1 + 1, t, none⟩ (.int .u32 (n32 (B * 256 + x.toUInt32)))).drew := ⟨_, rfl⟩
            rw [← hw5] at HI2 HW2 HV2 ⊢
            clear hw5 cw fw cx
            go_wp2_with fail
            go_roundg (4 - (i + 1))
            case measure => have := HGK2.out; omega
            case rel => exact ⟨i + 1, by omega, rfl, by go_num, HI2.out, HW2.out, HV2.out⟩
          · obtain rfl : i = 4 := by omega
            have hi42 : ¬ ((4 : Nat) : Int) < 4 := by omega
            have hwn : Sh.words l (t + 1) = Sh.words l t ++ [bp l t 4] := by rw [Sh.words, if_pos h16, bp4]
            have HW5 := Lib.hid hw
            rw [row32_setset _ _ _ HWL.out (by omega), ← hwn] at HW5
            have HI5 := Lib.hid hI
            have HV5 := Lib.hid hv
            obtain ⟨w5, hw5⟩ : ∃ w5 : World, w5 = wr := ⟨_, rfl⟩
            subst hw5
            clear HGK2 hwn hI hw hv
            obtain ⟨x, hx⟩ := words_at l (t + 1) t (by omega)
            obtain ⟨k, hk⟩ : ∃ k, Sh.ks[t]? = some k := ⟨_, List.getElem?_eq_getElem (by exact hlt)⟩
            have HX64 : Hid ((Sh.words l 64)[t]? = some x) := (words_pre l t 64 hlt).trans hx
            have HS := Lib.hid (rounds_step HRR.out hlt hk HX64.out)
            have HXT := Lib.hid hx
            have HKT := Lib.hid hk
            obtain ⟨a, b', c', d, e', f, g', h'⟩ := R
            have ht0 : (0 : Int) ≤ (t : Int) := by omega
            clear hx hk
            have cw5 : w5.cell? ⟨w.heap.size + 1 + 1, t, none⟩ = some (.int .u32 (n32 x)) := (HW5.out.cell t).trans (row32_get _ 64 _ _ HXT.out)
            have ck5 : w5.cell? ⟨g, t, none⟩ = some (.int .u32 (n32 k)) := by rw [HI5.out.ks.cell]; exact u32s_get HKT.out
            have v05 := HV5.out.cell 0
            have v15 := HV5.out.cell 1
            have v25 := HV5.out.cell 2
            have v35 := HV5.out.cell 3
            have v45 := HV5.out.cell 4
            have v55 := HV5.out.cell 5
            have v65 := HV5.out.cell 6
            have v75 := HV5.out.cell 7
            simp only [st8, List.getElem?_cons_zero, List.getElem?_cons_succ] at v05 v15 v25 v35 v45 v55 v65 v75
            repeat (first | go_values | go_skip | go_guarded | go_step | go_upon | go_back)
            go_quiet ((go_at_call 79; (first | (with_reducible exact rq_6 _ _ _) | (with_reducible exact rq_11 _ _ _) | (with_reducible exact rq_25 _ _ _) | fail)))
            have HI6 := Lib.hid (HI5.out.drewN nq)
            have HW6 : Hid (Blk (w5.drewN nq) (w.heap.size + 2) 140 (row32 (Sh.words l (t + 1)) 64)) := HW5.out.drewN nq
            have HV6 := Lib.hid (HV5.out.drewN nq)
            clear cw5 ck5 v05 v15 v25 v35 v45 v55 v65 v75
            obtain ⟨w6, hw6⟩ : ∃ w6, w6 = w5.drewN nq := ⟨_, rfl⟩
            rw [← hw6] at HI6 HW6 HV6 ⊢
            clear hw6 HI5 HW5 HV5 nq
            have cw6 : w6.cell? ⟨w.heap.size + 1 + 1, t, none⟩ = some (.int .u32 (n32 x)) := (HW6.out.cell t).trans (row32_get _ 64 _ _ HXT.out)
            have ck6 : w6.cell? ⟨g, t, none⟩ = some (.int .u32 (n32 k)) := by rw [HI6.out.ks.cell]; exact u32s_get HKT.out
            have v06 := HV6.out.cell 0
            have v16 := HV6.out.cell 1
            have v26 := HV6.out.cell 2
            have v36 := HV6.out.cell 3
            have v46 := HV6.out.cell 4
            have v56 := HV6.out.cell 5
            have v66 := HV6.out.cell 6
            have v76 := HV6.out.cell 7
            simp only [st8, List.getElem?_cons_zero, List.getElem?_cons_succ] at v06 v16 v26 v36 v46 v56 v66 v76
            repeat (first | go_values | go_skip | go_guarded | go_step | go_upon | go_back)
            go_quiet ((go_at_call 79; (first | (with_reducible exact rq_2 _ _ _) | (with_reducible exact rq_13 _ _ _) | (with_reducible exact rq_22 _ _ _) | fail)))
            have HI7 := Lib.hid (HI6.out.drewN nq)
            have HW7 : Hid (Blk (w6.drewN nq) (w.heap.size + 2) 140 (row32 (Sh.words l (t + 1)) 64)) := HW6.out.drewN nq
            have HV7 := Lib.hid (HV6.out.drewN nq)
            clear cw6 ck6 v06 v16 v26 v36 v46 v56 v66 v76
            obtain ⟨w7, hw7⟩ : ∃ w7, w7 = w6.drewN nq := ⟨_, rfl⟩
            rw [← hw7] at HI7 HW7 HV7 ⊢
            clear hw7 HI6 HW6 HV6 nq
            repeat (first | go_values | go_skip | go_guarded | go_step | go_upon | go_back)
            obtain ⟨t1, ht1⟩ : ∃ t1, t1 = h' + (Sh.rotr e' 6 ^^^ Sh.rotr e' 11 ^^^ Sh.rotr e' 25) + (e' &&& f ^^^ ~~~ e' &&& g') + k + x := ⟨_, rfl⟩
            obtain ⟨t2, ht2⟩ : ∃ t2, t2 = (Sh.rotr a 2 ^^^ Sh.rotr a 13 ^^^ Sh.rotr a 22) + (a &&& b' ^^^ a &&& c' ^^^ b' &&& c') := ⟨_, rfl⟩
            rw [← ht1, ← ht2]
            have HT1 := Lib.hid ht1
            have HT2 := Lib.hid ht2
            have HBG : Hid (w.heap.size + 2 < g) := HI7.out.big
            clear ht1 ht2
            go_loopg [16] 7 (fun kk q wr => ∃ i : Nat, i ≤ 7 ∧ kk = i ∧ q = .int .i64 i ∧ RIn w s g wr ∧ Blk wr (w.heap.size + 2) 140 (row32 (Sh.words l (t + 1)) 64) ∧ Blk wr gv 95 (u32s (shiftI ⟨a, b', c', d, e', f, g', h'⟩ i)))
            case atStart => exact ⟨7, by omega, rfl, rfl, HI7.out, HW7.out, HV7.out⟩
            case round =>
              clear HI7 HW7 HV7
              obtain ⟨i, hi, hgk, rfl, hI, hw, hv⟩ := hrel
              have HGK3 := Lib.hid hgk
              have hbg := HBG.out
              clear hgk
              by_cases hi0 : 0 < i
              · have hi02 : (0 : Int) < (i : Int) := by omega
                have hp0 : (0 : Int) ≤ (i : Int) - 1 := by omega
                have hp8 : (i : Int) - 1 < 8 := by omega
                have hp1 : (1 : Int) ≤ (i : Int) := by omega
                have hi8 : (i : Int) < 8 := by omega
                have hi00 : (0 : Int) ≤ (i : Int) := by omega
                obtain ⟨y, hy⟩ : ∃ y, (Sh.St.mk a b' c' d e' f g' h').list[i - 1]? = some y := ⟨_, List.getElem?_eq_getElem (by simp [Sh.St.list]; omega)⟩
                have HSS := Lib.hid (shiftI_set _ i (by omega) hi y hy)
                have cy : wr.cell? ⟨gv, i - 1, none⟩ = some (.int .u32 (n32 y)) := by rw [hv.cell]; exact u32s_get ((shiftI_get _ i (by omega) hi).trans hy)
                obtain ⟨z, hz⟩ : ∃ z, (u32s (shiftI ⟨a, b', c', d, e', f, g', h'⟩ i))[i]? = some z := ⟨_, List.getElem?_eq_getElem (by rw [u32s_len, shiftI_len _ _ hi]; omega)⟩
                have cz := (hv.cell i).trans hz
                have fz := hv.frozen i
                have hgl := hv.lt
                have HIa := Lib.hid (hI.far (p := ⟨gv, i, none⟩) (by show w.heap.size + 2 ≤ gv; omega) (by show gv ≠ g; omega) (.int .u32 (n32 y)))
                have HWa := Lib.hid (hw.far (p := ⟨gv, i, none⟩) (by show w.heap.size + 2 ≠ gv; omega) (.int .u32 (n32 y)))
                have HVa := Lib.hid (hv.set_ i (.int .u32 (n32 y)))
                rw [u32s_set', HSS.out] at HVa
                clear hI hw hv hy hz
                repeat (first | go_values | go_skip | go_guarded | go_step | go_upon | go_back)
                go_roundg (i - 1)
                case measure => rw [HGK3.out]; exact Nat.sub_lt hi0 (by decide)
                case rel => exact ⟨i - 1, by omega, rfl, int_pred i hi0, HIa.out, HWa.out, HVa.out⟩
              · obtain rfl : i = 0 := by omega
                have hi02 : ¬ (0 : Int) < ((0 : Nat) : Int) := by omega
                have c0 : wr.cell? ⟨gv, 0, none⟩ = some (.int .u32 (n32 a)) := (hv.cell 0).trans rfl
                have c4 : wr.cell? ⟨gv, 4, none⟩ = some (.int .u32 (n32 d)) := (hv.cell 4).trans rfl
                have f0 := hv.frozen 0
                have f4 := hv.frozen 4
                have hgl := hv.lt
                have HIa := Lib.hid ((hI.far (p := ⟨gv, 4, none⟩) (by show w.heap.size + 2 ≤ gv; omega) (by show gv ≠ g; omega) (.int .u32 (n32 (d + t1)))).far (p := ⟨gv, 0, none⟩) (by show w.heap.size + 2 ≤ gv; omega) (by show gv ≠ g; omega) (.int .u32 (n32 (t1 + t2))))
                have HWa := Lib.hid ((hw.far (p := ⟨gv, 4, none⟩) (by show w.heap.size + 2 ≠ gv; omega) (.int .u32 (n32 (d + t1)))).far (p := ⟨gv, 0, none⟩) (by show w.heap.size + 2 ≠ gv; omega) (.int .u32 (n32 (t1 + t2))))
                have HVa := Lib.hid ((hv.set_ 4 (.int .u32 (n32 (d + t1)))).set_ 0 (.int .u32 (n32 (t1 + t2))))
                have HEE : Hid (u32s (((shiftI ⟨a, b', c', d, e', f, g', h'⟩ 0).set 4 (d + t1)).set 0 (t1 + t2)) = st8 (Sh.rnd ⟨a, b', c', d, e', f, g', h'⟩ k x)) := by show _ = _; rw [HT1.out, HT2.out]; rfl
                rw [u32s_set', u32s_set', HEE.out] at HVa
                clear hI hw hv
                repeat (first | go_values | go_skip | go_guarded | go_step | go_upon | go_back)
                go_roundg (64 - (t + 1))
                case measure => have := HGK.out; omega
                case rel => exact ⟨t + 1, _, by omega, rfl, by go_num, HS.out, HIa.out, HWa.out, HVa.out⟩
      · have h162 : ¬ (t : Int) < 16 := by omega
        obtain ⟨x2, h2⟩ := words_at l t (t - 2) (by omega)
        obtain ⟨x7, h7⟩ := words_at l t (t - 7) (by omega)
        obtain ⟨x15, h15⟩ := words_at l t (t - 15) (by omega)
        obtain ⟨x16, h16'⟩ := words_at l t (t - 16) (by omega)
        have c2 : wo.cell? ⟨w.heap.size + 1 + 1, t - 2, none⟩ = some (.int .u32 (n32 x2)) := (HW.out.cell (t - 2)).trans (row32_get _ 64 _ _ h2)
        have c15 : wo.cell? ⟨w.heap.size + 1 + 1, t - 15, none⟩ = some (.int .u32 (n32 x15)) := (HW.out.cell (t - 15)).trans (row32_get _ 64 _ _ h15)
        have c7 : wo.cell? ⟨w.heap.size + 1 + 1, t - 7, none⟩ = some (.int .u32 (n32 x7)) := (HW.out.cell (t - 7)).trans (row32_get _ 64 _ _ h7)
        have c16 : wo.cell? ⟨w.heap.size + 1 + 1, t - 16, none⟩ = some (.int .u32 (n32 x16)) := (HW.out.cell (t - 16)).trans (row32_get _ 64 _ _ h16')
        have HWM := Lib.hid (words_more (by omega) h2 h7 h15 h16')
        have j2 : (2 : Int) ≤ (t : Int) := by omega
        have j15 : (15 : Int) ≤ (t : Int) := by omega
        clear h2 h7 h15 h16'
        repeat (first | go_values | go_skip | go_guarded | go_step | go_upon | go_back)
        go_quiet (fail)
        have HI4 := Lib.hid (HI.out.drewN nq)
        have HW4 : Hid (Blk (wo.drewN nq) (w.heap.size + 2) 140 (row32 (Sh.words l t) 64)) := HW.out.drewN nq
        have HV4 := Lib.hid (HVV.out.drewN nq)
        have e7 : (wo.drewN nq).cell? ⟨w.heap.size + 1 + 1, t - 7, none⟩ = some (.int .u32 (n32 x7)) := c7
        have e16 : (wo.drewN nq).cell? ⟨w.heap.size + 1 + 1, t - 16, none⟩ = some (.int .u32 (n32 x16)) := c16
        clear c2 c15 c7 c16
        obtain ⟨w4, hw4⟩ : ∃ w4, w4 = wo.drewN nq := ⟨_, rfl⟩
        rw [← hw4] at HI4 HW4 HV4 e7 e16 ⊢
        clear hw4 nq HI HW HVV
        obtain ⟨z, hz⟩ : ∃ z, (row32 (Sh.words l t) 64)[t]? = some z := ⟨_, List.getElem?_eq_getElem (by rw [HRWL.out]; exact hlt)⟩
        have ez : w4.cell? ⟨w.heap.size + 1 + 1, t, none⟩ = some z := (HW4.out.cell t).trans hz
        have fz : w4.frozen? ⟨w.heap.size + 1 + 1, t, none⟩ = false := HW4.out.frozen t
        have ht0 : (0 : Int) ≤ (t : Int) := by omega
        have j7 : (7 : Int) ≤ (t : Int) := by omega
        have j16 : (16 : Int) ≤ (t : Int) := by omega
        clear hz
        repeat (first | go_values | go_skip | go_guarded | go_step | go_upon | go_back)
        have a7 : (0 : Int) ≤ (t : Int) - 7 := by omega
        have b7 : (t : Int) - 7 < 64 := by omega
        have a16 : (0 : Int) ≤ (t : Int) - 16 := by omega
        have b16' : (t : Int) - 16 < 64 := by omega
        have n7 : ((t : Int) - 7).toNat = t - 7 := by omega
        have n16 : ((t : Int) - 16).toNat = t - 16 := by omega
        have p7 : IntKind.i64.wrap ((t : Int) - 7) = (t : Int) - 7 := IntWalk.i64_in _ (by omega)
        have p16 : IntKind.i64.wrap ((t : Int) - 16) = (t : Int) - 16 := IntWalk.i64_in _ (by omega)
        go_region_held3 (fun W' => W'.cell? ⟨w.heap.size + 1 + 1, t - 7, none⟩ = some (.int .u32 (n32 x7)) ∧ W'.cell? ⟨w.heap.size + 1 + 1, t - 16, none⟩ = some (.int .u32 (n32 x16)))
          (first | exact ⟨e7, e16⟩ | (refine ⟨?_, ?_⟩ <;> (rw [World.cell?_setCell_other _ _ _ _ (by intro e; injection e with _ e; omega)]; first | exact e7 | exact e16)))
          (first | (go_at_call 79; (with_reducible refine (rright_17 _ _).mono ?_); rintro e w' ⟨rfl, q17, rfl⟩) | (go_at_call 79; (with_reducible refine (rright_19 _ _).mono ?_); rintro e w' ⟨rfl, q19, rfl⟩) | (go_at_call 79; (with_reducible refine (rright_7 _ _).mono ?_); rintro e w' ⟨rfl, q7, rfl⟩) | (go_at_call 79; (with_reducible refine (rright_18 _ _).mono ?_); rintro e w' ⟨rfl, q18, rfl⟩))
        obtain ⟨v, hv⟩ : ∃ v, v = (Sh.rotr x2 17 ^^^ Sh.rotr x2 19 ^^^ x2 >>> 10) + x7 + (Sh.rotr x15 7 ^^^ Sh.rotr x15 18 ^^^ x15 >>> 3) + x16 := ⟨_, rfl⟩
        rw [← hv]
        have hbig := HI4.out.big
        have HI5 := Lib.hid ((HI4.out.drewN (1 + q17 + q19 + q7 + q18)).far (p := ⟨w.heap.size + 1 + 1, t, none⟩) (Nat.le_refl _) (by show w.heap.size + 1 + 1 ≠ g; omega) (.int .u32 (n32 v)))
        have HW5 : Hid (Blk ((w4.drewN (1 + q17 + q19 + q7 + q18)).setCell ⟨w.heap.size + 1 + 1, t, none⟩ (.int .u32 (n32 v))) (w.heap.size + 2) 140 (row32 (Sh.words l (t + 1)) 64)) := by
          have h5 := (HW4.out.drewN (1 + q17 + q19 + q7 + q18)).set_ t (.int .u32 (n32 v))
          rw [row32_setset _ _ _ HWL.out (by omega), hv] at h5
          rw [HWM.out, hv]
          exact h5
        have HV5 := Lib.hid ((HV4.out.drewN (1 + q17 + q19 + q7 + q18)).far (p := ⟨w.heap.size + 1 + 1, t, none⟩) (by show gv ≠ w.heap.size + 1 + 1; omega) (.int .u32 (n32 v)))
        clear e7 e16 ez fz a7 b7 a16 b16' n7 n16 p7 p16 hv HI4 HW4 HV4 hbig j2 j15 j7 j16 ht0
        obtain ⟨w5, hw5⟩ : ∃ w5, w5 = (w4.drewN (1 + q17 + q19 + q7 + q18)).setCell ⟨w.heap.size + 1 + 1, t, none⟩ (.int .u32 (n32 v)) := ⟨_, rfl⟩
        rw [← hw5] at HI5 HW5 HV5 ⊢
        clear hw5 HWM
        obtain ⟨x, hx⟩ := words_at l (t + 1) t (by omega)
        obtain ⟨k, hk⟩ : ∃ k, Sh.ks[t]? = some k := ⟨_, List.getElem?_eq_getElem (by exact hlt)⟩
        have HX64 : Hid ((Sh.words l 64)[t]? = some x) := (words_pre l t 64 hlt).trans hx
        have HS := Lib.hid (rounds_step HRR.out hlt hk HX64.out)
        have HXT := Lib.hid hx
        have HKT := Lib.hid hk
        obtain ⟨a, b', c', d, e', f, g', h'⟩ := R
        have ht0 : (0 : Int) ≤ (t : Int) := by omega
        clear hx hk
        have cw5 : w5.cell? ⟨w.heap.size + 1 + 1, t, none⟩ = some (.int .u32 (n32 x)) := (HW5.out.cell t).trans (row32_get _ 64 _ _ HXT.out)
        have ck5 : w5.cell? ⟨g, t, none⟩ = some (.int .u32 (n32 k)) := by rw [HI5.out.ks.cell]; exact u32s_get HKT.out
        have v05 := HV5.out.cell 0
        have v15 := HV5.out.cell 1
        have v25 := HV5.out.cell 2
        have v35 := HV5.out.cell 3
        have v45 := HV5.out.cell 4
        have v55 := HV5.out.cell 5
        have v65 := HV5.out.cell 6
        have v75 := HV5.out.cell 7
        simp only [st8, List.getElem?_cons_zero, List.getElem?_cons_succ] at v05 v15 v25 v35 v45 v55 v65 v75
        repeat (first | go_values | go_skip | go_guarded | go_step | go_upon | go_back)
        go_quiet ((go_at_call 79; (first | (with_reducible exact rq_6 _ _ _) | (with_reducible exact rq_11 _ _ _) | (with_reducible exact rq_25 _ _ _) | fail)))
        have HI6 := Lib.hid (HI5.out.drewN nq)
        have HW6 : Hid (Blk (w5.drewN nq) (w.heap.size + 2) 140 (row32 (Sh.words l (t + 1)) 64)) := HW5.out.drewN nq
        have HV6 := Lib.hid (HV5.out.drewN nq)
        clear cw5 ck5 v05 v15 v25 v35 v45 v55 v65 v75
        obtain ⟨w6, hw6⟩ : ∃ w6, w6 = w5.drewN nq := ⟨_, rfl⟩
        rw [← hw6] at HI6 HW6 HV6 ⊢
        clear hw6 HI5 HW5 HV5 nq
        have cw6 : w6.cell? ⟨w.heap.size + 1 + 1, t, none⟩ = some (.int .u32 (n32 x)) := (HW6.out.cell t).trans (row32_get _ 64 _ _ HXT.out)
        have ck6 : w6.cell? ⟨g, t, none⟩ = some (.int .u32 (n32 k)) := by rw [HI6.out.ks.cell]; exact u32s_get HKT.out
        have v06 := HV6.out.cell 0
        have v16 := HV6.out.cell 1
        have v26 := HV6.out.cell 2
        have v36 := HV6.out.cell 3
        have v46 := HV6.out.cell 4
        have v56 := HV6.out.cell 5
        have v66 := HV6.out.cell 6
        have v76 := HV6.out.cell 7
        simp only [st8, List.getElem?_cons_zero, List.getElem?_cons_succ] at v06 v16 v26 v36 v46 v56 v66 v76
        repeat (first | go_values | go_skip | go_guarded | go_step | go_upon | go_back)
        go_quiet ((go_at_call 79; (first | (with_reducible exact rq_2 _ _ _) | (with_reducible exact rq_13 _ _ _) | (with_reducible exact rq_22 _ _ _) | fail)))
        have HI7 := Lib.hid (HI6.out.drewN nq)
        have HW7 : Hid (Blk (w6.drewN nq) (w.heap.size + 2) 140 (row32 (Sh.words l (t + 1)) 64)) := HW6.out.drewN nq
        have HV7 := Lib.hid (HV6.out.drewN nq)
        clear cw6 ck6 v06 v16 v26 v36 v46 v56 v66 v76
        obtain ⟨w7, hw7⟩ : ∃ w7, w7 = w6.drewN nq := ⟨_, rfl⟩
        rw [← hw7] at HI7 HW7 HV7 ⊢
        clear hw7 HI6 HW6 HV6 nq
        repeat (first | go_values | go_skip | go_guarded | go_step | go_upon | go_back)
        obtain ⟨t1, ht1⟩ : ∃ t1, t1 = h' + (Sh.rotr e' 6 ^^^ Sh.rotr e' 11 ^^^ Sh.rotr e' 25) + (e' &&& f ^^^ ~~~ e' &&& g') + k + x := ⟨_, rfl⟩
        obtain ⟨t2, ht2⟩ : ∃ t2, t2 = (Sh.rotr a 2 ^^^ Sh.rotr a 13 ^^^ Sh.rotr a 22) + (a &&& b' ^^^ a &&& c' ^^^ b' &&& c') := ⟨_, rfl⟩
        rw [← ht1, ← ht2]
        have HT1 := Lib.hid ht1
        have HT2 := Lib.hid ht2
        have HBG : Hid (w.heap.size + 2 < g) := HI7.out.big
        clear ht1 ht2
        go_loopg [16] 7 (fun kk q wr => ∃ i : Nat, i ≤ 7 ∧ kk = i ∧ q = .int .i64 i ∧ RIn w s g wr ∧ Blk wr (w.heap.size + 2) 140 (row32 (Sh.words l (t + 1)) 64) ∧ Blk wr gv 95 (u32s (shiftI ⟨a, b', c', d, e', f, g', h'⟩ i)))
        case atStart => exact ⟨7, by omega, rfl, rfl, HI7.out, HW7.out, HV7.out⟩
        case round =>
          clear HI7 HW7 HV7
          obtain ⟨i, hi, hgk, rfl, hI, hw, hv⟩ := hrel
          have HGK3 := Lib.hid hgk
          have hbg := HBG.out
          clear hgk
          by_cases hi0 : 0 < i
          · have hi02 : (0 : Int) < (i : Int) := by omega
            have hp0 : (0 : Int) ≤ (i : Int) - 1 := by omega
            have hp8 : (i : Int) - 1 < 8 := by omega
            have hp1 : (1 : Int) ≤ (i : Int) := by omega
            have hi8 : (i : Int) < 8 := by omega
            have hi00 : (0 : Int) ≤ (i : Int) := by omega
            obtain ⟨y, hy⟩ : ∃ y, (Sh.St.mk a b' c' d e' f g' h').list[i - 1]? = some y := ⟨_, List.getElem?_eq_getElem (by simp [Sh.St.list]; omega)⟩
            have HSS := Lib.hid (shiftI_set _ i (by omega) hi y hy)
            have cy : wr.cell? ⟨gv, i - 1, none⟩ = some (.int .u32 (n32 y)) := by rw [hv.cell]; exact u32s_get ((shiftI_get _ i (by omega) hi).trans hy)
            obtain ⟨z, hz⟩ : ∃ z, (u32s (shiftI ⟨a, b', c', d, e', f, g', h'⟩ i))[i]? = some z := ⟨_, List.getElem?_eq_getElem (by rw [u32s_len, shiftI_len _ _ hi]; omega)⟩
            have cz := (hv.cell i).trans hz
            have fz := hv.frozen i
            have hgl := hv.lt
            have HIa := Lib.hid (hI.far (p := ⟨gv, i, none⟩) (by show w.heap.size + 2 ≤ gv; omega) (by show gv ≠ g; omega) (.int .u32 (n32 y)))
            have HWa := Lib.hid (hw.far (p := ⟨gv, i, none⟩) (by show w.heap.size + 2 ≠ gv; omega) (.int .u32 (n32 y)))
            have HVa := Lib.hid (hv.set_ i (.int .u32 (n32 y)))
            rw [u32s_set', HSS.out] at HVa
            clear hI hw hv hy hz
            repeat (first | go_values | go_skip | go_guarded | go_step | go_upon | go_back)
            go_roundg (i - 1)
            case measure => rw [HGK3.out]; exact Nat.sub_lt hi0 (by decide)
            case rel => exact ⟨i - 1, by omega, rfl, int_pred i hi0, HIa.out, HWa.out, HVa.out⟩
          · obtain rfl : i = 0 := by omega
            have hi02 : ¬ (0 : Int) < ((0 : Nat) : Int) := by omega
            have c0 : wr.cell? ⟨gv, 0, none⟩ = some (.int .u32 (n32 a)) := (hv.cell 0).trans rfl
            have c4 : wr.cell? ⟨gv, 4, none⟩ = some (.int .u32 (n32 d)) := (hv.cell 4).trans rfl
            have f0 := hv.frozen 0
            have f4 := hv.frozen 4
            have hgl := hv.lt
            have HIa := Lib.hid ((hI.far (p := ⟨gv, 4, none⟩) (by show w.heap.size + 2 ≤ gv; omega) (by show gv ≠ g; omega) (.int .u32 (n32 (d + t1)))).far (p := ⟨gv, 0, none⟩) (by show w.heap.size + 2 ≤ gv; omega) (by show gv ≠ g; omega) (.int .u32 (n32 (t1 + t2))))
            have HWa := Lib.hid ((hw.far (p := ⟨gv, 4, none⟩) (by show w.heap.size + 2 ≠ gv; omega) (.int .u32 (n32 (d + t1)))).far (p := ⟨gv, 0, none⟩) (by show w.heap.size + 2 ≠ gv; omega) (.int .u32 (n32 (t1 + t2))))
            have HVa := Lib.hid ((hv.set_ 4 (.int .u32 (n32 (d + t1)))).set_ 0 (.int .u32 (n32 (t1 + t2))))
            have HEE : Hid (u32s (((shiftI ⟨a, b', c', d, e', f, g', h'⟩ 0).set 4 (d + t1)).set 0 (t1 + t2)) = st8 (Sh.rnd ⟨a, b', c', d, e', f, g', h'⟩ k x)) := by show _ = _; rw [HT1.out, HT2.out]; rfl
            rw [u32s_set', u32s_set', HEE.out] at HVa
            clear hI hw hv
            repeat (first | go_values | go_skip | go_guarded | go_step | go_upon | go_back)
            go_roundg (64 - (t + 1))
            case measure => have := HGK.out; omega
            case rel => exact ⟨t + 1, _, by omega, rfl, by go_num, HS.out, HIa.out, HWa.out, HVa.out⟩
    · obtain rfl : t = 64 := by omega
      have hlt2 : ¬ ((64 : Nat) : Int) < 64 := by omega
      have HCO : Hid (Sh.comp s l = ⟨s.a + R.a, s.b + R.b, s.c + R.c, s.d + R.d, s.e + R.e, s.f + R.f, s.g + R.g, s.h + R.h⟩) := by show _ = _; rw [← HRR.out]; rfl
      have HI := Lib.hid hI
      have HVV := Lib.hid hv
      have HBG : Hid (w.heap.size + 2 < g) := hI.big
      clear hI hw hv HGK hlt ht
      repeat (first | go_values | go_skip | go_guarded | go_step | go_upon | go_back)
      go_loopg [17] 8 (fun kk q wr => ∃ i : Nat, i ≤ 8 ∧ kk = 8 - i ∧ q = .int .i64 i ∧ Blk wr w.heap.size 95 (u32s (addI s R i)) ∧ Blk wr (w.heap.size + 1) 95 (u32s [0, 0, 0, 0, 0, 0, 0, 0]) ∧ Blk wr gv 95 (st8 R) ∧ Below w.heap.size w wr)
      case atStart => exact ⟨0, by omega, rfl, rfl, HI.out.st, HI.out.out, HVV.out, HI.out.bel⟩
      case round =>
        clear HI HVV
        obtain ⟨i, hi, hgk, rfl, hs, ho, hv, hB⟩ := hrel
        have HGK := Lib.hid hgk
        have hbg := HBG.out
        clear hgk
        by_cases hlt : i < 8
        · have hlt3 : (i : Int) < 8 := by omega
          have hi0 : (0 : Int) ≤ (i : Int) := by omega
          obtain ⟨x, hx⟩ : ∃ x, s.list[i]? = some x := ⟨_, List.getElem?_eq_getElem (by simp [Sh.St.list]; omega)⟩
          obtain ⟨y, hy⟩ : ∃ y, R.list[i]? = some y := ⟨_, List.getElem?_eq_getElem (by simp [Sh.St.list]; omega)⟩
          have cx := (hs.cell i).trans (u32s_get ((addI_get s R i hlt).trans hx))
          have cy : wr.cell? ⟨gv, i, none⟩ = some (.int .u32 (n32 y)) := (hv.cell i).trans (by rw [st8_list]; exact u32s_get hy)
          have fx := hs.frozen i
          have HST := Lib.hid (addI_set s R i x y hx hy)
          have HS2 := Lib.hid ((hs.set_ i (.int .u32 (n32 (x + y)))).drew)
          rw [u32s_set', HST.out] at HS2
          have HO2 := Lib.hid ((ho.far (p := ⟨w.heap.size, i, none⟩) (by show w.heap.size + 1 ≠ w.heap.size; omega) (.int .u32 (n32 (x + y)))).drew)
          have HV2 := Lib.hid ((hv.far (p := ⟨w.heap.size, i, none⟩) (by show gv ≠ w.heap.size; omega) (.int .u32 (n32 (x + y)))).drew)
          have HB2 := Lib.hid ((hB.setCell (p := ⟨w.heap.size, i, none⟩) (Nat.le_refl _) (.int .u32 (n32 (x + y)))).drew)
          have hl0 := hs.lt
          clear hs ho hv hB hx hy
          repeat (first | go_values | go_skip | go_guarded | go_step | go_upon | go_back)
          go_region
          obtain ⟨w5, hw5⟩ : ∃ w5, w5 = (wr.setCell ⟨w.heap.size, i, none⟩ (.int .u32 (n32 (x + y)))).drew := ⟨_, rfl⟩
          rw [← hw5] at HS2 HO2 HV2 HB2 ⊢
          clear hw5 cx cy fx
          repeat (first | go_values | go_skip | go_guarded | go_step | go_upon | go_back)
          go_roundg (8 - (i + 1))
          case measure => have := HGK.out; omega
          case rel => exact ⟨i + 1, by omega, rfl, by go_num, HS2.out, HO2.out, HV2.out, HB2.out⟩
        · obtain rfl : i = 8 := by omega
          have hlt3 : ¬ ((8 : Nat) : Int) < 8 := by omega
          have hse : u32s (addI s R 8) = st8 (Sh.comp s l) := by rw [HCO.out]; rfl
          rw [hse] at hs
          have HIR : Hid ((Try.prog.info? 95).map (·.size) = some (st8 (Sh.comp s l)).length) := hd144
          have HI1 : Hid (∀ v ∈ st8 (Sh.comp s l), v.oneCell' = true) := by rw [st8_list]; exact u32s_one _
          have HIL : Hid ((st8 (Sh.comp s l)).length = 8) := rfl
          have HUE : Hid (st8 (Sh.comp s l) = [.int .u32 (n32 (Sh.comp s l).a), .int .u32 (n32 (Sh.comp s l).b), .int .u32 (n32 (Sh.comp s l).c), .int .u32 (n32 (Sh.comp s l).d), .int .u32 (n32 (Sh.comp s l).e), .int .u32 (n32 (Sh.comp s l).f), .int .u32 (n32 (Sh.comp s l).g), .int .u32 (n32 (Sh.comp s l).h)]) := rfl
          obtain ⟨U, hU⟩ : ∃ U, U = st8 (Sh.comp s l) := ⟨_, rfl⟩
          rw [← hU] at hs HIR HI1 HIL HUE
          clear hse hU HGK hlt hi
          go_wp2_with (first
            | refine wpList_load_mid rfl 95 (.tmp 2) rfl w.heap.size 0 (by rfl) U _ hs.range Try.underlying95 rfl HIR.out ?_
            | (refine wpList_store_all rfl 95 (.tmp 4) (.tmp 180) rfl (w.heap.size + 1) U (by rfl) (by rfl) 95 _ ho HIR.out HI1.out (by rw [HIL.out]; rfl) ?_; intro w8 hb8 ho8))
          exact bodyPost_ret (res_cell rfl _ (w.heap.size + 1) _ U rfl hb8 _ Try.underlying95 rfl HIR.out) rfl ⟨by rw [HUE.out], ho8.below hB (Nat.le_succ _) hB.size⟩
end Go.Proofs.Ytlbnibmcflmohaa
