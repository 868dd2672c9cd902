/- Part of the proof: Codec, Get. -/
import Derived.Test.YtlbnibmcflmohaaGreatPlx01
namespace Go.Proofs.YtlbnibmcflmohaaGreat
open Go.RowKit
theorem eU8 : ElemIs Tryz.prog 5 1 1 := ElemIs.of (z := .int .u8 0) (by kernel_rfl) rfl (by omega)
set_option maxHeartbeats 400000 in
theorem copy_any (A : Option Addr) (n c : Nat) (l : List UInt8) (w : World) (h : Rd w A n (u8s l)) (hn : n ≤ 140737488355328) :
    Calls Tryz.prog 6 #[.slice A n c] w fun e w' => ∃ A' c', e = .returned (.slice A' n c') ∧ n ≤ c' ∧ w'.ownsRow w.heap.size 5 1 (.slice A' n c') n (u8s l) ∧ Below w.heap.size w w' := by
  go_enter Tryz.func6, Tryz.ntmps6
  go_wp2_with (at_builtin; refine wpList_app rfl (.tmp 3) (.tmp 4) _ rfl w.heap.size 5 1 1 Tryz.underlying23 eU8 (.slice (some ⟨w.heap.size, 0, none⟩) 0 0) 0 [] (by rfl) ?c1 A n c (u8s l) (by rfl) ?c2 (u8s_one _) (by omega) (by omega) (by simp) ?_)
  case c1 => exact ⟨rfl, .inr ⟨w.heap.size, 0, #[], rfl, Nat.le_refl _, heap_alloc_new w _, Nat.le_refl _, by simp [maxLen], rfl, rfl⟩⟩
  case c2 => exact (h.alloc _).toS
  intro A' c' w' hown hc' hg hat
  have hB : Below w.heap.size w w' := ((Below.refl _ _).alloc (Nat.le_refl _) _).grown hg (by simp) (by intro k hk; simp [Value.ownBlock] at hk; omega)
  go_wp2
  go_ret
  exact ⟨A', c', rfl, hc', hown, hB⟩
theorem flat_take_succ (ls : List (List UInt8)) (k : Nat) (l : List UInt8) (h : ls[k]? = some l) : (ls.take (k + 1)).flatten = (ls.take k).flatten ++ l := by
  rw [List.take_add_one, h]; simp
theorem flat_take_le (ls : List (List UInt8)) (k : Nat) : ((ls.take k).flatten).length ≤ ls.flatten.length := by
  have : ls.flatten = (ls.take k).flatten ++ (ls.drop k).flatten := by rw [← List.flatten_append, List.take_append_drop]
  rw [this]; simp
theorem iU8 : (Tryz.prog.info? 5).map (fun i => (i.zero, i.size, i.bytes)) = some (some (.int .u8 0), 1, 1) := by kernel_rfl
set_option maxHeartbeats 800000 in
theorem join_any (A : Option Addr) (n c : Nat) (ls : List (List UInt8)) (w : World) (h : RdB w A n ls) (hn : n ≤ 1073741824) (hf : ls.flatten.length ≤ 1073741824) :
    Calls Tryz.prog 22 #[.slice A n c] w fun e w' => ∃ A' c', e = .returned (.slice A' ls.flatten.length c') ∧ ls.flatten.length ≤ c' ∧ w'.ownsRow w.heap.size 5 1 (.slice A' ls.flatten.length c') ls.flatten.length (u8s ls.flatten) ∧ Below w.heap.size w w' := by
  have hll : ls.length = n := by obtain ⟨_, _, h, _⟩ := h; exact h
  have HLL := Lib.hid hll
  clear hll
  go_enter Tryz.func22, Tryz.ntmps22
  go_wp2
  go_loop [3, 11] (fun t i => ∃ k : Nat, k ≤ n ∧ i = .int .i64 k ∧ t = .int .i64 ((ls.take k).flatten.length)) (fun _ i => n - (intOf i).toNat)
  case atStart => exact ⟨0, Nat.zero_le _, rfl, rfl⟩
  case round =>
    obtain ⟨k, hk, rfl, rfl⟩ := hrel
    have hle := flat_take_le ls k
    by_cases hlt : k < n
    · obtain ⟨b, off, A1, n1, c1, l, rfl, hb, HX, hc, hn1, hr1⟩ := h.at_ hlt
      have hs := flat_take_succ ls k l HX.out
      have hle' := flat_take_le ls (k + 1)
      have hlen : (ls.take (k + 1)).flatten.length = (ls.take k).flatten.length + n1 := by rw [hs, List.length_append, hr1.len]
      have HS := Lib.hid hlen
      have hb1 : (ls.take k).flatten.length + n1 ≤ 1073741824 := by omega
      clear hs hlen hle'
      generalize hT : (ls.take k).flatten.length = T at *
      have HT := Lib.hid hT
      clear hT
      go_wp2
      go_round
      case rel => exact ⟨k + 1, by omega, by go_num, by rw [HS.out]; go_num⟩
      case measure => simp [intOf]; omega
    · have hkn : k = n := by omega
      subst hkn
      rw [List.take_of_length_le (by rw [HLL.out]; exact Nat.le_refl _)] at *
      clear hlt hk hle
      generalize hT : ls.flatten.length = T at *
      have HT := Lib.hid hT
      clear hT
      go_wp2_with (at_make; refine wpList_make1 rfl _ _ 23 rfl 5 (.int .u8 0) 1 Tryz.underlying23 iU8 rfl _ _ _ _ rfl rfl 0 T rfl rfl (Nat.zero_le _) (by omega) (by omega) ?_)
      intro w1 hb1 hg1 hs1
      have hB1 : Below w.heap.size w w1 := grown_below hg1
      have hown1 := own_of_blk hb1 (Nat.le_refl _) 0 T 1 (Nat.zero_le _) (by simp [rep_length]) (by omega)
      have HO := Lib.hid hown1
      clear hs1 hg1 hb1 hown1
      go_wp2
      go_loopw [6, 24] (fun v i wr => ∃ j : Nat, j ≤ k ∧ i = .int .i64 j ∧ ∃ A' c', v = .slice A' (ls.take j).flatten.length c' ∧ (ls.take j).flatten.length ≤ c' ∧ wr.ownsRow w.heap.size 5 1 (.slice A' (ls.take j).flatten.length c') (ls.take j).flatten.length (u8s (ls.take j).flatten) ∧ Below w.heap.size w wr) (fun _ i _ => k - (intOf i).toNat)
      case atStart => exact ⟨0, Nat.zero_le _, rfl, _, _, rfl, Nat.zero_le _, by simpa [u8s] using HO.out, hB1⟩
      case round =>
        clear HO hB1
        obtain ⟨j, hj, rfl, A', c', rfl, hc', hown, hBr⟩ := hrel
        have hle := flat_take_le ls j
        by_cases hlt : j < k
        · obtain ⟨b, off, A1, n1, c1, l, rfl, hb, HX, hc, hn1, hr1⟩ := (h.below hBr).at_ hlt
          have hs := flat_take_succ ls j l HX.out
          have hle' := flat_take_le ls (j + 1)
          have hlen : (ls.take (j + 1)).flatten.length = (ls.take j).flatten.length + n1 := by rw [hs, List.length_append, hr1.len]
          have HS := Lib.hid hlen
          have HS' := Lib.hid hs
          have hT' : ls.flatten.length = T := HT.out
          have hb1 : (ls.take j).flatten.length + n1 ≤ 1073741824 := by omega
          clear hs hlen hle' hT' hle
          generalize (ls.take j).flatten = F at *
          generalize hFl : F.length = M at *
          have HF := Lib.hid hFl
          clear hFl
          go_wp2_with (at_builtin; refine wpList_app rfl (.tmp 28) (.tmp 29) _ rfl w.heap.size 5 1 1 Tryz.underlying23 eU8 (.slice A' M c') M (u8s F) (by rfl) hown A1 n1 c1 (u8s l) (by rfl) hr1.toS (u8s_one _) (by omega) (by omega) hBr.size ?_)
          intro A2 c2 w2 hown2 hc2 hg2 hat2
          have hB2 : Below w.heap.size w w2 := hBr.grown hg2 hBr.size (fun g hg => (hown.lt g hg).1)
          rw [← u8s_append, ← HS'.out] at hown2
          clear hg2 hat2 hown
          go_wp2
          go_roundw
          case rel => exact ⟨j + 1, by omega, by go_num, A2, c2, by rw [HS.out], by rw [HS.out]; exact hc2, by rw [HS.out]; exact hown2, hB2⟩
          case measure => simp [intOf]; omega
        · have hkn : j = k := by omega
          subst hkn
          rw [List.take_of_length_le (by rw [HLL.out]; exact Nat.le_refl _)] at *
          go_wp2
          go_ret
          rw [HT.out] at *
          exact ⟨A', c', rfl, hc', hown, hBr⟩
theorem join_to (A : Option Addr) (n c : Nat) (ls : List (List UInt8)) (w : World) (h : RdB w A n ls) (hn : n ≤ 1073741824) (F : List UInt8) (N : Nat) (hF : ls.flatten = F) (hN : F.length = N) (hf : N ≤ 1073741824) :
    Calls Tryz.prog 22 #[.slice A n c] w fun e w' => ∃ A' c', e = .returned (.slice A' N c') ∧ N ≤ c' ∧ w'.ownsRow w.heap.size 5 1 (.slice A' N c') N (u8s F) ∧ Below w.heap.size w w' := by
  subst hF
  subst hN
  exact join_any A n c ls w h hn hf
end Go.Proofs.YtlbnibmcflmohaaGreat
namespace Go.Proofs.YtlbnibmcflmohaaGreat
open Go.RowKit
def beNat (l : List UInt8) : Nat := l.foldl (fun n c => n * 256 + c.toNat) 0
theorem beNat_snoc (l : List UInt8) (c : UInt8) : beNat (l ++ [c]) = beNat l * 256 + c.toNat := by simp [beNat]
theorem beNat_from (l : List UInt8) : ∀ n, l.foldl (fun n c => n * 256 + c.toNat) n = n * 256 ^ l.length + beNat l := by
  induction l with
  | nil => intro n; simp [beNat]
  | cons c l ih =>
    intro n
    have h1 := ih (n * 256 + c.toNat)
    have h2 := ih (0 * 256 + c.toNat)
    simp only [List.foldl_cons, List.length_cons, beNat] at h1 h2 ⊢
    rw [h1, h2, Nat.pow_succ, Nat.add_mul, Nat.zero_mul, Nat.zero_add, Nat.mul_assoc, Nat.mul_comm 256, Nat.add_assoc]
theorem beNat_cons (c : UInt8) (l : List UInt8) : beNat (c :: l) = c.toNat * 256 ^ l.length + beNat l := by
  have := beNat_from l (0 * 256 + c.toNat)
  rw [Nat.zero_mul, Nat.zero_add] at this
  rw [← this]
  simp [beNat]
theorem beNat_lt (l : List UInt8) : beNat l < 256 ^ l.length := by
  induction l with
  | nil => simp [beNat]
  | cons c l ih =>
    rw [beNat_cons, List.length_cons, Nat.pow_succ]
    have h := c.toNat_lt
    have : c.toNat * 256 ^ l.length ≤ 255 * 256 ^ l.length := Nat.mul_le_mul_right _ (by omega)
    omega
theorem or_byte (m : Nat) (x : UInt8) (h : m < 72057594037927936) : bits .or .u64 (IntKind.u64.wrap ((m : Int) * 256)) (IntKind.u64.wrap (x.toNat : Int)) = ((m * 256 + x.toNat : Nat) : Int) := by
  have hx := x.toNat_lt
  rw [show IntKind.u64.wrap ((m : Int) * 256) = ((m * 256 : Nat) : Int) from by rw [IntKind.wrap_u64]; omega, show IntKind.u64.wrap (x.toNat : Int) = ((x.toNat : Nat) : Int) from by rw [IntKind.wrap_u64]; omega,
    bits_or_u64_nat _ _ (by omega) (by omega)]
  have := Nat.two_pow_add_eq_or_of_lt (b := x.toNat) (i := 8) (by omega) m
  rw [Nat.mul_comm m 256]
  exact congrArg Int.ofNat (by simpa using this.symm)
theorem pow_le_56 {j k : Nat} (h : j < k) (h2 : k ≤ 8) : 256 ^ j ≤ 72057594037927936 := by
  have : 256 ^ j ≤ 256 ^ 7 := Nat.pow_le_pow_right (by omega) (by omega)
  simpa using this
set_option maxHeartbeats 400000 in
theorem valid_2 (n : Int) (h1 : 1 ≤ n) (h2 : n ≤ 8) (w : World) : Calls Tryz.prog 62 #[.int .i64 2, .int .i64 n] w fun e w' => e = .returned (.bool true) ∧ w = w' := by
  have e1 : decide (1 ≤ n) = true := by simpa using h1
  have e2 : decide (n ≤ 8) = true := by simpa using h2
  go_enter Tryz.func62, Tryz.ntmps62
  go_wp2
  go_ret
  exact ⟨by simp, rfl⟩
set_option maxHeartbeats 400000 in
theorem get_2 (A : Option Addr) (n c at_ k : Nat) (l : List UInt8) (w : World) (h : Rd w A n (u8s l)) (hn : n ≤ 140737488355328) (h1 : 1 ≤ k) (h2 : k ≤ 8) (h3 : at_ + k ≤ n) :
    Calls Tryz.prog 52 #[.int .i64 2, .slice A n c, .int .i64 at_, .int .i64 k] w fun e w' => e = .returned (.tuple #[.int .u64 (beNat ((l.drop at_).take k)), .int .i64 0]) ∧ w = w' := by
  have hl := h.len
  have HL := Lib.hid hl
  clear hl
  have e1 : decide ((at_ : Int) < 0) = false := by simp
  have e2 : decide ((n : Int) < (at_ : Int)) = false := by simp; omega
  have e3 : decide ((n : Int) - (at_ : Int) < (k : Int)) = false := by simp; omega
  go_enter Tryz.func52, Tryz.ntmps52
  go_wp2_with (go_at_call 62; refine (valid_2 _ (by omega) (by omega) _).mono ?_; rintro e w' ⟨rfl, rfl⟩)
  go_loop [10, 11] (fun m i => ∃ j : Nat, j ≤ k ∧ i = .int .i64 j ∧ m = .int .u64 (beNat ((l.drop at_).take j))) (fun _ i => k - (intOf i).toNat)
  case atStart => exact ⟨0, Nat.zero_le _, rfl, rfl⟩
  case round =>
    obtain ⟨j, hj, rfl, rfl⟩ := hrel
    by_cases hlt : j < k
    · obtain ⟨b, off, x, rfl, hb, HX, hc⟩ := h.u8 (k := at_ + j) (by omega)
      have hbd := beNat_lt ((l.drop at_).take j)
      have hs : beNat ((l.drop at_).take (j + 1)) = beNat ((l.drop at_).take j) * 256 + x.toNat := by
        rw [List.take_add_one, List.getElem?_drop, HX.out]; exact beNat_snoc _ _
      have HS := Lib.hid hs
      have HBD := Lib.hid hbd
      have i0 : (0 : Int) ≤ (at_ : Int) + (j : Int) := by omega
      have i1 : (at_ : Int) + (j : Int) < (n : Int) := by omega
      clear hs hbd
      generalize beNat ((l.drop at_).take j) = m at *
      have hm : m < 72057594037927936 := Nat.lt_of_lt_of_le HBD.out (Nat.le_trans (Nat.pow_le_pow_right (by omega) (List.length_take_le _ _)) (pow_le_56 hlt h2))
      have hor := or_byte m x hm
      have HO := Lib.hid hor
      clear hor HBD hm
      go_wp2
      go_round
      case rel => exact ⟨j + 1, by omega, by go_num, by rw [HO.out, HS.out]⟩
      case measure => simp [intOf]; omega
    · have : j = k := by omega
      subst this
      go_wp2
      go_ret2
      exact ⟨rfl, rfl⟩
theorem rget_step (j m : Nat) (x : UInt8) (hj : j ≤ 7) (hm : m < 256 ^ j) :
    IntKind.u64.wrap (((256 ^ j % 18446744073709551616 : Nat) : Int) * 256) = ((256 ^ (j + 1) % 18446744073709551616 : Nat) : Int) ∧
    IntKind.u64.wrap ((m : Int) + IntKind.u64.wrap (((256 ^ j % 18446744073709551616 : Nat) : Int) * IntKind.u64.wrap (x.toNat : Int))) = ((m + 256 ^ j * x.toNat : Nat) : Int) := by
  have hp : 256 ^ j ≤ 72057594037927936 := pow_le_56 (k := 8) (by omega) (by omega)
  have hx := x.toNat_lt
  rw [Nat.pow_succ]
  generalize 256 ^ j = P at *
  have hmul : P * x.toNat ≤ P * 255 := Nat.mul_le_mul_left _ (by omega)
  have e1 : P % 18446744073709551616 = P := Nat.mod_eq_of_lt (by omega)
  rw [e1]
  have e2 : IntKind.u64.wrap (x.toNat : Int) = (x.toNat : Int) := by rw [IntKind.wrap_u64]; omega
  rw [e2]
  have e3 : (P : Int) * (x.toNat : Int) = ((P * x.toNat : Nat) : Int) := by simp
  rw [e3]
  generalize P * x.toNat = Y at *
  constructor
  · rw [IntKind.wrap_u64]; omega
  · rw [IntKind.wrap_u64, IntKind.wrap_u64]; omega
end Go.Proofs.YtlbnibmcflmohaaGreat
