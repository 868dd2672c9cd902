/- Part of the proof: ShR, Put. -/
import Derived.Test.YtlbnibmcflmohaaGreatPlx04
import Derived.Test.YtlbnibmcflmohaaGreatPlx06
namespace Go.Proofs.YtlbnibmcflmohaaGreat
open Go.RowKit
def padI (Z N i : Nat) : List UInt8 := 128 :: (List.replicate (Z + 8 - i) 0 ++ (Sh.beBytes N 8).drop (8 - i))
theorem padI_len (Z N i : Nat) (h : i ≤ 8) : (padI Z N i).length = Z + 9 := by simp [padI, Sh.beBytes_len]; omega
theorem beBytes_get (N : Nat) : ∀ (k j : Nat), j < k → (Sh.beBytes N k)[k - 1 - j]? = some (UInt8.ofNat (N / 256 ^ j))
  | 0, j, h => by omega
  | k + 1, j, h => by
    rw [Sh.beBytes]
    by_cases e : j = k
    · subst e; simp
    · rw [show k + 1 - 1 - j = (k - 1 - j) + 1 by omega, List.getElem?_cons_succ]
      exact beBytes_get N k j (by omega)
theorem padI_step (Z N i : Nat) (h : i < 8) : (padI Z N i).set (Z + 8 - i) (UInt8.ofNat (N / 256 ^ i)) = padI Z N (i + 1) := by
  unfold padI
  obtain ⟨k, hk⟩ : ∃ k, Z + 8 - i = k + 1 := ⟨Z + 7 - i, by omega⟩
  have hd : (Sh.beBytes N 8).drop (8 - (i + 1)) = UInt8.ofNat (N / 256 ^ i) :: (Sh.beBytes N 8).drop (8 - i) := by
    have hl := Sh.beBytes_len N 8
    have := beBytes_get N 8 i h
    rw [List.drop_eq_getElem_cons (by omega), show 8 - (i + 1) + 1 = 8 - i by omega]
    congr 1
    rw [List.getElem?_eq_getElem (by omega)] at this
    injection this with this
    rw [← this]
    congr 1
    omega
  rw [hd, hk, show Z + 8 - (i + 1) = k by omega, List.set_cons_succ, List.replicate_succ', List.append_assoc, List.set_append_right _ _ (by simp)]
  simp
theorem padI_end (Z N : Nat) : padI Z N 8 = 128 :: (List.replicate Z 0 ++ Sh.beBytes N 8) := by simp [padI]
theorem byte_shr (N i : Nat) : ((N : Int) / 2 ^ (8 * i)) % (256 : Int) = ((UInt8.ofNat (N / 256 ^ i)).toNat : Int) := by
  rw [UInt8.toNat_ofNat', show (256 : Nat) ^ i = 2 ^ (8 * i) by rw [Nat.pow_mul]]
  simp
set_option maxRecDepth 100000 in
set_option maxHeartbeats 1000000 in
theorem padding_any (n : Nat) (w : World) (hn : n ≤ 1099511627776) :
    Calls Tryz.prog 94 #[.int .u64 n] w fun e w' => e = .returned (.slice (some ⟨w.heap.size, 0, none⟩) (Sh.pad n).length (Sh.pad n).length) ∧ Blk w' w.heap.size 5 (u8s (Sh.pad n)) ∧ Below w.heap.size w w' := by
  obtain ⟨Z, hZ⟩ : ∃ Z, (119 - n % 64) % 64 = Z := ⟨_, rfl⟩
  have hZ2 : Z < 64 := by omega
  have hzi : (119 - (n : Int) % 64) % 64 = (Z : Int) := by omega
  have HPD : Hid (padI Z (8 * n) 8 = Sh.pad n) := by
    show _ = _
    rw [padI_end, Sh.pad, hZ, Nat.mod_eq_of_lt (show 8 * n < 18446744073709551616 by omega)]
  clear hZ
  go_enter Tryz.func94, Tryz.ntmps94
  go_wp2_with (refine wpList_make1 rfl (.tmp 13) (.tmp 13) 23 rfl 5 (.int .u8 0) 1 Tryz.underlying23 iU8 rfl .i64 .i64 _ _ (by rfl) (by rfl) (Z + 9) (Z + 9) ?c1 ?c2 (Nat.le_refl _) (by omega) (by omega) ?_)
  case c1 => omega
  case c2 => omega
  intro w1 hb1 hg1 hs1
  have hz0 : rep (Z + 9) (.int .u8 0) = u8s (List.replicate (Z + 9) 0) := by simp [rep, u8s, u8]
  rw [hz0] at hb1
  have c0 : w1.cell? ⟨w.heap.size, 0, none⟩ = some (.int .u8 0) := by rw [hb1.cell, u8s_getElem?]; simp [u8]
  have f0 := hb1.frozen 0
  have hBw1 : Below w.heap.size w w1 := grown_below hg1
  have hb2 : Hid (Blk (w1.setCell ⟨w.heap.size, 0, none⟩ (.int .u8 128)) w.heap.size 5 (u8s (padI Z (8 * n) 0))) := by
    have := hb1.set_ 0 (.int .u8 128)
    have e : (u8s (List.replicate (Z + 9) 0)).set 0 (.int .u8 128) = u8s (padI Z (8 * n) 0) := by
      have h8 : (Sh.beBytes (8 * n) 8).drop (8 - 0) = [] := List.drop_of_length_le (by rw [Sh.beBytes_len]; omega)
      unfold padI
      rw [h8, List.append_nil, show Z + 9 = (Z + 8) + 1 by omega, List.replicate_succ]
      simp [u8s, u8]
    rw [e] at this
    exact this
  have hB2 := Lib.hid (hBw1.setCell (p := ⟨w.heap.size, 0, none⟩) (Nat.le_refl _) (.int .u8 128))
  have hZ0 : (0 : Int) < (Z : Int) + 9 := by omega
  clear hz0 hb1 hg1 hs1
  go_wp2_with fail
  go_loopg [5] 8 (fun k q wr => ∃ i : Nat, i ≤ 8 ∧ k = 8 - i ∧ q = .int .i64 i ∧ Blk wr w.heap.size 5 (u8s (padI Z (8 * n) i)) ∧ Below w.heap.size w wr)
  case atStart => exact ⟨0, by omega, rfl, rfl, hb2.out, hB2.out⟩
  case round =>
    clear hb2 hB2 c0 f0
    obtain ⟨i, hi, hgk, rfl, hb, hB⟩ := hrel
    have HGK := Lib.hid hgk
    clear hgk
    by_cases hlt : i < 8
    · have hpl := padI_len Z (8 * n) i (by omega)
      obtain ⟨x, hx⟩ : ∃ x, (padI Z (8 * n) i)[Z + 8 - i]? = some x := ⟨_, List.getElem?_eq_getElem (by omega)⟩
      have c1 : wr.cell? ⟨w.heap.size, Z + 8 - i, none⟩ = some (.int .u8 x.toNat) := by rw [hb.cell, u8s_getElem?, hx]; rfl
      have f1 := hb.frozen (Z + 8 - i)
      have hgl := hb.lt
      have HBS : Hid (8 * (n : Int) / 2 ^ (8 * i) % (256 : Int) = ((UInt8.ofNat (8 * n / 256 ^ i)).toNat : Int)) := by have := byte_shr (8 * n) i; rw [Int.natCast_mul] at this; exact this
      have HPS := Lib.hid (padI_step Z (8 * n) i hlt)
      clear hx hpl
      go_wp2_with fail
      rw [HBS.out]
      have hb3 : Hid (Blk (wr.setCell ⟨w.heap.size, Z + 8 - i, none⟩ (.int .u8 (UInt8.ofNat (8 * n / 256 ^ i)).toNat)) w.heap.size 5 (u8s (padI Z (8 * n) (i + 1)))) := by
        have := hb.set_ (Z + 8 - i) (.int .u8 (UInt8.ofNat (8 * n / 256 ^ i)).toNat)
        have e : (u8s (padI Z (8 * n) i)).set (Z + 8 - i) (.int .u8 (UInt8.ofNat (8 * n / 256 ^ i)).toNat) = u8s (padI Z (8 * n) (i + 1)) := by rw [← HPS.out]; simp [u8s, List.map_set, u8]
        rw [e] at this
        exact this
      have hB3 := Lib.hid (hB.setCell (p := ⟨w.heap.size, Z + 8 - i, none⟩) (Nat.le_refl _) (.int .u8 (UInt8.ofNat (8 * n / 256 ^ i)).toNat))
      go_roundg (8 - (i + 1))
      case measure => have := HGK.out; omega
      case rel => exact ⟨i + 1, by omega, rfl, by go_num, hb3.out, hB3.out⟩
    · obtain rfl : i = 8 := by omega
      rw [HPD.out] at hb
      have hpl : (Sh.pad n).length = Z + 9 := by rw [← HPD.out]; exact padI_len Z (8 * n) 8 (by omega)
      have HPL := Lib.hid hpl
      clear HPD hpl
      go_wp2_with fail
      go_ret
      exact ⟨by rw [HPL.out]; rfl, hb, hB⟩
end Go.Proofs.YtlbnibmcflmohaaGreat
/- sha.Hash.Write: parts behind what is there. -/
namespace Go.Proofs.YtlbnibmcflmohaaGreat
open Go.RowKit
def SlX (w : World) (g : Nat) (v : Value) (l : List UInt8) : Prop := ∃ A n c, v = .slice A n c ∧ n ≤ c ∧ Rd w A n (u8s l) ∧ (0 < n → ∀ ad : Addr, A = some ad → ad.block ≠ g)
def RdX (w : World) (g : Nat) (A : Option Addr) (n : Nat) (ls : List (List UInt8)) : Prop :=
  ∃ vs : List Value, Rd w A n vs ∧ (0 < n → ∀ ad : Addr, A = some ad → ad.block ≠ g) ∧ ls.length = n ∧ ∀ (i : Nat) (v : Value), vs[i]? = some v → ∃ l, ls[i]? = some l ∧ SlX w g v l
theorem SlX.wrote {w w' : World} {g : Nat} {v : Value} {l : List UInt8} (h : SlX w g v l) (hw : Wrote g w w') : SlX w' g v l := by
  obtain ⟨A, n, c, e, h1, h2, h3⟩ := h
  exact ⟨A, n, c, e, h1, h2.wrote hw h3, h3⟩
theorem RdX.wrote {w w' : World} {g : Nat} {A : Option Addr} {n : Nat} {ls : List (List UInt8)} (h : RdX w g A n ls) (hw : Wrote g w w') : RdX w' g A n ls := by
  obtain ⟨vs, h1, h2, h3, h4⟩ := h
  exact ⟨vs, h1.wrote hw h2, h2, h3, fun i v hi => let ⟨l, a, b⟩ := h4 i v hi; ⟨l, a, b.wrote hw⟩⟩
theorem RdX.at_ {w : World} {g : Nat} {A : Option Addr} {n : Nat} {ls : List (List UInt8)} (h : RdX w g A n ls) {k : Nat} (hk : k < n) :
    ∃ b off A1 n1 c1 l, A = some ⟨b, off, none⟩ ∧ Hid (ls[k]? = some l) ∧ w.cell? ⟨b, off + k, none⟩ = some (.slice A1 n1 c1) ∧ n1 ≤ c1 ∧ Rd w A1 n1 (u8s l) ∧ (0 < n1 → ∀ ad : Addr, A1 = some ad → ad.block ≠ g) := by
  obtain ⟨vs, hr, _, hl, hv⟩ := h
  obtain ⟨b, off, u, rfl, hb, hu, hc⟩ := hr.at_ hk
  obtain ⟨l, h1, A1, n1, c1, rfl, h2, h3, h4⟩ := hv k u hu.out
  exact ⟨b, off, A1, n1, c1, l, rfl, h1, hc, h2, h3, h4⟩
theorem RdX.of {w : World} {g : Nat} {A : Option Addr} {n : Nat} {ls : List (List UInt8)} (h : RdB w A n ls) (hg : w.heap.size ≤ g) : RdX w g A n ls := by
  obtain ⟨vs, h1, h2, h3⟩ := h
  refine ⟨vs, h1, h1.apart hg, h2, fun i v hi => ?_⟩
  obtain ⟨l, a, A1, n1, c1, rfl, b1, b2⟩ := h3 i v hi
  exact ⟨l, a, A1, n1, c1, rfl, b1, b2, b2.apart hg⟩
theorem SlX.below {w w' : World} {g : Nat} {v : Value} {l : List UInt8} (h : SlX w g v l) (hb : Below w.heap.size w w') : SlX w' g v l := by
  obtain ⟨A, n, c, e, h1, h2, h3⟩ := h
  exact ⟨A, n, c, e, h1, h2.below hb, h3⟩
theorem RdX.below {w w' : World} {g : Nat} {A : Option Addr} {n : Nat} {ls : List (List UInt8)} (h : RdX w g A n ls) (hb : Below w.heap.size w w') : RdX w' g A n ls := by
  obtain ⟨vs, h1, h2, h3, h4⟩ := h
  exact ⟨vs, h1.below hb, h2, h3, fun i v hi => let ⟨l, a, b⟩ := h4 i v hi; ⟨l, a, b.below hb⟩⟩
set_option maxRecDepth 100000 in
set_option maxHeartbeats 1000000 in
theorem write_any (g : Nat) (T : TypeId) (post : List Value) (l : List UInt8) (A : Option Addr) (n c : Nat) (ls : List (List UInt8)) (w : World) (h : HashIn w g T post l) (hr : RdX w g A n ls) (hn : n ≤ 1000000) (hl : l.length + ls.flatten.length ≤ 1099511627776) :
    Calls Tryz.prog 65 #[.pointer (some ⟨g, 0, none⟩), .slice A n c] w fun e w' => e = .returned (.pointer (some ⟨g, 0, none⟩)) ∧ HashIn w' g T post (l ++ ls.flatten) ∧ Wrote g w w' := by
  have HLS : Hid (ls.length = n) := by obtain ⟨_, _, _, h, _⟩ := hr; exact h
  have HA := Lib.hid (add_any g T post)
  go_enter Tryz.func65, Tryz.ntmps65
  go_wp2_with fail
  go_loopg [9] n (fun k q wr => ∃ i : Nat, i ≤ n ∧ k = n - i ∧ q = .int .i64 i ∧ HashIn wr g T post (l ++ (ls.take i).flatten) ∧ Wrote g w wr)
  case atStart => exact ⟨0, by omega, rfl, rfl, by simpa using h, Wrote.refl _ _⟩
  case round =>
    clear h
    obtain ⟨i, hi, hgk, rfl, hin, hW⟩ := hrel
    have HGK := Lib.hid hgk
    clear hgk
    by_cases hlt : i < n
    · obtain ⟨b, off, A1, n1, c1, x, rfl, HX, hc, hn1, hr1, hA1⟩ := (hr.wrote hW).at_ hlt
      have hx : x.length = n1 := hr1.len
      have hfl := flat_take_succ ls i x HX.out
      have hle : (l ++ (ls.take i).flatten).length + n1 ≤ 1099511627776 := by
        have h1 := flat_take_le ls (i + 1)
        rw [hfl, List.length_append, hx] at h1
        rw [List.length_append]
        omega
      have HC : Hid (Calls Tryz.prog 82 #[.pointer (some ⟨g, 0, none⟩), .slice A1 n1 c1] wr fun e w' => e = .returned (.tuple #[]) ∧ HashIn w' g T post (l ++ (ls.take i).flatten ++ x) ∧ Wrote g wr w') := HA.out _ x A1 n1 c1 wr hin hr1 hn1 hA1 hle
      have HFL := Lib.hid hfl
      have i0 : (0 : Int) ≤ (i : Int) := by omega
      have i1 : (i : Int) < (n : Int) := by omega
      clear hx hfl hle hr1 hA1 hin
      go_wp2_with (go_at_call 82; (with_reducible refine HC.out.mono ?_); rintro e w2 ⟨rfl, hin2, hW2⟩; have HI2 := Lib.hid hin2; clear hin2)
      go_roundg (n - (i + 1))
      case measure => have := HGK.out; omega
      case rel => exact ⟨i + 1, by omega, rfl, by go_num, by rw [HFL.out, ← List.append_assoc]; exact HI2.out, hW.trans hW2⟩
    · have HE : Hid (ls.take i = ls) := List.take_of_length_le (by rw [HLS.out]; omega)
      rw [HE.out] at hin
      go_wp2_with fail
      go_ret
      exact ⟨rfl, hin, hW⟩
end Go.Proofs.YtlbnibmcflmohaaGreat
/- sha.Hash.Sum: the sum of what was written. -/
namespace Go.Proofs.YtlbnibmcflmohaaGreat
open Go.RowKit
theorem hd147 : (Tryz.prog.info? 128).map (·.size) = some 73 := by kernel_rfl
theorem hd24 : (Tryz.prog.info? 26).map (·.size) = some 32 := by kernel_rfl
theorem zc147 : Tryz.zeroCells128 = (hCells [0, 0, 0, 0, 0, 0, 0, 0] (List.replicate 64 0) 0 []).toArray := by kernel_rfl
def outI (st : List UInt32) (i : Nat) : List UInt8 := (st.take i).flatMap Sh.wordBytes ++ List.replicate (32 - 4 * i) 0
theorem flat_words_len (l : List UInt32) : (l.flatMap Sh.wordBytes).length = 4 * l.length := by
  induction l with
  | nil => rfl
  | cons a l ih => rw [List.flatMap_cons, List.length_append, ih, List.length_cons]; show 4 + _ = _; omega
theorem set4 {α : Type} (P R : List α) (a b c d a' b' c' d' : α) (k : Nat) (hk : P.length = k) : ((((P ++ a :: b :: c :: d :: R).set k a').set (k + 1) b').set (k + 2) c').set (k + 3) d' = P ++ a' :: b' :: c' :: d' :: R := by
  subst hk
  rw [List.set_append_right _ _ (Nat.le_refl _), Nat.sub_self, List.set_append_right _ _ (by omega), List.set_append_right _ _ (by omega), List.set_append_right _ _ (by omega), show P.length + 1 - P.length = 1 by omega, show P.length + 2 - P.length = 2 by omega, show P.length + 3 - P.length = 3 by omega]
  rfl
theorem outI_step {st : List UInt32} {i : Nat} {x : UInt32} (h8 : st.length = 8) (hx : st[i]? = some x) :
    ((((u8s (outI st i)).set (4 * i) (.int .u8 (x >>> 24).toUInt8.toNat)).set (4 * i + 1) (.int .u8 (x >>> 16).toUInt8.toNat)).set (4 * i + 2) (.int .u8 (x >>> 8).toUInt8.toNat)).set (4 * i + 3) (.int .u8 x.toUInt8.toNat) = u8s (outI st (i + 1)) := by
  have hi : i < 8 := by have := (List.getElem?_eq_some_iff.1 hx).1; omega
  have e1 : outI st (i + 1) = (st.take i).flatMap Sh.wordBytes ++ (x >>> 24).toUInt8 :: (x >>> 16).toUInt8 :: (x >>> 8).toUInt8 :: x.toUInt8 :: List.replicate (28 - 4 * i) 0 := by
    unfold outI
    rw [List.take_add_one, hx, show 32 - 4 * (i + 1) = 28 - 4 * i by omega]
    simp [Sh.wordBytes]
  have e2 : outI st i = (st.take i).flatMap Sh.wordBytes ++ 0 :: 0 :: 0 :: 0 :: List.replicate (28 - 4 * i) 0 := by
    unfold outI
    rw [show 32 - 4 * i = (28 - 4 * i) + 4 by omega]
    rfl
  rw [e1, e2, u8s_append, u8s_append]
  have hl : (u8s ((st.take i).flatMap Sh.wordBytes)).length = 4 * i := by rw [u8s_length, flat_words_len, List.length_take]; omega
  exact set4 _ _ _ _ _ _ _ _ _ _ _ hl
theorem b24 (x : UInt32) : n32 x / (16777216 : Int) % (256 : Int) = ((x >>> 24).toUInt8.toNat : Int) := by
  unfold n32
  rw [show (x.toNat : Int) / (16777216 : Int) = ((x >>> 24).toNat : Int) from w32_shr x 24 (by omega), UInt32.toNat_toUInt8]; omega
theorem b16 (x : UInt32) : n32 x / (65536 : Int) % (256 : Int) = ((x >>> 16).toUInt8.toNat : Int) := by
  unfold n32
  rw [show (x.toNat : Int) / (65536 : Int) = ((x >>> 16).toNat : Int) from w32_shr x 16 (by omega), UInt32.toNat_toUInt8]; omega
theorem b8 (x : UInt32) : n32 x / (256 : Int) % (256 : Int) = ((x >>> 8).toUInt8.toNat : Int) := by
  unfold n32
  rw [show (x.toNat : Int) / (256 : Int) = ((x >>> 8).toNat : Int) from w32_shr x 8 (by omega), UInt32.toNat_toUInt8]; omega
theorem b0 (x : UInt32) : n32 x % (256 : Int) = (x.toUInt8.toNat : Int) := by
  unfold n32
  rw [UInt32.toNat_toUInt8]; omega
set_option maxRecDepth 100000 in
theorem idx144_0 (s0 s1 s2 s3 s4 s5 s6 s7 : UInt32) (W : World) : (Instr.index 55 (.agg #[.int .u32 (n32 s0), .int .u32 (n32 s1), .int .u32 (n32 s2), .int .u32 (n32 s3), .int .u32 (n32 s4), .int .u32 (n32 s5), .int .u32 (n32 s6), .int .u32 (n32 s7)]) (.int .i64 ((0 : Nat) : Int))).run Tryz.prog W = .ok (.int .u32 (n32 s0)) W := by kernel_rfl
set_option maxRecDepth 100000 in
theorem idx144_1 (s0 s1 s2 s3 s4 s5 s6 s7 : UInt32) (W : World) : (Instr.index 55 (.agg #[.int .u32 (n32 s0), .int .u32 (n32 s1), .int .u32 (n32 s2), .int .u32 (n32 s3), .int .u32 (n32 s4), .int .u32 (n32 s5), .int .u32 (n32 s6), .int .u32 (n32 s7)]) (.int .i64 ((1 : Nat) : Int))).run Tryz.prog W = .ok (.int .u32 (n32 s1)) W := by kernel_rfl
set_option maxRecDepth 100000 in
theorem idx144_2 (s0 s1 s2 s3 s4 s5 s6 s7 : UInt32) (W : World) : (Instr.index 55 (.agg #[.int .u32 (n32 s0), .int .u32 (n32 s1), .int .u32 (n32 s2), .int .u32 (n32 s3), .int .u32 (n32 s4), .int .u32 (n32 s5), .int .u32 (n32 s6), .int .u32 (n32 s7)]) (.int .i64 ((2 : Nat) : Int))).run Tryz.prog W = .ok (.int .u32 (n32 s2)) W := by kernel_rfl
set_option maxRecDepth 100000 in
theorem idx144_3 (s0 s1 s2 s3 s4 s5 s6 s7 : UInt32) (W : World) : (Instr.index 55 (.agg #[.int .u32 (n32 s0), .int .u32 (n32 s1), .int .u32 (n32 s2), .int .u32 (n32 s3), .int .u32 (n32 s4), .int .u32 (n32 s5), .int .u32 (n32 s6), .int .u32 (n32 s7)]) (.int .i64 ((3 : Nat) : Int))).run Tryz.prog W = .ok (.int .u32 (n32 s3)) W := by kernel_rfl
set_option maxRecDepth 100000 in
theorem idx144_4 (s0 s1 s2 s3 s4 s5 s6 s7 : UInt32) (W : World) : (Instr.index 55 (.agg #[.int .u32 (n32 s0), .int .u32 (n32 s1), .int .u32 (n32 s2), .int .u32 (n32 s3), .int .u32 (n32 s4), .int .u32 (n32 s5), .int .u32 (n32 s6), .int .u32 (n32 s7)]) (.int .i64 ((4 : Nat) : Int))).run Tryz.prog W = .ok (.int .u32 (n32 s4)) W := by kernel_rfl
set_option maxRecDepth 100000 in
theorem idx144_5 (s0 s1 s2 s3 s4 s5 s6 s7 : UInt32) (W : World) : (Instr.index 55 (.agg #[.int .u32 (n32 s0), .int .u32 (n32 s1), .int .u32 (n32 s2), .int .u32 (n32 s3), .int .u32 (n32 s4), .int .u32 (n32 s5), .int .u32 (n32 s6), .int .u32 (n32 s7)]) (.int .i64 ((5 : Nat) : Int))).run Tryz.prog W = .ok (.int .u32 (n32 s5)) W := by kernel_rfl
set_option maxRecDepth 100000 in
theorem idx144_6 (s0 s1 s2 s3 s4 s5 s6 s7 : UInt32) (W : World) : (Instr.index 55 (.agg #[.int .u32 (n32 s0), .int .u32 (n32 s1), .int .u32 (n32 s2), .int .u32 (n32 s3), .int .u32 (n32 s4), .int .u32 (n32 s5), .int .u32 (n32 s6), .int .u32 (n32 s7)]) (.int .i64 ((6 : Nat) : Int))).run Tryz.prog W = .ok (.int .u32 (n32 s6)) W := by kernel_rfl
set_option maxRecDepth 100000 in
theorem idx144_7 (s0 s1 s2 s3 s4 s5 s6 s7 : UInt32) (W : World) : (Instr.index 55 (.agg #[.int .u32 (n32 s0), .int .u32 (n32 s1), .int .u32 (n32 s2), .int .u32 (n32 s3), .int .u32 (n32 s4), .int .u32 (n32 s5), .int .u32 (n32 s6), .int .u32 (n32 s7)]) (.int .i64 ((7 : Nat) : Int))).run Tryz.prog W = .ok (.int .u32 (n32 s7)) W := by kernel_rfl
theorem idx144 (s0 s1 s2 s3 s4 s5 s6 s7 x : UInt32) (i : Nat) (h : [s0, s1, s2, s3, s4, s5, s6, s7][i]? = some x) (W : World) : (Instr.index 55 (.agg #[.int .u32 (n32 s0), .int .u32 (n32 s1), .int .u32 (n32 s2), .int .u32 (n32 s3), .int .u32 (n32 s4), .int .u32 (n32 s5), .int .u32 (n32 s6), .int .u32 (n32 s7)]) (.int .i64 i)).run Tryz.prog W = .ok (.int .u32 (n32 x)) W := by
  have hi : i < 8 := (List.getElem?_eq_some_iff.1 h).1
  have hc : i = 0 ∨ i = 1 ∨ i = 2 ∨ i = 3 ∨ i = 4 ∨ i = 5 ∨ i = 6 ∨ i = 7 := by omega
  rcases hc with rfl | rfl | rfl | rfl | rfl | rfl | rfl | rfl
  · have e : s0 = x := by simpa using h
    subst e
    exact idx144_0 _ _ _ _ _ _ _ _ W
  · have e : s1 = x := by simpa using h
    subst e
    exact idx144_1 _ _ _ _ _ _ _ _ W
  · have e : s2 = x := by simpa using h
    subst e
    exact idx144_2 _ _ _ _ _ _ _ _ W
  · have e : s3 = x := by simpa using h
    subst e
    exact idx144_3 _ _ _ _ _ _ _ _ W
  · have e : s4 = x := by simpa using h
    subst e
    exact idx144_4 _ _ _ _ _ _ _ _ W
  · have e : s5 = x := by simpa using h
    subst e
    exact idx144_5 _ _ _ _ _ _ _ _ W
  · have e : s6 = x := by simpa using h
    subst e
    exact idx144_6 _ _ _ _ _ _ _ _ W
  · have e : s7 = x := by simpa using h
    subst e
    exact idx144_7 _ _ _ _ _ _ _ _ W
theorem rangeAt_alloc {w : World} {g o : Nat} {cs : List Value} (h : w.rangeAt g o cs) (ob : Obj) : (w.alloc ob).rangeAt g o cs := fun j v hv => by
  have := h j v hv
  rw [World.cell?_alloc_lt w ob ⟨g, o + j, none⟩ (World.block_lt_of_cell? w _ this)]
  exact this
theorem Blk.rdAll {w : World} {g : Nat} {t : TypeId} {l : List UInt8} (h : Blk w g t (u8s l)) : Rd w (some ⟨g, 0, none⟩) l.length (u8s l) := by
  have := h.rd 0 l.length (by rw [u8s_length]; omega)
  rwa [List.drop_zero, List.take_of_length_le (by rw [u8s_length]; exact Nat.le_refl _)] at this
theorem eight {st : List UInt32} (h : st.length = 8) : ∃ s0 s1 s2 s3 s4 s5 s6 s7, st = [s0, s1, s2, s3, s4, s5, s6, s7] := by
  match st, h with
  | [a, b, c, d, e, f, g, k], _ => exact ⟨a, b, c, d, e, f, g, k, rfl⟩
set_option maxRecDepth 100000 in
set_option maxHeartbeats 4000000 in
theorem hsum_any (g : Nat) (T : TypeId) (post : List Value) (l : List UInt8) (w : World) (h : HashIn w g T post l) (hl : l.length ≤ 1000000000000) :
    Calls Tryz.prog 83 #[.pointer (some ⟨g, 0, none⟩)] w fun e w' => e = .returned (.agg (u8s (Sh.sha l)).toArray) ∧ Below w.heap.size w w' := by
  obtain ⟨st, op, hb, hst⟩ := h
  obtain ⟨N, hN⟩ : ∃ N, l.length = N := ⟨_, rfl⟩
  rw [hN] at hb
  have HI1 : Hid ((Tryz.prog.info? 128).map (·.size) = some (hCells st op N []).length) := by rw [hCells_len hst.len hst.olen]; exact hd147
  have HO1 : Hid (∀ v ∈ hCells st op N [], v.oneCell' = true) := by
    intro v hv
    unfold hCells at hv
    rcases List.mem_append.1 hv with hv | hv
    · exact u32s_one _ v hv
    · rcases List.mem_append.1 hv with hv | hv
      · exact u8s_one _ v hv
      · simp at hv; subst hv; rfl
  have HR1 : Hid (w.rangeAt g 0 (hCells st op N [])) := hb.mid 0 _ (fun j v hv => by
    have : hCells st op N post = hCells st op N [] ++ post := by unfold hCells; simp
    rw [Nat.zero_add, this]
    rwa [List.getElem?_append_left (List.getElem?_eq_some_iff.1 hv).1])
  have HL1 : Hid ((hCells st op N []).length = (hCells [0, 0, 0, 0, 0, 0, 0, 0] (List.replicate 64 0) 0 []).length) := by show _ = _; rw [hCells_len hst.len hst.olen]; rfl
  have c72 := (hb.cell 72).trans (hCells_n hst.len hst.olen)
  have hgl := hb.lt
  have hN2 : N ≤ 1000000000000 := by omega
  have HPA := Lib.hid (fun W => padding_any N W (by omega))
  have HPL : Hid ((Sh.pad N).length ≤ 128) := by show _ ≤ _; simp [Sh.pad, Sh.beBytes_len]; omega
  have HN := Lib.hid hN
  have HST := Lib.hid hst
  have HBK := Lib.hid hb
  obtain ⟨H, hH⟩ : ∃ H, H = hCells st op N [] := ⟨_, rfl⟩
  rw [← hH] at HI1 HO1 HR1 HL1
  have HH := Lib.hid hH
  clear hN hst hH hb
  go_enter Tryz.func83, Tryz.ntmps83
  go_wp2_with (first
    | refine wpList_load_mid rfl 128 (.tmp 8) rfl g 0 (by rfl) H _ (by exact rangeAt_alloc HR1.out _) Tryz.underlying128 rfl HI1.out ?_
    | (refine wpList_store_all rfl 128 (.tmp 3) (.tmp 9) rfl (w.heap.size + 1) H (by rfl) (by rfl) 128 _ (by exact Blk.new' (by simp) zc147) HI1.out HO1.out HL1.out ?_; intro w3 hb3 ho3
       have hg3 : w3.cell? ⟨g, 72, none⟩ = some (.int .i64 N) := ((ho3.blk ((HBK.out.alloc _).alloc _) (by omega)).cell 72).trans (hCells_n HST.out.len HST.out.olen)
       have hs3 : w.heap.size + 1 < w3.heap.size := by have := hb3.lt; omega
       have HH3 : Hid (HashIn w3 (w.heap.size + 1) 128 [] l) := ⟨st, op, by rw [HN.out, ← HH.out]; exact hb3, HST.out⟩
       have HB3 : Hid (Below w.heap.size w w3) := ho3.below (((Below.refl _ _).alloc (Nat.le_refl _) _).alloc (by simp) _) (by omega) (by simp; omega)
       have HZ3 : Hid (Blk w3 w.heap.size 26 (u8s (List.replicate 32 0))) := ho3.blk ((Blk.new' rfl rfl).alloc _) (by omega)
       clear ho3 hb3)
    | (go_at_call 94; (with_reducible refine (HPA.out _).mono ?_); rintro e w4 ⟨rfl, hb4, hB4⟩; have HH4 := Lib.hid (HH3.out.below hB4); have hl4 := HH3.out.lt)
    | (go_at_call 82; refine (add_any (w.heap.size + 1) 128 [] l (Sh.pad N) _ _ _ _ HH4.out (by exact hb4.rdAll) (Nat.le_refl _) (fun _ ad e => by injection e with e; subst e; show w3.heap.size ≠ w.heap.size + 1; omega) (by rw [HN.out]; have := HPL.out; omega)).mono ?_; rintro e w5 ⟨rfl, hin5, hW5⟩
       obtain ⟨st5, op5, hb5, hst5⟩ := hin5
       have HSM : Hid (st5.flatMap Sh.wordBytes = Sh.sha l) := by { have h6 := hst5; rw [← HN.out] at h6; exact h6.sum }
       have HL5 := Lib.hid hst5.len
       obtain ⟨s0, s1, s2, s3, s4, s5, s6, s7, e8⟩ := eight hst5.len
       rw [e8] at hb5 HSM HL5
       have hl5 := hb5.lt
       have d0 : w5.cell? ⟨w.heap.size + 1, 0, none⟩ = some (.int .u32 (n32 s0)) := hb5.cell 0
       have d1 : w5.cell? ⟨w.heap.size + 1, 1, none⟩ = some (.int .u32 (n32 s1)) := hb5.cell 1
       have d2 : w5.cell? ⟨w.heap.size + 1, 2, none⟩ = some (.int .u32 (n32 s2)) := hb5.cell 2
       have d3 : w5.cell? ⟨w.heap.size + 1, 3, none⟩ = some (.int .u32 (n32 s3)) := hb5.cell 3
       have d4 : w5.cell? ⟨w.heap.size + 1, 4, none⟩ = some (.int .u32 (n32 s4)) := hb5.cell 4
       have d5 : w5.cell? ⟨w.heap.size + 1, 5, none⟩ = some (.int .u32 (n32 s5)) := hb5.cell 5
       have d6 : w5.cell? ⟨w.heap.size + 1, 6, none⟩ = some (.int .u32 (n32 s6)) := hb5.cell 6
       have d7 : w5.cell? ⟨w.heap.size + 1, 7, none⟩ = some (.int .u32 (n32 s7)) := hb5.cell 7
       have hwr : Below w3.heap.size w3 w4 := hB4
       have HB5 : Hid (Below w.heap.size w w5) := by { have h7 := HB3.out.trans (hB4.mono HB3.out.size); exact Wrote.below hW5 h7 (by omega) h7.size }
       have HZ5 : Hid (Blk w5 w.heap.size 26 (u8s (List.replicate 32 0))) := Blk.wrote (HZ3.out.below hB4 (by omega)) hW5 (by omega)
       clear hb5 hst5 e8 hW5 hb4 hB4 hwr))
  have HB6 : Hid (Below w.heap.size w (w5.alloc (.cells (u8s (outI [s0, s1, s2, s3, s4, s5, s6, s7] 0)).toArray 26))) := HB5.out.alloc HB5.out.size _
  clear d0 d1 d2 d3 d4 d5 d6 d7 hg3 c72
  go_loopg [19] 8 (fun k q wr => ∃ i : Nat, i ≤ 8 ∧ k = 8 - i ∧ q = .int .i64 i ∧ Blk wr w5.heap.size 26 (u8s (outI [s0, s1, s2, s3, s4, s5, s6, s7] i)) ∧ Blk wr w.heap.size 26 (u8s (List.replicate 32 0)) ∧ Below w.heap.size w wr)
  case atStart => exact ⟨0, by omega, rfl, rfl, Blk.new' rfl rfl, HZ5.out.alloc _, HB6.out⟩
  case round =>
    obtain ⟨i, hi, hgk, rfl, hb, hz, hB⟩ := hrel
    have HGK := Lib.hid hgk
    clear hgk
    by_cases hlt : i < 8
    · obtain ⟨x, hx⟩ : ∃ x, [s0, s1, s2, s3, s4, s5, s6, s7][i]? = some x := ⟨_, List.getElem?_eq_getElem (by exact hlt)⟩
      have hidx := idx144 s0 s1 s2 s3 s4 s5 s6 s7 x i hx
      have HOS := Lib.hid (outI_step (st := [s0, s1, s2, s3, s4, s5, s6, s7]) rfl hx)
      have hol : (outI [s0, s1, s2, s3, s4, s5, s6, s7] i).length = 32 := by unfold outI; rw [List.length_append, flat_words_len, List.length_take, List.length_replicate]; show 4 * min i 8 + _ = _; omega
      obtain ⟨O, hO⟩ : ∃ O, O = outI [s0, s1, s2, s3, s4, s5, s6, s7] i := ⟨_, rfl⟩
      rw [← hO] at hb HOS hol
      clear hx hO
      have hgl6 := hb.lt
      obtain ⟨y0, hy0⟩ : ∃ y, O[4 * i]? = some y := ⟨_, List.getElem?_eq_getElem (by omega)⟩
      have q0 : wr.cell? ⟨w5.heap.size, 4 * i, none⟩ = some (.int .u8 y0.toNat) := by rw [hb.cell, u8s_getElem?, hy0]; rfl
      have f0 := hb.frozen (4 * i)
      clear hy0
      obtain ⟨y1, hy1⟩ : ∃ y, O[4 * i + 1]? = some y := ⟨_, List.getElem?_eq_getElem (by omega)⟩
      have q1 : wr.cell? ⟨w5.heap.size, 4 * i + 1, none⟩ = some (.int .u8 y1.toNat) := by rw [hb.cell, u8s_getElem?, hy1]; rfl
      have f1 := hb.frozen (4 * i + 1)
      clear hy1
      obtain ⟨y2, hy2⟩ : ∃ y, O[4 * i + 2]? = some y := ⟨_, List.getElem?_eq_getElem (by omega)⟩
      have q2 : wr.cell? ⟨w5.heap.size, 4 * i + 2, none⟩ = some (.int .u8 y2.toNat) := by rw [hb.cell, u8s_getElem?, hy2]; rfl
      have f2 := hb.frozen (4 * i + 2)
      clear hy2
      obtain ⟨y3, hy3⟩ : ∃ y, O[4 * i + 3]? = some y := ⟨_, List.getElem?_eq_getElem (by omega)⟩
      have q3 : wr.cell? ⟨w5.heap.size, 4 * i + 3, none⟩ = some (.int .u8 y3.toNat) := by rw [hb.cell, u8s_getElem?, hy3]; rfl
      have f3 := hb.frozen (4 * i + 3)
      clear hy3
      have z24 := b24 x
      have z16 := b16 x
      have z8 := b8 x
      have z0 := b0 x
      have HZ4 := Lib.hid (And.intro z24 (And.intro z16 (And.intro z8 z0)))
      clear z24 z16 z8 z0
      go_wp2_with fail
      rw [HZ4.out.1, HZ4.out.2.1, HZ4.out.2.2.1, HZ4.out.2.2.2]
      have hb7 := Lib.hid ((((hb.set_ (4 * i) (.int .u8 (x >>> 24).toUInt8.toNat)).set_ (4 * i + 1) (.int .u8 (x >>> 16).toUInt8.toNat)).set_ (4 * i + 2) (.int .u8 (x >>> 8).toUInt8.toNat)).set_ (4 * i + 3) (.int .u8 x.toUInt8.toNat))
      rw [HOS.out] at hb7
      have hne : w.heap.size ≠ w5.heap.size := by omega
      have hz7 := Lib.hid ((((hz.far (p := ⟨w5.heap.size, 4 * i, none⟩) hne (.int .u8 (x >>> 24).toUInt8.toNat)).far (p := ⟨w5.heap.size, 4 * i + 1, none⟩) hne (.int .u8 (x >>> 16).toUInt8.toNat)).far (p := ⟨w5.heap.size, 4 * i + 2, none⟩) hne (.int .u8 (x >>> 8).toUInt8.toNat)).far (p := ⟨w5.heap.size, 4 * i + 3, none⟩) hne (.int .u8 x.toUInt8.toNat))
      have hle : w.heap.size ≤ w5.heap.size := by omega
      have hB7 := Lib.hid ((((hB.setCell (p := ⟨w5.heap.size, 4 * i, none⟩) hle (.int .u8 (x >>> 24).toUInt8.toNat)).setCell (p := ⟨w5.heap.size, 4 * i + 1, none⟩) hle (.int .u8 (x >>> 16).toUInt8.toNat)).setCell (p := ⟨w5.heap.size, 4 * i + 2, none⟩) hle (.int .u8 (x >>> 8).toUInt8.toNat)).setCell (p := ⟨w5.heap.size, 4 * i + 3, none⟩) hle (.int .u8 x.toUInt8.toNat))
      go_roundg (8 - (i + 1))
      case measure => have := HGK.out; omega
      case rel => exact ⟨i + 1, by omega, rfl, by go_num, hb7.out, hz7.out, hB7.out⟩
    · obtain rfl : i = 8 := by omega
      have hE : outI [s0, s1, s2, s3, s4, s5, s6, s7] 8 = Sh.sha l := by rw [← HSM.out]; unfold outI; simp
      rw [hE] at hb
      have HIO : Hid ((Tryz.prog.info? 26).map (·.size) = some (u8s (Sh.sha l)).length) := by rw [u8s_length, Sh.sha_len]; exact hd24
      have HLO : Hid ((u8s (Sh.sha l)).length = (u8s (List.replicate 32 0)).length) := by show _ = _; rw [u8s_length, Sh.sha_len]; rfl
      clear hE HSM
      go_wp2_with (first
        | refine wpList_load_mid rfl 26 (.tmp 4) rfl w5.heap.size 0 (by rfl) (u8s (Sh.sha l)) _ hb.range Tryz.underlying26 rfl HIO.out ?_
        | (refine wpList_store_all rfl 26 (.tmp 2) (.tmp 50) rfl w.heap.size (u8s (Sh.sha l)) (by rfl) (by rfl) 26 _ hz HIO.out (u8s_one _) HLO.out ?_; intro w8 hb8 ho8))
      exact bodyPost_ret (res_cell rfl _ w.heap.size _ _ rfl hb8 _ Tryz.underlying26 rfl HIO.out) rfl ⟨rfl, ho8.below hB (Nat.le_refl _) hB.size⟩
set_option maxRecDepth 100000 in
set_option maxHeartbeats 1000000 in
theorem sum_any (A : Option Addr) (n c : Nat) (ls : List (List UInt8)) (w : World) (h : RdB w A n ls) (hn : n ≤ 1000000) (hl : ls.flatten.length ≤ 1000000000) :
    Calls Tryz.prog 84 #[.slice A n c] w fun e w' => e = .returned (.agg (u8s (Sh.sha ls.flatten)).toArray) ∧ Below w.heap.size w w' := by
  have HX : Hid (RdX ((w.alloc (.cells (u8s (List.replicate 32 0)).toArray 26)).alloc (.cells Tryz.zeroCells128 128)) (w.heap.size + 1) A n ls) := ((RdX.of (g := w.heap.size + 1) h (by omega)).below (((Below.refl _ _).alloc (Nat.le_refl _) _).alloc (by simp) _))
  have HH : Hid (HashIn ((w.alloc (.cells (u8s (List.replicate 32 0)).toArray 26)).alloc (.cells Tryz.zeroCells128 128)) (w.heap.size + 1) 128 [] []) := ⟨_, _, Blk.new' (by simp) zc147, Sh.hst_nil _ _ rfl (by simp)⟩
  have HB : Hid (Below w.heap.size w ((w.alloc (.cells (u8s (List.replicate 32 0)).toArray 26)).alloc (.cells Tryz.zeroCells128 128))) := ((Below.refl _ _).alloc (Nat.le_refl _) _).alloc (by simp) _
  have HZ : Hid (Blk ((w.alloc (.cells (u8s (List.replicate 32 0)).toArray 26)).alloc (.cells Tryz.zeroCells128 128)) w.heap.size 26 (u8s (List.replicate 32 0))) := (Blk.new w _ _).alloc _
  have HWR := Lib.hid (write_any (w.heap.size + 1) 128 [] [] A n c ls _ HH.out HX.out hn (by rw [List.length_nil]; omega))
  have HIO : Hid ((Tryz.prog.info? 26).map (·.size) = some (u8s (Sh.sha ls.flatten)).length) := by rw [u8s_length, Sh.sha_len]; exact hd24
  have HLO : Hid ((u8s (Sh.sha ls.flatten)).length = (u8s (List.replicate 32 0)).length) := by show _ = _; rw [u8s_length, Sh.sha_len]; rfl
  have HSH := Lib.hid (fun W (hin : HashIn W (w.heap.size + 1) 128 [] ls.flatten) => hsum_any (w.heap.size + 1) 128 [] ls.flatten W hin (by omega))
  go_enter Tryz.func84, Tryz.ntmps84
  go_wp2_with (first
    | (go_at_call 65; refine HWR.out.mono ?_; rintro e w2 ⟨rfl, hin2, hW2⟩; have HI2 := Lib.hid hin2
       have HB2 : Hid (Below w.heap.size w w2) := Wrote.below hW2 HB.out (by omega) HB.out.size
       have HZ2 : Hid (Blk w2 w.heap.size 26 (u8s (List.replicate 32 0))) := Blk.wrote HZ.out hW2 (by omega)
       clear hin2 hW2)
    | (go_at_call 83; refine (HSH.out _ HI2.out).mono ?_; rintro e w3 ⟨rfl, hB3⟩
       have HZ3 : Hid (Blk w3 w.heap.size 26 (u8s (List.replicate 32 0))) := HZ2.out.below hB3 HZ2.out.lt
       have HB3 : Hid (Below w.heap.size w w3) := HB2.out.trans (hB3.mono HB2.out.size)
       clear hB3)
    | (refine wpList_store_all rfl 26 (.tmp 2) (.tmp 6) rfl w.heap.size (u8s (Sh.sha ls.flatten)) (by rfl) (by rfl) 26 _ HZ3.out HIO.out (u8s_one _) HLO.out ?_; intro w8 hb8 ho8))
  exact bodyPost_ret (res_cell rfl _ w.heap.size _ _ rfl hb8 _ Tryz.underlying26 rfl HIO.out) rfl ⟨rfl, ho8.below HB3.out (Nat.le_refl _) HB3.out.size⟩
end Go.Proofs.YtlbnibmcflmohaaGreat
namespace Go.Proofs.YtlbnibmcflmohaaGreat
open Go.RowKit
theorem beBytes_len (n k : Nat) : (Sh.beBytes n k).length = k := by
  induction k with
  | zero => rfl
  | succ k ih => simp [Sh.beBytes, ih]
theorem shift_byte (n i : Nat) : (n : Int) / 2 ^ (8 * i) % 256 = ((UInt8.ofNat (n / 256 ^ i)).toNat : Int) := by
  have e1 : (n : Int) / 2 ^ (8 * i) = ((n / 256 ^ i : Nat) : Int) := by
    have : ((2 : Int) ^ (8 * i)) = ((256 ^ i : Nat) : Int) := by rw [Int.pow_mul]; simp
    rw [this]; rfl
  rw [e1, UInt8.toNat_ofNat']
  omega
def putI (n k i : Nat) : List UInt8 := List.replicate (k - i) 0 ++ Sh.beBytes n i
theorem putI_len (n k i : Nat) (h : i ≤ k) : (putI n k i).length = k := by simp [putI, beBytes_len]; omega
theorem putI_set (n k i p : Nat) (h : i < k) (hp : p = k - 1 - i) : (putI n k i).set p (UInt8.ofNat (n / 256 ^ i)) = putI n k (i + 1) := by
  subst hp
  unfold putI
  rw [show k - i = (k - (i + 1)) + 1 by omega, List.replicate_succ', List.append_assoc, List.set_append_right _ _ (by simp; omega)]
  simp [Sh.beBytes, show k - 1 - i - (k - (i + 1)) = 0 by omega]
set_option maxRecDepth 100000 in
set_option maxHeartbeats 1000000 in
theorem put_4 (n : Nat) (w : World) (_hn : n < 18446744073709551616) (hf : n < 4294967296) :
    Calls Tryz.prog 42 #[.int .i64 2, .int .i64 4, .int .u64 (n : Int)] w fun e w' => e = .returned (.tuple #[.slice (some ⟨w.heap.size, 0, none⟩) 4 4, .int .i64 0]) ∧ Blk w' w.heap.size 5 (u8s (Sh.beBytes n 4)) ∧ Below w.heap.size w w' := by
  have hz : ((n : Int) / 4294967296 != 0) = false := by rw [bne_eq_false_iff_eq]; omega
  go_enter Tryz.func42, Tryz.ntmps42
  go_wp2_with (first
    | (go_at_call 62; go_in)
    | (refine wpList_make1 rfl (.tmp 25) (.tmp 25) 23 rfl 5 (.int .u8 0) 1 Tryz.underlying23 iU8 rfl .i64 .i64 4 4 (by rfl) (by rfl) 4 4 rfl rfl (by omega) (by omega) (by omega) ?_
       intro w1 hb1 hg1 hs1
       have HB1 : Hid (Blk w1 w.heap.size 5 (u8s (putI n 4 0))) := hb1
       have HE1 : Hid (Below w.heap.size w w1) := grown_below hg1
       clear hb1 hg1 hs1))
  go_loopg [29] 4 (fun kk q wr => ∃ i : Nat, i ≤ 4 ∧ kk = 4 - i ∧ q = .int .i64 i ∧ Blk wr w.heap.size 5 (u8s (putI n 4 i)) ∧ Below w.heap.size w wr)
  case atStart => exact ⟨0, by omega, rfl, rfl, HB1.out, HE1.out⟩
  case round =>
    clear HB1 HE1
    obtain ⟨i, hi, hgk, rfl, hb, hB⟩ := hrel
    have HGK := Lib.hid hgk
    clear hgk
    by_cases hlt : i < 4
    · have hlt2 : (i : Int) < 4 := by omega
      obtain ⟨p, hp⟩ : ∃ p, p = 4 - 1 - i := ⟨_, rfl⟩
      have hpi : (3 : Int) - (i : Int) = (p : Int) := by omega
      have hp0 : (0 : Int) ≤ (p : Int) := by omega
      have hp1 : (p : Int) < 4 := by omega
      have HS := Lib.hid (putI_set n 4 i p hlt hp)
      have hpl := putI_len n 4 i hi
      obtain ⟨x, hx⟩ : ∃ x, (putI n 4 i)[p]? = some x := ⟨_, List.getElem?_eq_getElem (by omega)⟩
      have cx : wr.cell? ⟨w.heap.size, p, none⟩ = some (.int .u8 x.toNat) := by rw [hb.cell, u8s_getElem?, hx]; rfl
      have fx := hb.frozen p
      have HSB := Lib.hid (shift_byte n i)
      have hb2 := Lib.hid (hb.set_ p (.int .u8 (UInt8.ofNat (n / 256 ^ i)).toNat))
      rw [u8s_set, HS.out] at hb2
      have hB2 := Lib.hid (hB.setCell (p := ⟨w.heap.size, p, none⟩) (Nat.le_refl _) (.int .u8 (UInt8.ofNat (n / 256 ^ i)).toNat))
      have hgl := hb.lt
      clear hx hpl hb hp
      go_wp2_with fail
      rw [HSB.out]
      go_roundg (4 - (i + 1))
      case measure => have := HGK.out; omega
      case rel => exact ⟨i + 1, by omega, rfl, by go_num, hb2.out, hB2.out⟩
    · obtain rfl : i = 4 := by omega
      have hlt2 : ¬ ((4 : Nat) : Int) < 4 := by omega
      have HB := Lib.hid hb
      rw [show putI n 4 4 = Sh.beBytes n 4 from rfl] at HB
      clear hb
      go_wp2_with fail
      go_ret2
      exact ⟨rfl, HB.out, hB⟩
set_option maxRecDepth 100000 in
set_option maxHeartbeats 1000000 in
theorem put_8 (n : Nat) (w : World) (_hn : n < 18446744073709551616) :
    Calls Tryz.prog 42 #[.int .i64 2, .int .i64 8, .int .u64 (n : Int)] w fun e w' => e = .returned (.tuple #[.slice (some ⟨w.heap.size, 0, none⟩) 8 8, .int .i64 0]) ∧ Blk w' w.heap.size 5 (u8s (Sh.beBytes n 8)) ∧ Below w.heap.size w w' := by
  go_enter Tryz.func42, Tryz.ntmps42
  go_wp2_with (first
    | (go_at_call 62; go_in)
    | (refine wpList_make1 rfl (.tmp 25) (.tmp 25) 23 rfl 5 (.int .u8 0) 1 Tryz.underlying23 iU8 rfl .i64 .i64 8 8 (by rfl) (by rfl) 8 8 rfl rfl (by omega) (by omega) (by omega) ?_
       intro w1 hb1 hg1 hs1
       have HB1 : Hid (Blk w1 w.heap.size 5 (u8s (putI n 8 0))) := hb1
       have HE1 : Hid (Below w.heap.size w w1) := grown_below hg1
       clear hb1 hg1 hs1))
  go_loopg [29] 8 (fun kk q wr => ∃ i : Nat, i ≤ 8 ∧ kk = 8 - i ∧ q = .int .i64 i ∧ Blk wr w.heap.size 5 (u8s (putI n 8 i)) ∧ Below w.heap.size w wr)
  case atStart => exact ⟨0, by omega, rfl, rfl, HB1.out, HE1.out⟩
  case round =>
    clear HB1 HE1
    obtain ⟨i, hi, hgk, rfl, hb, hB⟩ := hrel
    have HGK := Lib.hid hgk
    clear hgk
    by_cases hlt : i < 8
    · have hlt2 : (i : Int) < 8 := by omega
      obtain ⟨p, hp⟩ : ∃ p, p = 8 - 1 - i := ⟨_, rfl⟩
      have hpi : (7 : Int) - (i : Int) = (p : Int) := by omega
      have hp0 : (0 : Int) ≤ (p : Int) := by omega
      have hp1 : (p : Int) < 8 := by omega
      have HS := Lib.hid (putI_set n 8 i p hlt hp)
      have hpl := putI_len n 8 i hi
      obtain ⟨x, hx⟩ : ∃ x, (putI n 8 i)[p]? = some x := ⟨_, List.getElem?_eq_getElem (by omega)⟩
      have cx : wr.cell? ⟨w.heap.size, p, none⟩ = some (.int .u8 x.toNat) := by rw [hb.cell, u8s_getElem?, hx]; rfl
      have fx := hb.frozen p
      have HSB := Lib.hid (shift_byte n i)
      have hb2 := Lib.hid (hb.set_ p (.int .u8 (UInt8.ofNat (n / 256 ^ i)).toNat))
      rw [u8s_set, HS.out] at hb2
      have hB2 := Lib.hid (hB.setCell (p := ⟨w.heap.size, p, none⟩) (Nat.le_refl _) (.int .u8 (UInt8.ofNat (n / 256 ^ i)).toNat))
      have hgl := hb.lt
      clear hx hpl hb hp
      go_wp2_with fail
      rw [HSB.out]
      go_roundg (8 - (i + 1))
      case measure => have := HGK.out; omega
      case rel => exact ⟨i + 1, by omega, rfl, by go_num, hb2.out, hB2.out⟩
    · obtain rfl : i = 8 := by omega
      have hlt2 : ¬ ((8 : Nat) : Int) < 8 := by omega
      have HB := Lib.hid hb
      rw [show putI n 8 8 = Sh.beBytes n 8 from rfl] at HB
      clear hb
      go_wp2_with fail
      go_ret2
      exact ⟨rfl, HB.out, hB⟩
end Go.Proofs.YtlbnibmcflmohaaGreat
