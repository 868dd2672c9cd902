/- Part of the proof: ShP. -/
import Derived.Deep.LoopGhost
import Derived.Test.YtlbnibmcflmohaaGreatPlx01
import Derived.Test.YtlbnibmcflmohaaGreatPlx02
namespace Go.Proofs.YtlbnibmcflmohaaGreat
open Go.RowKit
theorem w32_rot (x : UInt32) (s : Nat) (h1 : 1 ≤ s) (h2 : s ≤ 31) : bits .or .u32 ((x.toNat : Int) * 2 ^ s % (4294967296 : Int)) ((x.toNat : Int) / 2 ^ (32 - s)) = ((Sh.rotr x (UInt32.ofNat (32 - s))).toNat : Int) := by
  have hx := x.toNat_lt
  have e1 : (x.toNat : Int) * 2 ^ s % 4294967296 = ((x.toNat * 2 ^ s % 4294967296 : Nat) : Int) := by simp
  have e2 : (x.toNat : Int) / 2 ^ (32 - s) = ((x.toNat / 2 ^ (32 - s) : Nat) : Int) := by simp
  have hlt : x.toNat / 2 ^ (32 - s) < 4294967296 := Nat.lt_of_le_of_lt (Nat.div_le_self _ _) hx
  rw [e1, e2, u32_or_nat _ _ (Nat.mod_lt _ (by omega)) hlt]
  have m1 : (UInt32.ofNat (32 - s)).toNat = 32 - s := by rw [UInt32.toNat_ofNat']; omega
  have m2 : (32 - UInt32.ofNat (32 - s)).toNat = s := by
    rw [UInt32.toNat_sub, m1]
    simp
    omega
  unfold Sh.rotr
  rw [UInt32.toNat_or, UInt32.toNat_shiftRight, UInt32.toNat_shiftLeft, m1, m2, Nat.mod_eq_of_lt (show 32 - s < 32 by omega), Nat.mod_eq_of_lt (show s < 32 by omega), Nat.shiftLeft_eq, Nat.shiftRight_eq_div_pow, Nat.or_comm]
theorem n32_rot (x : UInt32) (s : Nat) (h1 : 1 ≤ s) (h2 : s ≤ 31) : bits .or .u32 (n32 x * 2 ^ s % (4294967296 : Int)) (n32 x / 2 ^ (32 - s)) = n32 (Sh.rotr x (UInt32.ofNat (32 - s))) := w32_rot x s h1 h2
theorem rotl_any (x : UInt32) (n : Int) (s : Nat) (w : World) (hn : bits .and .u64 (IntKind.u64.wrap n) 31 = (s : Int)) (h1 : 1 ≤ s) (h2 : s ≤ 31) :
    Calls Tryz.prog 102 #[.int .u32 (n32 x), .int .i64 n] w fun e w' => e = .returned (.int .u32 (n32 (Sh.rotr x (UInt32.ofNat (32 - s))))) ∧ w = w' := by
  have HR := Lib.hid (n32_rot x s h1 h2)
  go_enter Tryz.func102, Tryz.ntmps102
  go_wp2
  go_ret
  exact ⟨by rw [HR.out]; rfl, rfl⟩
theorem right_any (x : UInt32) (n : Nat) (w : World) (h1 : 1 ≤ n) (h2 : n ≤ 31) :
    Calls Tryz.prog 100 #[.int .u32 (n32 x), .int .i64 n] w fun e w' => e = .returned (.int .u32 (n32 (Sh.rotr x (UInt32.ofNat n)))) ∧ w = w' := by
  have HC : Hid (Calls Tryz.prog 102 #[.int .u32 (n32 x), .int .i64 (-(n : Int))] w fun e w' => e = .returned (.int .u32 (n32 (Sh.rotr x (UInt32.ofNat n)))) ∧ w = w') := by
    have := rotl_any x (-(n : Int)) (32 - n) w (by
      rw [IntKind.wrap_u64, show -(n : Int) % 18446744073709551616 = ((18446744073709551616 - n : Nat) : Int) by omega]
      have := u64_and_nat (18446744073709551616 - n) 31 (by omega) (by omega)
      refine this.trans ?_
      rw [show (31 : Nat) = 2 ^ 5 - 1 by rfl, Nat.and_two_pow_sub_one_eq_mod]
      omega) (by omega) (by omega)
    rwa [show 32 - (32 - n) = n by omega] at this
  go_enter Tryz.func100, Tryz.ntmps100
  go_wp2_with (go_at_call 102; refine HC.out.mono ?_; rintro e w' ⟨rfl, rfl⟩)
  go_ret
  exact ⟨rfl, rfl⟩
theorem right_2 (x : UInt32) (w : World) : Calls Tryz.prog 100 #[.int .u32 (n32 x), .int .i64 2] w fun e w' => e = .returned (.int .u32 (n32 (Sh.rotr x 2))) ∧ w = w' := right_any x 2 w (by omega) (by omega)
theorem right_6 (x : UInt32) (w : World) : Calls Tryz.prog 100 #[.int .u32 (n32 x), .int .i64 6] w fun e w' => e = .returned (.int .u32 (n32 (Sh.rotr x 6))) ∧ w = w' := right_any x 6 w (by omega) (by omega)
theorem right_7 (x : UInt32) (w : World) : Calls Tryz.prog 100 #[.int .u32 (n32 x), .int .i64 7] w fun e w' => e = .returned (.int .u32 (n32 (Sh.rotr x 7))) ∧ w = w' := right_any x 7 w (by omega) (by omega)
theorem right_11 (x : UInt32) (w : World) : Calls Tryz.prog 100 #[.int .u32 (n32 x), .int .i64 11] w fun e w' => e = .returned (.int .u32 (n32 (Sh.rotr x 11))) ∧ w = w' := right_any x 11 w (by omega) (by omega)
theorem right_13 (x : UInt32) (w : World) : Calls Tryz.prog 100 #[.int .u32 (n32 x), .int .i64 13] w fun e w' => e = .returned (.int .u32 (n32 (Sh.rotr x 13))) ∧ w = w' := right_any x 13 w (by omega) (by omega)
theorem right_17 (x : UInt32) (w : World) : Calls Tryz.prog 100 #[.int .u32 (n32 x), .int .i64 17] w fun e w' => e = .returned (.int .u32 (n32 (Sh.rotr x 17))) ∧ w = w' := right_any x 17 w (by omega) (by omega)
theorem right_18 (x : UInt32) (w : World) : Calls Tryz.prog 100 #[.int .u32 (n32 x), .int .i64 18] w fun e w' => e = .returned (.int .u32 (n32 (Sh.rotr x 18))) ∧ w = w' := right_any x 18 w (by omega) (by omega)
theorem right_19 (x : UInt32) (w : World) : Calls Tryz.prog 100 #[.int .u32 (n32 x), .int .i64 19] w fun e w' => e = .returned (.int .u32 (n32 (Sh.rotr x 19))) ∧ w = w' := right_any x 19 w (by omega) (by omega)
theorem right_22 (x : UInt32) (w : World) : Calls Tryz.prog 100 #[.int .u32 (n32 x), .int .i64 22] w fun e w' => e = .returned (.int .u32 (n32 (Sh.rotr x 22))) ∧ w = w' := right_any x 22 w (by omega) (by omega)
theorem right_25 (x : UInt32) (w : World) : Calls Tryz.prog 100 #[.int .u32 (n32 x), .int .i64 25] w fun e w' => e = .returned (.int .u32 (n32 (Sh.rotr x 25))) ∧ w = w' := right_any x 25 w (by omega) (by omega)
end Go.Proofs.YtlbnibmcflmohaaGreat
/- sha.schedule: the 64 words of a block. -/
namespace Go.Proofs.YtlbnibmcflmohaaGreat
open Go.RowKit
def u32 (x : UInt32) : Value := .int .u32 (n32 x)
def u32s (l : List UInt32) : List Value := l.map u32
theorem u32s_len (l : List UInt32) : (u32s l).length = l.length := by simp [u32s]
theorem u32s_get {l : List UInt32} {k : Nat} {x : UInt32} (h : l[k]? = some x) : (u32s l)[k]? = some (.int .u32 (n32 x)) := by simp [u32s, h, u32]
theorem u32s_one (l : List UInt32) : ∀ v ∈ u32s l, v.oneCell' = true := by
  intro v hv
  obtain ⟨c, _, rfl⟩ := List.mem_map.1 hv
  rfl
def row32 (l : List UInt32) (N : Nat) : List Value := u32s l ++ rep (N - l.length) (.int .u32 0)
theorem row32_len (l : List UInt32) (N : Nat) (h : l.length ≤ N) : (row32 l N).length = N := by simp [row32, u32s_len, rep_length]; omega
theorem row32_set (l : List UInt32) (N : Nat) (x : UInt32) (h : l.length < N) : (row32 l N).set l.length (.int .u32 (n32 x)) = row32 (l ++ [x]) N := by
  unfold row32
  rw [List.set_append_right _ _ (by rw [u32s_len]; exact Nat.le_refl _), u32s_len, Nat.sub_self]
  obtain ⟨k, hk⟩ : ∃ k, N - l.length = k + 1 := ⟨N - l.length - 1, by omega⟩
  rw [hk, List.length_append, List.length_singleton, show N - (l.length + 1) = k by omega]
  simp [u32s, rep, List.replicate_succ, u32]
theorem row32_get (l : List UInt32) (N k : Nat) (x : UInt32) (h : l[k]? = some x) : (row32 l N)[k]? = some (.int .u32 (n32 x)) := by
  unfold row32
  have := (List.getElem?_eq_some_iff.1 h).1
  rw [List.getElem?_append_left (by rw [u32s_len]; exact this)]
  exact u32s_get h
theorem hd199 : (Tryz.prog.info? 166).map (·.size) = some 64 := by kernel_rfl
theorem be32_or (a b c d : UInt8) : bits .or .u32 (bits .or .u32 (bits .or .u32 ((a.toNat : Int) * 16777216) ((b.toNat : Int) * 65536)) ((c.toNat : Int) * 256)) (d.toNat : Int) = n32 (Sh.be32 a b c d) := by
  have ha := a.toNat_lt
  have hb := b.toNat_lt
  have hc := c.toNat_lt
  have hd := d.toNat_lt
  have e1 : bits .or .u32 ((a.toNat : Int) * 16777216) ((b.toNat : Int) * 65536) = ((a.toNat * 16777216 + b.toNat * 65536 : Nat) : Int) := by
    refine (u32_or_nat (a.toNat * 16777216) (b.toNat * 65536) (by omega) (by omega)).trans ?_
    rw [nat_join 24 _ _ (by omega) (by omega)]
  have e2 : bits .or .u32 ((a.toNat * 16777216 + b.toNat * 65536 : Nat) : Int) ((c.toNat : Int) * 256) = ((a.toNat * 16777216 + b.toNat * 65536 + c.toNat * 256 : Nat) : Int) := by
    refine (u32_or_nat (a.toNat * 16777216 + b.toNat * 65536) (c.toNat * 256) (by omega) (by omega)).trans ?_
    rw [nat_join 16 _ _ (by omega) (by omega)]
  rw [e1, e2, u32_or_nat _ _ (by omega) (by omega), nat_join 8 _ _ (by omega) (by omega)]
  unfold n32 Sh.be32
  rw [UInt32.toNat_ofNat']
  congr 1
  omega
theorem words_step {l : List UInt8} {i : Nat} (hi : i < 16) {a b c d : UInt8} (h0 : l[4 * i]? = some a) (h1 : l[4 * i + 1]? = some b) (h2 : l[4 * i + 2]? = some c) (h3 : l[4 * i + 3]? = some d) : Sh.words l (i + 1) = Sh.words l i ++ [Sh.be32 a b c d] := by
  rw [Sh.words]
  simp only [if_pos hi, List.getD_eq_getElem?_getD, h0, h1, h2, h3, Option.getD_some]
theorem words_more {l : List UInt8} {i : Nat} (hi : 16 ≤ i) {a b c d : UInt32} (h0 : (Sh.words l i)[i - 2]? = some a) (h1 : (Sh.words l i)[i - 7]? = some b) (h2 : (Sh.words l i)[i - 15]? = some c) (h3 : (Sh.words l i)[i - 16]? = some d) : Sh.words l (i + 1) = Sh.words l i ++ [Sh.sm1 a + b + Sh.sm0 c + d] := by
  rw [Sh.words]
  simp only [if_neg (show ¬ i < 16 by omega), List.getD_eq_getElem?_getD, h0, h1, h2, h3, Option.getD_some]
theorem words_at (l : List UInt8) (i k : Nat) (h : k < i) : ∃ x, (Sh.words l i)[k]? = some x := ⟨_, List.getElem?_eq_getElem (by rw [Sh.words_len]; exact h)⟩
theorem ldq_199 (v : Value) : Instr.loadAt 166 v = ldAt 166 v := rfl
theorem stq_199 (p v : Value) : Instr.storeAt 166 p v = stAt 166 p v := rfl
attribute [local go_sem ↓] ldq_199 stq_199
attribute [local go_sem] n32_xor n32_and n32_or n32_addm n32_add n32_shr3 n32_shr10
set_option maxRecDepth 100000 in
set_option maxHeartbeats 4000000 in
theorem sched_any (A : Option Addr) (c : Nat) (l : List UInt8) (w : World) (h : Rd w A 64 (u8s l)) :
    Calls Tryz.prog 98 #[.slice A 64 c] w fun e w' => e = .returned (.agg (u32s (Sh.words l 64)).toArray) ∧ Below w.heap.size w w' := by
  have HL := Lib.hid h.len
  go_enter Tryz.func98, Tryz.ntmps98
  go_wp2_with fail
  go_loopg [4] 16 (fun k q wr => ∃ i : Nat, i ≤ 16 ∧ k = 16 - i ∧ q = .int .i64 i ∧ Blk wr (w.heap.size + 1) 166 (row32 (Sh.words l i) 64) ∧ Blk wr w.heap.size 166 (row32 [] 64) ∧ Below w.heap.size w wr)
  case atStart => exact ⟨0, by omega, rfl, rfl, Blk.new' (by simp) rfl, (Blk.new' rfl rfl).alloc _, ((Below.refl _ _).alloc (Nat.le_refl _) _).alloc (by simp) _⟩
  case round =>
    obtain ⟨i, hi, hgk, rfl, hb, hz, hB⟩ := hrel
    have HGK := Lib.hid hgk
    clear hgk
    by_cases hlt : i < 16
    · obtain ⟨b, off, x0, rfl, hbl, HX0, c0⟩ := (h.below hB).u8 (k := 4 * i) (by omega)
      obtain ⟨_, _, x1, e1, _, HX1, c1⟩ := (h.below hB).u8 (k := 4 * i + 1) (by omega)
      cases e1
      obtain ⟨_, _, x2, e2, _, HX2, c2⟩ := (h.below hB).u8 (k := 4 * i + 2) (by omega)
      cases e2
      obtain ⟨_, _, x3, e3, _, HX3, c3⟩ := (h.below hB).u8 (k := 4 * i + 3) (by omega)
      cases e3
      have b0 := x0.toNat_lt
      have b1 := x1.toNat_lt
      have b2 := x2.toNat_lt
      have b3 := x3.toNat_lt
      have hc := hb.cell i
      rw [List.getElem?_eq_getElem (by rw [row32_len _ _ (by rw [Sh.words_len]; omega)]; omega)] at hc
      have hf := hb.frozen i
      have hlt1 := hb.lt
      have HE := Lib.hid (be32_or x0 x1 x2 x3)
      have HW := Lib.hid (words_step hlt HX0.out HX1.out HX2.out HX3.out)
      go_wp2_with fail
      go_region
      rw [HE.out]
      have hb2 : Hid (Blk (wr.setCell ⟨w.heap.size + 1, i, none⟩ (.int .u32 (n32 (Sh.be32 x0 x1 x2 x3)))).drew (w.heap.size + 1) 166 (row32 (Sh.words l (i + 1)) 64)) := by
        have := (hb.set_ i (.int .u32 (n32 (Sh.be32 x0 x1 x2 x3)))).drew
        have e := row32_set (Sh.words l i) 64 (Sh.be32 x0 x1 x2 x3) (by rw [Sh.words_len]; omega)
        rw [Sh.words_len] at e
        rw [e, ← HW.out] at this
        exact this
      have hz2 := Lib.hid ((hz.far (p := ⟨w.heap.size + 1, i, none⟩) (by show w.heap.size ≠ w.heap.size + 1; omega) (.int .u32 (n32 (Sh.be32 x0 x1 x2 x3)))).drew)
      have hB2 := Lib.hid ((hB.setCell (p := ⟨w.heap.size + 1, i, none⟩) (by show w.heap.size ≤ w.heap.size + 1; omega) (.int .u32 (n32 (Sh.be32 x0 x1 x2 x3)))).drew)
      clear hb hz hB c0 c1 c2 c3 hc hf
      generalize (wr.setCell ⟨w.heap.size + 1, i, none⟩ (.int .u32 (n32 (Sh.be32 x0 x1 x2 x3)))).drew = w2 at *
      go_wp2_with fail
      go_roundg (16 - (i + 1))
      case measure => have := HGK.out; omega
      case rel => exact ⟨i + 1, by omega, rfl, by go_num, hb2.out, hz2.out, hB2.out⟩
    · obtain rfl : i = 16 := by omega
      clear HGK hlt hi
      go_wp2_with fail
      go_loopg [5] 48 (fun k q wr => ∃ i : Nat, 16 ≤ i ∧ i ≤ 64 ∧ k = 64 - i ∧ q = .int .i64 i ∧ Blk wr (w.heap.size + 1) 166 (row32 (Sh.words l i) 64) ∧ Blk wr w.heap.size 166 (row32 [] 64) ∧ Below w.heap.size w wr)
      case atStart => exact ⟨16, by omega, by omega, rfl, rfl, hb, hz, hB⟩
      case round =>
        clear hb hz hB
        obtain ⟨i, hi, hi2, hgk, rfl, hb, hz, hB⟩ := hrel
        have HGK := Lib.hid hgk
        clear hgk
        by_cases hlt : i < 64
        · obtain ⟨x2, h2⟩ := words_at l i (i - 2) (by omega)
          obtain ⟨x7, h7⟩ := words_at l i (i - 7) (by omega)
          obtain ⟨x15, h15⟩ := words_at l i (i - 15) (by omega)
          obtain ⟨x16, h16⟩ := words_at l i (i - 16) (by omega)
          have c2 := (hb.cell (i - 2)).trans (row32_get _ 64 _ _ h2)
          have c7 := (hb.cell (i - 7)).trans (row32_get _ 64 _ _ h7)
          have c15 := (hb.cell (i - 15)).trans (row32_get _ 64 _ _ h15)
          have c16 := (hb.cell (i - 16)).trans (row32_get _ 64 _ _ h16)
          have hc := hb.cell i
          rw [List.getElem?_eq_getElem (by rw [row32_len _ _ (by rw [Sh.words_len]; omega)]; omega)] at hc
          have hf := hb.frozen i
          have hlt1 := hb.lt
          have HW := Lib.hid (words_more hi h2 h7 h15 h16)
          clear h2 h7 h15 h16
          go_wp2_with fail
          go_region
          go_wp2_with (go_at_call 100; (first | (with_reducible refine (right_7 _ _).mono ?_) | (with_reducible refine (right_18 _ _).mono ?_) | (with_reducible refine (right_17 _ _).mono ?_) | (with_reducible refine (right_19 _ _).mono ?_)); rintro e w' ⟨rfl, rfl⟩)
          go_region
          obtain ⟨v, hv⟩ : ∃ v, v = Sh.sm1 x2 + x7 + Sh.sm0 x15 + x16 := ⟨_, rfl⟩
          have hb2 : Hid (Blk (wr.setCell ⟨w.heap.size + 1, i, none⟩ (.int .u32 (n32 v))).drew.drew (w.heap.size + 1) 166 (row32 (Sh.words l (i + 1)) 64)) := by
            have := (hb.set_ i (.int .u32 (n32 v))).drew.drew
            have e := row32_set (Sh.words l i) 64 v (by rw [Sh.words_len]; omega)
            rw [Sh.words_len] at e
            rw [e, hv, ← HW.out, ← hv] at this
            exact this
          have hz2 := Lib.hid ((hz.far (p := ⟨w.heap.size + 1, i, none⟩) (by show w.heap.size ≠ w.heap.size + 1; omega) (.int .u32 (n32 v))).drew.drew)
          have hB2 := Lib.hid ((hB.setCell (p := ⟨w.heap.size + 1, i, none⟩) (by show w.heap.size ≤ w.heap.size + 1; omega) (.int .u32 (n32 v))).drew.drew)
          have hv' : v = (Sh.rotr x2 17 ^^^ Sh.rotr x2 19 ^^^ x2 >>> 10) + x7 + (Sh.rotr x15 7 ^^^ Sh.rotr x15 18 ^^^ x15 >>> 3) + x16 := hv
          rw [← hv']
          clear hb hz hB c2 c7 c15 c16 hc hf hv hv'
          generalize (wr.setCell ⟨w.heap.size + 1, i, none⟩ (.int .u32 (n32 v))).drew.drew = w2 at *
          go_wp2_with fail
          go_roundg (64 - (i + 1))
          case measure => have := HGK.out; omega
          case rel => exact ⟨i + 1, by omega, by omega, rfl, by go_num, hb2.out, hz2.out, hB2.out⟩
        · obtain rfl : i = 64 := by omega
          clear HGK hlt hi hi2
          have hrow : row32 (Sh.words l 64) 64 = u32s (Sh.words l 64) := by unfold row32; rw [Sh.words_len]; simp [rep]
          have hul : (u32s (Sh.words l 64)).length = 64 := by rw [u32s_len, Sh.words_len]
          rw [hrow] at hb
          have HU := Lib.hid hul
          have HI : Hid ((Tryz.prog.info? 166).map (·.size) = some (u32s (Sh.words l 64)).length) := by rw [hul]; exact hd199
          have hgl := hz.lt
          clear hrow hul
          have hone : Hid (∀ v ∈ u32s (Sh.words l 64), v.oneCell' = true) := u32s_one _
          obtain ⟨U, hU⟩ : ∃ U, U = u32s (Sh.words l 64) := ⟨_, rfl⟩
          rw [← hU] at hb HU HI hone
          have HUE := Lib.hid hU
          clear hU
          have hld : (ldAt 166 (.pointer (some ⟨w.heap.size + 1, 0, none⟩))).run Tryz.prog wr = .ok (.agg U.toArray) wr := ldAt_run hb _ 0 U (by rw [List.drop_zero, List.take_length]) _ Tryz.underlying166 rfl HI.out
          have hst : (stAt 166 (.pointer (some ⟨w.heap.size, 0, none⟩)) (.agg U.toArray)).run Tryz.prog wr = .ok () (wr.setCells w.heap.size 0 U) := stAt_run hz _ 0 U (by rw [HU.out]; exact Nat.le_refl _) hone.out HI.out
          have hb4 := Lib.hid (setCells_heap w.heap.size _ U 0 _ wr hz (by rw [HU.out]; exact Nat.le_refl _))
          rw [splice_whole _ _ (by rw [HU.out]; rfl)] at hb4
          have hB4 := Lib.hid (setCells_below w.heap.size w.heap.size w U 0 wr hB (Nat.le_refl _))
          go_wp2_with fail
          exact bodyPost_ret (res_cell rfl _ w.heap.size 166 U rfl hb4.out _ Tryz.underlying166 rfl HI.out) rfl ⟨by rw [HUE.out], hB4.out⟩
end Go.Proofs.YtlbnibmcflmohaaGreat
/- sha.Constants, sha.Start. -/
namespace Go.Proofs.YtlbnibmcflmohaaGreat
open Go.RowKit
theorem hd144 : (Tryz.prog.info? 55).map (·.size) = some 8 := by kernel_rfl
set_option maxRecDepth 100000 in
set_option maxHeartbeats 1000000 in
theorem start_any (w : World) : Calls Tryz.prog 101 #[] w fun e w' => e = .returned (.agg (u32s Sh.start.list).toArray) ∧ Below w.heap.size w w' := by
  go_enter Tryz.func101, Tryz.ntmps101
  go_wp2_with fail
  exact bodyPost_ret (res_cell rfl _ w.heap.size 55 (u32s Sh.start.list) rfl (Blk.new' rfl rfl) _ Tryz.underlying55 rfl hd144) rfl ⟨rfl, (Below.refl _ _).alloc (Nat.le_refl _) _⟩
attribute [local go_sem ↓] ldq_199 stq_199
set_option maxRecDepth 100000 in
set_option maxHeartbeats 1000000 in
theorem consts_any (w : World) : Calls Tryz.prog 99 #[] w fun e w' => e = .returned (.agg (u32s Sh.ks).toArray) ∧ Below w.heap.size w w' := by
  have HI : Hid ((Tryz.prog.info? 166).map (·.size) = some (u32s Sh.ks).length) := hd199
  have HL : Hid ((u32s Sh.ks).length = 64) := rfl
  have hone : Hid (∀ v ∈ u32s Sh.ks, v.oneCell' = true) := u32s_one _
  have HE : Hid ((u32s Sh.ks).toArray = #[.int .u32 1116352408, .int .u32 1899447441, .int .u32 3049323471, .int .u32 3921009573, .int .u32 961987163, .int .u32 1508970993, .int .u32 2453635748, .int .u32 2870763221, .int .u32 3624381080, .int .u32 310598401, .int .u32 607225278, .int .u32 1426881987, .int .u32 1925078388, .int .u32 2162078206, .int .u32 2614888103, .int .u32 3248222580, .int .u32 3835390401, .int .u32 4022224774, .int .u32 264347078, .int .u32 604807628, .int .u32 770255983, .int .u32 1249150122, .int .u32 1555081692, .int .u32 1996064986, .int .u32 2554220882, .int .u32 2821834349, .int .u32 2952996808, .int .u32 3210313671, .int .u32 3336571891, .int .u32 3584528711, .int .u32 113926993, .int .u32 338241895, .int .u32 666307205, .int .u32 773529912, .int .u32 1294757372, .int .u32 1396182291, .int .u32 1695183700, .int .u32 1986661051, .int .u32 2177026350, .int .u32 2456956037, .int .u32 2730485921, .int .u32 2820302411, .int .u32 3259730800, .int .u32 3345764771, .int .u32 3516065817, .int .u32 3600352804, .int .u32 4094571909, .int .u32 275423344, .int .u32 430227734, .int .u32 506948616, .int .u32 659060556, .int .u32 883997877, .int .u32 958139571, .int .u32 1322822218, .int .u32 1537002063, .int .u32 1747873779, .int .u32 1955562222, .int .u32 2024104815, .int .u32 2227730452, .int .u32 2361852424, .int .u32 2428436474, .int .u32 2756734187, .int .u32 3204031479, .int .u32 3329325298]) := rfl
  obtain ⟨U, hU⟩ : ∃ U, U = u32s Sh.ks := ⟨_, rfl⟩
  rw [← hU] at HI hone HL HE
  have HUE := Lib.hid hU
  clear hU
  have hz : Blk (w.alloc (.cells #[.int .u32 0, .int .u32 0, .int .u32 0, .int .u32 0, .int .u32 0, .int .u32 0, .int .u32 0, .int .u32 0, .int .u32 0, .int .u32 0, .int .u32 0, .int .u32 0, .int .u32 0, .int .u32 0, .int .u32 0, .int .u32 0, .int .u32 0, .int .u32 0, .int .u32 0, .int .u32 0, .int .u32 0, .int .u32 0, .int .u32 0, .int .u32 0, .int .u32 0, .int .u32 0, .int .u32 0, .int .u32 0, .int .u32 0, .int .u32 0, .int .u32 0, .int .u32 0, .int .u32 0, .int .u32 0, .int .u32 0, .int .u32 0, .int .u32 0, .int .u32 0, .int .u32 0, .int .u32 0, .int .u32 0, .int .u32 0, .int .u32 0, .int .u32 0, .int .u32 0, .int .u32 0, .int .u32 0, .int .u32 0, .int .u32 0, .int .u32 0, .int .u32 0, .int .u32 0, .int .u32 0, .int .u32 0, .int .u32 0, .int .u32 0, .int .u32 0, .int .u32 0, .int .u32 0, .int .u32 0, .int .u32 0, .int .u32 0, .int .u32 0, .int .u32 0] 166)) w.heap.size 166 (row32 [] 64) := Blk.new w _ _
  have hB : Below w.heap.size w (w.alloc (.cells #[.int .u32 0, .int .u32 0, .int .u32 0, .int .u32 0, .int .u32 0, .int .u32 0, .int .u32 0, .int .u32 0, .int .u32 0, .int .u32 0, .int .u32 0, .int .u32 0, .int .u32 0, .int .u32 0, .int .u32 0, .int .u32 0, .int .u32 0, .int .u32 0, .int .u32 0, .int .u32 0, .int .u32 0, .int .u32 0, .int .u32 0, .int .u32 0, .int .u32 0, .int .u32 0, .int .u32 0, .int .u32 0, .int .u32 0, .int .u32 0, .int .u32 0, .int .u32 0, .int .u32 0, .int .u32 0, .int .u32 0, .int .u32 0, .int .u32 0, .int .u32 0, .int .u32 0, .int .u32 0, .int .u32 0, .int .u32 0, .int .u32 0, .int .u32 0, .int .u32 0, .int .u32 0, .int .u32 0, .int .u32 0, .int .u32 0, .int .u32 0, .int .u32 0, .int .u32 0, .int .u32 0, .int .u32 0, .int .u32 0, .int .u32 0, .int .u32 0, .int .u32 0, .int .u32 0, .int .u32 0, .int .u32 0, .int .u32 0, .int .u32 0, .int .u32 0] 166)) := (Below.refl _ _).alloc (Nat.le_refl _) _
  have hst := stAt_run (P := Tryz.prog) hz 166 0 U (by rw [HL.out]; exact Nat.le_refl _) hone.out HI.out
  have hb4 := Lib.hid (setCells_heap w.heap.size _ U 0 _ _ hz (by rw [HL.out]; exact Nat.le_refl _))
  rw [splice_whole _ _ (by rw [HL.out]; rfl)] at hb4
  have hB4 := Lib.hid (setCells_below w.heap.size w.heap.size w U 0 _ hB (Nat.le_refl _))
  rw [HE.out] at hst
  clear hz hB
  go_enter Tryz.func99, Tryz.ntmps99
  go_wp2_with fail
  exact bodyPost_ret (res_cell rfl _ w.heap.size 166 U rfl hb4.out _ Tryz.underlying166 rfl HI.out) rfl ⟨by rw [HUE.out], hB4.out⟩
end Go.Proofs.YtlbnibmcflmohaaGreat
/- sha.Compress: the state behind a block. -/
namespace Go.Proofs.YtlbnibmcflmohaaGreat
open Go.RowKit
theorem words_pre (l : List UInt8) (t : Nat) : ∀ i, t < i → (Sh.words l i)[t]? = (Sh.words l (t + 1))[t]? := by
  intro i
  induction i with
  | zero => intro h; omega
  | succ i ih =>
    intro h
    by_cases e : t = i
    · rw [e]
    · have : (Sh.words l (i + 1))[t]? = (Sh.words l i)[t]? := by
        conv => lhs; rw [Sh.words]
        exact List.getElem?_append_left (by rw [Sh.words_len]; omega)
      rw [this]
      exact ih (by omega)
theorem rounds_step {l : List UInt8} {s R : Sh.St} {t : Nat} (hR : Sh.rounds l s t = R) (ht : t < 64) {k x : UInt32} (hk : Sh.ks[t]? = some k) (hx : (Sh.words l 64)[t]? = some x) : Sh.rounds l s (t + 1) = Sh.rnd R k x := by
  rw [Sh.rounds, hR, List.getD_eq_getElem?_getD, List.getD_eq_getElem?_getD, hk, ← words_pre l t 64 ht, hx]
  rfl
def st8 (s : Sh.St) : List Value := [.int .u32 (n32 s.a), .int .u32 (n32 s.b), .int .u32 (n32 s.c), .int .u32 (n32 s.d), .int .u32 (n32 s.e), .int .u32 (n32 s.f), .int .u32 (n32 s.g), .int .u32 (n32 s.h)]
theorem st8_list (s : Sh.St) : st8 s = u32s s.list := rfl
theorem stq_144 (p v : Value) : Instr.storeAt 55 p v = stAt 55 p v := rfl
attribute [local go_sem ↓] ldq_199 stq_199 stq_144
attribute [local go_sem] n32_xor n32_and n32_or n32_addm n32_add n32_compl
theorem n32_sumd (d a b k x : UInt32) : (n32 d + (n32 a + n32 b + n32 k + n32 x)) % (4294967296 : Int) = n32 (d + (a + b + k + x)) := by
  unfold n32; simp only [UInt32.toNat_add]; omega
theorem n32_suma (a b k x y : UInt32) : (n32 a + n32 b + n32 k + n32 x + n32 y) % (4294967296 : Int) = n32 (a + b + k + x + y) := by
  unfold n32; simp only [UInt32.toNat_add]; omega
structure CIn (w : World) (s : Sh.St) (U V : List Value) (g : Nat) (wr : World) : Prop where
  us : Blk wr g 166 U
  vs : Blk wr (g + 1) 166 V
  st : Blk wr w.heap.size 55 (st8 s)
  out : Blk wr (w.heap.size + 1) 55 (u32s [0, 0, 0, 0, 0, 0, 0, 0])
  bel : Below w.heap.size w wr
theorem CIn.drew {w : World} {s : Sh.St} {U V : List Value} {g : Nat} {wr : World} (h : CIn w s U V g wr) : CIn w s U V g wr.drew := ⟨h.us.drew, h.vs.drew, h.st.drew, h.out.drew, h.bel.drew⟩
theorem Below.drewN' {B : Nat} {w w' : World} (h : Below B w w') (n : Nat) : Below B w (w'.drewN n) := ⟨h.os, h.tape, h.output, h.size, h.block⟩
theorem CIn.drewN {w : World} {s : Sh.St} {U V : List Value} {g : Nat} {wr : World} (h : CIn w s U V g wr) (n : Nat) : CIn w s U V g (wr.drewN n) := ⟨h.us.drewN n, h.vs.drewN n, h.st.drewN n, h.out.drewN n, Below.drewN' h.bel n⟩
theorem CIn.cells {w : World} {s : Sh.St} {U V : List Value} {g : Nat} {wr : World} (h : CIn w s U V g wr) : wr.cell? ⟨w.heap.size, 0, none⟩ = some (.int .u32 (n32 s.a)) ∧ wr.cell? ⟨w.heap.size, 1, none⟩ = some (.int .u32 (n32 s.b)) ∧ wr.cell? ⟨w.heap.size, 2, none⟩ = some (.int .u32 (n32 s.c)) ∧ wr.cell? ⟨w.heap.size, 3, none⟩ = some (.int .u32 (n32 s.d)) ∧
    wr.cell? ⟨w.heap.size, 4, none⟩ = some (.int .u32 (n32 s.e)) ∧ wr.cell? ⟨w.heap.size, 5, none⟩ = some (.int .u32 (n32 s.f)) ∧ wr.cell? ⟨w.heap.size, 6, none⟩ = some (.int .u32 (n32 s.g)) ∧ wr.cell? ⟨w.heap.size, 7, none⟩ = some (.int .u32 (n32 s.h)) :=
  ⟨h.st.cell 0, h.st.cell 1, h.st.cell 2, h.st.cell 3, h.st.cell 4, h.st.cell 5, h.st.cell 6, h.st.cell 7⟩
set_option maxRecDepth 100000 in
set_option maxHeartbeats 4000000 in
theorem compress_any (s : Sh.St) (A : Option Addr) (c : Nat) (l : List UInt8) (w : World) (h : Rd w A 64 (u8s l)) :
    Calls Tryz.prog 92 #[.agg (st8 s).toArray, .slice A 64 c] w fun e w' => e = .returned (.tuple #[.agg (st8 (Sh.comp s l)).toArray, .int .i64 0]) ∧ Below w.heap.size w w' := by
  have HSC := Lib.hid (fun W (h : Rd W A 64 (u8s l)) => sched_any A c l W h)
  have HCN := Lib.hid consts_any
  have HU1 : Hid ((u32s (Sh.words l 64)).length = 64) := by show _ = _; rw [u32s_len, Sh.words_len]
  have HV1 : Hid ((u32s Sh.ks).length = 64) := rfl
  have HUo : Hid (∀ v ∈ u32s (Sh.words l 64), v.oneCell' = true) := u32s_one _
  have HVo : Hid (∀ v ∈ u32s Sh.ks, v.oneCell' = true) := u32s_one _
  obtain ⟨U, hU⟩ : ∃ U, U = u32s (Sh.words l 64) := ⟨_, rfl⟩
  obtain ⟨V, hV⟩ : ∃ V, V = u32s Sh.ks := ⟨_, rfl⟩
  rw [← hU] at HU1 HUo HSC
  rw [← hV] at HV1 HVo HCN
  have HUE := Lib.hid hU
  have HVE := Lib.hid hV
  have HUi : Hid ((Tryz.prog.info? 166).map (·.size) = some U.length) := by rw [HU1.out]; exact hd199
  have HVi : Hid ((Tryz.prog.info? 166).map (·.size) = some V.length) := by rw [HV1.out]; exact hd199
  have HR := Lib.hid h
  clear hU hV h
  unfold st8
  go_enter Tryz.func92, Tryz.ntmps92
  go_wp2_with (first
    | (go_at_call 98; (with_reducible refine (HSC.out _ (by exact (HR.out.alloc _).alloc _)).mono ?_); rintro e w3 ⟨rfl, hB3⟩)
    | (go_at_call 99; (with_reducible refine (HCN.out _).mono ?_); rintro e w4 ⟨rfl, hB4⟩)
    | (refine wpList_store_all rfl 166 (.tmp 6) (.tmp 26) rfl w4.heap.size U (by rfl) (by rfl) 166 (row32 [] 64) (by exact (Blk.new' rfl rfl).alloc _) HUi.out HUo.out (by rw [HU1.out]; rfl) ?_; intro w5 hb5 ho5)
    | (refine wpList_store_all rfl 166 (.tmp 7) (.tmp 27) rfl (w4.heap.size + 1) V (by rfl) (by rfl) 166 (row32 [] 64) (by exact ho5.blk (Blk.new' (by simp) rfl) (by omega)) HVi.out HVo.out (by rw [HV1.out]; rfl) ?_; intro w6 hb6 ho6))
  have HM : Hid (CIn w s U V w4.heap.size w6) := by
    have hBw4 : Below w.heap.size w w4 := ((((Below.refl _ w).alloc (Nat.le_refl _) _).alloc (by simp) _).trans (hB3.mono (by simp; omega))).trans (hB4.mono (by have := hB3.size; simp at this; omega))
    have hs3 := hB3.size
    have hs4 := hB4.size
    simp at hs3
    have hB5 := ho5.below ((hBw4.alloc hBw4.size _).alloc (Nat.le_trans hBw4.size (by simp)) _) hBw4.size (Nat.le_trans hBw4.size (by simp; omega))
    refine ⟨ho6.blk hb5 (by omega), hb6, ?_, ?_, ho6.below hB5 (by omega) (by have := hb6.lt; have := ho6.size; omega)⟩
    · exact ho6.blk (ho5.blk (((((Blk.new w _ _).alloc _).below hB3 (by simp; omega)).below hB4 (by omega)).alloc _ |>.alloc _) (by omega)) (by omega)
    · exact ho6.blk (ho5.blk (((((Blk.new' (by simp) rfl : Blk _ (w.heap.size + 1) _ (u32s [0, 0, 0, 0, 0, 0, 0, 0])).below hB3 (by simp)).below hB4 (by omega)).alloc _).alloc _) (by omega)) (by omega)
  have hgl : w.heap.size + 1 < w4.heap.size := by have := hB3.size; have := hB4.size; simp at *; omega
  generalize w4.heap.size = g at *
  clear hb5 ho5 hb6 ho6 hB3 hB4
  obtain ⟨d0, d1, d2, d3, d4, d5, d6, d7⟩ := HM.out.cells
  go_quiet (fail)
  go_wp2_with fail
  go_quiet (fail)
  have HM2 : Hid (∀ n m, CIn w s U V g ((w6.drewN n).drewN m)) := fun n m => (HM.out.drewN n).drewN m
  clear d0 d1 d2 d3 d4 d5 d6 d7 HM
  go_wp2_with fail
  go_loopg [8, 9, 10, 11, 12, 13, 14, 15, 16] 64 (fun k qa qb qc qd qe qf qg qh q wr => ∃ (t : Nat) (R : Sh.St), t ≤ 64 ∧ k = 64 - t ∧ q = .int .i64 t ∧ Hid (Sh.rounds l s t = R) ∧ CIn w s U V g wr ∧
    qa = .int .u32 (n32 R.a) ∧ qb = .int .u32 (n32 R.b) ∧ qc = .int .u32 (n32 R.c) ∧ qd = .int .u32 (n32 R.d) ∧ qe = .int .u32 (n32 R.e) ∧ qf = .int .u32 (n32 R.f) ∧ qg = .int .u32 (n32 R.g) ∧ qh = .int .u32 (n32 R.h))
  case atStart => exact ⟨0, s, by omega, rfl, rfl, rfl, HM2.out _ _, rfl, rfl, rfl, rfl, rfl, rfl, rfl, rfl⟩
  case round =>
    obtain ⟨t, R, ht, hgk, rfl, HRR, hM, rfl, rfl, rfl, rfl, rfl, rfl, rfl, rfl⟩ := hrel
    have HGK := Lib.hid hgk
    have HM := Lib.hid hM
    clear hgk hM HM2
    by_cases hlt : t < 64
    · obtain ⟨k, hk⟩ : ∃ k, Sh.ks[t]? = some k := ⟨_, List.getElem?_eq_getElem (by exact hlt)⟩
      obtain ⟨x, hx⟩ : ∃ x, (Sh.words l 64)[t]? = some x := ⟨_, List.getElem?_eq_getElem (by rw [Sh.words_len]; exact hlt)⟩
      have HS := Lib.hid (rounds_step HRR.out hlt hk hx)
      have c6 : wr.cell? ⟨g, t, none⟩ = some (.int .u32 (n32 x)) := by rw [HM.out.us.cell, HUE.out]; exact u32s_get hx
      have c7 : wr.cell? ⟨g + 1, t, none⟩ = some (.int .u32 (n32 k)) := by rw [HM.out.vs.cell, HVE.out]; exact u32s_get hk
      clear hk hx
      obtain ⟨a, b, c', d, e, f, g', h'⟩ := R
      go_wp2_with (go_at_call 100; (first | (with_reducible refine (right_6 _ _).mono ?_) | (with_reducible refine (right_11 _ _).mono ?_) | (with_reducible refine (right_25 _ _).mono ?_)); rintro e w' ⟨rfl, rfl⟩)
      go_quiet (fail)
      go_wp2_with (go_at_call 100; (first | (with_reducible refine (right_2 _ _).mono ?_) | (with_reducible refine (right_13 _ _).mono ?_) | (with_reducible refine (right_22 _ _).mono ?_)); rintro e w' ⟨rfl, rfl⟩)
      have HM3 : Hid (∀ n, CIn w s U V g (wr.drewN n)) := fun n => HM.out.drewN n
      go_roundg (64 - (t + 1))
      case measure => have := HGK.out; omega
      case rel => exact ⟨t + 1, _, by omega, rfl, by go_num, HS.out, HM3.out _, (by rw [n32_suma]; rfl), rfl, rfl, rfl, (by rw [n32_sumd]; rfl), rfl, rfl, rfl⟩
    · obtain rfl : t = 64 := by omega
      have HE : Hid (Sh.comp s l = ⟨s.a + R.a, s.b + R.b, s.c + R.c, s.d + R.d, s.e + R.e, s.f + R.f, s.g + R.g, s.h + R.h⟩) := by show _ = _; rw [← HRR.out]; rfl
      obtain ⟨d0, d1, d2, d3, d4, d5, d6, d7⟩ := HM.out.cells
      obtain ⟨a, b, c', d, e, f, g', h'⟩ := R
      have ho := Lib.hid HM.out.out
      have hbl := HM.out.out.lt
      have hB := Lib.hid HM.out.bel
      have HI8 : Hid ((Tryz.prog.info? 55).map (·.size) = some 8) := hd144
      obtain ⟨N, hN⟩ : ∃ N : List Value, N = [.int .u32 (n32 (s.a + a)), .int .u32 (n32 (s.b + b)), .int .u32 (n32 (s.c + c')), .int .u32 (n32 (s.d + d)), .int .u32 (n32 (s.e + e)), .int .u32 (n32 (s.f + f)), .int .u32 (n32 (s.g + g')), .int .u32 (n32 (s.h + h'))] := ⟨_, rfl⟩
      have hst : (stAt 55 (.pointer (some ⟨w.heap.size + 1, 0, none⟩)) (.agg #[.int .u32 (n32 (s.a + a)), .int .u32 (n32 (s.b + b)), .int .u32 (n32 (s.c + c')), .int .u32 (n32 (s.d + d)), .int .u32 (n32 (s.e + e)), .int .u32 (n32 (s.f + f)), .int .u32 (n32 (s.g + g')), .int .u32 (n32 (s.h + h'))])).run Tryz.prog wr = .ok () (wr.setCells (w.heap.size + 1) 0 N) := by
        have := stAt_run (P := Tryz.prog) ho.out 55 0 N (by rw [hN]; exact Nat.le_refl 8) (by rw [hN]; exact u32s_one [s.a + a, s.b + b, s.c + c', s.d + d, s.e + e, s.f + f, s.g + g', s.h + h']) (by rw [hN]; exact HI8.out)
        rw [hN] at this ⊢
        exact this
      have hb8 := Lib.hid (setCells_heap (w.heap.size + 1) _ N 0 _ _ ho.out (by rw [hN]; exact Nat.le_refl 8))
      rw [splice_whole _ _ (by rw [hN]; rfl)] at hb8
      have hB8 := Lib.hid (setCells_below (w.heap.size + 1) w.heap.size w N 0 _ hB.out (Nat.le_succ _))
      have HN := Lib.hid hN
      clear HM HUE HVE hN
      go_wp2_with fail
      exact bodyPost_ret (res_cell_tmp rfl _ (w.heap.size + 1) _ N rfl hb8.out _ Tryz.underlying55 rfl (by rw [HN.out]; exact HI8.out)) rfl ⟨by rw [HE.out, HN.out]; rfl, hB8.out⟩
end Go.Proofs.YtlbnibmcflmohaaGreat
