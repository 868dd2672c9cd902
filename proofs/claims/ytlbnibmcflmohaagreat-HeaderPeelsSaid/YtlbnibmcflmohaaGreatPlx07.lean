/- Part of the proof: ChP. -/
import Derived.Test.YtlbnibmcflmohaaGreatPlx03
namespace Go.Proofs.YtlbnibmcflmohaaGreat
open Go.RowKit
theorem rotl_16 (x : UInt32) (w : World) : Calls Tryz.prog 102 #[.int .u32 (n32 x), .int .i64 16] w fun e w' => e = .returned (.int .u32 (n32 (Sh.rotr x 16))) ∧ w = w' := rotl_any x 16 16 w (by decide) (by omega) (by omega)
theorem rotl_12 (x : UInt32) (w : World) : Calls Tryz.prog 102 #[.int .u32 (n32 x), .int .i64 12] w fun e w' => e = .returned (.int .u32 (n32 (Sh.rotr x 20))) ∧ w = w' := rotl_any x 12 12 w (by decide) (by omega) (by omega)
theorem rotl_8 (x : UInt32) (w : World) : Calls Tryz.prog 102 #[.int .u32 (n32 x), .int .i64 8] w fun e w' => e = .returned (.int .u32 (n32 (Sh.rotr x 24))) ∧ w = w' := rotl_any x 8 8 w (by decide) (by omega) (by omega)
theorem rotl_7 (x : UInt32) (w : World) : Calls Tryz.prog 102 #[.int .u32 (n32 x), .int .i64 7] w fun e w' => e = .returned (.int .u32 (n32 (Sh.rotr x 25))) ∧ w = w' := rotl_any x 7 7 w (by decide) (by omega) (by omega)
def q4 (q : UInt32 × UInt32 × UInt32 × UInt32) : Value := .tuple #[.int .u32 (n32 q.1), .int .u32 (n32 q.2.1), .int .u32 (n32 q.2.2.1), .int .u32 (n32 q.2.2.2)]
attribute [local go_sem] n32_xor n32_and n32_or n32_addm n32_add
set_option maxHeartbeats 1000000 in
theorem quarter_any (a b c d : UInt32) (w : World) :
    Calls Tryz.prog 97 #[.int .u32 (n32 a), .int .u32 (n32 b), .int .u32 (n32 c), .int .u32 (n32 d)] w fun e w' => e = .returned (q4 (Ch.quarter a b c d)) ∧ w = w' := by
  go_enter Tryz.func97, Tryz.ntmps97
  go_wp2_with (go_at_call 102; (first | (with_reducible refine (rotl_16 _ _).mono ?_) | (with_reducible refine (rotl_12 _ _).mono ?_) | (with_reducible refine (rotl_8 _ _).mono ?_) | (with_reducible refine (rotl_7 _ _).mono ?_)); rintro e w' ⟨rfl, rfl⟩)
  exact bodyPost_ret (v := q4 (Ch.quarter a b c d)) (by simp [results, Tryz.results97, go_sem]; rfl) rfl ⟨rfl, rfl⟩
theorem le32_or (a b c d : UInt8) : bits .or .u32 (bits .or .u32 (bits .or .u32 (a.toNat : Int) ((b.toNat : Int) * 256)) ((c.toNat : Int) * 65536)) ((d.toNat : Int) * 16777216) = n32 (Ch.le32 a b c d) := by
  have ha := a.toNat_lt
  have hb := b.toNat_lt
  have hc := c.toNat_lt
  have hd := d.toNat_lt
  have e1 : bits .or .u32 (a.toNat : Int) ((b.toNat : Int) * 256) = ((b.toNat * 256 + a.toNat : Nat) : Int) := by
    refine (u32_or_nat (a.toNat) (b.toNat * 256) (by omega) (by omega)).trans ?_
    rw [Nat.or_comm, nat_join 8 _ _ (by omega) (by omega)]
  have e2 : bits .or .u32 ((b.toNat * 256 + a.toNat : Nat) : Int) ((c.toNat : Int) * 65536) = ((c.toNat * 65536 + (b.toNat * 256 + a.toNat) : Nat) : Int) := by
    refine (u32_or_nat (b.toNat * 256 + a.toNat) (c.toNat * 65536) (by omega) (by omega)).trans ?_
    rw [Nat.or_comm, nat_join 16 _ _ (by omega) (by omega)]
  rw [e1, e2]
  refine (u32_or_nat (c.toNat * 65536 + (b.toNat * 256 + a.toNat)) (d.toNat * 16777216) (by omega) (by omega)).trans ?_
  rw [Nat.or_comm, nat_join 24 _ _ (by omega) (by omega)]
  unfold n32 Ch.le32 Sh.be32
  rw [UInt32.toNat_ofNat']
  congr 1
  omega
set_option maxHeartbeats 1000000 in
theorem word_any (A : Option Addr) (n c : Nat) (l : List UInt8) (k : Nat) (w : World) (h : Rd w A n (u8s l)) (hk : 4 * k + 4 ≤ n) (hn : n ≤ 1000000) :
    Calls Tryz.prog 96 #[.slice A n c, .int .i64 (4 * (k : Int))] w fun e w' => e = .returned (.int .u32 (n32 (Ch.word l k))) ∧ ∃ q, w' = w.drewN q := by
  obtain ⟨b, off, x0, rfl, hbl, HX0, c0⟩ := h.u8 (k := 4 * k) (by omega)
  obtain ⟨_, _, x1, e1, _, HX1, c1⟩ := h.u8 (k := 4 * k + 1) (by omega)
  cases e1
  obtain ⟨_, _, x2, e2, _, HX2, c2⟩ := h.u8 (k := 4 * k + 2) (by omega)
  cases e2
  obtain ⟨_, _, x3, e3, _, HX3, c3⟩ := h.u8 (k := 4 * k + 3) (by omega)
  cases e3
  have b0 := x0.toNat_lt
  have b1 := x1.toNat_lt
  have b2 := x2.toNat_lt
  have b3 := x3.toNat_lt
  have HE := Lib.hid (le32_or x0 x1 x2 x3)
  have HW : Hid (Ch.word l k = Ch.le32 x0 x1 x2 x3) := by
    show _ = _
    unfold Ch.word
    simp only [List.getD_eq_getElem?_getD, HX0.out, HX1.out, HX2.out, HX3.out, Option.getD_some]
  have HR := Lib.hid h
  obtain ⟨m, hm⟩ : ∃ m, m = 4 * k := ⟨_, rfl⟩
  have hmi : 4 * (k : Int) = (m : Int) := by omega
  rw [← hm] at c0 c1 c2 c3 hk
  rw [hmi]
  clear hm hmi h
  go_enter Tryz.func96, Tryz.ntmps96
  go_wp2_with fail
  go_quiet (fail)
  go_wp2_with fail
  go_ret
  exact ⟨by rw [HW.out, ← HE.out]; rfl, _, rfl⟩
end Go.Proofs.YtlbnibmcflmohaaGreat
/- chacha.initial: the words ahead of the rounds. -/
namespace Go.Proofs.YtlbnibmcflmohaaGreat
open Go.RowKit
theorem hd184 : (Tryz.prog.info? 154).map (·.size) = some 16 := by kernel_rfl
theorem Below.drewM {B : Nat} {w w' : World} (h : Below B w w') (n : Nat) : Below B w (w'.drewN n) := ⟨h.os, h.tape, h.output, h.size, h.block⟩
theorem row32_sub {l : List UInt32} {N k : Nat} (hk : k < N) (hl : l.length ≤ N) : ∃ v, (row32 l N)[k]? = some v := ⟨_, List.getElem?_eq_getElem (by rw [row32_len _ _ hl]; exact hk)⟩
set_option maxRecDepth 100000 in
set_option maxHeartbeats 4000000 in
theorem initial_any (A B : Option Addr) (c d : Nat) (key nonce : List UInt8) (ctr : UInt32) (w : World) (h : Rd w A 32 (u8s key)) (h2 : Rd w B 12 (u8s nonce)) :
    Calls Tryz.prog 90 #[.slice A 32 c, .slice B 12 d, .int .u32 (n32 ctr)] w fun e w' => e = .returned (.agg (u32s (Ch.initial key nonce ctr)).toArray) ∧ Below w.heap.size w w' := by
  have HI : Hid ((Tryz.prog.info? 154).map (·.size) = some (u32s (Ch.initial key nonce ctr)).length) := by rw [u32s_len, Ch.initial_len]; exact hd184
  have HL : Hid ((u32s (Ch.initial key nonce ctr)).length = 16) := by show _ = _; rw [u32s_len, Ch.initial_len]
  have H1 : Hid (∀ v ∈ u32s (Ch.initial key nonce ctr), v.oneCell' = true) := u32s_one _
  go_enter Tryz.func90, Tryz.ntmps90
  go_wp2_with fail
  go_loopg [8] 8 (fun k q wr => ∃ i : Nat, i ≤ 8 ∧ k = 8 - i ∧ q = .int .i64 i ∧ Blk wr (w.heap.size + 1) 154 (row32 (Ch.sigma ++ Ch.words key i) 16) ∧ Blk wr w.heap.size 154 (row32 [] 16) ∧ Below w.heap.size w wr)
  case atStart => exact ⟨0, by omega, rfl, rfl, Blk.new' (by simp) rfl, (Blk.new' rfl rfl).alloc _, ((Below.refl _ _).alloc (Nat.le_refl _) _).alloc (by simp) _⟩
  case round =>
    obtain ⟨i, hi, hgk, rfl, hb, hz, hB⟩ := hrel
    have HGK := Lib.hid hgk
    clear hgk
    by_cases hlt : i < 8
    · have HW := Lib.hid (fun W (hr : Rd W A 32 (u8s key)) => word_any A 32 c key i W hr (by omega) (by omega))
      have hll : (Ch.sigma ++ Ch.words key i).length = 4 + i := by rw [List.length_append, Ch.words_len]; rfl
      obtain ⟨v, hv⟩ := row32_sub (l := Ch.sigma ++ Ch.words key i) (N := 16) (k := 4 + i) (by omega) (by omega)
      have HV := Lib.hid hv
      have HSET : Hid ((row32 (Ch.sigma ++ Ch.words key i) 16).set (4 + i) (.int .u32 (n32 (Ch.word key i))) = row32 (Ch.sigma ++ Ch.words key (i + 1)) 16) := by
        have := row32_set (Ch.sigma ++ Ch.words key i) 16 (Ch.word key i) (by omega)
        rw [hll, List.append_assoc] at this
        exact this
      have HB := Lib.hid hb
      have HZ := Lib.hid hz
      have HBE := Lib.hid hB
      have i0 : (0 : Int) ≤ 4 + (i : Int) := by omega
      have i1 : (4 + (i : Int)) < 16 := by omega
      have c0 := (hb.cell (4 + i)).trans hv
      have f0 := hb.frozen (4 + i)
      have hlt1 := hb.lt
      clear hb hz hB hv hll
      go_wp2_with (go_at_call 96; (with_reducible refine (HW.out _ (by exact h.below HBE.out)).mono ?_); rintro e w2 ⟨rfl, q, rfl⟩)
      have hb2 := Lib.hid (HB.out.set_ (4 + i) (.int .u32 (n32 (Ch.word key i))))
      rw [HSET.out] at hb2
      have hz2 := Lib.hid (HZ.out.far (p := ⟨w.heap.size + 1, 4 + i, none⟩) (by show w.heap.size ≠ w.heap.size + 1; omega) (.int .u32 (n32 (Ch.word key i))))
      have hB2 := Lib.hid (HBE.out.setCell (p := ⟨w.heap.size + 1, 4 + i, none⟩) (by show w.heap.size ≤ w.heap.size + 1; omega) (.int .u32 (n32 (Ch.word key i))))
      go_roundg (8 - (i + 1))
      case measure => have := HGK.out; omega
      case rel => exact ⟨i + 1, by omega, rfl, by go_num, hb2.out.drewN q, hz2.out.drewN q, Below.drewM hB2.out q⟩
    · obtain rfl : i = 8 := by omega
      clear HGK hlt hi
      obtain ⟨v, hv⟩ := row32_sub (l := Ch.sigma ++ Ch.words key 8) (N := 16) (k := 12) (by omega) (by rw [List.length_append, Ch.words_len]; decide)
      have c0 := (hb.cell 12).trans hv
      have f0 := hb.frozen 12
      have hlt1 := hb.lt
      have hb2 := hb.set_ 12 (.int .u32 (n32 ctr))
      have hz2 := hz.far (p := ⟨w.heap.size + 1, 12, none⟩) (by show w.heap.size ≠ w.heap.size + 1; omega) (.int .u32 (n32 ctr))
      have hB2 := hB.setCell (p := ⟨w.heap.size + 1, 12, none⟩) (by show w.heap.size ≤ w.heap.size + 1; omega) (.int .u32 (n32 ctr))
      have e12 : (row32 (Ch.sigma ++ Ch.words key 8) 16).set 12 (.int .u32 (n32 ctr)) = row32 (Ch.sigma ++ (Ch.words key 8 ++ (ctr :: Ch.words nonce 0))) 16 := by
        have := row32_set (Ch.sigma ++ Ch.words key 8) 16 ctr (by rw [List.length_append, Ch.words_len]; decide)
        rw [show (Ch.sigma ++ Ch.words key 8).length = 12 by rw [List.length_append, Ch.words_len]; rfl, List.append_assoc] at this
        exact this
      rw [e12] at hb2
      have HB := Lib.hid hb2
      have HZ := Lib.hid hz2
      have HBE := Lib.hid hB2
      clear hv hb hz hB hb2 hz2 hB2 e12
      go_wp2_with fail
      clear c0 f0 hlt1
      obtain ⟨w5, hw5⟩ : ∃ w5, w5 = wr.setCell ⟨w.heap.size + 1, 12, none⟩ (.int .u32 (n32 ctr)) := ⟨_, rfl⟩
      rw [← hw5] at HB HZ HBE ⊢
      clear hw5
      go_loopg [9] 3 (fun k q wr => ∃ i : Nat, i ≤ 3 ∧ k = 3 - i ∧ q = .int .i64 i ∧ Blk wr (w.heap.size + 1) 154 (row32 (Ch.sigma ++ (Ch.words key 8 ++ (ctr :: Ch.words nonce i))) 16) ∧ Blk wr w.heap.size 154 (row32 [] 16) ∧ Below w.heap.size w wr)
      case atStart => exact ⟨0, by omega, rfl, rfl, HB.out, HZ.out, HBE.out⟩
      case round =>
        clear HB HZ HBE
        obtain ⟨i, hi, hgk, rfl, hb, hz, hB⟩ := hrel
        have HGK := Lib.hid hgk
        clear hgk
        by_cases hlt : i < 3
        · have HW := Lib.hid (fun W (hr : Rd W B 12 (u8s nonce)) => word_any B 12 d nonce i W hr (by omega) (by omega))
          have hll : (Ch.sigma ++ (Ch.words key 8 ++ (ctr :: Ch.words nonce i))).length = 13 + i := by simp [Ch.words_len, Ch.sigma]; omega
          obtain ⟨v, hv⟩ := row32_sub (l := Ch.sigma ++ (Ch.words key 8 ++ (ctr :: Ch.words nonce i))) (N := 16) (k := 13 + i) (by omega) (by omega)
          have HSET : Hid ((row32 (Ch.sigma ++ (Ch.words key 8 ++ (ctr :: Ch.words nonce i))) 16).set (13 + i) (.int .u32 (n32 (Ch.word nonce i))) = row32 (Ch.sigma ++ (Ch.words key 8 ++ (ctr :: Ch.words nonce (i + 1)))) 16) := by
            have := row32_set (Ch.sigma ++ (Ch.words key 8 ++ (ctr :: Ch.words nonce i))) 16 (Ch.word nonce i) (by omega)
            rw [hll, List.append_assoc, List.append_assoc, List.cons_append] at this
            exact this
          have HB := Lib.hid hb
          have HZ := Lib.hid hz
          have HBE := Lib.hid hB
          have i0 : (0 : Int) ≤ 13 + (i : Int) := by omega
          have i1 : (13 + (i : Int)) < 16 := by omega
          have c0 := (hb.cell (13 + i)).trans hv
          have f0 := hb.frozen (13 + i)
          have hlt1 := hb.lt
          clear hb hz hB hv hll
          go_wp2_with (go_at_call 96; (with_reducible refine (HW.out _ (by exact h2.below HBE.out)).mono ?_); rintro e w2 ⟨rfl, q, rfl⟩)
          have hb2 := Lib.hid (HB.out.set_ (13 + i) (.int .u32 (n32 (Ch.word nonce i))))
          rw [HSET.out] at hb2
          have hz2 := Lib.hid (HZ.out.far (p := ⟨w.heap.size + 1, 13 + i, none⟩) (by show w.heap.size ≠ w.heap.size + 1; omega) (.int .u32 (n32 (Ch.word nonce i))))
          have hB2 := Lib.hid (HBE.out.setCell (p := ⟨w.heap.size + 1, 13 + i, none⟩) (by show w.heap.size ≤ w.heap.size + 1; omega) (.int .u32 (n32 (Ch.word nonce i))))
          go_roundg (3 - (i + 1))
          case measure => have := HGK.out; omega
          case rel => exact ⟨i + 1, by omega, rfl, by go_num, hb2.out.drewN q, hz2.out.drewN q, Below.drewM hB2.out q⟩
        · obtain rfl : i = 3 := by omega
          have e16 : row32 (Ch.sigma ++ (Ch.words key 8 ++ (ctr :: Ch.words nonce 3))) 16 = u32s (Ch.initial key nonce ctr) := by
            unfold row32
            have := Ch.initial_len key nonce ctr
            unfold Ch.initial at this ⊢
            rw [this]
            simp [rep]
          rw [e16] at hb
          obtain ⟨U, hU⟩ : ∃ U, U = u32s (Ch.initial key nonce ctr) := ⟨_, rfl⟩
          rw [← hU] at hb HI HL H1
          have HUE := Lib.hid hU
          have hs0 := hz.lt
          clear HGK hlt hi e16 hU
          go_wp2_with (first
            | refine wpList_load_mid rfl 154 (.tmp 7) rfl (w.heap.size + 1) 0 (by rfl) U _ hb.range Tryz.underlying154 rfl HI.out ?_
            | (refine wpList_store_all rfl 154 (.tmp 6) (.tmp 35) rfl w.heap.size U (by rfl) (by rfl) 154 _ hz HI.out H1.out (by rw [HL.out]; rfl) ?_; intro w8 hb8 ho8))
          exact bodyPost_ret (res_cell rfl _ w.heap.size _ U rfl hb8 _ Tryz.underlying154 rfl HI.out) rfl ⟨by rw [HUE.out], ho8.below hB (Nat.le_refl _) hB.size⟩
end Go.Proofs.YtlbnibmcflmohaaGreat
