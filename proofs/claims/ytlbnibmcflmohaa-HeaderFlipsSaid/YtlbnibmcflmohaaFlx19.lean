/- Part of the proof: ChQ. -/
import Derived.Test.YtlbnibmcflmohaaFlx14
import Derived.Test.YtlbnibmcflmohaaFlx16
namespace Go.Proofs.Ytlbnibmcflmohaa
open Go.RowKit
theorem final_step {s b : List UInt32} {k : Nat} {x y : UInt32} (h1 : s[k]? = some x) (h2 : b[k]? = some y) : Ch.final s b (k + 1) = Ch.final s b k ++ Ch.leBytes (x + y) := by
  rw [Ch.final, List.getD_eq_getElem?_getD, List.getD_eq_getElem?_getD, h1, h2]; rfl
attribute [local go_sem] n32_addm n32_add
theorem leBytes_row (z : UInt32) : [Value.int .u8 (n32 z % 256), .int .u8 (n32 z / 256 % 256), .int .u8 (n32 z / 65536 % 256), .int .u8 (n32 z / 16777216 % 256)] = u8s (Ch.leBytes z) := by
  rw [b24, b16, b8, b0]; rfl
set_option maxRecDepth 100000 in
set_option maxHeartbeats 4000000 in
theorem block64_any (A B : Option Addr) (c d : Nat) (key nonce : List UInt8) (ctr : UInt32) (w : World) (h : Rd w A 32 (u8s key)) (h2 : Rd w B 12 (u8s nonce)) :
    Calls Try.prog 56 #[.slice A 32 c, .slice B 12 d, .int .u32 (n32 ctr)] w fun e w' => ∃ A' c', e = .returned (.tuple #[.slice A' 64 c', .int .i64 0]) ∧ 64 ≤ c' ∧ w'.ownsRow w.heap.size 5 1 (.slice A' 64 c') 64 (u8s (Ch.block key nonce ctr)) ∧ Below w.heap.size w w' := by
  have HIN := Lib.hid (initial_any A B c d key nonce ctr w h h2)
  have hl16 := Ch.initial_len key nonce ctr
  have HBK : Hid (Ch.block key nonce ctr = Ch.final (Ch.rounds (Ch.initial key nonce ctr) 10) (Ch.initial key nonce ctr) 16) := rfl
  obtain ⟨s0, hs0⟩ : ∃ s0, s0 = Ch.initial key nonce ctr := ⟨_, rfl⟩
  rw [← hs0] at HIN hl16 HBK
  have HI : Hid ((Try.prog.info? 130).map (·.size) = some (u32s s0).length) := by rw [u32s_len, hl16]; exact hd184
  have HL : Hid ((u32s s0).length = 16) := by show _ = _; rw [u32s_len, hl16]
  have H1 : Hid (∀ v ∈ u32s s0, v.oneCell' = true) := u32s_one _
  have H16 := Lib.hid hl16
  obtain ⟨U, hU⟩ : ∃ U, U = u32s s0 := ⟨_, rfl⟩
  rw [← hU] at HIN HI HL H1
  have HU := Lib.hid hU
  clear h h2 hs0 hl16 hU
  go_enter Try.func56, Try.ntmps56
  go_wp2_with (first
    | (go_at_call 72; (with_reducible refine HIN.out.mono ?_); rintro e w1 ⟨rfl, hB1⟩)
    | (refine wpList_store_all rfl 130 (.tmp 8) (.tmp 24) rfl w1.heap.size U (by rfl) (by rfl) 130 (row32 [] 16) (by exact Blk.new' rfl rfl) HI.out H1.out (by rw [HL.out]; rfl) ?_; intro w2 hb2 ho2
       have hsz2 : w2.heap.size = w1.heap.size + 1 := by rw [ho2.size]; simp
       have HSZ2 := Lib.hid hsz2
       have HB2 : Hid (Below w.heap.size w w2) := ho2.below (hB1.alloc hB1.size _) hB1.size (Nat.le_trans hB1.size (by simp))
       clear hsz2 ho2)
    | refine wpList_load_mid rfl 130 (.tmp 8) rfl w1.heap.size 0 (by rfl) U _ hb2.range Try.underlying130 rfl HI.out ?_
    | (refine wpList_store_all rfl 130 (.tmp 9) (.tmp 25) rfl w2.heap.size U (by rfl) (by rfl) 130 (row32 [] 16) (by exact Blk.new' rfl rfl) HI.out H1.out (by rw [HL.out]; rfl) ?_; intro w3 hb3 ho3
       have HB3 : Hid (Below w.heap.size w w3) := ho3.below (HB2.out.alloc HB2.out.size _) HB2.out.size (Nat.le_trans HB2.out.size (by simp))
       have HF3 : Hid (Blk w3 w1.heap.size 130 U) := ho3.blk (hb2.alloc _) (by have := hb2.lt; omega)))
  have hg1 := hB1.size
  have hg2 : w1.heap.size < w2.heap.size := by have := HSZ2.out; omega
  have HB3' : Hid (Blk w3 w2.heap.size 130 (u32s (Ch.rounds s0 0))) := by show Blk _ _ _ (u32s s0); rw [← HU.out]; exact hb3
  clear hB1 hb2 hb3 ho3 HSZ2 HB2
  generalize w1.heap.size = g at *
  generalize w2.heap.size = g2 at *
  go_loopg [26] 10 (fun k q wr => ∃ i : Nat, i ≤ 10 ∧ k = 10 - i ∧ q = .int .i64 i ∧ Blk wr g2 130 (u32s (Ch.rounds s0 i)) ∧ Blk wr g 130 U ∧ Below w.heap.size w wr)
  case atStart => exact ⟨0, by omega, rfl, rfl, HB3'.out, HF3.out, HB3.out⟩
  case round =>
    clear HB3' HF3 HB3
    obtain ⟨i, hi, hgk, rfl, hb, hf, hB⟩ := hrel
    have HGK := Lib.hid hgk
    clear hgk
    by_cases hlt : i < 10
    · have hlt2 : (i : Int) < 10 := by omega
      have hrl : (Ch.rounds s0 i).length = 16 := by rw [Ch.rounds_len]; exact H16.out
      have HE : Hid (Ch.rounds s0 (i + 1) = Ch.double (Ch.rounds s0 i)) := rfl
      obtain ⟨r, hr⟩ : ∃ r, r = Ch.rounds s0 i := ⟨_, rfl⟩
      rw [← hr] at hrl HE hb
      clear hr
      have HR := Lib.hid hrl
      have HBL := Lib.hid hb
      have HFL := Lib.hid hf
      have HBE := Lib.hid hB
      clear hrl hb hf hB
      go_wp2_with (first
        | (go_at_call 73; (with_reducible refine (round_7 g2 _ _ _ K7.out (by rw [Ch.round_len, Ch.round_len, Ch.round_len, Ch.round_len, Ch.round_len, Ch.round_len, Ch.round_len]; exact HR.out)).mono ?_); rintro e x8 ⟨rfl, k8, v8⟩; have K8 := Lib.hid k8; have V8 := Lib.hid (V7.out.wrote v8 (by omega)); have E8 := Lib.hid (Wrote.below v8 E7.out (by omega) E7.out.size); clear k8 v8)
        | (go_at_call 73; (with_reducible refine (round_6 g2 _ _ _ K6.out (by rw [Ch.round_len, Ch.round_len, Ch.round_len, Ch.round_len, Ch.round_len, Ch.round_len]; exact HR.out)).mono ?_); rintro e x7 ⟨rfl, k7, v7⟩; have K7 := Lib.hid k7; have V7 := Lib.hid (V6.out.wrote v7 (by omega)); have E7 := Lib.hid (Wrote.below v7 E6.out (by omega) E6.out.size); clear k7 v7)
        | (go_at_call 73; (with_reducible refine (round_5 g2 _ _ _ K5.out (by rw [Ch.round_len, Ch.round_len, Ch.round_len, Ch.round_len, Ch.round_len]; exact HR.out)).mono ?_); rintro e x6 ⟨rfl, k6, v6⟩; have K6 := Lib.hid k6; have V6 := Lib.hid (V5.out.wrote v6 (by omega)); have E6 := Lib.hid (Wrote.below v6 E5.out (by omega) E5.out.size); clear k6 v6)
        | (go_at_call 73; (with_reducible refine (round_4 g2 _ _ _ K4.out (by rw [Ch.round_len, Ch.round_len, Ch.round_len, Ch.round_len]; exact HR.out)).mono ?_); rintro e x5 ⟨rfl, k5, v5⟩; have K5 := Lib.hid k5; have V5 := Lib.hid (V4.out.wrote v5 (by omega)); have E5 := Lib.hid (Wrote.below v5 E4.out (by omega) E4.out.size); clear k5 v5)
        | (go_at_call 73; (with_reducible refine (round_3 g2 _ _ _ K3.out (by rw [Ch.round_len, Ch.round_len, Ch.round_len]; exact HR.out)).mono ?_); rintro e x4 ⟨rfl, k4, v4⟩; have K4 := Lib.hid k4; have V4 := Lib.hid (V3.out.wrote v4 (by omega)); have E4 := Lib.hid (Wrote.below v4 E3.out (by omega) E3.out.size); clear k4 v4)
        | (go_at_call 73; (with_reducible refine (round_2 g2 _ _ _ K2.out (by rw [Ch.round_len, Ch.round_len]; exact HR.out)).mono ?_); rintro e x3 ⟨rfl, k3, v3⟩; have K3 := Lib.hid k3; have V3 := Lib.hid (V2.out.wrote v3 (by omega)); have E3 := Lib.hid (Wrote.below v3 E2.out (by omega) E2.out.size); clear k3 v3)
        | (go_at_call 73; (with_reducible refine (round_1 g2 _ _ _ K1.out (by rw [Ch.round_len]; exact HR.out)).mono ?_); rintro e x2 ⟨rfl, k2, v2⟩; have K2 := Lib.hid k2; have V2 := Lib.hid (V1.out.wrote v2 (by omega)); have E2 := Lib.hid (Wrote.below v2 E1.out (by omega) E1.out.size); clear k2 v2)
        | (go_at_call 73; (with_reducible refine (round_0 g2 _ r _ HBL.out HR.out).mono ?_); rintro e x1 ⟨rfl, k1, v1⟩; have K1 := Lib.hid k1; have V1 := Lib.hid (HFL.out.wrote v1 (by omega)); have E1 := Lib.hid (Wrote.below v1 HBE.out (by omega) HBE.out.size); clear k1 v1))
      go_roundg (10 - (i + 1))
      case measure => have := HGK.out; omega
      case rel => exact ⟨i + 1, by omega, rfl, by go_num, by rw [HE.out]; exact K8.out, V8.out, E8.out⟩
    · obtain rfl : i = 10 := by omega
      have hlt2 : ¬ ((10 : Nat) : Int) < 10 := by omega
      clear HGK hlt hi
      have hrl : (Ch.rounds s0 10).length = 16 := by rw [Ch.rounds_len]; exact H16.out
      obtain ⟨r, hr⟩ : ∃ r, r = Ch.rounds s0 10 := ⟨_, rfl⟩
      rw [← hr] at hrl hb HBK
      clear hr
      have HRL := Lib.hid hrl
      have HRI : Hid ((Try.prog.info? 130).map (·.size) = some (u32s r).length) := by rw [u32s_len, hrl]; exact hd184
      have HIX := Lib.hid (fun (W : World) (i : Nat) (x : UInt32) (hi : i < 16) (hx : r[i]? = some x) => run_idx (P := Try.prog) (w := W) 130 47 16 i (u32s r) (.int .u32 (n32 x)) Try.underlying130 szU32 agU32 hi (u32s_get hx))
      obtain ⟨R, hR⟩ : ∃ R, R = u32s r := ⟨_, rfl⟩
      rw [← hR] at hb HRI HIX
      have HB := Lib.hid hb
      have HF := Lib.hid hf
      have HBE := Lib.hid hB
      have hs := hB.size
      clear hrl hb hf hB hR
      go_wp2_with (first
        | (refine wpList_make1 rfl (.const (.int .i64 0)) (.const (.int .i64 64)) 43 rfl 5 (.int .u8 0) 1 Try.underlying43 iU8 rfl .i64 .i64 0 64 (by rfl) (by rfl) 0 64 rfl rfl (by omega) (by omega) (by omega) ?_
           intro w4 hb4 hg4 hs4
           have HO4 := Lib.hid (show w4.ownsRow (g2 + 1) 5 1 (.slice (some ⟨wr.heap.size, 0, none⟩) 0 64) 0 (u8s []) from (by have h5 := own_of_blk hb4 HB.out.lt 0 64 1 (by omega) (by simp [rep_length]) (by omega); simpa [u8s] using h5))
           have HB4 : Hid (Blk w4 g2 130 R) := HB.out.below (grown_below hg4) HB.out.lt
           have HF4 : Hid (Blk w4 g 130 U) := HF.out.below (grown_below hg4) HF.out.lt
           have HE4 : Hid (Below w.heap.size w w4) := HBE.out.trans ((grown_below hg4).mono HBE.out.size)
           clear hb4 hg4 hs4)
        | refine wpList_load_mid rfl 130 (.tmp 9) rfl g2 0 (by rfl) R _ HB4.out.range Try.underlying130 rfl HRI.out ?_)
      go_loopg [10, 39] 16 (fun k v q wr => ∃ i : Nat, i ≤ 16 ∧ k = 16 - i ∧ q = .int .i64 i ∧ (∃ A' c', v = .slice A' (4 * i) c' ∧ 4 * i ≤ c' ∧ wr.ownsRow (g2 + 1) 5 1 (.slice A' (4 * i) c') (4 * i) (u8s (Ch.final r s0 i))) ∧ g2 < wr.heap.size ∧ Blk wr g 130 U ∧ Below w.heap.size w wr)
      case atStart => exact ⟨0, by omega, rfl, rfl, ⟨_, _, rfl, by omega, HO4.out⟩, HB4.out.lt, HF4.out, HE4.out⟩
      case round =>
        clear HB HF HBE HO4 HB4 HF4 HE4 hlt2
        obtain ⟨i, hi, hgk, rfl, ⟨A', c', rfl, hc', hown⟩, hgs, hf, hB⟩ := hrel
        have HGK := Lib.hid hgk
        clear hgk
        by_cases hlt : i < 16
        · have hlt2 : (i : Int) < 16 := by omega
          obtain ⟨x, hx⟩ : ∃ x, r[i]? = some x := ⟨_, List.getElem?_eq_getElem (by rw [HRL.out]; exact hlt)⟩
          obtain ⟨y, hy⟩ : ∃ y, s0[i]? = some y := ⟨_, List.getElem?_eq_getElem (by rw [H16.out]; exact hlt)⟩
          have hidx := fun W => HIX.out W i x hlt hx
          have cy : wr.cell? ⟨g, i, none⟩ = some (.int .u32 (n32 y)) := by rw [hf.cell, HU.out]; exact u32s_get hy
          have HST := Lib.hid (final_step hx hy)
          have HF := Lib.hid hf
          have HBE := Lib.hid hB
          have HOW := Lib.hid hown
          have hbs := hB.size
          have HNEW : Hid (RdS 1 (wr.alloc (.cells #[.int .u8 (n32 (x + y) % 256), .int .u8 (n32 (x + y) / 256 % 256), .int .u8 (n32 (x + y) / 65536 % 256), .int .u8 (n32 (x + y) / 16777216 % 256)] 5)) (some ⟨wr.heap.size, 0, none⟩) 4 (u8s (Ch.leBytes (x + y)))) := by
            rw [← leBytes_row]
            exact ⟨rfl, fun _ => ⟨wr.heap.size, 0, rfl, by simp, fun j u hu => by rw [(Blk.new wr _ _).cell, Nat.zero_add]; exact hu⟩⟩
          clear hf hB hown hx hy
          go_wp2_with (first
            | (at_builtin; refine wpList_app rfl (.tmp 48) (.tmp 60) 43 rfl (g2 + 1) 5 1 1 Try.underlying43 eU8 (.slice A' (4 * i) c') (4 * i) (u8s (Ch.final r s0 i)) (by rfl) (by exact HOW.out.alloc _) (some ⟨wr.heap.size, 0, none⟩) 4 4 (u8s (Ch.leBytes (x + y))) (by rfl) (by exact HNEW.out) (u8s_one _) (by omega) (by omega) (by simp; omega) ?_
               intro A2 c2 w2 hown2 hc2 hg2 hat2))
          have HF2 := Lib.hid ((HF.out.alloc (.cells #[.int .u8 (n32 (x + y) % 256), .int .u8 (n32 (x + y) / 256 % 256), .int .u8 (n32 (x + y) / 65536 % 256), .int .u8 (n32 (x + y) / 16777216 % 256)] 5)).grown hg2 (fun e => by have := (HOW.out.lt g e.symm).1; omega))
          have HE2 := Lib.hid ((HBE.out.alloc HBE.out.size (.cells #[.int .u8 (n32 (x + y) % 256), .int .u8 (n32 (x + y) / 256 % 256), .int .u8 (n32 (x + y) / 65536 % 256), .int .u8 (n32 (x + y) / 16777216 % 256)] 5)).grown hg2 (Nat.le_trans HBE.out.size (by simp)) (fun k hk => by have := (HOW.out.lt k hk).1; omega))
          have hgs2 : g2 < w2.heap.size := by have := hg2.size; simp at this; omega
          go_roundg (16 - (i + 1))
          case measure => have := HGK.out; omega
          case rel => exact ⟨i + 1, by omega, rfl, by go_num, ⟨A2, c2, rfl, by omega, by rw [HST.out, u8s_append]; exact hown2⟩, hgs2, HF2.out, HE2.out⟩
        · obtain rfl : i = 16 := by omega
          have hlt2 : ¬ ((16 : Nat) : Int) < 16 := by omega
          have HOW := Lib.hid (own_mono hown (base' := w.heap.size) (by omega))
          rw [← HBK.out] at HOW
          clear hown
          go_wp2_with fail
          go_ret2
          exact ⟨A', c', rfl, hc', HOW.out, hB⟩
end Go.Proofs.Ytlbnibmcflmohaa
/- chacha.piece: bytes of the stream. -/
namespace Go.Proofs.Ytlbnibmcflmohaa
open Go.RowKit
theorem own_pos {w : World} {base n c : Nat} {e : TypeId} {A : Option Addr} {xs : List Value} (h : w.ownsRow base e 1 (.slice A n c) n xs) (hn : 0 < n) : ∃ g, A = some ⟨g, 0, none⟩ ∧ base ≤ g ∧ g < w.heap.size ∧ Rd w (some ⟨g, 0, none⟩) n xs := by
  have hr := Rd.of_own h
  rcases h.2 with ⟨_, h0⟩ | ⟨g, cap, cur, hv, hb, hg, _⟩
  · omega
  · injection hv with hA
    subst hA
    exact ⟨g, rfl, hb, (Array.getElem?_eq_some_iff.1 hg).1, hr⟩
theorem own_below {w w' : World} {base n : Nat} {e : TypeId} {size : Nat} {v : Value} {xs : List Value} (h : w.ownsRow base e size v n xs) (hB : Below w.heap.size w w') : w'.ownsRow base e size v n xs := by
  obtain ⟨h1, h2⟩ := h
  refine ⟨h1, ?_⟩
  rcases h2 with h2 | ⟨g, cap, cur, hv, hb, hg, r⟩
  · exact .inl h2
  · exact .inr ⟨g, cap, cur, hv, hb, (hB.block g (Array.getElem?_eq_some_iff.1 hg).1).trans hg, r⟩
theorem rd_mid {w : World} {g o n : Nat} {l : List UInt8} (h : Rd w (some ⟨g, o, none⟩) n (u8s l)) (f d : Nat) (hd : f + d ≤ n) : Rd w (some ⟨g, o + f, none⟩) d (u8s ((l.drop f).take d)) := by
  have := h.cut (A' := some ⟨g, o + f, none⟩) (m := f + d) (k := f) hd (by omega) (fun _ b off e => by injection e with e; injection e with e1 e2; subst e1; subst e2; rfl)
  rw [u8s_take, u8s_drop, show f + d - f = d by omega, List.drop_take, show f + d - f = d by omega] at this
  exact this
theorem ofNat_n32 (k : Nat) (h : k < 4294967296) : n32 (UInt32.ofNat k) = (k : Int) := by unfold n32; rw [UInt32.toNat_ofNat']; omega
theorem block64_rd (A B : Option Addr) (c d : Nat) (key nonce : List UInt8) (k : Nat) (hk : k < 4294967296) (w : World) (h : Rd w A 32 (u8s key)) (h2 : Rd w B 12 (u8s nonce)) :
    Calls Try.prog 56 #[.slice A 32 c, .slice B 12 d, .int .u32 (k : Int)] w fun e w' => ∃ g c', e = .returned (.tuple #[.slice (some ⟨g, 0, none⟩) 64 c', .int .i64 0]) ∧ 64 ≤ c' ∧ w.heap.size ≤ g ∧ Rd w' (some ⟨g, 0, none⟩) 64 (u8s (Ch.block key nonce (UInt32.ofNat k))) ∧ Below w.heap.size w w' := by
  have := block64_any A B c d key nonce (UInt32.ofNat k) w h h2
  rw [ofNat_n32 k hk] at this
  refine this.mono ?_
  rintro e w' ⟨A', c', rfl, hc, hown, hB⟩
  obtain ⟨g, rfl, hg, _, hr⟩ := own_pos hown (by omega)
  exact ⟨g, c', rfl, hc, hg, hr, hB⟩
theorem piece_next (key : List UInt8) (p j d : Nat) (h : (p + j) % 64 + d ≤ 64) : Ch.piece key p (j + d) = Ch.piece key p j ++ ((Ch.block key (Ch.zeros 12) (UInt32.ofNat ((p + j) / 64))).drop ((p + j) % 64)).take d := by
  rw [Ch.piece_add, Ch.piece_block _ _ _ h]
set_option maxRecDepth 100000 in
set_option maxHeartbeats 4000000 in
theorem piece_any (A : Option Addr) (c : Nat) (key : List UInt8) (p n : Nat) (w : World) (h : Rd w A 32 (u8s key)) (hp : p ≤ 1000000) (hn : n ≤ 1000000) :
    Calls Try.prog 39 #[.slice A 32 c, .int .i64 p, .int .i64 n] w fun e w' => ∃ A' c', e = .returned (.slice A' n c') ∧ n ≤ c' ∧ w'.ownsRow w.heap.size 5 1 (.slice A' n c') n (u8s (Ch.piece key p n)) ∧ Below w.heap.size w w' := by
  have HR := Lib.hid h
  clear h
  go_enter Try.func39, Try.ntmps39
  go_wp2_with (first
    | (refine wpList_make1 rfl (.const (.int .i64 12)) (.const (.int .i64 12)) 43 rfl 5 (.int .u8 0) 1 Try.underlying43 iU8 rfl .i64 .i64 12 12 (by rfl) (by rfl) 12 12 rfl rfl (by omega) (by omega) (by omega) ?_
       intro w1 hb1 hg1 hs1
       have HZ1 : Hid (Blk w1 w.heap.size 5 (u8s (Ch.zeros 12))) := hb1
       have HB1 : Hid (Below w.heap.size w w1) := grown_below hg1
       have hsz1 : w.heap.size < w1.heap.size := by omega
       clear hb1 hg1 hs1)
    | (refine wpList_make1 rfl (.const (.int .i64 0)) (.tmp 12) 43 rfl 5 (.int .u8 0) 1 Try.underlying43 iU8 rfl .i64 .i64 0 (n : Int) (by rfl) (by rfl) 0 n rfl rfl (by omega) (by omega) (by omega) ?_
       intro w2 hb2 hg2 hs2
       have HO2 := Lib.hid (show w2.ownsRow (w.heap.size + 1) 5 1 (.slice (some ⟨w1.heap.size, 0, none⟩) 0 n) 0 (u8s (Ch.piece key p 0)) from (by have h5 := own_of_blk hb2 hsz1 0 n 1 (by omega) (by simp [rep_length]) (by omega); simpa [u8s, Ch.piece] using h5))
       have HZ2 : Hid (Blk w2 w.heap.size 5 (u8s (Ch.zeros 12))) := HZ1.out.below (grown_below hg2) HZ1.out.lt
       have HB2 : Hid (Below w.heap.size w w2) := HB1.out.trans ((grown_below hg2).mono HB1.out.size)
       clear hb2 hg2 hs2))
  go_loopg [1, 8] n (fun k qa v wr => ∃ j m : Nat, j ≤ n ∧ k = n - j ∧ m = p + j ∧ qa = .int .i64 m ∧ (∃ A' c', v = .slice A' j c' ∧ j ≤ c' ∧ wr.ownsRow (w.heap.size + 1) 5 1 (.slice A' j c') j (u8s (Ch.piece key p j))) ∧ Blk wr w.heap.size 5 (u8s (Ch.zeros 12)) ∧ Below w.heap.size w wr)
  case atStart => exact ⟨0, p, by omega, rfl, rfl, rfl, ⟨_, _, rfl, by omega, HO2.out⟩, HZ2.out, HB2.out⟩
  case round =>
    clear HZ1 HB1 HO2 HZ2 HB2 hsz1
    obtain ⟨j, m, hj, hgk, hmj, rfl, ⟨A', c', rfl, hc', hown⟩, hz, hB⟩ := hrel
    have HGK := Lib.hid hgk
    have HMJ := Lib.hid hmj
    have hm : m ≤ 2000000 := by omega
    clear hgk hmj
    by_cases hlt : j < n
    · have hlt2 : (j : Int) < (n : Int) := by omega
      obtain ⟨f, hf⟩ : ∃ f, f = m % 64 := ⟨_, rfl⟩
      have hf64 : f < 64 := by omega
      have hfi : (m : Int) % 64 = (f : Int) := by omega
      obtain ⟨kk, hkk⟩ : ∃ kk, kk = m / 64 := ⟨_, rfl⟩
      have hki : (m : Int) / 64 = (kk : Int) := by omega
      have hk32 : kk < 4294967296 := by omega
      have HBL : Hid (∀ W, Rd W A 32 (u8s key) → Rd W (some ⟨w.heap.size, 0, none⟩) 12 (u8s (Ch.zeros 12)) → Calls Try.prog 56 #[.slice A 32 c, .slice (some ⟨w.heap.size, 0, none⟩) 12 12, .int .u32 (kk : Int)] W fun e w' => ∃ g c', e = .returned (.tuple #[.slice (some ⟨g, 0, none⟩) 64 c', .int .i64 0]) ∧ 64 ≤ c' ∧ W.heap.size ≤ g ∧ Rd w' (some ⟨g, 0, none⟩) 64 (u8s (Ch.block key (Ch.zeros 12) (UInt32.ofNat kk))) ∧ Below W.heap.size W w') := fun W h1 h2 => block64_rd A _ c 12 key (Ch.zeros 12) kk hk32 W h1 h2
      have hbl := Ch.block_len key (Ch.zeros 12) (UInt32.ofNat kk)
      have HPN : Hid (∀ d, f + d ≤ 64 → Ch.piece key p (j + d) = Ch.piece key p j ++ ((Ch.block key (Ch.zeros 12) (UInt32.ofNat kk)).drop f).take d) := fun d hd => by
        have := HMJ.out
        subst this
        rw [hf, hkk]
        exact piece_next key p j d (by omega)
      obtain ⟨bl, hbe⟩ : ∃ bl, bl = Ch.block key (Ch.zeros 12) (UInt32.ofNat kk) := ⟨_, rfl⟩
      rw [← hbe] at HBL HPN hbl
      have HLEN := Lib.hid hbl
      have HF := Lib.hid hf
      have HZ := Lib.hid hz
      have HBE := Lib.hid hB
      have HOW := Lib.hid hown
      have HZR : Hid (Rd wr (some ⟨w.heap.size, 0, none⟩) 12 (u8s (Ch.zeros 12))) := by have h5 := hz.rdAll; exact h5
      have hbs := hB.size
      clear hbe hkk hbl hf hz hB hown hk32
      have hbz := HZ.out.lt
      by_cases hcut : n - j < 64 - f
      · have hct : ((n : Int) - (j : Int) < ((64 - f : Nat) : Int)) := by omega
        have hjn : j + (n - j) = n := by omega
        have HSTEP := Lib.hid (HPN.out (n - j) (by omega))
        go_wp2_with (first
          | (go_at_call 56; (with_reducible refine (HBL.out _ (by exact HR.out.below HBE.out) (by exact HZR.out)).mono ?_); rintro e w3 ⟨g, c3, rfl, hc3, hg3, hr3, hB3⟩
             have hne3 : ¬ c3 = f := by omega
             have hfc3 : (f : Int) ≤ (c3 : Int) := by omega
             have HR3 : Hid (Rd w3 (some ⟨g, f, none⟩) (n - j) (u8s ((bl.drop f).take (n - j)))) := (by have h5 := rd_mid hr3 f (n - j) (by omega); rw [Nat.zero_add] at h5; exact h5)
             have HB3 := Lib.hid hB3
             have hs3 := hB3.size
             clear hr3 hB3)
          | (at_builtin; refine wpList_app rfl (.tmp 44) (.tmp 45) 43 rfl (w.heap.size + 1) 5 1 1 Try.underlying43 eU8 (.slice A' j c') j (u8s (Ch.piece key p j)) (by rfl) (by exact own_below HOW.out HB3.out) (some ⟨g, f, none⟩) (n - j) (c3 - f) (u8s ((bl.drop f).take (n - j))) (by rfl) (by exact HR3.out.toS) (u8s_one _) (by omega) (by omega) (by omega) ?_
             intro A4 c4 w4 hown4 hc4 hg4 hat4
             have HO4 := Lib.hid hown4
             rw [← u8s_append, ← HSTEP.out] at HO4
             have HZ4 := Lib.hid (((HZ.out.below HB3.out HZ.out.lt).grown hg4 (fun e => by have := (HOW.out.lt _ e.symm).1; omega)))
             have HE4 := Lib.hid ((HBE.out.trans (HB3.out.mono HBE.out.size)).grown hg4 (Nat.le_trans HBE.out.size HB3.out.size) (fun k hk => by have := (HOW.out.lt k hk).1; omega))
             clear hown4 hg4 hat4))
        go_roundg (n - (j + (n - j)))
        case measure => have := HGK.out; omega
        case rel => exact ⟨j + (n - j), m + (n - j), by omega, rfl, by have := HMJ.out; omega, by go_num, ⟨A4, c4, by rw [hjn], by omega, HO4.out⟩, HZ4.out, HE4.out⟩
      · have hct : ¬ ((n : Int) - (j : Int) < ((64 - f : Nat) : Int)) := by omega
        have HSTEP := Lib.hid (HPN.out (64 - f) (by omega))
        go_wp2_with (first
          | (go_at_call 56; (with_reducible refine (HBL.out _ (by exact HR.out.below HBE.out) (by exact HZR.out)).mono ?_); rintro e w3 ⟨g, c3, rfl, hc3, hg3, hr3, hB3⟩
             have hne3 : ¬ c3 = f := by omega
             have hfc3 : (f : Int) ≤ (c3 : Int) := by omega
             have HR3 : Hid (Rd w3 (some ⟨g, f, none⟩) (64 - f) (u8s ((bl.drop f).take (64 - f)))) := (by have h5 := rd_mid hr3 f (64 - f) (by omega); rw [Nat.zero_add] at h5; exact h5)
             have HB3 := Lib.hid hB3
             have hs3 := hB3.size
             clear hr3 hB3)
          | (at_builtin; refine wpList_app rfl (.tmp 44) (.tmp 45) 43 rfl (w.heap.size + 1) 5 1 1 Try.underlying43 eU8 (.slice A' j c') j (u8s (Ch.piece key p j)) (by rfl) (by exact own_below HOW.out HB3.out) (some ⟨g, f, none⟩) (64 - f) (c3 - f) (u8s ((bl.drop f).take (64 - f))) (by rfl) (by exact HR3.out.toS) (u8s_one _) (by omega) (by omega) (by omega) ?_
             intro A4 c4 w4 hown4 hc4 hg4 hat4
             have HO4 := Lib.hid hown4
             rw [← u8s_append, ← HSTEP.out] at HO4
             have HZ4 := Lib.hid (((HZ.out.below HB3.out HZ.out.lt).grown hg4 (fun e => by have := (HOW.out.lt _ e.symm).1; omega)))
             have HE4 := Lib.hid ((HBE.out.trans (HB3.out.mono HBE.out.size)).grown hg4 (Nat.le_trans HBE.out.size HB3.out.size) (fun k hk => by have := (HOW.out.lt k hk).1; omega))
             clear hown4 hg4 hat4))
        go_roundg (n - (j + (64 - f)))
        case measure => have := HGK.out; omega
        case rel => exact ⟨j + (64 - f), m + (64 - f), by omega, rfl, by have := HMJ.out; omega, by go_num, ⟨A4, c4, rfl, by omega, HO4.out⟩, HZ4.out, HE4.out⟩
    · obtain rfl : j = n := by omega
      have hlt2 : ¬ (j : Int) < (j : Int) := by omega
      have HOW := Lib.hid (own_mono hown (base' := w.heap.size) (by omega))
      clear hown
      go_wp2_with fail
      go_ret
      exact ⟨A', c', rfl, hc', HOW.out, hB⟩
end Go.Proofs.Ytlbnibmcflmohaa
/- chacha.Stream: the stream's first bytes. -/
namespace Go.Proofs.Ytlbnibmcflmohaa
open Go.RowKit
set_option maxRecDepth 100000 in
set_option maxHeartbeats 1000000 in
theorem stream_any (A : Option Addr) (c : Nat) (key : List UInt8) (n : Nat) (w : World) (h : Rd w A 32 (u8s key)) (hn : n ≤ 65536) :
    Calls Try.prog 27 #[.slice A 32 c, .int .i64 n] w fun e w' => ∃ A' c', e = .returned (.tuple #[.slice A' n c', .int .i64 0]) ∧ n ≤ c' ∧ w'.ownsRow w.heap.size 5 1 (.slice A' n c') n (u8s (Ch.piece key 0 n)) ∧ Below w.heap.size w w' := by
  have HP := Lib.hid (piece_any A c key 0 n w h (by omega) (by omega))
  clear h
  have hn0 : ¬ (n : Int) < 0 := by omega
  have hn1 : ¬ (65536 : Int) < (n : Int) := by omega
  go_enter Try.func27, Try.ntmps27
  go_wp2_with (go_at_call 39; refine HP.out.mono ?_; rintro e w1 ⟨A', c', rfl, hc, hown, hB⟩; have HO := Lib.hid hown; clear hown)
  go_ret2
  exact ⟨A', c', rfl, hc, HO.out, hB⟩
end Go.Proofs.Ytlbnibmcflmohaa
