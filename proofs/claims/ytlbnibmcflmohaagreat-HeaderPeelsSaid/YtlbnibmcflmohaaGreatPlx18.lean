/- Part of the proof: ChQ, McR. -/
import Derived.Lib.ConvBytes
import Derived.Lib.AtoiErrMem
import Derived.Lib.SlBytesConst
import Derived.Test.YtlbnibmcflmohaaGreatPlx13
import Derived.Test.YtlbnibmcflmohaaGreatPlx16
namespace Go.Proofs.YtlbnibmcflmohaaGreat
open Go.RowKit
theorem final_step {s b : List UInt32} {k : Nat} {x y : UInt32} (h1 : s[k]? = some x) (h2 : b[k]? = some y) : Ch.final s b (k + 1) = Ch.final s b k ++ Ch.leBytes (x + y) := by
  rw [Ch.final, List.getD_eq_getElem?_getD, List.getD_eq_getElem?_getD, h1, h2]; rfl
attribute [local go_sem] n32_addm n32_add
theorem leBytes_row (z : UInt32) : [Value.int .u8 (n32 z % 256), .int .u8 (n32 z / 256 % 256), .int .u8 (n32 z / 65536 % 256), .int .u8 (n32 z / 16777216 % 256)] = u8s (Ch.leBytes z) := by
  rw [b24, b16, b8, b0]; rfl
set_option maxRecDepth 100000 in
set_option maxHeartbeats 4000000 in
theorem block64_any (A B : Option Addr) (c d : Nat) (key nonce : List UInt8) (ctr : UInt32) (w : World) (h : Rd w A 32 (u8s key)) (h2 : Rd w B 12 (u8s nonce)) :
    Calls Tryz.prog 79 #[.slice A 32 c, .slice B 12 d, .int .u32 (n32 ctr)] w fun e w' => ∃ A' c', e = .returned (.tuple #[.slice A' 64 c', .int .i64 0]) ∧ 64 ≤ c' ∧ w'.ownsRow w.heap.size 5 1 (.slice A' 64 c') 64 (u8s (Ch.block key nonce ctr)) ∧ Below w.heap.size w w' := by
  have HIN := Lib.hid (initial_any A B c d key nonce ctr w h h2)
  have hl16 := Ch.initial_len key nonce ctr
  have HBK : Hid (Ch.block key nonce ctr = Ch.final (Ch.rounds (Ch.initial key nonce ctr) 10) (Ch.initial key nonce ctr) 16) := rfl
  obtain ⟨s0, hs0⟩ : ∃ s0, s0 = Ch.initial key nonce ctr := ⟨_, rfl⟩
  rw [← hs0] at HIN hl16 HBK
  have HI : Hid ((Tryz.prog.info? 154).map (·.size) = some (u32s s0).length) := by rw [u32s_len, hl16]; exact hd184
  have HL : Hid ((u32s s0).length = 16) := by show _ = _; rw [u32s_len, hl16]
  have H1 : Hid (∀ v ∈ u32s s0, v.oneCell' = true) := u32s_one _
  have H16 := Lib.hid hl16
  obtain ⟨U, hU⟩ : ∃ U, U = u32s s0 := ⟨_, rfl⟩
  rw [← hU] at HIN HI HL H1
  have HU := Lib.hid hU
  clear h h2 hs0 hl16 hU
  go_enter Tryz.func79, Tryz.ntmps79
  go_wp2_with (first
    | (go_at_call 90; (with_reducible refine HIN.out.mono ?_); rintro e w1 ⟨rfl, hB1⟩)
    | (refine wpList_store_all rfl 154 (.tmp 8) (.tmp 24) rfl w1.heap.size U (by rfl) (by rfl) 154 (row32 [] 16) (by exact Blk.new' rfl rfl) HI.out H1.out (by rw [HL.out]; rfl) ?_; intro w2 hb2 ho2
       have hsz2 : w2.heap.size = w1.heap.size + 1 := by rw [ho2.size]; simp
       have HSZ2 := Lib.hid hsz2
       have HB2 : Hid (Below w.heap.size w w2) := ho2.below (hB1.alloc hB1.size _) hB1.size (Nat.le_trans hB1.size (by simp))
       clear hsz2 ho2)
    | refine wpList_load_mid rfl 154 (.tmp 8) rfl w1.heap.size 0 (by rfl) U _ hb2.range Tryz.underlying154 rfl HI.out ?_
    | (refine wpList_store_all rfl 154 (.tmp 9) (.tmp 25) rfl w2.heap.size U (by rfl) (by rfl) 154 (row32 [] 16) (by exact Blk.new' rfl rfl) HI.out H1.out (by rw [HL.out]; rfl) ?_; intro w3 hb3 ho3
       have HB3 : Hid (Below w.heap.size w w3) := ho3.below (HB2.out.alloc HB2.out.size _) HB2.out.size (Nat.le_trans HB2.out.size (by simp))
       have HF3 : Hid (Blk w3 w1.heap.size 154 U) := ho3.blk (hb2.alloc _) (by have := hb2.lt; omega)))
  have hg1 := hB1.size
  have hg2 : w1.heap.size < w2.heap.size := by have := HSZ2.out; omega
  have HB3' : Hid (Blk w3 w2.heap.size 154 (u32s (Ch.rounds s0 0))) := by show Blk _ _ _ (u32s s0); rw [← HU.out]; exact hb3
  clear hB1 hb2 hb3 ho3 HSZ2 HB2
  generalize w1.heap.size = g at *
  generalize w2.heap.size = g2 at *
  go_loopg [26] 10 (fun k q wr => ∃ i : Nat, i ≤ 10 ∧ k = 10 - i ∧ q = .int .i64 i ∧ Blk wr g2 154 (u32s (Ch.rounds s0 i)) ∧ Blk wr g 154 U ∧ Below w.heap.size w wr)
  case atStart => exact ⟨0, by omega, rfl, rfl, HB3'.out, HF3.out, HB3.out⟩
  case round =>
    clear HB3' HF3 HB3
    obtain ⟨i, hi, hgk, rfl, hb, hf, hB⟩ := hrel
    have HGK := Lib.hid hgk
    clear hgk
    by_cases hlt : i < 10
    · have hlt2 : (i : Int) < 10 := by omega
      have hrl : (Ch.rounds s0 i).length = 16 := by rw [Ch.rounds_len]; exact H16.out
      have HE : Hid (Ch.rounds s0 (i + 1) = Ch.double (Ch.rounds s0 i)) := rfl
      obtain ⟨r, hr⟩ : ∃ r, r = Ch.rounds s0 i := ⟨_, rfl⟩
      rw [← hr] at hrl HE hb
      clear hr
      have HR := Lib.hid hrl
      have HBL := Lib.hid hb
      have HFL := Lib.hid hf
      have HBE := Lib.hid hB
      clear hrl hb hf hB
      go_wp2_with (first
        | (go_at_call 91; (with_reducible refine (round_7 g2 _ _ _ K7.out (by rw [Ch.round_len, Ch.round_len, Ch.round_len, Ch.round_len, Ch.round_len, Ch.round_len, Ch.round_len]; exact HR.out)).mono ?_); rintro e x8 ⟨rfl, k8, v8⟩; have K8 := Lib.hid k8; have V8 := Lib.hid (V7.out.wrote v8 (by omega)); have E8 := Lib.hid (Wrote.below v8 E7.out (by omega) E7.out.size); clear k8 v8)
        | (go_at_call 91; (with_reducible refine (round_6 g2 _ _ _ K6.out (by rw [Ch.round_len, Ch.round_len, Ch.round_len, Ch.round_len, Ch.round_len, Ch.round_len]; exact HR.out)).mono ?_); rintro e x7 ⟨rfl, k7, v7⟩; have K7 := Lib.hid k7; have V7 := Lib.hid (V6.out.wrote v7 (by omega)); have E7 := Lib.hid (Wrote.below v7 E6.out (by omega) E6.out.size); clear k7 v7)
        | (go_at_call 91; (with_reducible refine (round_5 g2 _ _ _ K5.out (by rw [Ch.round_len, Ch.round_len, Ch.round_len, Ch.round_len, Ch.round_len]; exact HR.out)).mono ?_); rintro e x6 ⟨rfl, k6, v6⟩; have K6 := Lib.hid k6; have V6 := Lib.hid (V5.out.wrote v6 (by omega)); have E6 := Lib.hid (Wrote.below v6 E5.out (by omega) E5.out.size); clear k6 v6)
        | (go_at_call 91; (with_reducible refine (round_4 g2 _ _ _ K4.out (by rw [Ch.round_len, Ch.round_len, Ch.round_len, Ch.round_len]; exact HR.out)).mono ?_); rintro e x5 ⟨rfl, k5, v5⟩; have K5 := Lib.hid k5; have V5 := Lib.hid (V4.out.wrote v5 (by omega)); have E5 := Lib.hid (Wrote.below v5 E4.out (by omega) E4.out.size); clear k5 v5)
        | (go_at_call 91; (with_reducible refine (round_3 g2 _ _ _ K3.out (by rw [Ch.round_len, Ch.round_len, Ch.round_len]; exact HR.out)).mono ?_); rintro e x4 ⟨rfl, k4, v4⟩; have K4 := Lib.hid k4; have V4 := Lib.hid (V3.out.wrote v4 (by omega)); have E4 := Lib.hid (Wrote.below v4 E3.out (by omega) E3.out.size); clear k4 v4)
        | (go_at_call 91; (with_reducible refine (round_2 g2 _ _ _ K2.out (by rw [Ch.round_len, Ch.round_len]; exact HR.out)).mono ?_); rintro e x3 ⟨rfl, k3, v3⟩; have K3 := Lib.hid k3; have V3 := Lib.hid (V2.out.wrote v3 (by omega)); have E3 := Lib.hid (Wrote.below v3 E2.out (by omega) E2.out.size); clear k3 v3)
        | (go_at_call 91; (with_reducible refine (round_1 g2 _ _ _ K1.out (by rw [Ch.round_len]; exact HR.out)).mono ?_); rintro e x2 ⟨rfl, k2, v2⟩; have K2 := Lib.hid k2; have V2 := Lib.hid (V1.out.wrote v2 (by omega)); have E2 := Lib.hid (Wrote.below v2 E1.out (by omega) E1.out.size); clear k2 v2)
        | (go_at_call 91; (with_reducible refine (round_0 g2 _ r _ HBL.out HR.out).mono ?_); rintro e x1 ⟨rfl, k1, v1⟩; have K1 := Lib.hid k1; have V1 := Lib.hid (HFL.out.wrote v1 (by omega)); have E1 := Lib.hid (Wrote.below v1 HBE.out (by omega) HBE.out.size); clear k1 v1))
      go_roundg (10 - (i + 1))
      case measure => have := HGK.out; omega
      case rel => exact ⟨i + 1, by omega, rfl, by go_num, by rw [HE.out]; exact K8.out, V8.out, E8.out⟩
    · obtain rfl : i = 10 := by omega
      have hlt2 : ¬ ((10 : Nat) : Int) < 10 := by omega
      clear HGK hlt hi
      have hrl : (Ch.rounds s0 10).length = 16 := by rw [Ch.rounds_len]; exact H16.out
      obtain ⟨r, hr⟩ : ∃ r, r = Ch.rounds s0 10 := ⟨_, rfl⟩
      rw [← hr] at hrl hb HBK
      clear hr
      have HRL := Lib.hid hrl
      have HRI : Hid ((Tryz.prog.info? 154).map (·.size) = some (u32s r).length) := by rw [u32s_len, hrl]; exact hd184
      have HIX := Lib.hid (fun (W : World) (i : Nat) (x : UInt32) (hi : i < 16) (hx : r[i]? = some x) => run_idx (P := Tryz.prog) (w := W) 154 47 16 i (u32s r) (.int .u32 (n32 x)) Tryz.underlying154 szU32 agU32 hi (u32s_get hx))
      obtain ⟨R, hR⟩ : ∃ R, R = u32s r := ⟨_, rfl⟩
      rw [← hR] at hb HRI HIX
      have HB := Lib.hid hb
      have HF := Lib.hid hf
      have HBE := Lib.hid hB
      have hs := hB.size
      clear hrl hb hf hB hR
      go_wp2_with (first
        | (refine wpList_make1 rfl (.const (.int .i64 0)) (.const (.int .i64 64)) 23 rfl 5 (.int .u8 0) 1 Tryz.underlying23 iU8 rfl .i64 .i64 0 64 (by rfl) (by rfl) 0 64 rfl rfl (by omega) (by omega) (by omega) ?_
           intro w4 hb4 hg4 hs4
           have HO4 := Lib.hid (show w4.ownsRow (g2 + 1) 5 1 (.slice (some ⟨wr.heap.size, 0, none⟩) 0 64) 0 (u8s []) from (by have h5 := own_of_blk hb4 HB.out.lt 0 64 1 (by omega) (by simp [rep_length]) (by omega); simpa [u8s] using h5))
           have HB4 : Hid (Blk w4 g2 154 R) := HB.out.below (grown_below hg4) HB.out.lt
           have HF4 : Hid (Blk w4 g 154 U) := HF.out.below (grown_below hg4) HF.out.lt
           have HE4 : Hid (Below w.heap.size w w4) := HBE.out.trans ((grown_below hg4).mono HBE.out.size)
           clear hb4 hg4 hs4)
        | refine wpList_load_mid rfl 154 (.tmp 9) rfl g2 0 (by rfl) R _ HB4.out.range Tryz.underlying154 rfl HRI.out ?_)
      go_loopg [10, 39] 16 (fun k v q wr => ∃ i : Nat, i ≤ 16 ∧ k = 16 - i ∧ q = .int .i64 i ∧ (∃ A' c', v = .slice A' (4 * i) c' ∧ 4 * i ≤ c' ∧ wr.ownsRow (g2 + 1) 5 1 (.slice A' (4 * i) c') (4 * i) (u8s (Ch.final r s0 i))) ∧ g2 < wr.heap.size ∧ Blk wr g 154 U ∧ Below w.heap.size w wr)
      case atStart => exact ⟨0, by omega, rfl, rfl, ⟨_, _, rfl, by omega, HO4.out⟩, HB4.out.lt, HF4.out, HE4.out⟩
      case round =>
        clear HB HF HBE HO4 HB4 HF4 HE4 hlt2
        obtain ⟨i, hi, hgk, rfl, ⟨A', c', rfl, hc', hown⟩, hgs, hf, hB⟩ := hrel
        have HGK := Lib.hid hgk
        clear hgk
        by_cases hlt : i < 16
        · have hlt2 : (i : Int) < 16 := by omega
          obtain ⟨x, hx⟩ : ∃ x, r[i]? = some x := ⟨_, List.getElem?_eq_getElem (by rw [HRL.out]; exact hlt)⟩
          obtain ⟨y, hy⟩ : ∃ y, s0[i]? = some y := ⟨_, List.getElem?_eq_getElem (by rw [H16.out]; exact hlt)⟩
          have hidx := fun W => HIX.out W i x hlt hx
          have cy : wr.cell? ⟨g, i, none⟩ = some (.int .u32 (n32 y)) := by rw [hf.cell, HU.out]; exact u32s_get hy
          have HST := Lib.hid (final_step hx hy)
          have HF := Lib.hid hf
          have HBE := Lib.hid hB
          have HOW := Lib.hid hown
          have hbs := hB.size
          have HNEW : Hid (RdS 1 (wr.alloc (.cells #[.int .u8 (n32 (x + y) % 256), .int .u8 (n32 (x + y) / 256 % 256), .int .u8 (n32 (x + y) / 65536 % 256), .int .u8 (n32 (x + y) / 16777216 % 256)] 5)) (some ⟨wr.heap.size, 0, none⟩) 4 (u8s (Ch.leBytes (x + y)))) := by
            rw [← leBytes_row]
            exact ⟨rfl, fun _ => ⟨wr.heap.size, 0, rfl, by simp, fun j u hu => by rw [(Blk.new wr _ _).cell, Nat.zero_add]; exact hu⟩⟩
          clear hf hB hown hx hy
          go_wp2_with (first
            | (at_builtin; refine wpList_app rfl (.tmp 48) (.tmp 60) 23 rfl (g2 + 1) 5 1 1 Tryz.underlying23 eU8 (.slice A' (4 * i) c') (4 * i) (u8s (Ch.final r s0 i)) (by rfl) (by exact HOW.out.alloc _) (some ⟨wr.heap.size, 0, none⟩) 4 4 (u8s (Ch.leBytes (x + y))) (by rfl) (by exact HNEW.out) (u8s_one _) (by omega) (by omega) (by simp; omega) ?_
               intro A2 c2 w2 hown2 hc2 hg2 hat2))
          have HF2 := Lib.hid ((HF.out.alloc (.cells #[.int .u8 (n32 (x + y) % 256), .int .u8 (n32 (x + y) / 256 % 256), .int .u8 (n32 (x + y) / 65536 % 256), .int .u8 (n32 (x + y) / 16777216 % 256)] 5)).grown hg2 (fun e => by have := (HOW.out.lt g e.symm).1; omega))
          have HE2 := Lib.hid ((HBE.out.alloc HBE.out.size (.cells #[.int .u8 (n32 (x + y) % 256), .int .u8 (n32 (x + y) / 256 % 256), .int .u8 (n32 (x + y) / 65536 % 256), .int .u8 (n32 (x + y) / 16777216 % 256)] 5)).grown hg2 (Nat.le_trans HBE.out.size (by simp)) (fun k hk => by have := (HOW.out.lt k hk).1; omega))
          have hgs2 : g2 < w2.heap.size := by have := hg2.size; simp at this; omega
          go_roundg (16 - (i + 1))
          case measure => have := HGK.out; omega
          case rel => exact ⟨i + 1, by omega, rfl, by go_num, ⟨A2, c2, rfl, by omega, by rw [HST.out, u8s_append]; exact hown2⟩, hgs2, HF2.out, HE2.out⟩
        · obtain rfl : i = 16 := by omega
          have hlt2 : ¬ ((16 : Nat) : Int) < 16 := by omega
          have HOW := Lib.hid (own_mono hown (base' := w.heap.size) (by omega))
          rw [← HBK.out] at HOW
          clear hown
          go_wp2_with fail
          go_ret2
          exact ⟨A', c', rfl, hc', HOW.out, hB⟩
end Go.Proofs.YtlbnibmcflmohaaGreat
/- chacha.piece: bytes of the stream. -/
namespace Go.Proofs.YtlbnibmcflmohaaGreat
open Go.RowKit
theorem own_pos {w : World} {base n c : Nat} {e : TypeId} {A : Option Addr} {xs : List Value} (h : w.ownsRow base e 1 (.slice A n c) n xs) (hn : 0 < n) : ∃ g, A = some ⟨g, 0, none⟩ ∧ base ≤ g ∧ g < w.heap.size ∧ Rd w (some ⟨g, 0, none⟩) n xs := by
  have hr := Rd.of_own h
  rcases h.2 with ⟨_, h0⟩ | ⟨g, cap, cur, hv, hb, hg, _⟩
  · omega
  · injection hv with hA
    subst hA
    exact ⟨g, rfl, hb, (Array.getElem?_eq_some_iff.1 hg).1, hr⟩
theorem own_below {w w' : World} {base n : Nat} {e : TypeId} {size : Nat} {v : Value} {xs : List Value} (h : w.ownsRow base e size v n xs) (hB : Below w.heap.size w w') : w'.ownsRow base e size v n xs := by
  obtain ⟨h1, h2⟩ := h
  refine ⟨h1, ?_⟩
  rcases h2 with h2 | ⟨g, cap, cur, hv, hb, hg, r⟩
  · exact .inl h2
  · exact .inr ⟨g, cap, cur, hv, hb, (hB.block g (Array.getElem?_eq_some_iff.1 hg).1).trans hg, r⟩
theorem rd_mid {w : World} {g o n : Nat} {l : List UInt8} (h : Rd w (some ⟨g, o, none⟩) n (u8s l)) (f d : Nat) (hd : f + d ≤ n) : Rd w (some ⟨g, o + f, none⟩) d (u8s ((l.drop f).take d)) := by
  have := h.cut (A' := some ⟨g, o + f, none⟩) (m := f + d) (k := f) hd (by omega) (fun _ b off e => by injection e with e; injection e with e1 e2; subst e1; subst e2; rfl)
  rw [u8s_take, u8s_drop, show f + d - f = d by omega, List.drop_take, show f + d - f = d by omega] at this
  exact this
theorem ofNat_n32 (k : Nat) (h : k < 4294967296) : n32 (UInt32.ofNat k) = (k : Int) := by unfold n32; rw [UInt32.toNat_ofNat']; omega
theorem block64_rd (A B : Option Addr) (c d : Nat) (key nonce : List UInt8) (k : Nat) (hk : k < 4294967296) (w : World) (h : Rd w A 32 (u8s key)) (h2 : Rd w B 12 (u8s nonce)) :
    Calls Tryz.prog 79 #[.slice A 32 c, .slice B 12 d, .int .u32 (k : Int)] w fun e w' => ∃ g c', e = .returned (.tuple #[.slice (some ⟨g, 0, none⟩) 64 c', .int .i64 0]) ∧ 64 ≤ c' ∧ w.heap.size ≤ g ∧ Rd w' (some ⟨g, 0, none⟩) 64 (u8s (Ch.block key nonce (UInt32.ofNat k))) ∧ Below w.heap.size w w' := by
  have := block64_any A B c d key nonce (UInt32.ofNat k) w h h2
  rw [ofNat_n32 k hk] at this
  refine this.mono ?_
  rintro e w' ⟨A', c', rfl, hc, hown, hB⟩
  obtain ⟨g, rfl, hg, _, hr⟩ := own_pos hown (by omega)
  exact ⟨g, c', rfl, hc, hg, hr, hB⟩
theorem piece_next (key : List UInt8) (p j d : Nat) (h : (p + j) % 64 + d ≤ 64) : Ch.piece key p (j + d) = Ch.piece key p j ++ ((Ch.block key (Ch.zeros 12) (UInt32.ofNat ((p + j) / 64))).drop ((p + j) % 64)).take d := by
  rw [Ch.piece_add, Ch.piece_block _ _ _ h]
set_option maxRecDepth 100000 in
set_option maxHeartbeats 4000000 in
theorem piece_any (A : Option Addr) (c : Nat) (key : List UInt8) (p n : Nat) (w : World) (h : Rd w A 32 (u8s key)) (hp : p ≤ 1000000) (hn : n ≤ 1000000) :
    Calls Tryz.prog 61 #[.slice A 32 c, .int .i64 p, .int .i64 n] w fun e w' => ∃ A' c', e = .returned (.slice A' n c') ∧ n ≤ c' ∧ w'.ownsRow w.heap.size 5 1 (.slice A' n c') n (u8s (Ch.piece key p n)) ∧ Below w.heap.size w w' := by
  have HR := Lib.hid h
  clear h
  go_enter Tryz.func61, Tryz.ntmps61
  go_wp2_with (first
    | (refine wpList_make1 rfl (.const (.int .i64 12)) (.const (.int .i64 12)) 23 rfl 5 (.int .u8 0) 1 Tryz.underlying23 iU8 rfl .i64 .i64 12 12 (by rfl) (by rfl) 12 12 rfl rfl (by omega) (by omega) (by omega) ?_
       intro w1 hb1 hg1 hs1
       have HZ1 : Hid (Blk w1 w.heap.size 5 (u8s (Ch.zeros 12))) := hb1
       have HB1 : Hid (Below w.heap.size w w1) := grown_below hg1
       have hsz1 : w.heap.size < w1.heap.size := by omega
       clear hb1 hg1 hs1)
    | (refine wpList_make1 rfl (.const (.int .i64 0)) (.tmp 12) 23 rfl 5 (.int .u8 0) 1 Tryz.underlying23 iU8 rfl .i64 .i64 0 (n : Int) (by rfl) (by rfl) 0 n rfl rfl (by omega) (by omega) (by omega) ?_
       intro w2 hb2 hg2 hs2
       have HO2 := Lib.hid (show w2.ownsRow (w.heap.size + 1) 5 1 (.slice (some ⟨w1.heap.size, 0, none⟩) 0 n) 0 (u8s (Ch.piece key p 0)) from (by have h5 := own_of_blk hb2 hsz1 0 n 1 (by omega) (by simp [rep_length]) (by omega); simpa [u8s, Ch.piece] using h5))
       have HZ2 : Hid (Blk w2 w.heap.size 5 (u8s (Ch.zeros 12))) := HZ1.out.below (grown_below hg2) HZ1.out.lt
       have HB2 : Hid (Below w.heap.size w w2) := HB1.out.trans ((grown_below hg2).mono HB1.out.size)
       clear hb2 hg2 hs2))
  go_loopg [1, 8] n (fun k qa v wr => ∃ j m : Nat, j ≤ n ∧ k = n - j ∧ m = p + j ∧ qa = .int .i64 m ∧ (∃ A' c', v = .slice A' j c' ∧ j ≤ c' ∧ wr.ownsRow (w.heap.size + 1) 5 1 (.slice A' j c') j (u8s (Ch.piece key p j))) ∧ Blk wr w.heap.size 5 (u8s (Ch.zeros 12)) ∧ Below w.heap.size w wr)
  case atStart => exact ⟨0, p, by omega, rfl, rfl, rfl, ⟨_, _, rfl, by omega, HO2.out⟩, HZ2.out, HB2.out⟩
  case round =>
    clear HZ1 HB1 HO2 HZ2 HB2 hsz1
    obtain ⟨j, m, hj, hgk, hmj, rfl, ⟨A', c', rfl, hc', hown⟩, hz, hB⟩ := hrel
    have HGK := Lib.hid hgk
    have HMJ := Lib.hid hmj
    have hm : m ≤ 2000000 := by omega
    clear hgk hmj
    by_cases hlt : j < n
    · have hlt2 : (j : Int) < (n : Int) := by omega
      obtain ⟨f, hf⟩ : ∃ f, f = m % 64 := ⟨_, rfl⟩
      have hf64 : f < 64 := by omega
      have hfi : (m : Int) % 64 = (f : Int) := by omega
      obtain ⟨kk, hkk⟩ : ∃ kk, kk = m / 64 := ⟨_, rfl⟩
      have hki : (m : Int) / 64 = (kk : Int) := by omega
      have hk32 : kk < 4294967296 := by omega
      have HBL : Hid (∀ W, Rd W A 32 (u8s key) → Rd W (some ⟨w.heap.size, 0, none⟩) 12 (u8s (Ch.zeros 12)) → Calls Tryz.prog 79 #[.slice A 32 c, .slice (some ⟨w.heap.size, 0, none⟩) 12 12, .int .u32 (kk : Int)] W fun e w' => ∃ g c', e = .returned (.tuple #[.slice (some ⟨g, 0, none⟩) 64 c', .int .i64 0]) ∧ 64 ≤ c' ∧ W.heap.size ≤ g ∧ Rd w' (some ⟨g, 0, none⟩) 64 (u8s (Ch.block key (Ch.zeros 12) (UInt32.ofNat kk))) ∧ Below W.heap.size W w') := fun W h1 h2 => block64_rd A _ c 12 key (Ch.zeros 12) kk hk32 W h1 h2
      have hbl := Ch.block_len key (Ch.zeros 12) (UInt32.ofNat kk)
      have HPN : Hid (∀ d, f + d ≤ 64 → Ch.piece key p (j + d) = Ch.piece key p j ++ ((Ch.block key (Ch.zeros 12) (UInt32.ofNat kk)).drop f).take d) := fun d hd => by
        have := HMJ.out
        subst this
        rw [hf, hkk]
        exact piece_next key p j d (by omega)
      obtain ⟨bl, hbe⟩ : ∃ bl, bl = Ch.block key (Ch.zeros 12) (UInt32.ofNat kk) := ⟨_, rfl⟩
      rw [← hbe] at HBL HPN hbl
      have HLEN := Lib.hid hbl
      have HF := Lib.hid hf
      have HZ := Lib.hid hz
      have HBE := Lib.hid hB
      have HOW := Lib.hid hown
      have HZR : Hid (Rd wr (some ⟨w.heap.size, 0, none⟩) 12 (u8s (Ch.zeros 12))) := by have h5 := hz.rdAll; exact h5
      have hbs := hB.size
      clear hbe hkk hbl hf hz hB hown hk32
      have hbz := HZ.out.lt
      by_cases hcut : n - j < 64 - f
      · have hct : ((n : Int) - (j : Int) < ((64 - f : Nat) : Int)) := by omega
        have hjn : j + (n - j) = n := by omega
        have HSTEP := Lib.hid (HPN.out (n - j) (by omega))
        go_wp2_with (first
          | (go_at_call 79; (with_reducible refine (HBL.out _ (by exact HR.out.below HBE.out) (by exact HZR.out)).mono ?_); rintro e w3 ⟨g, c3, rfl, hc3, hg3, hr3, hB3⟩
             have hne3 : ¬ c3 = f := by omega
             have hfc3 : (f : Int) ≤ (c3 : Int) := by omega
             have HR3 : Hid (Rd w3 (some ⟨g, f, none⟩) (n - j) (u8s ((bl.drop f).take (n - j)))) := (by have h5 := rd_mid hr3 f (n - j) (by omega); rw [Nat.zero_add] at h5; exact h5)
             have HB3 := Lib.hid hB3
             have hs3 := hB3.size
             clear hr3 hB3)
          | (at_builtin; refine wpList_app rfl (.tmp 44) (.tmp 45) 23 rfl (w.heap.size + 1) 5 1 1 Tryz.underlying23 eU8 (.slice A' j c') j (u8s (Ch.piece key p j)) (by rfl) (by exact own_below HOW.out HB3.out) (some ⟨g, f, none⟩) (n - j) (c3 - f) (u8s ((bl.drop f).take (n - j))) (by rfl) (by exact HR3.out.toS) (u8s_one _) (by omega) (by omega) (by omega) ?_
             intro A4 c4 w4 hown4 hc4 hg4 hat4
             have HO4 := Lib.hid hown4
             rw [← u8s_append, ← HSTEP.out] at HO4
             have HZ4 := Lib.hid (((HZ.out.below HB3.out HZ.out.lt).grown hg4 (fun e => by have := (HOW.out.lt _ e.symm).1; omega)))
             have HE4 := Lib.hid ((HBE.out.trans (HB3.out.mono HBE.out.size)).grown hg4 (Nat.le_trans HBE.out.size HB3.out.size) (fun k hk => by have := (HOW.out.lt k hk).1; omega))
             clear hown4 hg4 hat4))
        go_roundg (n - (j + (n - j)))
        case measure => have := HGK.out; omega
        case rel => exact ⟨j + (n - j), m + (n - j), by omega, rfl, by have := HMJ.out; omega, by go_num, ⟨A4, c4, by rw [hjn], by omega, HO4.out⟩, HZ4.out, HE4.out⟩
      · have hct : ¬ ((n : Int) - (j : Int) < ((64 - f : Nat) : Int)) := by omega
        have HSTEP := Lib.hid (HPN.out (64 - f) (by omega))
        go_wp2_with (first
          | (go_at_call 79; (with_reducible refine (HBL.out _ (by exact HR.out.below HBE.out) (by exact HZR.out)).mono ?_); rintro e w3 ⟨g, c3, rfl, hc3, hg3, hr3, hB3⟩
             have hne3 : ¬ c3 = f := by omega
             have hfc3 : (f : Int) ≤ (c3 : Int) := by omega
             have HR3 : Hid (Rd w3 (some ⟨g, f, none⟩) (64 - f) (u8s ((bl.drop f).take (64 - f)))) := (by have h5 := rd_mid hr3 f (64 - f) (by omega); rw [Nat.zero_add] at h5; exact h5)
             have HB3 := Lib.hid hB3
             have hs3 := hB3.size
             clear hr3 hB3)
          | (at_builtin; refine wpList_app rfl (.tmp 44) (.tmp 45) 23 rfl (w.heap.size + 1) 5 1 1 Tryz.underlying23 eU8 (.slice A' j c') j (u8s (Ch.piece key p j)) (by rfl) (by exact own_below HOW.out HB3.out) (some ⟨g, f, none⟩) (64 - f) (c3 - f) (u8s ((bl.drop f).take (64 - f))) (by rfl) (by exact HR3.out.toS) (u8s_one _) (by omega) (by omega) (by omega) ?_
             intro A4 c4 w4 hown4 hc4 hg4 hat4
             have HO4 := Lib.hid hown4
             rw [← u8s_append, ← HSTEP.out] at HO4
             have HZ4 := Lib.hid (((HZ.out.below HB3.out HZ.out.lt).grown hg4 (fun e => by have := (HOW.out.lt _ e.symm).1; omega)))
             have HE4 := Lib.hid ((HBE.out.trans (HB3.out.mono HBE.out.size)).grown hg4 (Nat.le_trans HBE.out.size HB3.out.size) (fun k hk => by have := (HOW.out.lt k hk).1; omega))
             clear hown4 hg4 hat4))
        go_roundg (n - (j + (64 - f)))
        case measure => have := HGK.out; omega
        case rel => exact ⟨j + (64 - f), m + (64 - f), by omega, rfl, by have := HMJ.out; omega, by go_num, ⟨A4, c4, rfl, by omega, HO4.out⟩, HZ4.out, HE4.out⟩
    · obtain rfl : j = n := by omega
      have hlt2 : ¬ (j : Int) < (j : Int) := by omega
      have HOW := Lib.hid (own_mono hown (base' := w.heap.size) (by omega))
      clear hown
      go_wp2_with fail
      go_ret
      exact ⟨A', c', rfl, hc', HOW.out, hB⟩
end Go.Proofs.YtlbnibmcflmohaaGreat
/- chacha.Stream: the stream's first bytes. -/
namespace Go.Proofs.YtlbnibmcflmohaaGreat
open Go.RowKit
set_option maxRecDepth 100000 in
set_option maxHeartbeats 1000000 in
theorem stream_any (A : Option Addr) (c : Nat) (key : List UInt8) (n : Nat) (w : World) (h : Rd w A 32 (u8s key)) (hn : n ≤ 65536) :
    Calls Tryz.prog 40 #[.slice A 32 c, .int .i64 n] w fun e w' => ∃ A' c', e = .returned (.tuple #[.slice A' n c', .int .i64 0]) ∧ n ≤ c' ∧ w'.ownsRow w.heap.size 5 1 (.slice A' n c') n (u8s (Ch.piece key 0 n)) ∧ Below w.heap.size w w' := by
  have HP := Lib.hid (piece_any A c key 0 n w h (by omega) (by omega))
  clear h
  have hn0 : ¬ (n : Int) < 0 := by omega
  have hn1 : ¬ (65536 : Int) < (n : Int) := by omega
  go_enter Tryz.func40, Tryz.ntmps40
  go_wp2_with (go_at_call 61; refine HP.out.mono ?_; rintro e w1 ⟨A', c', rfl, hc, hown, hB⟩; have HO := Lib.hid hown; clear hown)
  go_ret2
  exact ⟨A', c', rfl, hc, HO.out, hB⟩
end Go.Proofs.YtlbnibmcflmohaaGreat
namespace Go.Proofs.YtlbnibmcflmohaaGreat
open Go.RowKit
theorem madeCells_alike (sz : Nat) (v : Value) (h : 0 < sz) (N : Nat) : madeCells (List.replicate sz v).toArray N = (rep N v).toArray := by
  unfold madeCells rep
  apply Array.ext'
  simp only [Array.toList_map, Array.toList_range, List.size_toArray, List.length_replicate]
  apply List.ext_getElem?
  intro i
  rw [List.getElem?_map, List.getElem?_replicate]
  by_cases hi : i < N
  · have hm : i % sz < sz := Nat.mod_lt _ h
    rw [List.getElem?_range hi, if_pos hi]
    simp [hm]
  · rw [if_neg hi, List.getElem?_eq_none (by simpa using hi)]
    rfl
section
variable {P : Program} {w : World} {ops : Array Oper} {rest : List Oper} {o : Oper} {a : Act} {K : Act → World → Prop} {Q : Exit → Act → World → Prop}
theorem wp_makeZ (x y : Operand) (t : TypeId) (ho : o.op = .makeSlice t x y) (e : TypeId) (z : Value) (bytes sz : Nat) (z0 : Value) (ht : P.underlying t = some (.slice e)) (hi : (P.info? e).map (fun i => (i.zero, i.size, i.bytes)) = some (some z, sz, bytes)) (hz : z.cells = (List.replicate sz z0).toArray) (hsz : 0 < sz)
    (kl kc : IntKind) (ln lc : Int) (hx : a.eval x = .int kl ln) (hy : a.eval y = .int kc lc) (n c : Nat) (hn : ln = n) (hc : lc = c) (hnc : n ≤ c) (hbytes : bytes * c ≤ 281474976710656) (h63 : c ≤ 140737488355328)
    (h : ∀ w', Blk w' w.heap.size e (rep (c * sz) z0) → w.grownBy w' none → w'.heap.size = w.heap.size + 1 → K (a.put o.dst (.slice (some ⟨w.heap.size, 0, none⟩) n c)) w') : o.wp P a w K Q := by
  subst hn
  subst hc
  cases hq : P.info? e with
  | none => simp [hq] at hi
  | some i =>
    simp [hq] at hi
    obtain ⟨hz0, hz1, hz2⟩ := hi
    subst hz2
    have hr := run_make (P := P) w t e i z ht hq hz0 kl kc n c (by omega) (by omega) (by
      have h : ((i.bytes * c : Nat) : Int) ≤ 281474976710656 := by omega
      rwa [Int.natCast_mul] at h) (by omega)
    rw [hz1, hz, madeCells_alike _ _ hsz] at hr
    simp only [Int.toNat_natCast] at hr
    refine wp_val (v := .slice (some ⟨w.heap.size, 0, none⟩) n c) ?_ (h (w.alloc (.cells (rep (c * sz) z0).toArray e)) (Blk.new' rfl rfl) (World.grownBy_alloc w _ none) (by simp))
    unfold execOp
    simp only [ho, hx, hy, Sem.run_bind, hr, Sem.run_pure, Result.andThen_ok]
theorem wpList_makeZ (hgd : o.guard = none) (x y : Operand) (t : TypeId) (ho : o.op = .makeSlice t x y) (e : TypeId) (z : Value) (bytes sz : Nat) (z0 : Value) (ht : P.underlying t = some (.slice e)) (hi : (P.info? e).map (fun i => (i.zero, i.size, i.bytes)) = some (some z, sz, bytes)) (hz : z.cells = (List.replicate sz z0).toArray) (hsz : 0 < sz)
    (kl kc : IntKind) (ln lc : Int) (hx : a.eval x = .int kl ln) (hy : a.eval y = .int kc lc) (n c : Nat) (hn : ln = n) (hc : lc = c) (hnc : n ≤ c) (hbytes : bytes * c ≤ 281474976710656) (h63 : c ≤ 140737488355328)
    (h : ∀ w', Blk w' w.heap.size e (rep (c * sz) z0) → w.grownBy w' none → w'.heap.size = w.heap.size + 1 → wpList P ops Q rest (a.put o.dst (.slice (some ⟨w.heap.size, 0, none⟩) n c)) w') : wpList P ops Q (o :: rest) a w :=
  wpList_of hgd fun _ hK => wp_makeZ x y t ho e z bytes sz z0 ht hi hz hsz kl kc ln lc hx hy n c hn hc hnc hbytes h63 fun w' h1 h2 h3 => hK _ _ (h w' h1 h2 h3)
end
theorem conv_bytes (w : World) (T : ByteArray) : ∃ (c : Nat) (w' : World), (convert 9 23 (.string T)).run Tryz.prog w = .ok (.slice (some ⟨w.heap.size, 0, none⟩) T.size c) w' ∧ T.size ≤ c ∧ Hid (Rd w' (some ⟨w.heap.size, 0, none⟩) T.size (u8s T.data.toList)) ∧ Hid (Below w.heap.size w w') := by
  refine ⟨_, _, Lib.run_convert_string_bytes w _ _ _ T Tryz.underlying9 Tryz.underlying23 Tryz.underlying5, grownCap_ge _ _ _ _, ?_, Lib.bytesWorld_below _ _ _⟩
  refine ⟨by simp [u8s], fun h => ⟨w.heap.size, 0, rfl, by rw [Lib.bytesWorld_size]; omega, fun j u hu => ?_⟩⟩
  rw [u8s_getElem?] at hu
  rw [Option.map_eq_some_iff] at hu
  obtain ⟨x, hx, rfl⟩ := hu
  have hj : j < T.size := by have := (List.getElem?_eq_some_iff.1 hx).1; simpa using this
  rw [Nat.zero_add, Lib.bytesWorld_cell w _ T j hj]
  rw [List.getD_eq_getElem?_getD, hx]
  rfl
end Go.Proofs.YtlbnibmcflmohaaGreat
/- mac.Expand to one sum. -/
namespace Go.Proofs.YtlbnibmcflmohaaGreat
open Go.RowKit
theorem own_only {w w' : World} {base n g : Nat} {e : TypeId} {size : Nat} {v : Value} {xs : List Value} (h : w.ownsRow base e size v n xs) (ho : Only w w' g) (hne : ∀ k, v.ownBlock = some k → k ≠ g) : w'.ownsRow base e size v n xs := by
  refine h.kept ho.grown ?_
  cases hv : v.ownBlock with
  | none => exact .inl rfl
  | some k => exact .inr (fun e => hne k hv (by injection e))
theorem SlB.nil (w : World) : SlB w (.slice none 0 0) [] := ⟨_, _, _, rfl, Nat.le_refl _, Rd.nil _ _⟩
set_option maxRecDepth 100000 in
set_option maxHeartbeats 4000000 in
theorem expand_any (A : Option Addr) (n c : Nat) (k : List UInt8) (A2 : Option Addr) (n2 c2 : Nat) (ls : List (List UInt8)) (w : World) (h : Rd w A n (u8s k)) (hc : n ≤ c) (hn : n ≤ 1000000000) (h2 : RdB w A2 n2 ls) (hn2 : n2 ≤ 1000000) (hl : ls.flatten.length ≤ 10000000) :
    Calls Tryz.prog 78 #[.slice A n c, .int .i64 32, .slice A2 n2 c2] w fun e w' => ∃ g, e = .returned (.tuple #[.slice (some ⟨g, 0, none⟩) 32 32, .int .i64 0]) ∧ w.heap.size ≤ g ∧ Rd w' (some ⟨g, 0, none⟩) 32 (u8s (Wd.expand k ls.flatten)) ∧ Below w.heap.size w w' := by
  obtain ⟨J, hJ⟩ : ∃ J, ls.flatten = J := ⟨_, rfl⟩
  obtain ⟨L, hL⟩ : ∃ L, J.length = L := ⟨_, rfl⟩
  rw [hJ, hL] at hl
  rw [hJ]
  have HJN := Lib.hid (join_to A2 n2 c2 ls w h2 (by omega) J L hJ hL (by omega))
  have HTG : Hid (∀ (W : World) A4 c4, Rd W A n (u8s k) → Rd W A4 L (u8s J) → L ≤ c4 → Calls Tryz.prog 46 #[.slice A n c, .slice (some ⟨W.heap.size + 1, 0, none⟩) 3 3] ((W.alloc (.cells #[.int .u8 1] 5)).alloc (.cells #[.slice none 0 0, .slice A4 L c4, .slice (some ⟨W.heap.size, 0, none⟩) 1 1] 23)) fun e w' => e = .returned (.agg (u8s (Wd.expand k J)).toArray) ∧ Below (W.heap.size + 2) ((W.alloc (.cells #[.int .u8 1] 5)).alloc (.cells #[.slice none 0 0, .slice A4 L c4, .slice (some ⟨W.heap.size, 0, none⟩) 1 1] 23)) w') := fun W A4 c4 h1 hr hcc => by
    have hb4 : Blk (W.alloc (.cells #[.int .u8 1] 5)) W.heap.size 5 (u8s [1]) := Blk.new' rfl rfl
    have hb3 : Blk ((W.alloc (.cells #[.int .u8 1] 5)).alloc (.cells #[.slice none 0 0, .slice A4 L c4, .slice (some ⟨W.heap.size, 0, none⟩) 1 1] 23)) (W.heap.size + 1) 23 [.slice none 0 0, .slice A4 L c4, .slice (some ⟨W.heap.size, 0, none⟩) 1 1] := Blk.new' (by simp) rfl
    have := tag_any A n c k (some ⟨W.heap.size + 1, 0, none⟩) 3 3 [[], J, [1]] _ ((h1.alloc _).alloc _) hc hn (RdB.of_blk (ls := [[], J, [1]]) hb3 ⟨SlB.nil _, .of_rd ((hr.alloc _).alloc _) hcc, .of_blk (hb4.alloc _) 0 1 1 [1] (by simp [u8s_length]) (by omega) rfl, trivial⟩) (by omega) (by simp [hL]; omega)
    simpa [Wd.expand] using this
  have HL32 : Hid ((u8s (Wd.expand k J)).length = 32) := by show _ = _; rw [u8s_length, Wd.expand_len]
  have HXL : Hid ((Wd.expand k J).length = 32) := Wd.expand_len k J
  have H1 : Hid (∀ v ∈ u8s (Wd.expand k J), v.oneCell' = true) := u8s_one _
  have HI2 : Hid ((Tryz.prog.info? 26).map (·.size) = some (u8s (Wd.expand k J)).length) := by rw [u8s_length, Wd.expand_len]; exact hd24
  obtain ⟨X, hX⟩ : ∃ X, X = Wd.expand k J := ⟨_, rfl⟩
  rw [← hX] at HTG HL32 H1 HI2 HXL ⊢
  obtain ⟨U, hU⟩ : ∃ U, U = u8s X := ⟨_, rfl⟩
  rw [← hU] at HTG HL32 H1 HI2
  have HU := Lib.hid hU
  have HR := Lib.hid h
  clear h h2 hJ hL hX hU
  go_enter Tryz.func78, Tryz.ntmps78
  go_wp2_with (first
    | (go_at_call 22; (with_reducible refine HJN.out.mono ?_); rintro e w1 ⟨A3, c3, rfl, hc3, hown3, hB1⟩
       have HJ1 := Lib.hid (Rd.of_own hown3)
       have HB1 := Lib.hid hB1
       clear hown3 hB1)
    | (refine wpList_make1 rfl (.const (.int .i64 0)) (.tmp 22) 23 rfl 5 (.int .u8 0) 1 Tryz.underlying23 iU8 rfl .i64 .i64 0 64 (by rfl) (by rfl) 0 64 rfl rfl (by omega) (by omega) (by omega) ?_
       intro w2 hb2 hg2 hs2
       have HO2 := Lib.hid (show w2.ownsRow w.heap.size 5 1 (.slice (some ⟨w1.heap.size, 0, none⟩) 0 64) 0 (u8s []) from (by have h5 := own_of_blk hb2 HB1.out.size 0 64 1 (by omega) (by simp [rep_length]) (by omega); simpa [u8s] using h5))
       have HJ2 : Hid (Rd w2 A3 L (u8s J)) := HJ1.out.below (grown_below hg2)
       have HB2 : Hid (Below w.heap.size w w2) := HB1.out.trans ((grown_below hg2).mono HB1.out.size)
       clear hb2 hg2 hs2))
  go_loopg [9, 10, 11] 1 (fun kk v la q wr => Below w.heap.size w wr ∧ ((kk = 1 ∧ v = .slice (some ⟨w1.heap.size, 0, none⟩) 0 64 ∧ la = .slice none 0 0 ∧ q = .int .i64 1 ∧ Rd wr A3 L (u8s J) ∧ wr.ownsRow w.heap.size 5 1 (.slice (some ⟨w1.heap.size, 0, none⟩) 0 64) 0 (u8s [])) ∨
    (kk = 0 ∧ q = .int .i64 2 ∧ ∃ A' c', v = .slice A' 32 c' ∧ 32 ≤ c' ∧ wr.ownsRow w.heap.size 5 1 (.slice A' 32 c') 32 (u8s X))))
  case atStart => exact ⟨HB2.out, .inl ⟨rfl, rfl, rfl, rfl, HJ2.out, HO2.out⟩⟩
  case round =>
    clear HJ1 HB1 HO2 HJ2 HB2
    obtain ⟨hB, ⟨hgk, rfl, rfl, rfl, hj, hown⟩ | ⟨hgk, rfl, A', c', rfl, hc', hown⟩⟩ := hrel
    · have HGK := Lib.hid hgk
      have HJR := Lib.hid hj
      have HOW := Lib.hid hown
      have HBE := Lib.hid hB
      clear hgk hj hown hB
      go_wp2_with (first
        | (go_at_call 46; (with_reducible refine (HTG.out wr A3 c3 (HR.out.below HBE.out) HJR.out hc3).mono ?_); rintro e w3 ⟨rfl, hB3⟩
           have HB3 := Lib.hid (((HBE.out.alloc HBE.out.size _).alloc (Nat.le_trans HBE.out.size (by simp)) _).trans (hB3.mono (Nat.le_trans HBE.out.size (by omega))))
           have HO3 := Lib.hid (own_below ((HOW.out.alloc _).alloc _) (show Below ((wr.alloc (.cells #[.int .u8 1] 5)).alloc (.cells #[.slice none 0 0, .slice A3 L c3, .slice (some ⟨wr.heap.size, 0, none⟩) 1 1] 23)).heap.size _ _ from (by simpa using hB3)))
           clear hB3)
        | (refine wpList_store_all rfl 26 (.tmp 12) (.tmp 37) rfl w3.heap.size U (by rfl) (by rfl) 26 (u8s (List.replicate 32 0)) (by exact Blk.new' rfl rfl) HI2.out H1.out (by rw [HL32.out]; rfl) ?_
           intro w4 hb4 ho4
           have HB4 := Lib.hid (ho4.below (HB3.out.alloc HB3.out.size _) HB3.out.size (Nat.le_trans HB3.out.size (by simp)))
           have HO4 := Lib.hid (own_only (HO3.out.alloc _) ho4 (fun k hk => by have h7 := (HO3.out.lt k hk).2; omega))
           have HR4 : Hid (Rd w4 (some ⟨w3.heap.size, 0, none⟩) 32 (u8s X)) := (by have h5 := hb4; rw [HU.out] at h5; have h6 := h5.rdAll; rw [HXL.out] at h6; exact h6)
           clear hb4 ho4)
        | (at_builtin; refine wpList_app rfl (.tmp 39) (.tmp 40) 23 rfl w.heap.size 5 1 1 Tryz.underlying23 eU8 (.slice (some ⟨w1.heap.size, 0, none⟩) 0 64) 0 (u8s []) (by rfl) (by exact HO4.out) (some ⟨w3.heap.size, 0, none⟩) 32 32 (u8s X) (by rfl) (by exact HR4.out.toS) (u8s_one _) (by omega) (by omega) (by exact HB4.out.size) ?_
           intro A5 c5 w5 hown5 hc5 hg5 hat5
           have HO5 := Lib.hid hown5
           have HB5 := Lib.hid (HB4.out.grown hg5 HB4.out.size (fun g hg => (HO4.out.lt g hg).1))
           clear hown5 hg5 hat5))
      go_roundg 0
      case measure => have := HGK.out; omega
      case rel => exact ⟨HB5.out, .inr ⟨rfl, rfl, A5, c5, rfl, by omega, HO5.out⟩⟩
    · obtain ⟨g, rfl, hg, _, hr⟩ := own_pos hown (by omega)
      have HRR := Lib.hid hr
      clear hown hr
      have hc2 : (32 : Int) ≤ (c' : Int) := by omega
      go_wp2_with fail
      go_ret2
      exact ⟨g, rfl, hg, HRR.out, hB⟩
end Go.Proofs.YtlbnibmcflmohaaGreat
/- mac.Derive: a key for each label. -/
namespace Go.Proofs.YtlbnibmcflmohaaGreat
open Go.RowKit
theorem iA32 : (Tryz.prog.info? 26).map (fun i => (i.zero, i.size, i.bytes)) = some (some (.agg (List.replicate 32 (.int .u8 0)).toArray), 32, 32) := by kernel_rfl
def keysOf (s : List UInt8) (ls : List ByteArray) : List UInt8 := ls.flatMap fun l => Wd.derive s l.data.toList
theorem keysOf_len (s : List UInt8) (ls : List ByteArray) : (keysOf s ls).length = ls.length * 32 := by
  induction ls with
  | nil => rfl
  | cons l ls ih => rw [keysOf, List.flatMap_cons, List.length_append, Wd.derive_len]; rw [keysOf] at ih; rw [ih, List.length_cons]; omega
theorem keysOf_snoc (s : List UInt8) (ls : List ByteArray) (i : Nat) (l : ByteArray) (h : ls[i]? = some l) : keysOf s (ls.take (i + 1)) = keysOf s (ls.take i) ++ Wd.derive s l.data.toList := by
  unfold keysOf
  rw [List.take_add_one, h, List.flatMap_append]
  simp
def strs (ls : List ByteArray) : List Value := ls.map Value.string
theorem rd_new_fz (w : World) (t : TypeId) (cs : List Value) (fz : Nat × Nat) : Rd (w.alloc (.cells cs.toArray t fz)) (some ⟨w.heap.size, 0, none⟩) cs.length cs :=
  ⟨rfl, fun _ => ⟨w.heap.size, 0, rfl, by simp, fun j u hu => by rw [cell_of_row _ w.heap.size (0 + j) cs.toArray t fz (heap_alloc_new w _), Nat.zero_add]; simpa using hu⟩⟩
theorem splice_at {α : Type} (a b c d : List α) (h : c.length = b.length) : splice (a ++ b ++ d) a.length c = a ++ c ++ d := by
  unfold splice
  rw [List.append_assoc a b d, List.take_left, h, ← List.length_append, ← List.append_assoc a b d, List.drop_left, List.append_assoc]
theorem rep_add {α : Type} (a b : Nat) (z : α) : rep (a + b) z = rep a z ++ rep b z := by unfold rep; rw [List.replicate_append_replicate]
theorem keys_splice (K D : List UInt8) (n i : Nat) (hK : K.length = i * 32) (hD : D.length = 32) (hi : i < n) : splice (u8s K ++ rep ((n - i) * 32) (.int .u8 0)) (i * 32) ((u8s D).take 32) = u8s (K ++ D) ++ rep ((n - (i + 1)) * 32) (.int .u8 0) := by
  rw [List.take_of_length_le (by rw [u8s_length, hD]; exact Nat.le_refl _), show (n - i) * 32 = 32 + (n - (i + 1)) * 32 by omega, rep_add, ← List.append_assoc, u8s_append]
  have := splice_at (u8s K) (rep 32 (.int .u8 0)) (u8s D) (rep ((n - (i + 1)) * 32) (.int .u8 0)) (by rw [u8s_length, hD, rep_length])
  rw [u8s_length, hK] at this
  exact this
set_option maxRecDepth 100000 in
set_option maxHeartbeats 4000000 in
theorem derive_any (A : Option Addr) (n c : Nat) (k : List UInt8) (A2 : Option Addr) (n2 c2 : Nat) (ls : List ByteArray) (w : World) (h : Rd w A n (u8s k)) (hc : n ≤ c) (hn : n ≤ 1000000) (h2 : Rd w A2 n2 (strs ls)) (hn2 : n2 ≤ 1000) (h0 : 0 < n2) (hl : ∀ l ∈ ls, l.size ≤ 1000) :
    Calls Tryz.prog 59 #[.slice A n c, .slice A2 n2 c2] w fun e w' => ∃ g, e = .returned (.slice (some ⟨g, 0, none⟩) n2 n2) ∧ w.heap.size ≤ g ∧ Blk w' g 26 (u8s (keysOf k ls)) ∧ Below w.heap.size w w' := by
  have hll : ls.length = n2 := by have := h2.1; simpa [strs] using this
  have HLL := Lib.hid hll
  have HEX : Hid (∀ W A3 (l : ByteArray), l.size ≤ 1000 → Rd W A3 32 (u8s (Mc.tag Wd.salt k)) → ∀ A4 c4, RdB W A4 1 [l.data.toList] → Calls Tryz.prog 78 #[.slice A3 32 32, .int .i64 32, .slice A4 1 c4] W fun e w' => ∃ g, e = .returned (.tuple #[.slice (some ⟨g, 0, none⟩) 32 32, .int .i64 0]) ∧ W.heap.size ≤ g ∧ Rd w' (some ⟨g, 0, none⟩) 32 (u8s (Wd.derive k l.data.toList)) ∧ Below W.heap.size W w') := fun W A3 l hsz h1 A4 c4 hr => by
    have := expand_any A3 32 32 (Mc.tag Wd.salt k) A4 1 c4 [l.data.toList] W h1 (by omega) (by omega) hr (by omega) (by simp; omega)
    simpa [Wd.derive] using this
  have hxt : (Calls Tryz.prog 77 #[.slice (some ⟨w.heap.size, 0, none⟩) 7 7, .slice A n c] (w.alloc (.cells #[.int .u8 115, .int .u8 104, .int .u8 97, .int .u8 108, .int .u8 108, .int .u8 111, .int .u8 116] 5 (7, 8))) fun e w' => e = .returned (.agg (u8s (Mc.tag Wd.salt k)).toArray) ∧ Below (w.heap.size + 1) (w.alloc (.cells #[.int .u8 115, .int .u8 104, .int .u8 97, .int .u8 108, .int .u8 108, .int .u8 111, .int .u8 116] 5 (7, 8))) w') := by
    have := extract_any (some ⟨w.heap.size, 0, none⟩) 7 7 Wd.salt A n c k _ (rd_new_fz w 5 (u8s Wd.salt) (7, 8)) (by omega) (by omega) (h.alloc _) hc (by omega)
    have e7 : (w.alloc (.cells (u8s Wd.salt).toArray 5 (7, 8))).heap.size = w.heap.size + 1 := by simp
    rw [e7] at this
    exact this
  have HXT := Lib.hid hxt
  clear hxt
  have HTL : Hid ((Mc.tag Wd.salt k).length = 32) := Mc.tag_len _ _
  have HI2 : Hid ((Tryz.prog.info? 26).map (·.size) = some (u8s (Mc.tag Wd.salt k)).length) := by rw [u8s_length, Mc.tag_len]; exact hd24
  have HL2 : Hid ((u8s (Mc.tag Wd.salt k)).length = (u8s (List.replicate 32 0)).length) := by show _ = _; rw [u8s_length, Mc.tag_len]; rfl
  have HO2 : Hid (∀ v ∈ u8s (Mc.tag Wd.salt k), v.oneCell' = true) := u8s_one _
  obtain ⟨X, hX⟩ : ∃ X, X = Mc.tag Wd.salt k := ⟨_, rfl⟩
  rw [← hX] at HEX HXT HTL HI2 HL2 HO2
  obtain ⟨U, hU⟩ : ∃ U, U = u8s X := ⟨_, rfl⟩
  rw [← hU] at HXT HI2 HL2 HO2
  have HU := Lib.hid hU
  have HR2 := Lib.hid h2
  have HSZ := Lib.hid hl
  have hne : ((n2 : Int) == 0) = false := by rw [beq_eq_false_iff_ne]; omega
  have kc := fun (w : World) (C : Array Value) (n c : Nat) => Lib.run_convert_bytes_const (P := Tryz.prog) w 23 5 C n c Tryz.underlying23 Tryz.underlying5
  clear h h2 hll hX hU hl
  go_enter Tryz.func59, Tryz.ntmps59
  go_wp2_with (first
    | (go_at_call 77; (with_reducible refine HXT.out.mono ?_); rintro e w1 ⟨rfl, hB1⟩
       have HB1 := Lib.hid (((Below.refl _ w).alloc (Nat.le_refl _) _).trans (hB1.mono (Nat.le_succ _)))
       clear hB1)
    | (refine wpList_store_all rfl 26 (.tmp 5) (.tmp 17) rfl w1.heap.size U (by rfl) (by rfl) 26 (u8s (List.replicate 32 0)) (by exact Blk.new' rfl rfl) HI2.out HO2.out HL2.out ?_
       intro w2 hb2 ho2
       have HB2 := Lib.hid (ho2.below (HB1.out.alloc HB1.out.size _) HB1.out.size (Nat.le_trans HB1.out.size (by simp)))
       have HK2 : Hid (Blk w2 w1.heap.size 26 (u8s X)) := (by rw [← HU.out]; exact hb2)
       clear hb2 ho2)
    | (refine wpList_makeZ rfl (.tmp 19) (.tmp 19) 114 rfl 26 (.agg (List.replicate 32 (.int .u8 0)).toArray) 32 32 (.int .u8 0) Tryz.underlying114 iA32 rfl (by omega) .i64 .i64 (n2 : Int) (n2 : Int) (by rfl) (by rfl) n2 n2 rfl rfl (by omega) (by omega) (by omega) ?_
       intro w3 hb3 hg3 hs3
       have HK3 := Lib.hid (HK2.out.below (grown_below hg3) HK2.out.lt)
       have HB3 := Lib.hid (HB2.out.trans ((grown_below hg3).mono HB2.out.size))
       have HZ3 : Hid (Blk w3 w2.heap.size 26 (u8s (keysOf k (ls.take 0)) ++ rep ((n2 - 0) * 32) (.int .u8 0))) := hb3
       clear hb3 hg3 hs3))
  have hg12 : w1.heap.size < w2.heap.size := HK2.out.lt
  have hgb : w.heap.size ≤ w1.heap.size := HB1.out.size
  clear HB1 HB2 HK2 kc
  generalize w1.heap.size = ga at *
  generalize w2.heap.size = gb at *
  go_loopg [23] n2 (fun kk q wr => ∃ i : Nat, i ≤ n2 ∧ kk = n2 - i ∧ q = .int .i64 i ∧ Blk wr gb 26 (u8s (keysOf k (ls.take i)) ++ rep ((n2 - i) * 32) (.int .u8 0)) ∧ Blk wr ga 26 (u8s X) ∧ Below w.heap.size w wr)
  case atStart => exact ⟨0, by omega, rfl, rfl, HZ3.out, HK3.out, HB3.out⟩
  case round =>
    clear HZ3 HK3 HB3
    obtain ⟨i, hi, hgk, rfl, hz, hk, hB⟩ := hrel
    have HGK := Lib.hid hgk
    clear hgk
    by_cases hlt : i < n2
    · have hlt2 : (i : Int) < (n2 : Int) := by omega
      obtain ⟨l, hx⟩ : ∃ l, ls[i]? = some l := ⟨_, List.getElem?_eq_getElem (by rw [HLL.out]; exact hlt)⟩
      have hlz : l.size ≤ 1000 := HSZ.out l (List.mem_of_getElem? hx)
      have HKS := Lib.hid (keysOf_snoc k ls i l hx)
      obtain ⟨b, off, u, rfl, hbl, HX, hcl⟩ := (HR2.out.below hB).at_ hlt
      have hu : u = .string l := by have := HX.out; unfold strs at this; rw [List.getElem?_map, hx] at this; injection this with this; exact this.symm
      subst hu
      obtain ⟨c5, w5, hcv, hc5, HRC, HBC⟩ := conv_bytes wr l
      have hkl := keysOf_len k (ls.take i)
      rw [List.length_take, HLL.out, Nat.min_eq_left hi] at hkl
      have HKL := Lib.hid hkl
      have HEXw : Hid (∀ W c4, Rd W (some ⟨ga, 0, none⟩) 32 (u8s X) → RdB W (some ⟨w5.heap.size, 0, none⟩) 1 [l.data.toList] → Calls Tryz.prog 78 #[.slice (some ⟨ga, 0, none⟩) 32 32, .int .i64 32, .slice (some ⟨w5.heap.size, 0, none⟩) 1 c4] W fun e w' => ∃ g, e = .returned (.tuple #[.slice (some ⟨g, 0, none⟩) 32 32, .int .i64 0]) ∧ W.heap.size ≤ g ∧ Rd w' (some ⟨g, 0, none⟩) 32 (u8s (Wd.derive k l.data.toList)) ∧ Below W.heap.size W w') := fun W c4 h1 h2 => HEX.out W _ l hlz h1 _ c4 h2
      have HZ := Lib.hid hz
      have HK := Lib.hid hk
      have HBE := Lib.hid hB
      have hs5 := HBC.out.size
      have HRB : Hid (RdB (w5.alloc (.cells #[.slice (some ⟨wr.heap.size, 0, none⟩) l.size c5] 23)) (some ⟨w5.heap.size, 0, none⟩) 1 [l.data.toList]) := RdB.of_blk (ls := [l.data.toList]) (Blk.new' (cs := [.slice (some ⟨wr.heap.size, 0, none⟩) l.size c5]) rfl rfl) ⟨.of_rd (HRC.out.alloc _) hc5, trivial⟩
      have HRK : Hid (Rd (w5.alloc (.cells #[.slice (some ⟨wr.heap.size, 0, none⟩) l.size c5] 23)) (some ⟨ga, 0, none⟩) 32 (u8s X)) := (by have h5 := (hk.below HBC.out hk.lt).rdAll; rw [HTL.out] at h5; exact h5.alloc _)
      have HDL : Hid ((Wd.derive k l.data.toList).length = 32) := Wd.derive_len _ _
      clear hx hkl hz hk hB hlz
      go_wp2_with (first
        | (go_at_call 78; (with_reducible refine (HEXw.out _ _ HRK.out HRB.out).mono ?_); rintro e w6 ⟨g6, rfl, hg6, hr6, hB6⟩
           have HR6 := Lib.hid hr6
           have HB56 := Lib.hid (((HBC.out.alloc hs5 _)).trans (hB6.mono (Nat.le_trans hs5 (by simp))))
           have HB6 := Lib.hid (HBE.out.trans (HB56.out.mono HBE.out.size))
           have HZ6 := Lib.hid (HZ.out.below HB56.out HZ.out.lt)
           have HK6 := Lib.hid (HK.out.below HB56.out HK.out.lt)
           clear hr6 hB6)
        | (refine wpList_copy rfl (.tmp 39) (.tmp 40) 23 rfl 5 Tryz.underlying23 u8_one1 gb (i * 32) 32 32 (by rfl) (some ⟨g6, 0, none⟩) 32 32 (by rfl) 26 _ HZ6.out _ HR6.out (u8s_one _) (by rw [List.length_append, u8s_length, HKL.out, rep_length]; omega) ?_
           intro w7 hb7 ho7))
      have HSP := Lib.hid (keys_splice _ _ n2 i HKL.out HDL.out hlt)
      have HZ7 := Lib.hid hb7
      rw [HSP.out, ← HKS.out] at HZ7
      have HK7 := Lib.hid (ho7.blk HK6.out (by omega))
      have HB7 := Lib.hid (ho7.below HB6.out (by omega) HB6.out.size)
      go_roundg (n2 - (i + 1))
      case measure => have := HGK.out; omega
      case rel => exact ⟨i + 1, by omega, rfl, by go_num, HZ7.out, HK7.out, HB7.out⟩
    · obtain rfl : i = n2 := by omega
      have hlt2 : ¬ (i : Int) < (i : Int) := by omega
      have HZ := Lib.hid hz
      rw [List.take_of_length_le (by rw [HLL.out]; exact Nat.le_refl _), Nat.sub_self, Nat.zero_mul, show rep 0 (Value.int .u8 0) = [] from rfl, List.append_nil] at HZ
      clear hz
      go_wp2_with fail
      go_ret
      exact ⟨gb, rfl, by omega, HZ.out, hB⟩
end Go.Proofs.YtlbnibmcflmohaaGreat
