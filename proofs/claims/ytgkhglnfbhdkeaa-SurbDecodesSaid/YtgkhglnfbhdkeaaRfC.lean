/- shallotref03.Expand to one sum. -/
import Derived.Test.YtgkhglnfbhdkeaaRfB
import Derived.Test.YtgkhglnfbhdkeaaMcR
import Derived.Lib.SmallJoins
namespace Go.Proofs.Ytgkhglnfbhdkeaa
open Go.RowKit

theorem own_nil (w : World) (base : Nat) (e : TypeId) : w.ownsRow base e 1 (.slice none 0 0) 0 (u8s []) := ⟨rfl, .inl ⟨rfl, rfl⟩⟩
set_option maxRecDepth 100000 in
set_option maxHeartbeats 4000000 in
theorem rexpand_any (A : Option Addr) (n c : Nat) (k : List UInt8) (A2 : Option Addr) (n2 c2 : Nat) (info : List UInt8) (w : World) (h : Rd w A n (u8s k)) (hn : n ≤ 100000000) (h2 : Rd w A2 n2 (u8s info)) (hn2 : n2 ≤ 1000000) :
    Calls Try.prog 103 #[.slice A n c, .int .i64 32, .slice A2 n2 c2] w fun e w' => ∃ A' c', e = .returned (.tuple #[.slice A' 32 c', .int .i64 0]) ∧ 32 ≤ c' ∧ Rd w' A' 32 (u8s (Wd.expand k info)) ∧ Below w.heap.size w w' := by
  have HTG := Lib.hid (fun W A3 c3 (h1 : Rd W A n (u8s k)) (h3 : Rd W A3 (n2 + 1) (u8s (info ++ [1]))) => rtag_any A n c k A3 (n2 + 1) c3 (info ++ [1]) W h1 hn h3 (by omega))
  have HXL : Hid ((Mc.tag k (info ++ [1])).length = 32) := Mc.tag_len _ _
  have HI2 : Hid ((Try.prog.info? 24).map (·.size) = some (u8s (Mc.tag k (info ++ [1]))).length) := by rw [u8s_length, Mc.tag_len]; exact hd24
  have HL2 : Hid ((u8s (Mc.tag k (info ++ [1]))).length = (u8s (List.replicate 32 0)).length) := by show _ = _; rw [u8s_length, Mc.tag_len]; rfl
  have H1 : Hid (∀ v ∈ u8s (Mc.tag k (info ++ [1])), v.oneCell' = true) := u8s_one _
  have HEX : Hid (Wd.expand k info = Mc.tag k (info ++ [1])) := rfl
  obtain ⟨X, hX⟩ : ∃ X, X = Mc.tag k (info ++ [1]) := ⟨_, rfl⟩
  rw [HEX.out, ← hX]
  rw [← hX] at HTG HXL HI2 HL2 H1
  obtain ⟨U, hU⟩ : ∃ U, U = u8s X := ⟨_, rfl⟩
  rw [← hU] at HTG HI2 HL2 H1
  have HU := Lib.hid hU
  have HC0 := Lib.hid (fun W => copy_any none 0 0 [] W (Rd.nil _ _) (by omega))
  have HC32 := Lib.hid (fun W A3 c3 (h3 : Rd W A3 32 (u8s X)) => copy_any A3 32 c3 X W h3 (by omega))
  have HR := Lib.hid h
  have HR2 := Lib.hid h2
  clear h h2 hX hU HEX
  go_enter Try.func103, Try.ntmps103
  go_wp2_with fail
  go_loopg [8, 9, 10] 1 (fun kk v la q wr => Below w.heap.size w wr ∧ ((kk = 1 ∧ v = .slice none 0 0 ∧ la = .slice none 0 0 ∧ q = .int .i64 1) ∨
    (kk = 0 ∧ q = .int .i64 2 ∧ ∃ A' c', v = .slice A' 32 c' ∧ 32 ≤ c' ∧ wr.ownsRow w.heap.size 5 1 (.slice A' 32 c') 32 (u8s X))))
  case atStart => exact ⟨Below.refl _ _, .inl ⟨rfl, rfl, rfl, rfl⟩⟩
  case round =>
    obtain ⟨hB, ⟨hgk, rfl, rfl, rfl⟩ | ⟨hgk, rfl, A', c', rfl, hc', hown⟩⟩ := hrel
    · have HGK := Lib.hid hgk
      have HBE := Lib.hid hB
      have hbs := hB.size
      clear hgk hB
      go_wp2_with (first
        | (go_at_call 11; (with_reducible refine (HC32.out _ _ _ HR9.out).mono ?_); rintro e w10 ⟨A10, c10, rfl, hc10, hown10, hB10⟩
           have HE10 := Lib.hid (HE9.out.trans (hB10.mono HE9.out.size))
           have HR10 := Lib.hid (Rd.of_own hown10)
           clear hown10 hB10)
        | (go_at_call 11; (with_reducible refine (HC0.out _).mono ?_); rintro e w3 ⟨A3, c3, rfl, hc3, hown3, hB3⟩
           have HE3 := Lib.hid (HBE.out.trans (hB3.mono HBE.out.size))
           have HO3 := Lib.hid (own_mono hown3 (base' := w.heap.size) hbs)
           clear hown3 hB3)
        | (at_builtin; refine wpList_app rfl (.tmp 26) (.tmp 27) 22 rfl w.heap.size 5 1 1 Try.underlying22 eU8 (.slice A3 0 c3) 0 (u8s []) (by rfl) (by exact HO3.out) A2 n2 c2 (u8s info) (by rfl) (by exact (HR2.out.below HE3.out).toS) (u8s_one _) (by omega) (by omega) HE3.out.size ?_
           intro A4 c4 w4 hown4 hc4 hg4 hat4
           have HE4 := Lib.hid (HE3.out.grown hg4 HE3.out.size (fun g hg => (HO3.out.lt g hg).1))
           have HO4 : Hid (w4.ownsRow w.heap.size 5 1 (.slice A4 n2 c4) n2 (u8s info)) := (by have h5 := hown4; rw [Nat.zero_add] at h5; exact h5)
           clear hown4 hg4 hat4)
        | (at_builtin; refine wpList_app rfl (.tmp 28) (.tmp 31) 22 rfl w.heap.size 5 1 1 Try.underlying22 eU8 (.slice A4 n2 c4) n2 (u8s info) (by rfl) (by exact HO4.out.alloc _) (some ⟨w4.heap.size, 0, none⟩) 1 1 (u8s [1]) (by rfl) (by exact RdS.new w4 5 (u8s [1]) 1 rfl) (u8s_one _) (by omega) (by omega) (Nat.le_trans HE4.out.size (by simp)) ?_
           intro A5 c5 w5 hown5 hc5 hg5 hat5
           have HE5 := Lib.hid ((HE4.out.alloc HE4.out.size _).grown hg5 (Nat.le_trans HE4.out.size (by simp)) (fun g hg => (HO4.out.lt g hg).1))
           have HR5 := Lib.hid (Rd.of_own hown5)
           rw [← u8s_append] at HR5
           clear hown5 hg5 hat5)
        | (go_at_call 72; (with_reducible refine (HTG.out _ _ _ (HR.out.below HE5.out) HR5.out).mono ?_); rintro e w7 ⟨rfl, hB7⟩
           have HE7 := Lib.hid (HE5.out.trans (hB7.mono HE5.out.size))
           clear hB7)
        | (refine wpList_store_all rfl 24 (.tmp 12) (.tmp 35) rfl w7.heap.size U (by rfl) (by rfl) 24 (u8s (List.replicate 32 0)) (by exact Blk.new' rfl rfl) HI2.out H1.out HL2.out ?_
           intro w9 hb9 ho9
           have HE9 := Lib.hid (ho9.below (HE7.out.alloc HE7.out.size _) HE7.out.size (Nat.le_trans HE7.out.size (by simp)))
           have HR9 : Hid (Rd w9 (some ⟨w7.heap.size, 0, none⟩) 32 (u8s X)) := (by have h5 := hb9; rw [HU.out] at h5; have h6 := h5.rdAll; rw [HXL.out] at h6; exact h6)
           clear hb9 ho9)
        | (at_builtin; refine wpList_app rfl (.tmp 38) (.tmp 39) 22 rfl w.heap.size 5 1 1 Try.underlying22 eU8 (.slice none 0 0) 0 (u8s []) (by rfl) (by exact own_nil _ _ _) A10 32 c10 (u8s X) (by rfl) (by exact HR10.out.toS) (u8s_one _) (by omega) (by omega) HE10.out.size ?_
           intro A11 c11 w11 hown11 hc11 hg11 hat11
           have HE11 := Lib.hid (HE10.out.grown hg11 HE10.out.size (fun g hg => by cases hg))
           have HO11 : Hid (w11.ownsRow w.heap.size 5 1 (.slice A11 32 c11) 32 (u8s X)) := hown11
           clear hown11 hg11 hat11))
      go_roundg 0
      case measure => have := HGK.out; omega
      case rel => exact ⟨HE11.out, .inr ⟨rfl, rfl, A11, c11, rfl, by omega, HO11.out⟩⟩
    · obtain ⟨g, rfl, hg, _, hr⟩ := own_pos hown (by omega)
      have HRR := Lib.hid hr
      have HBE := Lib.hid hB
      clear hown hr hB
      have hc2 : (32 : Int) ≤ (c' : Int) := by omega
      go_wp2_with (go_at_call 11; (with_reducible refine (HC32.out _ _ _ HRR.out).mono ?_); rintro e w3 ⟨A3, c3, rfl, hc3, hown3, hB3⟩
                   have HE3 := Lib.hid (HBE.out.trans (hB3.mono HBE.out.size))
                   have HR3 := Lib.hid (Rd.of_own hown3)
                   clear hown3 hB3)
      go_ret2
      exact ⟨A3, c3, rfl, hc3, HR3.out, HE3.out⟩
end Go.Proofs.Ytgkhglnfbhdkeaa

/- shallotref03.Derive: the key of one label. -/
namespace Go.Proofs.Ytgkhglnfbhdkeaa
open Go.RowKit

set_option maxRecDepth 100000 in
set_option maxHeartbeats 4000000 in
theorem rderive_any (A : Option Addr) (n c : Nat) (k : List UInt8) (S : ByteArray) (w : World) (h : Rd w A n (u8s k)) (hn : n ≤ 1000000) (hS : S.size ≤ 1000) :
    Calls Try.prog 79 #[.slice A n c, .string S] w fun e w' => e = .returned (.agg (u8s (Wd.derive k S.data.toList)).toArray) ∧ Below w.heap.size w w' := by
  obtain ⟨w0, hw0⟩ : ∃ w0, w0 = w.alloc (.cells (u8s (List.replicate 32 0)).toArray 24) := ⟨_, rfl⟩
  have hs0 : w0.heap.size = w.heap.size + 1 := by rw [hw0]; simp
  have htg := rtag_any (some ⟨w.heap.size + 1, 0, none⟩) 7 7 Wd.salt A n c k (w0.alloc (.cells (u8s Wd.salt).toArray 5 (7, 8))) (by rw [← hs0]; exact rd_new_fz w0 5 (u8s Wd.salt) (7, 8)) (by omega) ((show Rd w0 A n (u8s k) by rw [hw0]; exact h.alloc _).alloc _) (by omega)
  have e7 : (w0.alloc (.cells (u8s Wd.salt).toArray 5 (7, 8))).heap.size = w.heap.size + 2 := by simp [hs0]
  rw [e7, hw0] at htg
  have HTG : Hid (Calls Try.prog 72 #[.slice (some ⟨w.heap.size + 1, 0, none⟩) 7 7, .slice A n c] ((w.alloc (.cells #[.int .u8 0, .int .u8 0, .int .u8 0, .int .u8 0, .int .u8 0, .int .u8 0, .int .u8 0, .int .u8 0, .int .u8 0, .int .u8 0, .int .u8 0, .int .u8 0, .int .u8 0, .int .u8 0, .int .u8 0, .int .u8 0, .int .u8 0, .int .u8 0, .int .u8 0, .int .u8 0, .int .u8 0, .int .u8 0, .int .u8 0, .int .u8 0, .int .u8 0, .int .u8 0, .int .u8 0, .int .u8 0, .int .u8 0, .int .u8 0, .int .u8 0, .int .u8 0] 24)).alloc (.cells #[.int .u8 115, .int .u8 104, .int .u8 97, .int .u8 108, .int .u8 108, .int .u8 111, .int .u8 116] 5 (7, 8))) fun e w' => e = .returned (.agg (u8s (Mc.tag Wd.salt k)).toArray) ∧ Below (w.heap.size + 2) ((w.alloc (.cells (u8s (List.replicate 32 0)).toArray 24)).alloc (.cells (u8s Wd.salt).toArray 5 (7, 8))) w') := htg
  have HXL : Hid ((Mc.tag Wd.salt k).length = 32) := Mc.tag_len _ _
  have HI2 : Hid ((Try.prog.info? 24).map (·.size) = some (u8s (Mc.tag Wd.salt k)).length) := by rw [u8s_length, Mc.tag_len]; exact hd24
  have HL2 : Hid ((u8s (Mc.tag Wd.salt k)).length = (u8s (List.replicate 32 0)).length) := by show _ = _; rw [u8s_length, Mc.tag_len]; rfl
  have H1 : Hid (∀ v ∈ u8s (Mc.tag Wd.salt k), v.oneCell' = true) := u8s_one _
  have HDE : Hid (Wd.derive k S.data.toList = Wd.expand (Mc.tag Wd.salt k) S.data.toList) := rfl
  obtain ⟨X, hX⟩ : ∃ X, X = Mc.tag Wd.salt k := ⟨_, rfl⟩
  rw [← hX] at HTG HXL HI2 HL2 H1 HDE
  obtain ⟨U, hU⟩ : ∃ U, U = u8s X := ⟨_, rfl⟩
  rw [← hU] at HTG HI2 HL2 H1
  have HU := Lib.hid hU
  have HEX := Lib.hid (fun W g B c3 (h1 : Rd W (some ⟨g, 0, none⟩) 32 (u8s X)) (h3 : Rd W B S.size (u8s S.data.toList)) => rexpand_any (some ⟨g, 0, none⟩) 32 32 X B S.size c3 S.data.toList W h1 (by omega) h3 (by omega))
  rw [← HDE.out] at HEX
  have hdl : (Wd.derive k S.data.toList).length = 32 := Wd.derive_len _ _
  obtain ⟨D, hD⟩ : ∃ D, D = Wd.derive k S.data.toList := ⟨_, rfl⟩
  rw [← hD] at HEX hdl ⊢
  have HDI : Hid ((Try.prog.info? 24).map (·.size) = some (u8s D).length) := by rw [u8s_length, hdl]; exact hd24
  have HDL : Hid ((u8s D).length = (u8s (List.replicate 32 0)).length) := by show _ = _; rw [u8s_length, hdl]; rfl
  have HD1 : Hid (∀ v ∈ u8s D, v.oneCell' = true) := u8s_one _
  have HSP : Hid (splice (u8s (List.replicate 32 0)) 0 ((u8s D).take 32) = u8s D) := by
    show _ = _
    rw [List.take_of_length_le (by rw [u8s_length, hdl]; exact Nat.le_refl _)]
    exact splice_whole _ _ HDL.out
  obtain ⟨DU, hDU⟩ : ∃ DU, DU = u8s D := ⟨_, rfl⟩
  rw [← hDU] at HDI HDL HD1 HSP ⊢
  have HDU := Lib.hid hDU
  have kc := fun (Z : Obj) (C : Array Value) (n c : Nat) => Joins.run_convert_bytes_const_at (P := Try.prog) (w.alloc Z) 22 5 C n c (w.heap.size + 1) (by simp) Try.underlying22 Try.underlying5
  clear h hw0 hs0 htg e7 hX hU hD hdl hDU HDE w0
  go_enter Try.func79, Try.ntmps79
  go_wp2_with (first
    | (go_at_call 72; (with_reducible refine HTG.out.mono ?_); rintro e w1 ⟨rfl, hB1⟩
       have HE1 := Lib.hid ((((Below.refl _ w).alloc (Nat.le_refl _) (.cells (u8s (List.replicate 32 0)).toArray 24)).alloc (by simp) _).trans (hB1.mono (by omega)))
       have HZ1 := Lib.hid (((Blk.new' (w := w) (cs := u8s (List.replicate 32 0)) (t := 24) rfl rfl).alloc _).below hB1 (by omega))
       clear hB1 kc)
    | (refine wpList_store_all rfl 24 (.tmp 5) (.tmp 12) rfl w1.heap.size U (by rfl) (by rfl) 24 (u8s (List.replicate 32 0)) (by exact Blk.new' rfl rfl) HI2.out H1.out HL2.out ?_
       intro w3 hb3 ho3
       have hl1 := HZ1.out.lt
       have HE3 := Lib.hid (ho3.below (HE1.out.alloc HE1.out.size _) HE1.out.size (Nat.le_trans HE1.out.size (by simp)))
       have HZ3 := Lib.hid (ho3.blk (HZ1.out.alloc _) (by omega))
       have HK3 : Hid (Blk w3 w1.heap.size 24 (u8s X)) := (by rw [← HU.out]; exact hb3)
       obtain ⟨c5, w5, hcv, hc5, HRC, HBC⟩ := conv_bytes w3 S
       have HE5 := Lib.hid (HE3.out.trans (HBC.out.mono HE3.out.size))
       have HZ5 := Lib.hid (HZ3.out.below HBC.out HZ3.out.lt)
       have HK5 : Hid (Rd w5 (some ⟨w1.heap.size, 0, none⟩) 32 (u8s X)) := (by have h6 := (HK3.out.below HBC.out HK3.out.lt).rdAll; rw [HXL.out] at h6; exact h6)
       clear hb3 ho3)
    | (go_at_call 103; (with_reducible refine (HEX.out w5 _ _ _ HK5.out HRC.out).mono ?_); rintro e w6 ⟨A6, c6, rfl, hc6, hr6, hB6⟩
       have HE6 := Lib.hid (HE5.out.trans (hB6.mono HE5.out.size))
       have HZ6 := Lib.hid (HZ5.out.below hB6 HZ5.out.lt)
       have HR6 := Lib.hid hr6
       clear hr6 hB6 hcv)
    | (refine wpList_copy rfl (.tmp 20) (.tmp 21) 22 rfl 5 Try.underlying22 u8_one1 w6.heap.size 0 32 32 (by rfl) A6 32 c6 (by rfl) 24 (u8s (List.replicate 32 0)) (by exact Blk.new' rfl rfl) (u8s D) (by exact HR6.out.alloc _) (u8s_one _) (by rw [u8s_length]; exact Nat.le_refl _) ?_
       intro w7 hb7 ho7
       have hb7' := hb7
       rw [← HDU.out, HSP.out] at hb7'
       have hl6 := HZ6.out.lt
       have HE7 := Lib.hid (ho7.below (HE6.out.alloc HE6.out.size _) HE6.out.size (Nat.le_trans HE6.out.size (by simp)))
       have HZ7 := Lib.hid (ho7.blk (HZ6.out.alloc _) (by omega))
       have HR7 := Lib.hid hb7'.range
       clear hb7 hb7' ho7)
    | refine wpList_load_mid rfl 24 (.tmp 8) rfl w6.heap.size 0 (by rfl) DU _ HR7.out Try.underlying24 rfl HDI.out ?_
    | (refine wpList_store_all rfl 24 (.tmp 4) (.tmp 23) rfl w.heap.size DU (by rfl) (by rfl) 24 _ HZ7.out HDI.out HD1.out HDL.out ?_; intro w8 hb8 ho8))
  exact bodyPost_ret (res_cell rfl _ w.heap.size _ DU rfl hb8 _ Try.underlying24 rfl HDI.out) rfl ⟨rfl, ho8.below HE7.out (Nat.le_refl _) HE7.out.size⟩
end Go.Proofs.Ytgkhglnfbhdkeaa
