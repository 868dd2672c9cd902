/- lex.Spell: the words of tokens of any kind, one blank between two. -/
import Derived.Test.YtkpacpkldjfbhaaLexSp
import Derived.Test.YtkpacpkldjfbhaaLexQ
import Derived.Test.YtkpacpkldjfbhaaStrs
import Derived.Test.YtkpacpkldjfbhaaJoin
namespace Go.Proofs.Ytkpacpkldjfbhaa
open Go.RowKit

theorem eStrS : ElemIs Try.prog 9 1 16 := ElemIs.of (z := .string ByteArray.empty) (by kernel_rfl) rfl (by omega)
def bWords (l : List GT) : List ByteArray := (gWords l).map bytesOf
theorem bWords_len (l : List GT) : (bWords l).length ≤ l.length := by
  unfold bWords gWords; rw [List.length_map]; exact List.length_filterMap_le _ _
theorem bWords_data (l : List GT) : (bWords l).map (·.data.toList) = gWords l := by
  unfold bWords; rw [List.map_map]; conv => rhs; rw [← List.map_id (gWords l)]
  rfl
theorem bWords_step {l : List GT} {k : Nat} {t : GT} {x : List UInt8} (h : l[k]? = some t) (hx : gWord t = some x) : bWords (l.take (k + 1)) = bWords (l.take k) ++ [bytesOf x] := by
  unfold bWords; rw [gWords_step h, hx]; simp
theorem own_bel {w w' : World} {base n sz : Nat} {e : TypeId} {v : Value} {xs : List Value} (h : w.ownsRow base e sz v n xs) (hb : Below w.heap.size w w') : w'.ownsRow base e sz v n xs :=
  h.kept (row := none) ⟨hb.os, hb.tape, hb.output, hb.size, fun k hk _ => hb.block k hk⟩ (by cases v.ownBlock <;> simp)
theorem strs_app (a b : List ByteArray) : strs (a ++ b) = strs a ++ strs b := by simp [strs]

set_option maxRecDepth 100000 in
set_option maxHeartbeats 4000000 in
theorem spell_any (A : Option Addr) (n c : Nat) (l : List GT) (w : World) (h : RdS 4 w A n (gtsCells l)) (hn : n ≤ 10000) (ht : ∀ t ∈ l, t.text.size ≤ 67108864) :
    Calls Try.prog 32 #[.slice A n c] w fun e w' => e = .returned (.string (bytesOf (gSpell l))) ∧ Below w.heap.size w w' := by
  have hl : l.length = n := by have := h.1; rw [gts_len] at this; omega
  have HL := Lib.hid hl
  have HT := Lib.hid ht
  have HJ : Hid ((gSpell l).length ≤ 140737488355328) := by
    have := gSpell_len 67108864 l ht
    have h2 : l.length * (4 * 67108864 + 3) ≤ 10000 * 268435459 := Nat.mul_le_mul_right _ (by omega)
    show _ ≤ _
    omega
  clear hl ht
  go_enter Try.func32, Try.ntmps32
  go_wp2_with fail
  go_loopg [3, 8] n (fun k o q wr => ∃ (i m : Nat) (W : List ByteArray) (A' : Option Addr) (c' : Nat), i ≤ n ∧ m ≤ i ∧ k = n - i ∧ q = .int .i64 i ∧ o = .slice A' m c' ∧ m ≤ c' ∧ wr.ownsRow w.heap.size 9 1 (.slice A' m c') m (strs W) ∧ Below w.heap.size w wr ∧ Hid (W = bWords (l.take i)))
  case atStart => exact ⟨0, 0, [], none, 0, by omega, by omega, rfl, rfl, rfl, Nat.le_refl _, World.ownsRow_nil _ _ _ _, Below.refl _ _, rfl⟩
  case round =>
    obtain ⟨i, m, W, A', c', hi, hmi, hgk, rfl, rfl, hmc, hown, hBr, HW0⟩ := hrel
    have HGK := Lib.hid hgk
    clear hgk
    by_cases hlt : i < n
    · obtain ⟨b, off, rfl, hb, hc⟩ := (h.keep hBr.size fun p hp => hBr.cell hp).2 (by omega)
      obtain ⟨t, ht⟩ : ∃ t, l[i]? = some t := ⟨_, List.getElem?_eq_getElem (by rw [HL.out]; exact hlt)⟩
      obtain ⟨x0, x1, x2, x3⟩ := gts_get ht
      have d0 := hc _ _ x0
      have d1 := hc _ _ x1
      have d2 := hc _ _ x2
      have d3 := hc _ _ x3
      rw [Nat.add_zero] at d0
      rw [← Nat.add_assoc] at d1 d2 d3
      have HI := Lib.hid ht
      have hsz : t.text.size ≤ 67108864 := HT.out t (List.mem_of_getElem? ht)
      have hM : Hid (n - (i + 1) < gk) := by have := HGK.out; show n - (i + 1) < gk; omega
      have i0 : (0 : Int) ≤ (i : Int) := by omega
      have i1 : (i : Int) < (n : Int) := by omega
      clear x0 x1 x2 x3 ht hc
      by_cases hk : t.kind = 6
      · have e1 : (t.kind == 6) = true := by rw [hk]; rfl
        have HN : Hid (bWords (l.take (i + 1)) = bWords (l.take i)) := by show _ = _; unfold bWords; rw [gSpell_end HI.out hk]
        clear hk
        go_wp2_with fail
        go_roundg (n - (i + 1))
        case measure => exact hM.out
        case rel => exact ⟨i + 1, m, W, A', c', hlt, by omega, rfl, by go_num, rfl, hmc, hown.alloc _, hBr.alloc hBr.size _, by show _ = _; rw [HN.out]; exact HW0.out⟩
      · have e1 : (t.kind == 6) = false := by rw [beq_eq_false_iff_ne]; exact hk
        have HK := Lib.hid hk
        clear hk
        by_cases hq : t.kind = 4
        · have e2 : (t.kind == 4) = true := by rw [hq]; rfl
          have HW : Hid (gWord t = some (Lx.quote t.text.data.toList)) := by show _ = _; unfold gWord; rw [if_neg HK.out, if_pos hq]
          clear hq
          obtain ⟨c1, w1, hcv, hc1, HR1, HB1⟩ := conv_bytes (wr.alloc (.cells #[.int .i64 t.kind, .string t.text, .int .i64 t.num, .int .i64 t.at_] 54)) t.text
          have HO1 := Lib.hid (own_bel (hown.alloc (.cells #[.int .i64 t.kind, .string t.text, .int .i64 t.num, .int .i64 t.at_] 54)) HB1.out)
          have HBw1 := Lib.hid ((hBr.alloc hBr.size (.cells #[.int .i64 t.kind, .string t.text, .int .i64 t.num, .int .i64 t.at_] 54)).trans (HB1.out.mono (Nat.le_trans hBr.size (by simp))))
          obtain ⟨Q, hQ⟩ : ∃ Q, Q = bytesOf (Lx.quote t.text.data.toList) := ⟨_, rfl⟩
          have HRQ : Hid (Calls Try.prog 24 #[.slice (some ⟨(wr.alloc (.cells #[.int .i64 t.kind, .string t.text, .int .i64 t.num, .int .i64 t.at_] 54)).heap.size, 0, none⟩) t.text.size c1] w1 fun e w' => e = .returned (.string Q) ∧ Below w1.heap.size w1 w') := hQ ▸ quote_any _ _ _ t.text.data.toList _ HR1.out (by omega)
          have HQ := Lib.hid hQ
          rw [show (wr.alloc (.cells #[.int .i64 t.kind, .string t.text, .int .i64 t.num, .int .i64 t.at_] 54)).heap.size = wr.heap.size + 1 by simp] at hcv HRQ
          clear hQ hown hBr
          go_wp2_with (first
            | (go_at_call 24; (with_reducible refine HRQ.out.mono ?_); rintro e w2 ⟨rfl, hB2⟩
               have HO2 := Lib.hid (own_bel HO1.out hB2)
               have HBw2 := Lib.hid (HBw1.out.trans (hB2.mono HBw1.out.size)))
            | (at_builtin; refine wpList_app rfl (.tmp 23) (.tmp 28) _ rfl w.heap.size 9 1 16 Try.underlying64 eStrS (.slice A' m c') m (strs W) (by rfl) (by exact HO2.out.alloc _) (some ⟨w2.heap.size, 0, none⟩) 1 1 [.string Q] (by rfl) (by exact RdS.new _ _ [.string Q] 1 rfl) (by simp [Value.oneCell']) (by omega) (by omega) (Nat.le_trans HBw2.out.size (by simp)) ?_
               intro A2 c2 w3 hown2 hc2 hg2 hat2
               have hB3 : Below w.heap.size w w3 := (HBw2.out.alloc HBw2.out.size _).grown hg2 (Nat.le_trans HBw2.out.size (by simp)) (fun k hk => (HO2.out.lt k hk).1)
               have HO3 : Hid (w3.ownsRow w.heap.size 9 1 (.slice A2 (m + 1) c2) (m + 1) (strs (W ++ [Q]))) := by rw [strs_app]; exact hown2
               clear hg2 hat2 hown2))
          go_roundg (n - (i + 1))
          case measure => exact hM.out
          case rel => exact ⟨i + 1, m + 1, W ++ [Q], A2, c2, hlt, by omega, rfl, by go_num, rfl, hc2, HO3.out, hB3, by show _ = _; rw [HW0.out, bWords_step HI.out HW.out, HQ.out]⟩
        · have e2 : (t.kind == 4) = false := by rw [beq_eq_false_iff_ne]; exact hq
          have HW : Hid (gWord t = some t.text.data.toList) := by show _ = _; unfold gWord; rw [if_neg HK.out, if_neg hq]
          clear hq
          go_wp2_with (at_builtin; refine wpList_app rfl (.tmp 14) (.tmp 17) _ rfl w.heap.size 9 1 16 Try.underlying64 eStrS (.slice A' m c') m (strs W) (by rfl) (by exact (hown.alloc _).alloc _) (some ⟨wr.heap.size + 1, 0, none⟩) 1 1 [.string t.text] (by rfl) (by exact RdS.of_blk (sz := 1) (n := 1) (Blk.new' (cs := [.string t.text]) (by simp) rfl) rfl) (by simp [Value.oneCell']) (by omega) (by omega) (Nat.le_trans hBr.size (by simp; omega)) ?_)
          intro A2 c2 w3 hown2 hc2 hg2 hat2
          have hB3 : Below w.heap.size w w3 := ((hBr.alloc hBr.size _).alloc (Nat.le_trans hBr.size (by simp)) _).grown hg2 (Nat.le_trans hBr.size (by simp; omega)) (fun k hk => (hown.lt k hk).1)
          have HO3 : Hid (w3.ownsRow w.heap.size 9 1 (.slice A2 (m + 1) c2) (m + 1) (strs (W ++ [t.text]))) := by rw [strs_app]; exact hown2
          clear hg2 hat2 hown2 hown hBr
          go_wp2_with fail
          go_roundg (n - (i + 1))
          case measure => exact hM.out
          case rel => exact ⟨i + 1, m + 1, W ++ [t.text], A2, c2, hlt, by omega, rfl, by go_num, rfl, hc2, HO3.out, hB3, by show _ = _; rw [HW0.out, bWords_step HI.out HW.out]; rfl⟩
    · have hW : W = bWords l := by
        have := HW0.out
        rwa [List.take_of_length_le (by rw [HL.out]; omega)] at this
      have hm : W.length = m := by have := hown.1; simpa [strs] using this
      have hd : W.map (·.data.toList) = gWords l := by rw [hW]; exact bWords_data l
      have HC : Hid (Calls Try.prog 50 #[.slice A' m c', .string { data := #[32] }] wr fun e w' => e = .returned (.string (bytesOf (gSpell l))) ∧ Below wr.heap.size wr w') := by
        rcases Nat.eq_zero_or_pos m with h0 | h0
        · subst h0
          have hW0 : W = [] := List.length_eq_zero_iff.1 hm
          have hg : gWords l = [] := by rw [← hd, hW0]; rfl
          have e0 : gSpell l = [] := by unfold gSpell; rw [hg]; rfl
          rw [e0]
          exact (Try.strings_Join_none A' c' _ wr).mono fun e w' ⟨he, hw⟩ => ⟨he, hw ▸ Below.refl _ _⟩
        · obtain ⟨_, hrd⟩ := Rd.of_own hown
          obtain ⟨b, off, rfl, hb, hc⟩ := hrd h0
          subst hm
          have := Try.strings_Join b off c' W { data := #[32] } wr (fun j x hx => hc j _ (by simp [strs, hx])) hb (by omega) hmc (by
            rw [hd]; exact HJ.out)
          rw [hd] at this
          exact this
      clear hW hm hd hown
      go_wp2_with (go_at_call 50; (with_reducible refine HC.out.mono ?_); rintro e w2 ⟨rfl, hB2⟩)
      go_ret
      exact ⟨rfl, hBr.trans (hB2.mono hBr.size)⟩
end Go.Proofs.Ytkpacpkldjfbhaa
