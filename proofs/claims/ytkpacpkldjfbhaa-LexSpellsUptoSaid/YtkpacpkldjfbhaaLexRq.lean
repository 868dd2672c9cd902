/- shallotref21.Quote. -/
import Derived.Test.YtkpacpkldjfbhaaLexR
namespace Go.Proofs.Ytkpacpkldjfbhaa
open Go.RowKit

theorem bytesOf_add (a b : List UInt8) : bytesOf a ++ bytesOf b = bytesOf (a ++ b) := by
  show ByteArray.append _ _ = _
  apply ByteArray.ext
  simp [bytesOf]

set_option maxRecDepth 100000 in
set_option maxHeartbeats 4000000 in
theorem rquote_any (A : Option Addr) (n c : Nat) (l : List UInt8) (w : World) (h : Rd w A n (u8s l)) (hn : n ≤ 35184372080000) (hc : n ≤ c) :
    Calls Try.prog 25 #[.slice A n c] w fun e w' => e = .returned (.string (bytesOf (Lx.quote l))) ∧ Below w.heap.size w w' := by
  have hl : l.length = n := h.len
  have HL := Lib.hid hl
  clear hl
  go_enter Try.func25, Try.ntmps25
  go_wp2_with fail
  go_loopg [3, 4] n (fun k o q wr => ∃ (i : Nat) (acc : List UInt8), i ≤ n ∧ k = n - i ∧ q = .int .i64 i ∧ o = .string (bytesOf acc) ∧ acc.length ≤ 4 * i + 1 ∧ Below w.heap.size w wr ∧ Hid (acc = 34 :: (l.take i).flatMap Lx.qb))
  case atStart => exact ⟨0, [34], by omega, rfl, rfl, rfl, by simp, Below.refl _ _, by show _ = _; simp⟩
  case round =>
    obtain ⟨i, acc, hi, hgk, rfl, rfl, hacc, hBr, HA⟩ := hrel
    have HGK := Lib.hid hgk
    clear hgk
    by_cases hlt : i < n
    · obtain ⟨b, off, x, rfl, hb, HX, hc⟩ := (h.below hBr).u8 hlt
      have HM : Hid (n - (i + 1) < gk) := by have := HGK.out; show n - (i + 1) < gk; omega
      have HN : Hid (acc ++ Lx.qb x = 34 :: (l.take (i + 1)).flatMap Lx.qb) := by show _ = _; rw [HA.out, Lx.qbs_snoc l i x HX.out]; rfl
      have hsz : (bytesOf acc).size ≤ 140737488355328 := by rw [bytesOf_size]; omega
      by_cases h34 : x = 34
      · have e1 : ((x.toNat : Int) == 34) = true := by rw [h34]; rfl
        rw [show Lx.qb x = [92, 34] from by rw [h34]; rfl] at HN
        clear h34 HX HGK HA
        go_wp2_with fail
        go_roundg (n - (i + 1))
        case measure => exact HM.out
        case rel => exact ⟨i + 1, acc ++ [92, 34], hlt, rfl, by go_num, congrArg Value.string (bytesOf_add acc [92, 34]), by rw [List.length_append]; simp; omega, hBr, HN.out⟩
      · have e1 : ((x.toNat : Int) == 34) = false := byte_ne (k := 34) h34
        by_cases h92 : x = 92
        · have e2 : ((x.toNat : Int) == 92) = true := by rw [h92]; rfl
          rw [show Lx.qb x = [92, 92] from by rw [h92]; rfl] at HN
          clear h34 h92 HX HGK HA
          go_wp2_with fail
          go_roundg (n - (i + 1))
          case measure => exact HM.out
          case rel => exact ⟨i + 1, acc ++ [92, 92], hlt, rfl, by go_num, congrArg Value.string (bytesOf_add acc [92, 92]), by rw [List.length_append]; simp; omega, hBr, HN.out⟩
        · have e2 : ((x.toNat : Int) == 92) = false := byte_ne (k := 92) h92
          by_cases h10 : x = 10
          · have e3 : ((x.toNat : Int) == 10) = true := by rw [h10]; rfl
            rw [show Lx.qb x = [92, 110] from by rw [h10]; rfl] at HN
            clear h34 h92 h10 HX HGK HA
            go_wp2_with fail
            go_roundg (n - (i + 1))
            case measure => exact HM.out
            case rel => exact ⟨i + 1, acc ++ [92, 110], hlt, rfl, by go_num, congrArg Value.string (bytesOf_add acc [92, 110]), by rw [List.length_append]; simp; omega, hBr, HN.out⟩
          · have e3 : ((x.toNat : Int) == 10) = false := byte_ne (k := 10) h10
            have hq : ¬ (x == 34 || x == 92) = true := by simp [h34, h92]
            have hq10 : ¬ (x == 10) = true := by simp [h10]
            have k1 : (i : Int) ≤ (i : Int) + 1 := by omega
            have k2 : ((i : Int) + 1).toNat = i + 1 := by omega
            have k4 : (i : Int) + 1 ≤ (c : Int) := by omega
            have hrd : Rd wr (some ⟨b, off + i, none⟩) 1 (u8s [x]) := ⟨rfl, fun _ => ⟨b, off + i, rfl, hb, fun j u hu => by
              cases j with
              | zero => simp [u8s] at hu; subst hu; exact hc
              | succ j => simp [u8s] at hu⟩⟩
            by_cases hct : (x < 32 || x > 126) = true
            · rw [show Lx.qb x = [92, 120, Lx.hexC (x.toNat / 16), Lx.hexC (x.toNat % 16)] from by unfold Lx.qb; rw [if_neg hq, if_neg hq10, if_pos hct]] at HN
              have hcase : decide ((32 : Int) ≤ (x.toNat : Int)) = false ∨ (decide ((32 : Int) ≤ (x.toNat : Int)) = true ∧ decide ((x.toNat : Int) ≤ 126) = false) := by
                rcases ctl_yes hct with a1 | ⟨a1, a2⟩
                · left; simp at a1 ⊢; omega
                · right; simp at a1 a2 ⊢; omega
              clear h34 h92 h10 hq hq10 hct HX HGK HA
              have hs2 : (bytesOf [Lx.hexC (x.toNat / 16), Lx.hexC (x.toNat % 16)]).size = 2 := rfl
              rcases hcase with a1 | ⟨a1, a2⟩
              all_goals
                go_wp2_with (go_at_call 48; refine (rHex_one b (off + i) _ x _ hb hc).mono ?_; rintro e w3 ⟨rfl, hB3⟩)
                go_roundg (n - (i + 1))
                case measure => exact HM.out
                case rel => exact ⟨i + 1, acc ++ [92, 120, Lx.hexC (x.toNat / 16), Lx.hexC (x.toNat % 16)], hlt, rfl, by go_num, congrArg Value.string ((congrArg (· ++ bytesOf [Lx.hexC (x.toNat / 16), Lx.hexC (x.toNat % 16)]) (bytesOf_add acc [92, 120])).trans ((bytesOf_add _ _).trans (by rw [List.append_assoc]; rfl))), by rw [List.length_append]; simp; omega, hBr.trans (hB3.mono hBr.size), HN.out⟩
            · rw [show Lx.qb x = [x] from by unfold Lx.qb; rw [if_neg hq, if_neg hq10, if_neg hct]] at HN
              have a12 : decide ((32 : Int) ≤ (x.toNat : Int)) = true ∧ decide ((x.toNat : Int) ≤ 126) = true := by
                obtain ⟨a1, a2⟩ := ctl_no (by simpa using hct)
                simp at a1 a2 ⊢; omega
              obtain ⟨a1, a2⟩ := a12
              clear h34 h92 h10 hq hq10 hct HX HGK HA
              have hs1 : (bytesOf [x]).size = 1 := rfl
              go_wp2_with (refine wpList_str rfl 29 9 (.tmp 62) rfl 5 Try.underlying29 Try.underlying5 Try.underlying9 (some ⟨b, off + i, none⟩) 1 _ (by rfl) [x] hrd ?_)
              go_roundg (n - (i + 1))
              case measure => exact HM.out
              case rel => exact ⟨i + 1, acc ++ [x], hlt, rfl, by go_num, congrArg Value.string (bytesOf_add acc [x]), by rw [List.length_append]; simp; omega, hBr, HN.out⟩
    · have hin : i = n := by omega
      subst hin
      have HE : Hid (acc ++ [34] = Lx.quote l) := by show _ = _; rw [HA.out, List.take_of_length_le (by rw [HL.out]; omega)]; rfl
      have hsz : (bytesOf acc).size ≤ 140737488355328 := by rw [bytesOf_size]; omega
      go_wp2_with fail
      go_ret
      rw [← HE.out]
      exact ⟨congrArg (fun z => Ending.returned (.string z)) (bytesOf_add acc [34]), hBr⟩
end Go.Proofs.Ytkpacpkldjfbhaa
