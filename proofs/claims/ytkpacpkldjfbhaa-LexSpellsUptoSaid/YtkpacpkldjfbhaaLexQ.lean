/- lex.Quote. -/
import Derived.Test.YtkpacpkldjfbhaaLexC
import Derived.Test.YtkpacpkldjfbhaaLexQs
namespace Go.Proofs.Ytkpacpkldjfbhaa
open Go.RowKit

theorem q_yes {x : UInt8} (h : (x == 34 || x == 92) = true) : ((x.toNat : Int) == 34) = true ∨ (((x.toNat : Int) == 34) = false ∧ ((x.toNat : Int) == 92) = true) := by
  have h' : x = 34 ∨ x = 92 := by simpa using h
  rcases h' with rfl | rfl
  · exact .inl rfl
  · exact .inr ⟨rfl, rfl⟩
theorem q_no {x : UInt8} (h : (x == 34 || x == 92) = false) : ((x.toNat : Int) == 34) = false ∧ ((x.toNat : Int) == 92) = false := by
  have h' : x ≠ 34 ∧ x ≠ 92 := by simpa using h
  exact ⟨byte_ne (k := 34) h'.1, byte_ne (k := 92) h'.2⟩

theorem hex_at : ∀ (i : Nat) (h : i < 16), ((({ data := #[48, 49, 50, 51, 52, 53, 54, 55, 56, 57, 97, 98, 99, 100, 101, 102] } : ByteArray)[i]'h).toNat : Int) = ((Lx.hexC i).toNat : Int) := by decide
theorem hex_hi (x : UInt8) (k : ((x.toNat : Int) / 16).toNat < 16) : ((({ data := #[48, 49, 50, 51, 52, 53, 54, 55, 56, 57, 97, 98, 99, 100, 101, 102] } : ByteArray)[((x.toNat : Int) / 16).toNat]'k).toNat : Int) = ((Lx.hexC (x.toNat / 16)).toNat : Int) := by
  have e : ((x.toNat : Int) / 16).toNat = x.toNat / 16 := by omega
  rw [hex_at _ k, e]
theorem hex_lo (x : UInt8) (k : ((x.toNat : Int) % 16).toNat < 16) : ((({ data := #[48, 49, 50, 51, 52, 53, 54, 55, 56, 57, 97, 98, 99, 100, 101, 102] } : ByteArray)[((x.toNat : Int) % 16).toNat]'k).toNat : Int) = ((Lx.hexC (x.toNat % 16)).toNat : Int) := by
  have e : ((x.toNat : Int) % 16).toNat = x.toNat % 16 := by omega
  rw [hex_at _ k, e]
theorem and15 : ∀ (n : Fin 256), bits .and .u8 (n.val : Int) 15 = (n.val : Int) % 16 := by decide +kernel
theorem hex_and (x : UInt8) : bits .and .u8 (x.toNat : Int) 15 = (x.toNat : Int) % 16 := and15 ⟨x.toNat, x.toNat_lt⟩

set_option maxRecDepth 100000 in
set_option maxHeartbeats 4000000 in
theorem quote_any (A : Option Addr) (n c : Nat) (l : List UInt8) (w : World) (h : Rd w A n (u8s l)) (hn : n ≤ 35184372080000) :
    Calls Try.prog 24 #[.slice A n c] w fun e w' => e = .returned (.string (bytesOf (Lx.quote l))) ∧ Below w.heap.size w w' := by
  have hl : l.length = n := h.len
  have HL := Lib.hid hl
  clear hl
  go_enter Try.func24, Try.ntmps24
  go_wp2_with fail
  go_loopg [3, 9] n (fun k o q wr => ∃ (i : Nat) (acc : List UInt8) (A' : Option Addr) (c' : Nat), i ≤ n ∧ k = n - i ∧ q = .int .i64 i ∧ o = .slice A' acc.length c' ∧ acc.length ≤ 4 * i + 1 ∧
    wr.ownsRow w.heap.size 5 1 (.slice A' acc.length c') acc.length (u8s acc) ∧ Below w.heap.size w wr ∧ Hid (acc = 34 :: (l.take i).flatMap Lx.qb))
  case atStart =>
    refine ⟨0, [34], some ⟨w.heap.size, 0, none⟩, 1, by omega, rfl, rfl, rfl, by simp, ?_, (Below.refl _ _).alloc (Nat.le_refl _) _, by show _ = _; simp⟩
    exact own_of_blk (cs := u8s [34]) (Blk.new' rfl rfl) (Nat.le_refl _) 1 1 1 (Nat.le_refl _) rfl (by omega)
  case round =>
    obtain ⟨i, acc, A', c', hi, hgk, rfl, rfl, hacc, hown, hBr, HA⟩ := hrel
    have HGK := Lib.hid hgk
    clear hgk
    by_cases hlt : i < n
    · obtain ⟨b, off, x, rfl, hb, HX, hc⟩ := (h.below hBr).u8 hlt
      have HM : Hid (n - (i + 1) < gk) := by have := HGK.out; show n - (i + 1) < gk; omega
      have HN : Hid (acc ++ Lx.qb x = 34 :: (l.take (i + 1)).flatMap Lx.qb) := by show _ = _; rw [HA.out, Lx.qbs_snoc l i x HX.out]; rfl
      have hql := (Lx.qb_len x).2
      clear hql
      by_cases hq : (x == 34 || x == 92) = true
      · have hqb : Lx.qb x = [92, x] := by unfold Lx.qb; rw [if_pos hq]
        rw [hqb] at HN
        have hcs := q_yes hq
        clear hq hqb HX HGK HA
        rcases hcs with e1 | ⟨e1, e2⟩
        all_goals
          go_wp2_with (at_builtin; refine wpList_app rfl (.tmp 24) (.tmp 26) _ rfl w.heap.size 5 1 1 Try.underlying29 eU8b (.slice A' acc.length c') acc.length (u8s acc) (by rfl) (by exact hown.alloc _) (some ⟨wr.heap.size, 0, none⟩) 2 2 [.int .u8 92, .int .u8 x.toNat] (by rfl) (by exact RdS.of_blk (sz := 1) (n := 2) (Blk.new wr _ [.int .u8 92, .int .u8 x.toNat]) rfl) (by simp [Value.oneCell']) (by omega) (by omega) (Nat.le_trans hBr.size (by simp)) ?_)
          intro A2 c2 w3 hown2 hc2 hg2 hat2
          have hB3 : Below w.heap.size w w3 := (hBr.alloc hBr.size _).grown hg2 (Nat.le_trans hBr.size (by simp)) (fun k hk => (hown.lt k hk).1)
          have hown3 : w3.ownsRow w.heap.size 5 1 (.slice A2 (acc ++ [92, x]).length c2) (acc ++ [92, x]).length (u8s (acc ++ [92, x])) := by
            rw [u8s_append, List.length_append]; exact hown2
          have HO3 := Lib.hid hown3
          clear hg2 hat2 hown2 hown hBr hown3
          go_wp2_with fail
          go_roundg (n - (i + 1))
          case measure => exact HM.out
          case rel => exact ⟨i + 1, acc ++ [92, x], A2, c2, hlt, rfl, by go_num, by rw [List.length_append]; rfl, by rw [List.length_append]; simp; omega, HO3.out, hB3, HN.out⟩
      · have hqn := q_no (by simpa using hq)
        obtain ⟨e1, e2⟩ := hqn
        by_cases hq10 : (x == 10) = true
        · have hqb : Lx.qb x = [92, 110] := by unfold Lx.qb; rw [if_neg hq, if_pos hq10]
          rw [hqb] at HN
          have e3 : ((x.toNat : Int) == 10) = true := by rw [show x = 10 from by simpa using hq10]; rfl
          clear hq hq10 hqb HX HGK HA
          go_wp2_with (at_builtin; refine wpList_app rfl (.tmp 31) (.tmp 32) _ rfl w.heap.size 5 1 1 Try.underlying29 eU8b (.slice A' acc.length c') acc.length (u8s acc) (by rfl) (by exact hown.alloc _) (some ⟨wr.heap.size, 0, none⟩) 2 2 [.int .u8 92, .int .u8 110] (by rfl) (by exact RdS.of_blk (sz := 1) (n := 2) (Blk.new wr _ [.int .u8 92, .int .u8 110]) rfl) (by simp [Value.oneCell']) (by omega) (by omega) (Nat.le_trans hBr.size (by simp)) ?_)
          intro A2 c2 w3 hown2 hc2 hg2 hat2
          have hB3 : Below w.heap.size w w3 := (hBr.alloc hBr.size _).grown hg2 (Nat.le_trans hBr.size (by simp)) (fun k hk => (hown.lt k hk).1)
          have hown3 : w3.ownsRow w.heap.size 5 1 (.slice A2 (acc ++ [92, 110]).length c2) (acc ++ [92, 110]).length (u8s (acc ++ [92, 110])) := by
            rw [u8s_append, List.length_append]; exact hown2
          have HO3 := Lib.hid hown3
          clear hg2 hat2 hown2 hown hBr hown3
          go_wp2_with fail
          go_roundg (n - (i + 1))
          case measure => exact HM.out
          case rel => exact ⟨i + 1, acc ++ [92, 110], A2, c2, hlt, rfl, by go_num, by rw [List.length_append]; rfl, by rw [List.length_append]; simp; omega, HO3.out, hB3, HN.out⟩
        · have e3 : ((x.toNat : Int) == 10) = false := byte_ne (k := 10) (by simpa using hq10)
          by_cases hct : (x < 32 || x > 126) = true
          · have hqb : Lx.qb x = [92, 120, Lx.hexC (x.toNat / 16), Lx.hexC (x.toNat % 16)] := by unfold Lx.qb; rw [if_neg hq, if_neg hq10, if_pos hct]
            rw [hqb] at HN
            have hcase := ctl_yes hct
            clear hq hq10 hct hqb HX HGK HA
            have g0 : (0 : Int) ≤ (x.toNat : Int) / 16 := by omega
            have g1 : (x.toNat : Int) / 16 < 16 := by have := x.toNat_lt; omega
            have g2 := hex_and x
            have g3 : (x.toNat : Int) % 16 < 16 := by omega
            have g6 : (0 : Int) ≤ (x.toNat : Int) % 16 := by omega
            have g4 := hex_hi x
            have g5 := hex_lo x
            rcases hcase with a1 | ⟨a1, a2⟩
            all_goals
              go_wp2_with fail
              go_region_law ((refine step_app rfl (.tmp 41) (.tmp 48) _ rfl w.heap.size 5 1 1 Try.underlying29 eU8b (.slice A' acc.length c') acc.length (u8s acc) (by rfl) (by exact hown.alloc _) (some ⟨wr.heap.size, 0, none⟩) 4 4 [.int .u8 92, .int .u8 120, .int .u8 (Lx.hexC (x.toNat / 16)).toNat, .int .u8 (Lx.hexC (x.toNat % 16)).toNat] (by rfl) (by exact RdS.of_blk (sz := 1) (n := 4) (Blk.new wr _ [.int .u8 92, .int .u8 120, .int .u8 (Lx.hexC (x.toNat / 16)).toNat, .int .u8 (Lx.hexC (x.toNat % 16)).toNat]) rfl) (by simp [Value.oneCell']) (by omega) (by omega) (Nat.le_trans hBr.size (by simp)) ?_; intro A2 c2 w3 hown2 hc2 hg2 hat2))
              all_goals
                have hB3 : Below w.heap.size w w3 := (hBr.alloc hBr.size _).drew.grown hg2 (Nat.le_trans hBr.size (by simp)) (fun k hk => (hown.lt k hk).1)
                have hown3 : w3.ownsRow w.heap.size 5 1 (.slice A2 (acc ++ [92, 120, Lx.hexC (x.toNat / 16), Lx.hexC (x.toNat % 16)]).length c2) (acc ++ [92, 120, Lx.hexC (x.toNat / 16), Lx.hexC (x.toNat % 16)]).length (u8s (acc ++ [92, 120, Lx.hexC (x.toNat / 16), Lx.hexC (x.toNat % 16)])) := by
                  rw [u8s_append, List.length_append]; exact hown2
                have HO3 := Lib.hid hown3
                clear hg2 hat2 hown2 hown hBr hown3
                go_wp2_with fail
                go_roundg (n - (i + 1))
                case measure => exact HM.out
                case rel => exact ⟨i + 1, acc ++ [92, 120, Lx.hexC (x.toNat / 16), Lx.hexC (x.toNat % 16)], A2, c2, hlt, rfl, by go_num, by rw [List.length_append]; rfl, by rw [List.length_append]; simp; omega, HO3.out, hB3, HN.out⟩
          · have hqb : Lx.qb x = [x] := by unfold Lx.qb; rw [if_neg hq, if_neg hq10, if_neg hct]
            rw [hqb] at HN
            obtain ⟨a1, a2⟩ := ctl_no (by simpa using hct)
            clear hq hq10 hct hqb HX HGK HA
            go_wp2_with (at_builtin; refine wpList_app rfl (.tmp 13) (.tmp 15) _ rfl w.heap.size 5 1 1 Try.underlying29 eU8b (.slice A' acc.length c') acc.length (u8s acc) (by rfl) (by exact hown.alloc _) (some ⟨wr.heap.size, 0, none⟩) 1 1 [.int .u8 x.toNat] (by rfl) (by exact RdS.of_blk (sz := 1) (n := 1) (Blk.new wr _ [.int .u8 x.toNat]) rfl) (by simp [Value.oneCell']) (by omega) (by omega) (Nat.le_trans hBr.size (by simp)) ?_)
            intro A2 c2 w3 hown2 hc2 hg2 hat2
            have hB3 : Below w.heap.size w w3 := (hBr.alloc hBr.size _).grown hg2 (Nat.le_trans hBr.size (by simp)) (fun k hk => (hown.lt k hk).1)
            have hown3 : w3.ownsRow w.heap.size 5 1 (.slice A2 (acc ++ [x]).length c2) (acc ++ [x]).length (u8s (acc ++ [x])) := by
              rw [u8s_append, List.length_append]; exact hown2
            have HO3 := Lib.hid hown3
            clear hg2 hat2 hown2 hown hBr hown3
            go_wp2_with fail
            go_roundg (n - (i + 1))
            case measure => exact HM.out
            case rel => exact ⟨i + 1, acc ++ [x], A2, c2, hlt, rfl, by go_num, by rw [List.length_append]; rfl, by rw [List.length_append]; simp; omega, HO3.out, hB3, HN.out⟩
    · have hin : i = n := by omega
      subst hin
      have HE : Hid (acc ++ [34] = Lx.quote l) := by show _ = _; rw [HA.out, List.take_of_length_le (by rw [HL.out]; omega)]; rfl
      go_wp2_with (first
        | (at_builtin; refine wpList_app rfl (.tmp 51) (.tmp 52) _ rfl w.heap.size 5 1 1 Try.underlying29 eU8b (.slice A' acc.length c') acc.length (u8s acc) (by rfl) (by exact hown.alloc _) (some ⟨wr.heap.size, 0, none⟩) 1 1 [.int .u8 34] (by rfl) (by exact RdS.new wr _ [.int .u8 34] 1 rfl) (by simp [Value.oneCell']) (by omega) (by omega) (Nat.le_trans hBr.size (by simp)) ?_
           intro A2 c2 w3 hown2 hc2 hg2 hat2
           have hB3 : Below w.heap.size w w3 := (hBr.alloc hBr.size _).grown hg2 (Nat.le_trans hBr.size (by simp)) (fun k hk => (hown.lt k hk).1)
           have hr3 : Rd w3 A2 (acc.length + 1) (u8s (acc ++ [34])) := by rw [u8s_append]; exact Rd.of_own hown2)
        | (refine wpList_str rfl 29 9 (.tmp 53) rfl 5 Try.underlying29 Try.underlying5 Try.underlying9 A2 (acc.length + 1) c2 (by rfl) (acc ++ [34]) hr3 ?_))
      go_ret
      rw [HE.out]
      exact ⟨rfl, hB3⟩
end Go.Proofs.Ytkpacpkldjfbhaa
