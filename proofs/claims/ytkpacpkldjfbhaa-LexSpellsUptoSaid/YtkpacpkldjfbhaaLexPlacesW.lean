/- LexPlaces, the walk. -/
import Derived.Test.YtkpacpkldjfbhaaLexC
import Derived.Test.YtkpacpkldjfbhaaLexP
namespace Go.Proofs.Ytkpacpkldjfbhaa.lexPlaces
open Go.RowKit

set_option maxHeartbeats 4000000 in
theorem walk_big (s : ByteArray) (w : World) (h : Lx.scan s.data.toList = ((2, 0), [])) (hs : 8000 < s.size) :
    Calls Try.prog 6 #[.string s] w fun e w' => e = .returned (.bool true) ∧ Below w.heap.size w w' := by
  have HSC := Lib.hid (fun w => scan_is s w h (n := 0) rfl)
  clear h
  have e1 : decide ((8000 : Int) < (s.size : Int)) = true := by simp; omega
  clear hs
  go_enter Try.func6, Try.ntmps6
  go_wp2_with (first
    | (go_at_call 20; refine (awake21 _).mono ?_; rintro e w1 ⟨rfl, hB1⟩)
    | (go_at_call 21; refine (HSC.out _).mono ?_; rintro e w2 ⟨A, c, rfl, hc, hown, hB2⟩))
  go_ret
  exact ⟨by simp, (hB1.trans (hB2.mono hB1.size)).alloc (Nat.le_trans hB1.size hB2.size) _⟩

set_option maxHeartbeats 4000000 in
theorem walk_bad (s : ByteArray) (q : Nat) (w : World) (h : Lx.scan s.data.toList = ((9, q), [])) (hq : q ≤ s.size) (hs : s.size ≤ 8000) :
    Calls Try.prog 6 #[.string s] w fun e w' => e = .returned (.bool true) ∧ Below w.heap.size w w' := by
  have HSC := Lib.hid (fun w => scan_is s w h (n := 0) rfl)
  clear h
  have e1 : decide ((s.size : Int) ≤ 8000) = true := by simp; omega
  have e2 : decide ((q : Int) ≤ (s.size : Int)) = true := by simp; omega
  have e3 : decide ((0 : Int) ≤ (q : Int)) = true := by simp
  go_enter Try.func6, Try.ntmps6
  go_wp2_with (first
    | (go_at_call 20; refine (awake21 _).mono ?_; rintro e w1 ⟨rfl, hB1⟩)
    | (go_at_call 21; refine (HSC.out _).mono ?_; rintro e w2 ⟨A, c, rfl, hc, hown, hB2⟩))
  go_ret
  exact ⟨by simp <;> omega, (hB1.trans (hB2.mono hB1.size)).alloc (Nat.le_trans hB1.size hB2.size) _⟩

set_option maxRecDepth 100000 in
set_option maxHeartbeats 8000000 in
theorem walk_ok (s : ByteArray) (us : List Lx.Tok) (w : World) (h : Lx.scan s.data.toList = ((0, 0), us ++ [⟨6, [], 0, s.size⟩])) (hri : Lx.Rising us) (hst : ∀ t ∈ us, Lx.Stands s.data.toList t) (hm : us.length ≤ 8000) (hs : s.size ≤ 8000) :
    Calls Try.prog 6 #[.string s] w fun e w' => e = .returned (.bool true) ∧ Below w.heap.size w w' := by
  obtain ⟨m, hml⟩ : ∃ m, us.length = m := ⟨_, rfl⟩
  obtain ⟨n, hnm⟩ : ∃ n, n = m + 1 := ⟨_, rfl⟩
  have HSC := Lib.hid (fun w => scan_is s w h (n := n) (by rw [hnm, ← hml]; simp))
  have HRI := Lib.hid hri
  have HST := Lib.hid hst
  have hend : (us ++ [(⟨6, [], 0, s.size⟩ : Lx.Tok)])[m]? = some ⟨6, [], 0, s.size⟩ := by rw [← hml]; simp
  have HMID : Hid (∀ (i : Nat) (t : Lx.Tok), us[i]? = some t → (us ++ [(⟨6, [], 0, s.size⟩ : Lx.Tok)])[i]? = some t) := fun i t ht => by
    rw [List.getElem?_append_left (List.getElem?_eq_some_iff.1 ht).1]; exact ht
  clear h hri hst
  have hnn : (n : Int) - 1 = (m : Int) := by omega
  have HEND := Lib.hid (toks_get hend)
  clear hend
  have hemp : (bytesOf [] : ByteArray) = { data := #[] } := rfl
  have HEMP := Lib.hid hemp
  generalize hL : us ++ [(⟨6, [], 0, s.size⟩ : Lx.Tok)] = L at *
  clear hL hemp
  have e9 : ((n : Int) == 0) = false := by simp; omega
  go_enter Try.func6, Try.ntmps6
  go_wp2_with (first
    | (go_at_call 20; refine (awake21 _).mono ?_; rintro e w1 ⟨rfl, hB1⟩)
    | (go_at_call 21; refine (HSC.out _).mono ?_; rintro e w2 ⟨A, c, rfl, hc, hown, hB2⟩
       obtain ⟨b, off, rfl, hb, hcells⟩ := (RdS.of_own hown).2 (by omega)
       have HCELLS := Lib.hid hcells
       clear hcells
       obtain ⟨x0, x1, x2, x3⟩ := HEND.out
       have d0 := HCELLS.out _ _ x0
       have d1 := HCELLS.out _ _ x1
       have d2 := HCELLS.out _ _ x2
       have d3 := HCELLS.out _ _ x3
       rw [Nat.add_zero] at d0
       rw [← Nat.add_assoc] at d1 d2 d3
       rw [show bytesOf ([] : List UInt8) = { data := #[] } from rfl] at d1
       clear x0 x1 x2 x3 HEND))
  have hB : Below w.heap.size w (w2.alloc (.cells #[.int .i64 0, .int .i64 0] 48)) := (hB1.trans (hB2.mono hB1.size)).alloc (Nat.le_trans hB1.size hB2.size) _
  have HB := Lib.hid hB
  clear hB d0 d1 d2 d3 hown hB1 e9 hc hnn hnm
  go_loopg [5, 84] m (fun k v q wr => ∃ i : Nat, i ≤ m ∧ k = m - i ∧ q = .int .i64 i ∧ ∃ z : Int, v = .int .i64 z ∧ Hid (∀ t, us[i]? = some t → z < (t.at_ : Int)) ∧ Below w.heap.size w wr ∧ Below w2.heap.size w2 wr)
  case atStart => exact ⟨0, by omega, rfl, rfl, -1, rfl, fun t _ => by omega, HB.out, (Below.refl _ _).alloc (Nat.le_refl _) _⟩
  case round =>
    obtain ⟨i, hi, hgk, rfl, z, rfl, HZ, hBr, hB2r⟩ := hrel
    have HGK := Lib.hid hgk
    clear hgk
    by_cases hlt : i < m
    · obtain ⟨t, ht⟩ : ∃ t, us[i]? = some t := ⟨us[i], List.getElem?_eq_getElem (by omega)⟩
      have hz := HZ.out t ht
      obtain ⟨k1, k2, k3, k4, k5⟩ := HST.out t (List.mem_of_getElem? ht)
      rw [show s.data.toList.length = s.size from by simp] at k3 k5
      obtain ⟨x0, x1, x2, x3⟩ := toks_get (HMID.out i t ht)
      have d0 := (hB2r.cell (p := ⟨_, _, none⟩) hb).trans (HCELLS.out _ _ x0)
      have d1 := (hB2r.cell (p := ⟨_, _, none⟩) hb).trans (HCELLS.out _ _ x1)
      have d2 := (hB2r.cell (p := ⟨_, _, none⟩) hb).trans (HCELLS.out _ _ x2)
      have d3 := (hB2r.cell (p := ⟨_, _, none⟩) hb).trans (HCELLS.out _ _ x3)
      rw [Nat.add_zero] at d0
      rw [← Nat.add_assoc] at d1 d2 d3
      have HN : Hid (∀ t', us[i + 1]? = some t' → ((t.at_ : Nat) : Int) < (t'.at_ : Int)) := fun t' h' => by have := HRI.out i t t' ht h'; omega
      have hTs : (bytesOf t.text).size = t.text.length := bytesOf_size _
      have hext : t.kind ≠ 4 → s.extract t.at_ (t.at_ + (bytesOf t.text).size) = bytesOf t.text := fun hk => by
        rw [extract_eq, hTs, Nat.add_sub_cancel_left, (k5 hk).2]
      have hle : t.kind ≠ 4 → t.at_ + (bytesOf t.text).size ≤ s.size := fun hk => by rw [hTs]; have := (k5 hk).1; omega
      have hq : t.kind = 4 → ∃ h : t.at_ < s.size, s[t.at_] = 34 := fun hk => by
        refine ⟨k3, ?_⟩
        have := k4 hk
        rw [str_at s _ k3] at this
        injection this
      clear hTs k4 k5 x0 x1 x2 x3 ht HZ
      generalize bytesOf t.text = T at *
      generalize t.kind = tk at *
      generalize t.num = tn at *
      generalize t.at_ = ta at *
      have i1 : (i : Int) < (m : Int) := by omega
      have i0 : (0 : Int) ≤ (i : Int) := by omega
      have a1 : decide ((ta : Int) ≤ z) = false := by simp; omega
      have a2 : decide ((s.size : Int) ≤ (ta : Int)) = false := by simp; omega
      have a3 : decide ((tk : Int) < 1) = false := by simp; omega
      have a4 : decide ((5 : Int) < (tk : Int)) = false := by simp; omega
      by_cases hk : tk = 4
      · subst hk
        obtain ⟨hlt2, hx⟩ := hq rfl
        clear hq hext hle
        have hx' : ((s[ta].toNat : Int) == 34) = true := by rw [hx]; rfl
        go_wp2_with fail
        go_roundg (m - (i + 1))
        case measure => have := HGK.out; omega
        case rel =>
          exact ⟨i + 1, by omega, rfl, by go_num, ta, rfl, HN.out, hBr.alloc hBr.size _, hB2r.alloc hB2r.size _⟩
      · have hext := hext hk
        have hle := hle hk
        have a5 : ((tk : Int) == 4) = false := by simp; omega
        clear hq
        go_wp2_with fail
        have HM' : Hid (m - (i + 1) < gk) := by have := HGK.out; show m - (i + 1) < gk; omega
        have HI' : Hid (i + 1 ≤ m) := hlt
        have b1 : decide ((s.size : Int) - (ta : Int) < (T.size : Int)) = false := by simp; omega
        have b2 : (0 : Int) ≤ (ta : Int) + (T.size : Int) := by omega
        have b3 : ((ta : Int) + (T.size : Int)).toNat = ta + T.size := by omega
        have b4 : (ta : Int) ≤ (ta : Int) + (T.size : Int) := by omega
        have b5 : (ta : Int) + (T.size : Int) ≤ (s.size : Int) := by omega
        have b6 : IntKind.i64.wrap ((s.size : Int) - (ta : Int)) = (s.size : Int) - (ta : Int) := IntWalk.i64_in _ (by omega)
        have b7 : IntKind.i64.wrap ((ta : Int) + (T.size : Int)) = (ta : Int) + (T.size : Int) := IntWalk.i64_in _ (by omega)
        go_quiet (fail)
        clear b1 b2 b3 b4 b5 b6 b7
        go_wp2_with fail
        go_roundg (m - (i + 1))
        case measure => exact HM'.out
        case rel =>
          exact ⟨i + 1, HI'.out, rfl, by go_num, ta, rfl, HN.out, below_drewN (hBr.alloc hBr.size _) _, below_drewN (hB2r.alloc hB2r.size _) _⟩
    · go_wp2_with fail
      go_ret
      exact ⟨rfl, hBr⟩

theorem few {s : List UInt8} {us : List Lx.Tok} (h1 : Lx.Rising us) (h2 : ∀ t ∈ us, Lx.Stands s t) : us.length ≤ s.length := by
  have : ∀ (i : Nat) (t : Lx.Tok), us[i]? = some t → i ≤ t.at_ := by
    intro i
    induction i with
    | zero => intro t _; omega
    | succ i ih =>
      intro t ht
      have hi : i < us.length := by have := (List.getElem?_eq_some_iff.1 ht).1; omega
      have hg : us[i]? = some us[i] := List.getElem?_eq_getElem hi
      have := ih _ hg
      have := h1 i _ t hg ht
      omega
  rcases Nat.eq_zero_or_pos us.length with h | h
  · omega
  · have hi : us.length - 1 < us.length := by omega
    have hg : us[us.length - 1]? = some us[us.length - 1] := List.getElem?_eq_getElem hi
    have := this _ _ hg
    have := (h2 _ (List.mem_of_getElem? hg)).2.2.1
    omega

theorem walk (s : ByteArray) (w : World) : Calls Try.prog 6 #[.string s] w fun e w' => e = .returned (.bool true) ∧ Below w.heap.size w w' := by
  have hl : s.data.toList.length = s.size := by simp
  rcases Lx.scan_cases s.data.toList with ⟨p, q, h, ⟨rfl, rfl, hs⟩ | ⟨rfl, hq, hs⟩⟩ | ⟨us, h, h1, h2, hs⟩
  · exact walk_big s w h (by omega)
  · exact walk_bad s q w h (by omega) (by omega)
  · have := few h1 h2
    rw [hl] at h this
    exact walk_ok s us w h h1 h2 (by omega) (by omega)
end Go.Proofs.Ytkpacpkldjfbhaa.lexPlaces
