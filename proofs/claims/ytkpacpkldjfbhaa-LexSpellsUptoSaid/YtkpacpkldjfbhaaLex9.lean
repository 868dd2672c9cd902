/- The scanner's token. -/
import Derived.Test.YtkpacpkldjfbhaaLex8
import Derived.Deep.RegionLaw
import Derived.StillTailTactics
namespace Go.Proofs.Ytkpacpkldjfbhaa
open Go.RowKit

theorem letter_s (x : UInt8) (w : World) : Calls Try.prog 53 #[.int .u8 x.toNat] w fun e w' => e = .returned (.bool (Lx.letter x)) ∧ w = w' := (letter_any x w).mono fun _ _ ⟨a, b⟩ => ⟨a, b.symm⟩
theorem digit_s (x : UInt8) (w : World) : Calls Try.prog 55 #[.int .u8 x.toNat] w fun e w' => e = .returned (.bool (Lx.digit x)) ∧ w = w' := (digit_any x w).mono fun _ _ ⟨a, b⟩ => ⟨a, b.symm⟩
theorem ib_s (s : ByteArray) (x : UInt8) (w : World) : Calls Try.prog 52 #[.string s, .int .u8 x.toNat] w fun e w' => e = .returned (.int .i64 (Lib.indexByte s.data.toList x)) ∧ w = w' := (indexByte_any s x w).mono fun _ _ ⟨a, b⟩ => ⟨a, b.symm⟩

def TokPost (B g : Nat) (s : ByteArray) (i : Nat) (ts : List Lx.Tok) (w : World) (R : Sum (List UInt8) (Nat × List UInt8 × Nat × List UInt8)) (e : Ending) (w' : World) : Prop :=
  match R with
  | .inl x => e = .returned (.int .i64 ((s.size - x.length : Nat) : Int)) ∧ Below B w w'
  | .inr (k, t, m, x) => e = .returned (.int .i64 (-1)) ∧ St w' B g s (s.size - x.length) (ts ++ [⟨k, t, m, i⟩]) ∧ Below B w w'

theorem ib_mark (x : UInt8) : decide (0 ≤ Lib.indexByte [59, 44, 123, 125, 40, 41, 61, 62, 64, 33, 43, 45, 42] x) = Lx.mark x := by
  rw [ib_nonneg]; rfl
theorem sz_drop (s : ByteArray) (i : Nat) (h : i ≤ s.size) : s.size - (s.data.toList.drop i).length = i := by simp; omega
theorem tok_letter {l : List UInt8} {i : Nat} {x : UInt8} (hx : l[i]? = some x) (hl : Lx.letter x = true) :
    Lx.token (l.drop i) = if ((l.drop i).takeWhile Lx.alnum).length > 16 then .inl (l.drop i) else .inr (if Lx.reserved ((l.drop i).takeWhile Lx.alnum) then 2 else 1, (l.drop i).takeWhile Lx.alnum, 0, l.drop (i + ((l.drop i).takeWhile Lx.alnum).length)) := by
  rw [← List.drop_drop, drop_cons hx]
  simp only [Lx.token, hl, if_true]
theorem tok_digit {l : List UInt8} {i : Nat} {x : UInt8} (hx : l[i]? = some x) (hl : Lx.letter x = false) (hd : Lx.digit x = true) :
    Lx.token (l.drop i) = if ((l.drop i).takeWhile Lx.digit).length > 9 || (((l.drop i).takeWhile Lx.digit).length > 1 && x == 48) then .inl (l.drop i)
      else if (l.drop (i + ((l.drop i).takeWhile Lx.digit).length)).head?.any Lx.letter then .inl (l.drop (i + ((l.drop i).takeWhile Lx.digit).length))
      else .inr (3, (l.drop i).takeWhile Lx.digit, Lx.numOf ((l.drop i).takeWhile Lx.digit), l.drop (i + ((l.drop i).takeWhile Lx.digit).length)) := by
  rw [← List.drop_drop, drop_cons hx]
  simp only [Lx.token, hl, hd, if_true, Bool.false_eq_true, if_false]
theorem tok_text {l : List UInt8} {i : Nat} {x : UInt8} (hx : l[i]? = some x) (hq : x = 34) :
    Lx.token (l.drop i) = match Lx.text (l.drop (i + 1)).length.succ (l.drop (i + 1)) [] with | .inl y => .inl y | .inr (b, y) => .inr (4, b, 0, y) := by
  subst hq
  rw [drop_cons hx]
  rfl
theorem tok_mark {l : List UInt8} {i : Nat} {x : UInt8} (hx : l[i]? = some x) (hl : Lx.letter x = false) (hd : Lx.digit x = false) (hq : x ≠ 34) (hm : Lx.mark x = true) :
    Lx.token (l.drop i) = .inr (5, [x], 0, l.drop (i + 1)) := by
  have e : (x == 34) = false := by simpa using hq
  rw [drop_cons hx]
  simp only [Lx.token, hl, hd, e, hm, if_true, Bool.false_eq_true, if_false]
theorem tok_none {l : List UInt8} {i : Nat} {x : UInt8} (hx : l[i]? = some x) (hl : Lx.letter x = false) (hd : Lx.digit x = false) (hq : x ≠ 34) (hm : Lx.mark x = false) :
    Lx.token (l.drop i) = .inl (l.drop i) := by
  have e : (x == 34) = false := by simpa using hq
  rw [drop_cons hx]
  simp only [Lx.token, hl, hd, e, hm, Bool.false_eq_true, if_false]
theorem head_drop {l : List UInt8} {i : Nat} : (l.drop i).head? = l[i]? := by
  rw [List.head?_drop]

set_option maxRecDepth 100000 in
set_option maxHeartbeats 4000000 in
theorem token_any (B g : Nat) (s : ByteArray) (i : Nat) (ts : List Lx.Tok) (w : World) (h : St w B g s i ts) (hn : ts.length ≤ 100000) (hi : i < s.size) (hs : s.size ≤ 8000) (R : Sum (List UInt8) (Nat × List UInt8 × Nat × List UInt8))
    (hR : R = Lx.token (s.data.toList.drop i)) :
    Calls Try.prog 41 #[.pointer (some ⟨g, 0, none⟩)] w (TokPost B g s i ts w R) := by
  have HR := Lib.hid hR
  clear hR
  have c0 := h.c0
  have c1 := h.c1
  have hx := str_at s i hi
  have i0 : (0 : Int) ≤ (i : Int) := by omega
  have i1 : (i : Int) < (s.size : Int) := by omega
  generalize hxx : s[i] = x at hx
  have HX := Lib.hid hx
  have HD := Lib.hid (sz_drop s i (by omega))
  clear hx
  by_cases hl : Lx.letter x = true
  · have hT := HR.out.trans (tok_letter HX.out hl)
    by_cases hb : ((s.data.toList.drop i).takeWhile Lx.alnum).length > 16
    · rw [if_pos hb] at hT
      have HT := Lib.hid hT
      clear hT
      go_enter Try.func41, Try.ntmps41
      go_wp2_with fail
      go_quiet (fail)
      have h1 := h.drewN nq
      have hB1 : Below B w (w.drewN nq) := below_drewN (Below.refl _ _) _
      clear c0 c1 h
      generalize w.drewN nq = w1 at *
      go_wp2_with (first
        | (go_at_call 53; refine (letter_s _ _).mono ?_; rintro e w' ⟨rfl, rfl⟩)
        | (go_at_call 55; refine (digit_s _ _).mono ?_; rintro e w' ⟨rfl, rfl⟩)
        | (go_at_call 52; refine (ib_s _ _ _).mono ?_; rintro e w' ⟨rfl, rfl⟩)
        | (go_at_call 54; refine (name_bad B g s i _ _ ts _ h1 (by omega) hs rfl rfl hb).mono ?_; rintro e w2 ⟨rfl, rfl⟩))
      refine bodyPost_ret (results_tmp rfl _ _ _) rfl ?_
      unfold TokPost
      rw [HT.out]
      simp only []
      rw [HD.out]
      exact ⟨rfl, hB1⟩
    · rw [if_neg hb] at hT
      have HT := Lib.hid hT
      have HE := Lib.hid (sz_drop s (i + ((s.data.toList.drop i).takeWhile Lx.alnum).length) (by have := run_le (p := Lx.alnum) (l := s.data.toList) (i := i) (by simp; omega); simpa using this))
      clear hT
      go_enter Try.func41, Try.ntmps41
      go_wp2_with fail
      go_quiet (fail)
      have h1 := h.drewN nq
      have hB1 : Below B w (w.drewN nq) := below_drewN (Below.refl _ _) _
      clear c0 c1 h
      generalize w.drewN nq = w1 at *
      go_wp2_with (first
        | (go_at_call 53; refine (letter_s _ _).mono ?_; rintro e w' ⟨rfl, rfl⟩)
        | (go_at_call 55; refine (digit_s _ _).mono ?_; rintro e w' ⟨rfl, rfl⟩)
        | (go_at_call 52; refine (ib_s _ _ _).mono ?_; rintro e w' ⟨rfl, rfl⟩)
        | (go_at_call 54; refine (name_ok B g s i _ _ ts _ h1 hn (by omega) hs rfl rfl hb).mono ?_; rintro e w2 ⟨rfl, h2, hB2⟩))
      refine bodyPost_ret (results_tmp rfl _ _ _) rfl ?_
      unfold TokPost
      rw [HT.out]
      simp only []
      rw [HE.out]
      exact ⟨rfl, h2, hB1.trans hB2⟩
  · have hl' : Lx.letter x = false := by simpa using hl
    clear hl
    by_cases hd : Lx.digit x = true
    · have hT := HR.out.trans (tok_digit HX.out hl' hd)
      have hEl : i + ((s.data.toList.drop i).takeWhile Lx.digit).length ≤ s.size := by have := run_le (p := Lx.digit) (l := s.data.toList) (i := i) (by simp; omega); simpa using this
      have HE := Lib.hid (sz_drop s (i + ((s.data.toList.drop i).takeWhile Lx.digit).length) hEl)
      by_cases hb : ((s.data.toList.drop i).takeWhile Lx.digit).length > 9 ∨ (((s.data.toList.drop i).takeWhile Lx.digit).length > 1 ∧ x = 48)
      · rw [if_pos (by simpa using hb)] at hT
        have HT := Lib.hid hT
        clear hT hEl
        go_enter Try.func41, Try.ntmps41
        go_wp2_with fail
        go_quiet (fail)
        have h1 := h.drewN nq
        have hB1 : Below B w (w.drewN nq) := below_drewN (Below.refl _ _) _
        clear c0 c1 h
        generalize w.drewN nq = w1 at *
        go_wp2_with (first
          | (go_at_call 53; refine (letter_s _ _).mono ?_; rintro e w' ⟨rfl, rfl⟩)
          | (go_at_call 55; refine (digit_s _ _).mono ?_; rintro e w' ⟨rfl, rfl⟩)
          | (go_at_call 52; refine (ib_s _ _ _).mono ?_; rintro e w' ⟨rfl, rfl⟩)
          | (go_at_call 56; refine (number_bad B g s i _ _ ts _ h1 hi hs rfl rfl x HX.out hd hb).mono ?_; rintro e w2 ⟨rfl, q2, rfl⟩))
        refine bodyPost_ret (results_tmp rfl _ _ _) rfl ?_
        unfold TokPost
        rw [HT.out]
        simp only []
        rw [HD.out]
        exact ⟨rfl, below_drewN hB1 _⟩
      · rw [if_neg (by simpa using hb), head_drop] at hT
        cases hy : s.data.toList[i + ((s.data.toList.drop i).takeWhile Lx.digit).length]? with
        | none =>
          rw [hy] at hT
          have HT : Hid (R = .inr (3, (s.data.toList.drop i).takeWhile Lx.digit, Lx.numOf ((s.data.toList.drop i).takeWhile Lx.digit), s.data.toList.drop (i + ((s.data.toList.drop i).takeWhile Lx.digit).length))) := by show R = _; simpa using hT
          have hyy : ∀ y, s.data.toList[i + ((s.data.toList.drop i).takeWhile Lx.digit).length]? = some y → Lx.letter y = false := fun y hh => by rw [hy] at hh; cases hh
          have HYY := Lib.hid hyy
          clear hT hEl hy hyy
          go_enter Try.func41, Try.ntmps41
          go_wp2_with fail
          go_quiet (fail)
          have h1 := h.drewN nq
          have hB1 : Below B w (w.drewN nq) := below_drewN (Below.refl _ _) _
          clear c0 c1 h
          generalize w.drewN nq = w1 at *
          go_wp2_with (first
            | (go_at_call 53; refine (letter_s _ _).mono ?_; rintro e w' ⟨rfl, rfl⟩)
            | (go_at_call 55; refine (digit_s _ _).mono ?_; rintro e w' ⟨rfl, rfl⟩)
            | (go_at_call 52; refine (ib_s _ _ _).mono ?_; rintro e w' ⟨rfl, rfl⟩)
            | (go_at_call 56; refine (number_ok B g s i _ _ ts _ h1 hn hi hs rfl rfl x HX.out hd hb HYY.out).mono ?_; rintro e w2 ⟨rfl, h2, hB2⟩))
          refine bodyPost_ret (results_tmp rfl _ _ _) rfl ?_
          unfold TokPost
          rw [HT.out]
          simp only []
          rw [HE.out]
          exact ⟨rfl, h2, hB1.trans hB2⟩
        | some y =>
          rw [hy] at hT
          have HY := Lib.hid hy
          by_cases hly : Lx.letter y = true
          · have HT : Hid (R = .inl (s.data.toList.drop (i + ((s.data.toList.drop i).takeWhile Lx.digit).length))) := by show R = _; simpa [hly] using hT
            clear hT hEl hy
            go_enter Try.func41, Try.ntmps41
            go_wp2_with fail
            go_quiet (fail)
            have h1 := h.drewN nq
            have hB1 : Below B w (w.drewN nq) := below_drewN (Below.refl _ _) _
            clear c0 c1 h
            generalize w.drewN nq = w1 at *
            go_wp2_with (first
              | (go_at_call 53; refine (letter_s _ _).mono ?_; rintro e w' ⟨rfl, rfl⟩)
              | (go_at_call 55; refine (digit_s _ _).mono ?_; rintro e w' ⟨rfl, rfl⟩)
              | (go_at_call 52; refine (ib_s _ _ _).mono ?_; rintro e w' ⟨rfl, rfl⟩)
              | (go_at_call 56; refine (number_mid B g s i _ _ ts _ h1 hi hs rfl rfl x HX.out hd hb y HY.out hly).mono ?_; rintro e w2 ⟨rfl, q2, rfl⟩))
            refine bodyPost_ret (results_tmp rfl _ _ _) rfl ?_
            unfold TokPost
            rw [HT.out]
            simp only []
            rw [HE.out]
            exact ⟨rfl, below_drewN hB1 _⟩
          · have hly' : Lx.letter y = false := by simpa using hly
            have HT : Hid (R = .inr (3, (s.data.toList.drop i).takeWhile Lx.digit, Lx.numOf ((s.data.toList.drop i).takeWhile Lx.digit), s.data.toList.drop (i + ((s.data.toList.drop i).takeWhile Lx.digit).length))) := by show R = _; simpa [hly'] using hT
            have hyy : ∀ y, s.data.toList[i + ((s.data.toList.drop i).takeWhile Lx.digit).length]? = some y → Lx.letter y = false := fun y hh => by rw [hy] at hh; injection hh with hh; rw [← hh]; exact hly'
            have HYY := Lib.hid hyy
            clear hT hEl hy hyy hly hly'
            go_enter Try.func41, Try.ntmps41
            go_wp2_with fail
            go_quiet (fail)
            have h1 := h.drewN nq
            have hB1 : Below B w (w.drewN nq) := below_drewN (Below.refl _ _) _
            clear c0 c1 h
            generalize w.drewN nq = w1 at *
            go_wp2_with (first
              | (go_at_call 53; refine (letter_s _ _).mono ?_; rintro e w' ⟨rfl, rfl⟩)
              | (go_at_call 55; refine (digit_s _ _).mono ?_; rintro e w' ⟨rfl, rfl⟩)
              | (go_at_call 52; refine (ib_s _ _ _).mono ?_; rintro e w' ⟨rfl, rfl⟩)
              | (go_at_call 56; refine (number_ok B g s i _ _ ts _ h1 hn hi hs rfl rfl x HX.out hd hb HYY.out).mono ?_; rintro e w2 ⟨rfl, h2, hB2⟩))
            refine bodyPost_ret (results_tmp rfl _ _ _) rfl ?_
            unfold TokPost
            rw [HT.out]
            simp only []
            rw [HE.out]
            exact ⟨rfl, h2, hB1.trans hB2⟩
    · have hd' : Lx.digit x = false := by simpa using hd
      clear hd
      by_cases h34 : x = 34
      · have hT := HR.out.trans (tok_text HX.out h34)
        have e1 : ((x.toNat : Int) == 34) = true := by rw [h34]; rfl
        clear h34
        cases hq : Lx.text (s.data.toList.drop (i + 1)).length.succ (s.data.toList.drop (i + 1)) [] with
        | inl y =>
          rw [hq] at hT
          have HT := Lib.hid hT
          have HQ := Lib.hid hq
          clear hT hq
          go_enter Try.func41, Try.ntmps41
          go_wp2_with fail
          go_quiet (fail)
          have h1 := h.drewN nq
          have hB1 : Below B w (w.drewN nq) := below_drewN (Below.refl _ _) _
          clear c0 c1 h
          generalize w.drewN nq = w1 at *
          go_wp2_with (first
            | (go_at_call 53; refine (letter_s _ _).mono ?_; rintro e w' ⟨rfl, rfl⟩)
            | (go_at_call 55; refine (digit_s _ _).mono ?_; rintro e w' ⟨rfl, rfl⟩)
            | (go_at_call 52; refine (ib_s _ _ _).mono ?_; rintro e w' ⟨rfl, rfl⟩)
            | (go_at_call 57; refine (text_any B g s i ts _ h1 hn hi hs _ HQ.out.symm).mono ?_; rintro e w2 ⟨rfl, hB2⟩))
          refine bodyPost_ret (results_tmp rfl _ _ _) rfl ?_
          unfold TokPost
          rw [HT.out]
          simp only []
          exact ⟨rfl, hB1.trans hB2⟩
        | inr p =>
          obtain ⟨b, y⟩ := p
          rw [hq] at hT
          have HT := Lib.hid hT
          have HQ := Lib.hid hq
          clear hT hq
          go_enter Try.func41, Try.ntmps41
          go_wp2_with fail
          go_quiet (fail)
          have h1 := h.drewN nq
          have hB1 : Below B w (w.drewN nq) := below_drewN (Below.refl _ _) _
          clear c0 c1 h
          generalize w.drewN nq = w1 at *
          go_wp2_with (first
            | (go_at_call 53; refine (letter_s _ _).mono ?_; rintro e w' ⟨rfl, rfl⟩)
            | (go_at_call 55; refine (digit_s _ _).mono ?_; rintro e w' ⟨rfl, rfl⟩)
            | (go_at_call 52; refine (ib_s _ _ _).mono ?_; rintro e w' ⟨rfl, rfl⟩)
            | (go_at_call 57; refine (text_any B g s i ts _ h1 hn hi hs _ HQ.out.symm).mono ?_; rintro e w2 ⟨rfl, h2, hB2⟩))
          refine bodyPost_ret (results_tmp rfl _ _ _) rfl ?_
          unfold TokPost
          rw [HT.out]
          simp only []
          exact ⟨rfl, h2, hB1.trans hB2⟩
      · have e1 : ((x.toNat : Int) == 34) = false := byte_ne (k := 34) h34
        have hib := ib_mark x
        by_cases hm : Lx.mark x = true
        · have HT := Lib.hid (HR.out.trans (tok_mark HX.out hl' hd' h34 hm))
          have HE := Lib.hid (sz_drop s (i + 1) (by omega))
          rw [hm] at hib
          have hib' : decide (0 ≤ Lib.indexByte [59, 44, 123, 125, 40, 41, 61, 62, 64, 33, 43, 45, 42] x) = true := hib
          have hext : s.extract i (i + 1) = bytesOf [x] := by
            rw [extract_eq, drop_cons HX.out, Nat.add_sub_cancel_left]
            rfl
          clear hib hm h34
          go_enter Try.func41, Try.ntmps41
          go_wp2_with fail
          go_quiet (fail)
          have h1 := h.drewN nq
          have hB1 : Below B w (w.drewN nq) := below_drewN (Below.refl _ _) _
          clear c0 c1 h
          generalize w.drewN nq = w1 at *
          go_wp2_with (first
            | (go_at_call 53; refine (letter_s _ _).mono ?_; rintro e w' ⟨rfl, rfl⟩)
            | (go_at_call 55; refine (digit_s _ _).mono ?_; rintro e w' ⟨rfl, rfl⟩)
            | (go_at_call 52; refine (ib_s _ _ _).mono ?_; rintro e w' ⟨rfl, rfl⟩))
          have c0 := h1.c0
          have c1 := h1.c1
          have i2 : (i : Int) + 1 ≤ (s.size : Int) := by omega
          have h1d : St w1.drew B g s i ts := h1.drewN 1
          have hB1d : Below B w w1.drew := hB1.drew
          have k0 : (0 : Int) ≤ (i : Int) + 1 := by omega
          have k1 : (i : Int) ≤ (i : Int) + 1 := by omega
          have k2 : ((i : Int) + 1).toNat = i + 1 := by omega
          have k3 : IntKind.i64.wrap ((i : Int) + 1) = (i : Int) + 1 := IntWalk.i64_in _ (by omega)
          go_still_tail 20, (by kernel_rfl)
          go_wp2_with (go_at_call 42; refine (add_int B g s i (i + 1) ts 5 [x] 0 _ (by go_num) h1d hn).mono ?_; rintro e w2 ⟨rfl, h2, hB2⟩)
          clear k0 k1 k2 k3
          refine bodyPost_ret (results_tmp rfl _ _ _) rfl ?_
          unfold TokPost
          rw [HT.out]
          simp only []
          rw [HE.out]
          exact ⟨rfl, h2, hB1d.trans hB2⟩
        · have hm' : Lx.mark x = false := by simpa using hm
          have HT := Lib.hid (HR.out.trans (tok_none HX.out hl' hd' h34 hm'))
          rw [hm'] at hib
          have hib' : decide (0 ≤ Lib.indexByte [59, 44, 123, 125, 40, 41, 61, 62, 64, 33, 43, 45, 42] x) = false := hib
          clear hib hm hm' h34
          go_enter Try.func41, Try.ntmps41
          go_wp2_with fail
          go_quiet (fail)
          have h1 := h.drewN nq
          have hB1 : Below B w (w.drewN nq) := below_drewN (Below.refl _ _) _
          clear c0 c1 h
          generalize w.drewN nq = w1 at *
          have c0 := h1.c0
          have c1 := h1.c1
          go_wp2_with (first
            | (go_at_call 53; refine (letter_s _ _).mono ?_; rintro e w' ⟨rfl, rfl⟩)
            | (go_at_call 55; refine (digit_s _ _).mono ?_; rintro e w' ⟨rfl, rfl⟩)
            | (go_at_call 52; refine (ib_s _ _ _).mono ?_; rintro e w' ⟨rfl, rfl⟩))
          refine bodyPost_ret (results_tmp rfl _ _ _) rfl ?_
          unfold TokPost
          rw [HT.out]
          simp only []
          rw [HD.out]
          exact ⟨rfl, hB1⟩

end Go.Proofs.Ytkpacpkldjfbhaa
