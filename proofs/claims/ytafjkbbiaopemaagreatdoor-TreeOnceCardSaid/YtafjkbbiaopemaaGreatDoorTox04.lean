/- Part of the proof: Lex2, Lex3. -/
import Derived.Deep.LoopGhost
import Derived.Test.YtafjkbbiaopemaaGreatDoorTox03
set_option linter.unusedVariables false
namespace Go.Proofs.YtafjkbbiaopemaaGreatDoor
open Go.RowKit
set_option maxHeartbeats 2000000 in
theorem run_any (g : Nat) (s : ByteArray) (i : Nat) (letters : Bool) (w : World) (hc : w.cell? ⟨g, 0, none⟩ = some (.string s)) (hi : i ≤ s.size) (hs : s.size ≤ 8000) :
    Calls Tryz.prog 126 #[.pointer (some ⟨g, 0, none⟩), .int .i64 i, .bool letters] w fun e w' => e = .returned (.int .i64 ((i + ((s.data.toList.drop i).takeWhile (runP letters)).length : Nat) : Int)) ∧ w' = w := by
  go_enter Tryz.func126, Tryz.ntmps126
  go_wp2_with fail
  go_loop [1] (fun v => ∃ k : Nat, k ≤ s.size ∧ v = .int .i64 k ∧ Hid (k + ((s.data.toList.drop k).takeWhile (runP letters)).length = i + ((s.data.toList.drop i).takeWhile (runP letters)).length)) (fun v => s.size - (intOf v).toNat)
  case atStart => exact ⟨i, hi, rfl, rfl⟩
  case round =>
    obtain ⟨k, hk, rfl, HK⟩ := hrel
    by_cases hlt : k < s.size
    · have hx := str_at s k hlt
      have i0 : (0 : Int) ≤ (k : Int) := by omega
      have i1 : (k : Int) < (s.size : Int) := by omega
      generalize hxx : s[k] = x at hx
      by_cases hp : runP letters x = true
      · have HST := Lib.hid (run_step hx hp)
        have hcase : Lx.digit x = true ∨ (Lx.digit x = false ∧ letters = true ∧ Lx.letter x = true) := by
          cases letters <;> simp [runP, Lx.alnum] at hp <;> cases hd : Lx.digit x <;> simp_all
        clear hx hp
        rcases hcase with hd | ⟨hd, rfl, hl⟩
        all_goals
          go_wp2_with (first
            | (go_at_call 107; refine (digit_any _ _).mono ?_; rintro e w' ⟨rfl, rfl⟩)
            | (go_at_call 105; refine (letter_any _ _).mono ?_; rintro e w' ⟨rfl, rfl⟩))
          go_round
          case rel => exact ⟨k + 1, by omega, by go_num, by show _ = _; rw [← HK.out, HST.out]; omega⟩
          case measure => simp [intOf]; omega
      · have hp' : runP letters x = false := by simpa using hp
        have HST := Lib.hid (run_stop hx hp')
        have hcase : Lx.digit x = false ∧ (letters = false ∨ (letters = true ∧ Lx.letter x = false)) := by
          cases letters <;> simp [runP, Lx.alnum] at hp' <;> simp_all
        clear hx hp hp'
        obtain ⟨hd, rfl | ⟨rfl, hl⟩⟩ := hcase
        all_goals
          go_wp2_with (first
            | (go_at_call 107; refine (digit_any _ _).mono ?_; rintro e w' ⟨rfl, rfl⟩)
            | (go_at_call 105; refine (letter_any _ _).mono ?_; rintro e w' ⟨rfl, rfl⟩))
          go_ret
          refine ⟨ret_int ?_, rfl⟩
          rw [← HK.out, HST.out]
          simp
    · have HST := Lib.hid (run_end (p := runP letters) (l := s.data.toList) (i := k) (by simp; omega))
      have hge : decide ((k : Int) < (s.size : Int)) = false := by simp; omega
      go_wp2_with fail
      go_ret
      refine ⟨ret_int ?_, rfl⟩
      have h1 := HK.out
      have h2 := HST.out
      omega
end Go.Proofs.YtafjkbbiaopemaaGreatDoor
namespace Go.Proofs.YtafjkbbiaopemaaGreatDoor
open Go.RowKit
theorem Only.refl (w : World) (g : Nat) : Only w w g := ⟨World.grownBy.refl w _, rfl⟩
theorem Only.trans {a b c : World} {g : Nat} (h : Only a b g) (k : Only b c g) : Only a c g :=
  ⟨⟨k.grown.os.trans h.grown.os, k.grown.tape.trans h.grown.tape, k.grown.output.trans h.grown.output, Nat.le_trans h.grown.size k.grown.size, fun i hi hne => (k.grown.block i (Nat.lt_of_lt_of_le hi h.grown.size) hne).trans (h.grown.block i hi hne)⟩, k.size.trans h.size⟩
theorem Only.drewN {a b : World} {g : Nat} (h : Only a b g) (n : Nat) : Only a (b.drewN n) g := ⟨⟨h.grown.os, h.grown.tape, h.grown.output, h.grown.size, h.grown.block⟩, h.size⟩
theorem Only.setCell {a b : World} {g : Nat} (h : Only a b g) (i : Nat) (u : Value) : Only a (b.setCell ⟨g, i, none⟩ u) g :=
  h.trans ⟨⟨rfl, rfl, rfl, by simp [World.setCell], fun k _ hne => Below.heap_setCell b ⟨g, i, none⟩ u k (fun e => hne (by rw [e]))⟩, by simp [World.setCell]⟩
def scn (s : ByteArray) (i : Nat) (lv : Value) : List Value := [.string s, .int .i64 i, lv]
theorem scn0 {w : World} {g : Nat} {s : ByteArray} {i : Nat} {lv : Value} (h : Blk w g 125 (scn s i lv)) : w.cell? ⟨g, 0, none⟩ = some (.string s) := by rw [h.cell]; rfl
theorem scn1 {w : World} {g : Nat} {s : ByteArray} {i : Nat} {lv : Value} (h : Blk w g 125 (scn s i lv)) : w.cell? ⟨g, 1, none⟩ = some (.int .i64 i) := by rw [h.cell]; rfl
theorem scn2 {w : World} {g : Nat} {s : ByteArray} {i : Nat} {lv : Value} (h : Blk w g 125 (scn s i lv)) : w.cell? ⟨g, 2, none⟩ = some lv := by rw [h.cell]; rfl
theorem scn_set1 {w : World} {g : Nat} {s : ByteArray} {i j : Nat} {lv : Value} (h : Blk w g 125 (scn s i lv)) : Blk (w.setCell ⟨g, 1, none⟩ (.int .i64 j)) g 125 (scn s j lv) := h.set_ 1 _
theorem scn_set2 {w : World} {g : Nat} {s : ByteArray} {i : Nat} {lv lv' : Value} (h : Blk w g 125 (scn s i lv)) : Blk (w.setCell ⟨g, 2, none⟩ lv') g 125 (scn s i lv') := h.set_ 2 _
theorem drop_cons {l : List UInt8} {i : Nat} {x : UInt8} (hx : l[i]? = some x) : l.drop i = x :: l.drop (i + 1) := by
  have hi : i < l.length := (List.getElem?_eq_some_iff.1 hx).1
  rw [List.drop_eq_getElem_cons hi, (List.getElem?_eq_some_iff.1 hx).2]
theorem skip_blank {l : List UInt8} {i : Nat} {x : UInt8} (hx : l[i]? = some x) (hb : Lx.blank x = true) : Lx.skip false (l.drop i) = Lx.skip false (l.drop (i + 1)) := by
  rw [drop_cons hx]; simp [Lx.skip, hb]
theorem skip_com {l : List UInt8} {i : Nat} {x : UInt8} (hx : l[i]? = some x) (hb : x = 35) : Lx.skip false (l.drop i) = Lx.skip true (l.drop i) := by
  subst hb; rw [drop_cons hx]; simp [Lx.skip, Lx.blank]
theorem skip_in {l : List UInt8} {i : Nat} {x : UInt8} (hx : l[i]? = some x) (hb : x ≠ 10) : Lx.skip true (l.drop i) = Lx.skip true (l.drop (i + 1)) := by
  rw [drop_cons hx]; simp [Lx.skip, hb]
theorem skip_out {l : List UInt8} {i : Nat} {x : UInt8} (hx : l[i]? = some x) (hb : x = 10) : Lx.skip true (l.drop i) = Lx.skip false (l.drop i) := by
  subst hb; rw [drop_cons hx]; simp [Lx.skip, Lx.blank]
theorem skip_end {l : List UInt8} {i : Nat} (h : l.length ≤ i) (c : Bool) : Lx.skip c (l.drop i) = [] := by
  rw [List.drop_eq_nil_of_le h]; simp [Lx.skip]
theorem skip_stop {l : List UInt8} {i : Nat} {x : UInt8} (hx : l[i]? = some x) (hb : Lx.blank x = false) (hc : x ≠ 35) : Lx.skip false (l.drop i) = l.drop i := by
  rw [drop_cons hx]; simp [Lx.skip, hb, hc]
theorem byte_ne {x k : UInt8} (h : x ≠ k) : ((x.toNat : Int) == (k.toNat : Int)) = false := by
  simp only [beq_eq_false_iff_ne, ne_eq]
  intro e
  exact h (UInt8.toNat_inj.1 (by omega))
theorem byte_nb {x k : UInt8} (h : x ≠ k) : ((x.toNat : Int) != (k.toNat : Int)) = true := by rw [bne, byte_ne h]; rfl
theorem ib_nonneg (l : List UInt8) (x : UInt8) : decide (0 ≤ Lib.indexByte l x) = l.contains x := by
  rw [Bool.eq_iff_iff]
  simp only [decide_eq_true_eq, List.contains_iff_mem]
  induction l with
  | nil => simp [Lib.indexByte]
  | cons c l ih =>
    have hge := Lib.indexByte_ge l x
    simp only [Lib.indexByte, List.mem_cons]
    by_cases hc : c = x
    · subst hc; simp
    · have hc' : (c == x) = false := by simpa using hc
      have hx : ¬ x = c := fun e => hc e.symm
      rw [hc']
      by_cases hm : Lib.indexByte l x = -1
      · have : ¬ x ∈ l := fun h => by have := ih.2 h; omega
        simp [hm, hx, this]
      · have : x ∈ l := ih.1 (by omega)
        have hm' : (Lib.indexByte l x == -1) = false := by simpa using hm
        simp only [hm', Bool.false_eq_true, if_false, this, or_true, iff_true]
        omega
theorem ib_blank (x : UInt8) : decide (0 ≤ Lib.indexByte [32, 9, 10] x) = Lx.blank x := by
  rw [ib_nonneg]
  unfold Lx.blank
  simp only [List.contains_cons, List.contains_nil, Bool.or_false, Bool.or_assoc]
set_option maxHeartbeats 2000000 in
theorem skip_any (g : Nat) (s : ByteArray) (i : Nat) (lv : Value) (w : World) (hb : Blk w g 125 (scn s i lv)) (hi : i ≤ s.size) (hs : s.size ≤ 8000) :
    Calls Tryz.prog 78 #[.pointer (some ⟨g, 0, none⟩)] w fun e w' => e = .returned (.tuple #[]) ∧ ∃ j : Nat, i ≤ j ∧ j ≤ s.size ∧ Blk w' g 125 (scn s j lv) ∧ Only w w' g ∧ s.data.toList.drop j = Lx.skip false (s.data.toList.drop i) := by
  go_enter Tryz.func78, Tryz.ntmps78
  go_wp2_with fail
  go_loopg [12] (s.size - i) (fun k _ wr => ∃ j : Nat, i ≤ j ∧ j ≤ s.size ∧ k = s.size - j ∧ Blk wr g 125 (scn s j lv) ∧ Only w wr g ∧ Hid (Lx.skip false (s.data.toList.drop j) = Lx.skip false (s.data.toList.drop i)))
  case atStart => exact ⟨i, Nat.le_refl _, hi, rfl, hb, Only.refl _ _, rfl⟩
  case round =>
    obtain ⟨j, hij, hj, hgk, hbr, hor, HK⟩ := hrel
    have HGK := Lib.hid hgk
    clear hgk
    have c0 := scn0 hbr
    have c1 := scn1 hbr
    by_cases hlt : j < s.size
    · have i0 : (0 : Int) ≤ (j : Int) := by omega
      have i1 : (j : Int) < (s.size : Int) := by omega
      have hx := str_at s j hlt
      generalize hxx : s[j] = x at hx
      have HX := Lib.hid hx
      clear hx
      go_wp2_with fail
      go_quiet (fail)
      have hb1 := hbr.drewN nq
      have ho1 := hor.drewN nq
      have c0' := scn0 hb1
      have c1' := scn1 hb1
      clear hbr hor c0 c1
      generalize wr.drewN nq = w1 at *
      by_cases hbl : Lx.blank x = true
      · have hib := ib_blank x
        rw [hbl] at hib
        have hsk := skip_blank HX.out hbl
        have HSK := Lib.hid hsk
        clear hsk hbl
        have hib' : decide (0 ≤ Lib.indexByte [32, 9, 10] x) = true := hib
        clear hib
        go_wp2_with fail
        go_quiet ((go_at_call 104; exact Calls.quiet_of_same (indexByte_any _ _ _)))
        have hb2 := hb1.drewN nq
        have ho2 := ho1.drewN nq
        have c0 := scn0 hb2
        have c1 := scn1 hb2
        have f1 := hb2.frozen 1
        clear hb1 ho1 c0' c1'
        generalize w1.drewN nq = w2 at *
        go_wp2_with fail
        go_roundg (s.size - (j + 1))
        case measure => have := HGK.out; omega
        case rel => exact ⟨j + 1, by omega, by omega, rfl, scn_set1 hb2, ho2.setCell _ _, HSK.out.symm.trans HK.out⟩
      · have hbl' : Lx.blank x = false := by simpa using hbl
        have hib := ib_blank x
        rw [hbl'] at hib
        have hib' : decide (0 ≤ Lib.indexByte [32, 9, 10] x) = false := hib
        have HBL := Lib.hid hbl'
        clear hib hbl hbl'
        by_cases h35 : x = 35
        · have H35 := Lib.hid h35
          have hq : ((x.toNat : Int) == 35) = true := by rw [h35]; rfl
          have HSK := Lib.hid (skip_com HX.out h35)
          clear h35
          go_wp2_with fail
          go_quiet ((go_at_call 104; exact Calls.quiet_of_same (indexByte_any _ _ _)))
          have hb2 := hb1.drewN nq
          have ho2 := ho1.drewN nq
          have c0 := scn0 hb2
          have c1 := scn1 hb2
          clear hb1 ho1 c0' c1'
          generalize w1.drewN nq = w2 at *
          go_wp2_with fail
          go_quiet (fail)
          have hb3 := hb2.drewN nq
          have ho3 := ho2.drewN nq
          clear hb2 ho2 c0 c1
          generalize w2.drewN nq = w3 at *
          go_wp2_with fail
          go_loopg [63] (s.size - j) (fun k _ wq => ∃ m : Nat, j ≤ m ∧ m ≤ s.size ∧ k = s.size - m ∧ Blk wq g 125 (scn s m lv) ∧ Only w wq g ∧ Hid (Lx.skip true (s.data.toList.drop m) = Lx.skip false (s.data.toList.drop i)))
          case atStart => exact ⟨j, Nat.le_refl _, hj, rfl, hb3, ho3, HSK.out.symm.trans HK.out⟩
          case round =>
            clear hb3 ho3
            obtain ⟨m, hjm, hm, hgm, hbm, hom, HM⟩ := hrel
            have HGM := Lib.hid hgm
            clear hgm
            have c0 := scn0 hbm
            have c1 := scn1 hbm
            by_cases hml : m < s.size
            · have k0 : (0 : Int) ≤ (m : Int) := by omega
              have k1 : (m : Int) < (s.size : Int) := by omega
              have hy := str_at s m hml
              generalize hyy : s[m] = y at hy
              have HY := Lib.hid hy
              clear hy
              by_cases h10 : y = 10
              · have hq2 : ((y.toNat : Int) != 10) = false := by rw [h10]; rfl
                have hne : j < m := by
                  rcases Nat.lt_or_ge j m with h | h
                  · exact h
                  · exfalso
                    have : j = m := by omega
                    subst this
                    have := HX.out.symm.trans HY.out
                    injection this with this
                    rw [H35.out, h10] at this
                    cases this
                have HSO := Lib.hid (skip_out HY.out h10)
                clear h10
                go_wp2_with fail
                go_quiet (fail)
                have hb4 := hbm.drewN nq
                have ho4 := hom.drewN nq
                clear hbm hom c0 c1
                generalize wr.drewN nq = w4 at *
                go_wp2_with fail
                go_roundg (s.size - m)
                case measure => have := HGK.out; omega
                case rel => exact ⟨m, by omega, by omega, rfl, hb4, ho4, HSO.out.symm.trans HM.out⟩
              · have hq2 : ((y.toNat : Int) != 10) = true := byte_nb (k := 10) h10
                have HSI := Lib.hid (skip_in HY.out h10)
                clear h10
                go_wp2_with fail
                go_quiet (fail)
                have hb4 := hbm.drewN nq
                have ho4 := hom.drewN nq
                clear hbm hom c0 c1
                generalize wr.drewN nq = w4 at *
                have c0 := scn0 hb4
                have c1 := scn1 hb4
                have f1 := hb4.frozen 1
                go_wp2_with fail
                go_roundg (s.size - (m + 1))
                case measure => have := HGM.out; omega
                case rel => exact ⟨m + 1, by omega, by omega, rfl, scn_set1 hb4, ho4.setCell _ _, HSI.out.symm.trans HM.out⟩
            · have hge : decide ((m : Int) < (s.size : Int)) = false := by simp; omega
              have HSE := Lib.hid ((skip_end (l := s.data.toList) (i := m) (by simp; omega) true).trans (skip_end (l := s.data.toList) (i := m) (by simp; omega) false).symm)
              go_wp2_with fail
              go_quiet (fail)
              have hb4 := hbm.drewN nq
              have ho4 := hom.drewN nq
              clear hbm hom c0 c1
              generalize wr.drewN nq = w4 at *
              go_wp2_with fail
              go_roundg (s.size - m)
              case measure => have := HGK.out; omega
              case rel => exact ⟨m, by omega, by omega, rfl, hb4, ho4, HSE.out.symm.trans HM.out⟩
        · have hq : ((x.toNat : Int) == 35) = false := byte_ne (k := 35) h35
          have HSK := Lib.hid (skip_stop HX.out HBL.out h35)
          clear h35
          go_wp2_with fail
          go_quiet ((go_at_call 104; exact Calls.quiet_of_same (indexByte_any _ _ _)))
          have hb2 := hb1.drewN nq
          have ho2 := ho1.drewN nq
          have c0 := scn0 hb2
          have c1 := scn1 hb2
          clear hb1 ho1 c0' c1'
          generalize w1.drewN nq = w2 at *
          go_wp2_with fail
          go_quiet (fail)
          have hb3 := hb2.drewN nq
          have ho3 := ho2.drewN nq
          clear hb2 ho2 c0 c1
          generalize w2.drewN nq = w3 at *
          go_wp2_with fail
          exact bodyPost_ret (results_none rfl _ _ _) rfl ⟨rfl, j, hij, hj, hb3, ho3, HSK.out.symm.trans HK.out⟩
    · have HSK := Lib.hid (skip_end (l := s.data.toList) (i := j) (by simp; omega) false)
      have hge : decide ((j : Int) < (s.size : Int)) = false := by simp; omega
      go_wp2_with fail
      go_quiet (fail)
      have hb1 := hbr.drewN nq
      have ho1 := hor.drewN nq
      clear hbr hor c0 c1
      generalize wr.drewN nq = w1 at *
      go_wp2_with fail
      have hdn : s.data.toList.drop j = [] := List.drop_eq_nil_of_le (by simp; omega)
      first
        | exact bodyPost_end (results_none rfl _ _ _) rfl ⟨rfl, j, hij, hj, hb1, ho1, hdn.trans (HSK.out.symm.trans HK.out)⟩
        | exact bodyPost_ret (results_none rfl _ _ _) rfl ⟨rfl, j, hij, hj, hb1, ho1, hdn.trans (HSK.out.symm.trans HK.out)⟩
end Go.Proofs.YtafjkbbiaopemaaGreatDoor
