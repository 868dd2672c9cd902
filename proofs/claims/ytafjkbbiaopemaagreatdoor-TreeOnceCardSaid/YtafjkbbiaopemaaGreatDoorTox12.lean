/- Part of the proof: Lex1r, LexT. -/
import Derived.Test.YtafjkbbiaopemaaGreatDoorTox10
set_option linter.unusedVariables false
namespace Go.Proofs.YtafjkbbiaopemaaGreatDoor
open Go.RowKit
set_option maxHeartbeats 400000 in
theorem rletter_any (x : UInt8) (w : World) : Calls Tryz.prog 57 #[.int .u8 x.toNat] w fun e w' => e = .returned (.bool (Lx.letter x)) ∧ w' = w := by
  go_enter Tryz.func57, Tryz.ntmps57
  go_wp2
  all_goals
    go_ret
    refine ⟨ret_bool ?_, rfl⟩
    rw [letter_eq]
    simp [*]
    try omega
set_option maxHeartbeats 400000 in
theorem rdigit_any (x : UInt8) (w : World) : Calls Tryz.prog 58 #[.int .u8 x.toNat] w fun e w' => e = .returned (.bool (Lx.digit x)) ∧ w' = w := by
  go_enter Tryz.func58, Tryz.ntmps58
  go_wp2
  all_goals
    go_ret
    refine ⟨ret_bool ?_, rfl⟩
    rw [digit_eq]
    simp [*]
    try omega
set_option maxRecDepth 100000 in
set_option maxHeartbeats 2000000 in
theorem rreserved_any (s : ByteArray) (w : World) : Calls Tryz.prog 59 #[.string s] w fun e w' => e = .returned (.bool (Lx.reserved s.data.toList)) ∧ w' = w := by
  rw [← ByteArray.toList_eq]
  go_enter Tryz.func59, Tryz.ntmps59
  go_wp2
  all_goals first
    | (exfalso; simp_all; done)
    | (go_ret
       refine ⟨ret_bool ?_, rfl⟩
       generalize s.toList = t at *
       unfold Lx.reserved Lx.words
       simp only [List.contains_cons, List.contains_nil, Bool.or_false]
       simp [*])
set_option maxHeartbeats 2000000 in
theorem rmark_any (x : UInt8) (w : World) : Calls Tryz.prog 61 #[.int .u8 x.toNat] w fun e w' => e = .returned (.bool (Lx.mark x)) ∧ w' = w := by
  rw [mark_eq]
  generalize (x.toNat : Int) = y
  go_enter Tryz.func61, Tryz.ntmps61
  go_wp2
  all_goals first
    | (exfalso; simp_all; done)
    | (go_ret
       refine ⟨ret_bool ?_, rfl⟩
       simp [*])
set_option maxHeartbeats 2000000 in
theorem rhex_any (x : UInt8) (w : World) : Calls Tryz.prog 87 #[.int .u8 x.toNat] w fun e w' => e = .returned (.int .i64 (hexI x)) ∧ w' = w := by
  have hx := x.toNat_lt
  have hd := digit_eq x
  by_cases a : 48 ≤ (x.toNat : Int) ∧ (x.toNat : Int) ≤ 57
  · have hd' : Lx.digit x = true := by rw [hd]; simp [a]
    have he : hexI x = (x.toNat : Int) - 48 := by rw [hexI_eq, if_pos a]
    have HE := Lib.hid he
    clear hd he
    go_enter Tryz.func87, Tryz.ntmps87
    go_wp2_with (go_at_call 58; refine (rdigit_any _ _).mono ?_; rintro e w' ⟨rfl, rfl⟩)
    go_ret
    refine ⟨ret_int ?_, rfl⟩
    rw [HE.out]
  · have hd' : Lx.digit x = false := by rw [hd]; simp; omega
    have he : hexI x = if 97 ≤ (x.toNat : Int) ∧ (x.toNat : Int) ≤ 102 then (x.toNat : Int) - 87 else -1 := by rw [hexI_eq, if_neg a]
    have HE := Lib.hid he
    clear hd he a
    go_enter Tryz.func87, Tryz.ntmps87
    go_wp2_with (go_at_call 58; refine (rdigit_any _ _).mono ?_; rintro e w' ⟨rfl, rfl⟩)
    all_goals
      go_ret
      refine ⟨ret_int ?_, rfl⟩
      rw [HE.out]
      first | (rw [if_pos (by omega)]; omega) | (rw [if_neg (by omega)])
end Go.Proofs.YtafjkbbiaopemaaGreatDoor
namespace Go.Proofs.YtafjkbbiaopemaaGreatDoor
open Go.RowKit
theorem res_ctt {P : Program} {w : World} {fn : Func} {p u v : Tmp} {ty : TypeId} (h : fn.results = #[.cell p ty, .tmp u, .tmp v]) (tmps : Array Value) (g : Nat) (t : TypeId) (cs : List Value) (hp : tmps.getD p undef = .pointer (some ⟨g, 0, none⟩))
    (hB : Blk w g t cs) (d : TypeDesc) (hu : P.underlying ty = some d) (hd : d.isRow = true) (hi : (P.info? ty).map (·.size) = some cs.length) :
    (results fn tmps).run P w = .ok (.tuple #[.agg cs.toArray, tmps.getD u undef, tmps.getD v undef]) w := by
  have hp' : tmps[p]?.getD undef = .pointer (some ⟨g, 0, none⟩) := by rw [← hp]; simp
  simp [results, h, hp', asAddr, run_loadVar_mid w g 0 ty cs d hB.range hu hd hi]
theorem hdTok : (Tryz.prog.info? 72).map (·.size) = some 4 := by kernel_rfl
theorem esc_go {l : List UInt8} {m k : Nat} {acc : List UInt8} {x : UInt8} (h : l[m]? = some 92) (he : Lx.esc (l.drop (m + 1)) = some (x, k)) : Lx.text (l.drop m).length.succ (l.drop m) acc = Lx.text (l.drop (m + k)).length.succ (l.drop (m + k)) (acc ++ [x]) := by
  have h1 : escN (l.drop (m + 1)) = k := by unfold escN; rw [he]
  have h2 : escB (l.drop (m + 1)) = x := by unfold escB; rw [he]
  have := esc_two he
  have h3 := text_esc (acc := acc) h (by rw [h1]; omega)
  rw [h1, h2] at h3
  exact h3
theorem esc_no {l : List UInt8} {m : Nat} {acc : List UInt8} (h : l[m]? = some 92) (he : Lx.esc (l.drop (m + 1)) = none) : Lx.text (l.drop m).length.succ (l.drop m) acc = .inl (l.drop m) :=
  text_esc_bad h (by unfold escN; rw [he])
theorem esc_end {l : List UInt8} {m : Nat} (h : l.length ≤ m + 1) : Lx.esc (l.drop (m + 1)) = none := by rw [List.drop_eq_nil_of_le h]; rfl
theorem esc_q {l : List UInt8} {m : Nat} {y : UInt8} (h : l[m + 1]? = some y) (hy : y = 34 ∨ y = 92) : Lx.esc (l.drop (m + 1)) = some (y, 2) := by
  rw [drop_cons h]; rcases hy with rfl | rfl <;> rfl
theorem esc_n {l : List UInt8} {m : Nat} (h : l[m + 1]? = some 110) : Lx.esc (l.drop (m + 1)) = some (10, 2) := by rw [drop_cons h]; rfl
theorem esc_x {l : List UInt8} {m a b : Nat} {x y : UInt8} (h : l[m + 1]? = some 120) (hx : l[m + 2]? = some x) (hy : l[m + 3]? = some y) (ha : Lx.hexV x = some a) (hb : Lx.hexV y = some b) : Lx.esc (l.drop (m + 1)) = some (UInt8.ofNat (16 * a + b), 4) := by
  rw [drop_cons h, drop_cons hx, drop_cons hy]
  simp [Lx.esc, ha, hb]
theorem esc_xno {l : List UInt8} {m : Nat} {x y : UInt8} (h : l[m + 1]? = some 120) (hx : l[m + 2]? = some x) (hy : l[m + 3]? = some y) (ha : Lx.hexV x = none ∨ Lx.hexV y = none) : Lx.esc (l.drop (m + 1)) = none := by
  rw [drop_cons h, drop_cons hx, drop_cons hy]
  rcases ha with ha | ha
  · simp [Lx.esc, ha]
  · simp only [Lx.esc, ha]
    cases Lx.hexV x <;> simp
theorem esc_xend {l : List UInt8} {m : Nat} (h : l[m + 1]? = some 120) (hl : l.length ≤ m + 3) : Lx.esc (l.drop (m + 1)) = none := by
  rw [drop_cons h]
  have : (l.drop (m + 1 + 1)).length ≤ 1 := by simp; omega
  match hq : l.drop (m + 1 + 1) with
  | [] => rfl
  | [a] => rfl
  | a :: b :: c => rw [hq] at this; simp at this
theorem esc_else {l : List UInt8} {m : Nat} {y : UInt8} (h : l[m + 1]? = some y) (h1 : y ≠ 34) (h2 : y ≠ 92) (h3 : y ≠ 110) (h4 : y ≠ 120) : Lx.esc (l.drop (m + 1)) = none := by
  rw [drop_cons h]; simp [Lx.esc, h1, h2, h3, h4]
theorem app_keep {B n c : Nat} {w wr wr' w3 : World} {A : Option Addr} {xs cs : List Value} {e t : TypeId} {sz : Nat} (hown : wr.ownsRow (B + 1) e sz (.slice A n c) n xs) (hBr : Below B w wr') (hblk : Blk wr' B t cs) (hg : wr'.grownBy w3 (Value.ownBlock (.slice A n c))) :
    Below B w w3 ∧ Blk w3 B t cs :=
  ⟨hBr.grown hg (Nat.le_of_lt hblk.lt) (fun k hk => Nat.le_of_succ_le (hown.lt k hk).1), hblk.grown hg (fun e => by have := (hown.lt B e.symm).1; omega)⟩
theorem rhex_some {x : UInt8} {a : Nat} (h : Lx.hexV x = some a) : Hid (∀ w, Calls Tryz.prog 87 #[.int .u8 x.toNat] w fun e w' => e = .returned (.int .i64 a) ∧ w = w') := fun w =>
  (rhex_any x w).mono fun _ _ ⟨h1, h2⟩ => ⟨by rw [h1, hexI_some h], h2.symm⟩
theorem rhex_none {x : UInt8} (h : Lx.hexV x = none) : Hid (∀ w, Calls Tryz.prog 87 #[.int .u8 x.toNat] w fun e w' => e = .returned (.int .i64 (-1)) ∧ w = w') := fun w =>
  (rhex_any x w).mono fun _ _ ⟨h1, h2⟩ => ⟨by rw [h1, hexI_none h], h2.symm⟩
def zTok : List Value := [.int .i64 0, .string ByteArray.empty, .int .i64 0, .int .i64 0]
def RTextPost (s : ByteArray) (i : Nat) (w : World) (R : Sum (List UInt8) (List UInt8 × List UInt8)) (e : Ending) (w' : World) : Prop :=
  match R with
  | .inl x => e = .returned (.tuple #[.agg zTok.toArray, .int .i64 0, .int .i64 ((s.size - x.length : Nat) : Int)]) ∧ Below w.heap.size w w'
  | .inr (b, x) => e = .returned (.tuple #[.agg (tokCells ⟨4, b, 0, i⟩).toArray, .int .i64 ((s.size - x.length : Nat) : Int), .int .i64 (-1)]) ∧ Below w.heap.size w w'
theorem post_bad {s : ByteArray} {i m : Nat} {w w' : World} {R : Sum (List UInt8) (List UInt8 × List UInt8)} (h : R = .inl (s.data.toList.drop m)) (hm : m ≤ s.size) (hB : Below w.heap.size w w') :
    RTextPost s i w R (.returned (.tuple #[.agg zTok.toArray, .int .i64 0, .int .i64 m])) w' := by
  subst h
  exact ⟨by rw [show s.size - (s.data.toList.drop m).length = m from by simp; omega], hB⟩
set_option maxRecDepth 100000 in
set_option maxHeartbeats 4000000 in
theorem rtext_any (s : ByteArray) (i : Nat) (w : World) (hi : i < s.size) (hs : s.size ≤ 8000) (R : Sum (List UInt8) (List UInt8 × List UInt8))
    (hR : R = Lx.text (s.data.toList.drop (i + 1)).length.succ (s.data.toList.drop (i + 1)) []) :
    Calls Tryz.prog 60 #[.string s, .int .i64 i] w (RTextPost s i w R) := by
  have HR := Lib.hid hR
  clear hR
  go_enter Tryz.func60, Tryz.ntmps60
  go_wp2_with fail
  go_loopg [7, 8] (s.size - (i + 1)) (fun k o q wr => ∃ (m : Nat) (acc : List UInt8) (A : Option Addr) (c : Nat), i + 1 ≤ m ∧ m ≤ s.size ∧ k = s.size - m ∧ q = .int .i64 m ∧ o = .slice A acc.length c ∧ acc.length ≤ m ∧
    wr.ownsRow (w.heap.size + 1) 5 1 (.slice A acc.length c) acc.length (u8s acc) ∧ Below w.heap.size w wr ∧ Blk wr w.heap.size 72 zTok ∧ Hid (R = Lx.text (s.data.toList.drop m).length.succ (s.data.toList.drop m) acc))
  case atStart => exact ⟨i + 1, [], none, 0, Nat.le_refl _, by omega, rfl, by go_num, rfl, by simp, World.ownsRow_nil _ _ _ _, (Below.refl _ _).alloc (Nat.le_refl _) _, Blk.new' rfl rfl, HR.out⟩
  case round =>
    obtain ⟨m, acc, A, c, him, hm, hgk, rfl, rfl, hacc, hown, hBr, hblk, HT⟩ := hrel
    have HGK := Lib.hid hgk
    have HBLK := Lib.hid hblk
    have hgl : w.heap.size < wr.heap.size := hblk.lt
    have d0 : wr.cell? ⟨w.heap.size, 0, none⟩ = some (.int .i64 0) := by rw [hblk.cell]; rfl
    have d1 : wr.cell? ⟨w.heap.size, 1, none⟩ = some (.string ByteArray.empty) := by rw [hblk.cell]; rfl
    have d2 : wr.cell? ⟨w.heap.size, 2, none⟩ = some (.int .i64 0) := by rw [hblk.cell]; rfl
    have d3 : wr.cell? ⟨w.heap.size, 3, none⟩ = some (.int .i64 0) := by rw [hblk.cell]; rfl
    have f0 := hblk.frozen 0
    have f1 := hblk.frozen 1
    have f2 := hblk.frozen 2
    have f3 := hblk.frozen 3
    clear hgk hblk
    by_cases hlt : m < s.size
    · have hx := str_at s m hlt
      have i0 : (0 : Int) ≤ (m : Int) := by omega
      have i1 : (m : Int) < (s.size : Int) := by omega
      generalize hxx : s[m] = x at hx
      have HX := Lib.hid hx
      clear hx
      by_cases h34 : x = 34
      · have e1 : ((x.toNat : Int) == 34) = true := by rw [h34]; rfl
        have HTQ := Lib.hid (HT.out.trans (text_quote (by have := HX.out; rw [h34] at this; exact this)))
        clear h34
        go_wp2_with (refine wpList_str rfl 83 9 (.tmp 21) rfl 5 Tryz.underlying83 Tryz.underlying5 Tryz.underlying9 A acc.length c (by rfl) acc (Rd.of_own hown) ?_)
        refine bodyPost_ret (res_ctt rfl _ w.heap.size 72 (tokCells ⟨4, acc, 0, i⟩) rfl (by exact ((((HBLK.out.set_ 0 _).set_ 1 _).set_ 2 _).set_ 3 _)) _ Tryz.underlying72 rfl hdTok) rfl ?_
        rw [HTQ.out]
        refine ⟨?_, ((((hBr.setCell (Nat.le_refl _) _).setCell (Nat.le_refl _) _).setCell (Nat.le_refl _) _).setCell (Nat.le_refl _) _)⟩
        rw [show s.size - (s.data.toList.drop (m + 1)).length = m + 1 from by simp; omega]
        rfl
      · have e1 : ((x.toNat : Int) == 34) = false := byte_ne (k := 34) h34
        have H34 := Lib.hid h34
        clear h34
        by_cases hct : (x < 32 || x > 126) = true
        · have h92 : x ≠ 92 := fun e => by subst e; revert hct; decide
          have HTQ := Lib.hid (HT.out.trans (text_bad HX.out H34.out h92 hct))
          have hcase := ctl_yes hct
          clear hct h92
          rcases hcase with a1 | ⟨a1, a2⟩
          all_goals
            go_wp2_with fail
            exact bodyPost_ret (res_ctt rfl _ w.heap.size 72 zTok rfl (by exact ((((HBLK.out.set_ 0 _).set_ 1 _).set_ 2 _).set_ 3 _)) _ Tryz.underlying72 rfl hdTok) rfl (post_bad HTQ.out (by omega) ((((hBr.setCell (Nat.le_refl _) _).setCell (Nat.le_refl _) _).setCell (Nat.le_refl _) _).setCell (Nat.le_refl _) _))
        · have hct' : (x < 32 || x > 126) = false := by simpa using hct
          obtain ⟨a1, a2⟩ := ctl_no hct'
          by_cases h92 : x = 92
          · have e2 : ((x.toNat : Int) != 92) = false := by rw [h92]; rfl
            have HX92 : Hid (s.data.toList[m]? = some 92) := by have := HX.out; rw [h92] at this; exact this
            clear h92 hct hct'
            by_cases hl1 : m + 1 < s.size
            · have k1 : decide ((m : Int) + 1 < (s.size : Int)) = true := by simp; omega
              have k0 : (0 : Int) ≤ (m : Int) + 1 := by omega
              have hy := str_at s (m + 1) hl1
              generalize hyy : s[m + 1] = y at hy
              have HY := Lib.hid hy
              clear hy
              by_cases hq34 : y = 34
              · have q1 : ((y.toNat : Int) == 34) = true := by rw [hq34]; rfl
                have HTQ := Lib.hid (HT.out.trans (esc_go HX92.out (esc_q HY.out (.inl hq34))))
                clear hq34
                go_wp2_with (at_builtin; refine wpList_app rfl (.tmp 62) (.tmp 67) _ rfl (w.heap.size + 1) 5 1 1 Tryz.underlying83 eU8b (.slice A acc.length c) acc.length (u8s acc) (by rfl) (by exact hown.alloc _) (some ⟨wr.heap.size, 0, none⟩) 1 1 [.int .u8 y.toNat] (by rfl) (by exact RdS.new wr _ [.int .u8 y.toNat] 1 rfl) (by simp [Value.oneCell']) (by omega) (by omega) (by simp; omega) ?_)
                intro A2 c2 w3 hown2 hc2 hg2 hat2
                obtain ⟨hB3, hb3⟩ := app_keep hown (hBr.alloc hBr.size _) (HBLK.out.alloc _) hg2
                have hown3 : w3.ownsRow (w.heap.size + 1) 5 1 (.slice A2 (acc ++ [y]).length c2) (acc ++ [y]).length (u8s (acc ++ [y])) := by
                  rw [u8s_append, List.length_append]; exact hown2
                clear hg2 hat2 hown2 hown hBr d0 d1 d2 d3 f0 f1 f2 f3
                go_wp2_with fail
                go_roundg (s.size - (m + 2))
                case measure => have := HGK.out; omega
                case rel => exact ⟨m + 2, acc ++ [y], A2, c2, by omega, by omega, rfl, by go_num, by rw [List.length_append]; rfl, by rw [List.length_append]; simp; omega, hown3, hB3, hb3, HTQ.out⟩
              · have q1 : ((y.toNat : Int) == 34) = false := byte_ne (k := 34) hq34
                by_cases hq92 : y = 92
                · have q2 : ((y.toNat : Int) == 92) = true := by rw [hq92]; rfl
                  have HTQ := Lib.hid (HT.out.trans (esc_go HX92.out (esc_q HY.out (.inr hq92))))
                  clear hq34 hq92
                  go_wp2_with (at_builtin; refine wpList_app rfl (.tmp 62) (.tmp 67) _ rfl (w.heap.size + 1) 5 1 1 Tryz.underlying83 eU8b (.slice A acc.length c) acc.length (u8s acc) (by rfl) (by exact hown.alloc _) (some ⟨wr.heap.size, 0, none⟩) 1 1 [.int .u8 y.toNat] (by rfl) (by exact RdS.new wr _ [.int .u8 y.toNat] 1 rfl) (by simp [Value.oneCell']) (by omega) (by omega) (by simp; omega) ?_)
                  intro A2 c2 w3 hown2 hc2 hg2 hat2
                  obtain ⟨hB3, hb3⟩ := app_keep hown (hBr.alloc hBr.size _) (HBLK.out.alloc _) hg2
                  have hown3 : w3.ownsRow (w.heap.size + 1) 5 1 (.slice A2 (acc ++ [y]).length c2) (acc ++ [y]).length (u8s (acc ++ [y])) := by
                    rw [u8s_append, List.length_append]; exact hown2
                  clear hg2 hat2 hown2 hown hBr d0 d1 d2 d3 f0 f1 f2 f3
                  go_wp2_with fail
                  go_roundg (s.size - (m + 2))
                  case measure => have := HGK.out; omega
                  case rel => exact ⟨m + 2, acc ++ [y], A2, c2, by omega, by omega, rfl, by go_num, by rw [List.length_append]; rfl, by rw [List.length_append]; simp; omega, hown3, hB3, hb3, HTQ.out⟩
                · have q2 : ((y.toNat : Int) == 92) = false := byte_ne (k := 92) hq92
                  by_cases hq110 : y = 110
                  · have q3 : ((y.toNat : Int) == 110) = true := by rw [hq110]; rfl
                    have HTQ := Lib.hid (HT.out.trans (esc_go HX92.out (esc_n (by have := HY.out; rw [hq110] at this; exact this))))
                    clear hq34 hq92 hq110
                    go_wp2_with (at_builtin; refine wpList_app rfl (.tmp 83) (.tmp 84) _ rfl (w.heap.size + 1) 5 1 1 Tryz.underlying83 eU8b (.slice A acc.length c) acc.length (u8s acc) (by rfl) (by exact hown.alloc _) (some ⟨wr.heap.size, 0, none⟩) 1 1 [.int .u8 10] (by rfl) (by exact RdS.new wr _ [.int .u8 10] 1 rfl) (by simp [Value.oneCell']) (by omega) (by omega) (by simp; omega) ?_)
                    intro A2 c2 w3 hown2 hc2 hg2 hat2
                    obtain ⟨hB3, hb3⟩ := app_keep hown (hBr.alloc hBr.size _) (HBLK.out.alloc _) hg2
                    have hown3 : w3.ownsRow (w.heap.size + 1) 5 1 (.slice A2 (acc ++ [10]).length c2) (acc ++ [10]).length (u8s (acc ++ [10])) := by
                      rw [u8s_append, List.length_append]; exact hown2
                    clear hg2 hat2 hown2 hown hBr d0 d1 d2 d3 f0 f1 f2 f3
                    go_wp2_with fail
                    go_roundg (s.size - (m + 2))
                    case measure => have := HGK.out; omega
                    case rel => exact ⟨m + 2, acc ++ [10], A2, c2, by omega, by omega, rfl, by go_num, by rw [List.length_append]; rfl, by rw [List.length_append]; simp; omega, hown3, hB3, hb3, HTQ.out⟩
                  · have q3 : ((y.toNat : Int) == 110) = false := byte_ne (k := 110) hq110
                    by_cases hq120 : y = 120
                    · have q4 : ((y.toNat : Int) == 120) = true := by rw [hq120]; rfl
                      have HY120 : Hid (s.data.toList[m + 1]? = some 120) := by have := HY.out; rw [hq120] at this; exact this
                      clear hq34 hq92 hq110 hq120
                      by_cases hl3 : m + 3 < s.size
                      · have k3 : decide ((m : Int) + 3 < (s.size : Int)) = true := by simp; omega
                        have k2 : (0 : Int) ≤ (m : Int) + 2 := by omega
                        have k2' : (m : Int) + 2 < (s.size : Int) := by omega
                        have k3' : (0 : Int) ≤ (m : Int) + 3 := by omega
                        have hl2 : m + 2 < s.size := by omega
                        have hh := str_at s (m + 2) hl2
                        have ho := str_at s (m + 3) hl3
                        generalize hhh : s[m + 2] = u at hh
                        generalize hoo : s[m + 3] = v at ho
                        have HH := Lib.hid hh
                        have HO := Lib.hid ho
                        clear hh ho
                        cases hu : Lx.hexV u with
                        | none =>
                          have HA := rhex_none hu
                          have HTQ := Lib.hid (HT.out.trans (esc_no HX92.out (esc_xno HY120.out HH.out HO.out (.inl hu))))
                          clear hu
                          go_wp2_with (go_at_call 87; refine (HA.out _).mono ?_; rintro e w' ⟨rfl, rfl⟩)
                          exact bodyPost_ret (res_ctt rfl _ w.heap.size 72 zTok rfl (by exact ((((HBLK.out.set_ 0 _).set_ 1 _).set_ 2 _).set_ 3 _)) _ Tryz.underlying72 rfl hdTok) rfl (post_bad HTQ.out (by omega) ((((hBr.setCell (Nat.le_refl _) _).setCell (Nat.le_refl _) _).setCell (Nat.le_refl _) _).setCell (Nat.le_refl _) _))
                        | some a =>
                          have HA := rhex_some hu
                          have ha := hexV_lt hu
                          cases hv : Lx.hexV v with
                          | none =>
                            have HB := rhex_none hv
                            have HTQ := Lib.hid (HT.out.trans (esc_no HX92.out (esc_xno HY120.out HH.out HO.out (.inr hv))))
                            clear hu hv
                            go_wp2_with (go_at_call 87; ((first | with_reducible refine (HA.out _).mono ?_ | with_reducible refine (HB.out _).mono ?_); rintro e w' ⟨rfl, rfl⟩))
                            exact bodyPost_ret (res_ctt rfl _ w.heap.size 72 zTok rfl (by exact ((((HBLK.out.set_ 0 _).set_ 1 _).set_ 2 _).set_ 3 _)) _ Tryz.underlying72 rfl hdTok) rfl (post_bad HTQ.out (by omega) ((((hBr.setCell (Nat.le_refl _) _).setCell (Nat.le_refl _) _).setCell (Nat.le_refl _) _).setCell (Nat.le_refl _) _))
                          | some b =>
                            have HB := rhex_some hv
                            have hb := hexV_lt hv
                            have HTQ := Lib.hid (HT.out.trans (esc_go HX92.out (esc_x HY120.out HH.out HO.out hu hv)))
                            clear hu hv
                            have hbyte : ((UInt8.ofNat (16 * a + b)).toNat : Int) = 16 * (a : Int) + (b : Int) := by rw [UInt8.toNat_ofNat']; omega
                            generalize UInt8.ofNat (16 * a + b) = z at *
                            have HZ := Lib.hid hbyte
                            clear hbyte
                            go_wp2_with (go_at_call 87; ((first | with_reducible refine (HA.out _).mono ?_ | with_reducible refine (HB.out _).mono ?_); rintro e w' ⟨rfl, rfl⟩))
                            have t1 : IntKind.i64.wrap (16 * (a : Int)) = 16 * (a : Int) := IntWalk.i64_in _ (by omega)
                            have t2 : IntKind.i64.wrap (16 * (a : Int) + (b : Int)) = 16 * (a : Int) + (b : Int) := IntWalk.i64_in _ (by omega)
                            have t3 : IntKind.u8.wrap (16 * (a : Int) + (b : Int)) = 16 * (a : Int) + (b : Int) := IntWalk.u8_in _ (by omega)
                            have t4 : IntKind.i64.wrap ((m : Int) + 2) = (m : Int) + 2 := IntWalk.i64_in _ (by omega)
                            have t5 : IntKind.i64.wrap ((m : Int) + 3) = (m : Int) + 3 := IntWalk.i64_in _ (by omega)
                            have t6 : ((m : Int) + 2).toNat = m + 2 := by omega
                            have t7 : ((m : Int) + 3).toNat = m + 3 := by omega
                            have t8 : (m : Int) + 3 < (s.size : Int) := by omega
                            go_region_held3 (fun _ => True) (trivial) (first
                              | (go_at_call 87; ((first | with_reducible refine (HA.out _).mono ?_ | with_reducible refine (HB.out _).mono ?_); rintro e w' ⟨rfl, rfl⟩))
                              | (refine step_app rfl (.tmp 116) (.tmp 130) _ rfl (w.heap.size + 1) 5 1 1 Tryz.underlying83 eU8b (.slice A acc.length c) acc.length (u8s acc) (by rfl) (by exact hown.alloc _) (some ⟨wr.heap.size, 0, none⟩) 1 1 [.int .u8 (16 * (a : Int) + (b : Int))] (by rfl) (by exact RdS.new wr _ [.int .u8 (16 * (a : Int) + (b : Int))] 1 rfl) (by simp [Value.oneCell']) (by omega) (by omega) (by simp; omega) ?_; intro A2 c2 w3 hown2 hc2 hg2 hat2))
                            clear t1 t2 t3 t4 t5 t6 t7 t8
                            all_goals
                              obtain ⟨hB3, hb3⟩ := app_keep hown (hBr.alloc hBr.size _).drew (HBLK.out.alloc _).drew hg2
                              have hown3 : w3.ownsRow (w.heap.size + 1) 5 1 (.slice A2 (acc ++ [z]).length c2) (acc ++ [z]).length (u8s (acc ++ [z])) := by
                                rw [u8s_append, List.length_append, show u8s [z] = [.int .u8 (16 * (a : Int) + (b : Int))] from by rw [← HZ.out]; rfl]; exact hown2
                              clear hg2 hat2 hown2 hown hBr d0 d1 d2 d3 f0 f1 f2 f3
                              go_wp2_with fail
                              go_roundg (s.size - (m + 4))
                              case measure => have := HGK.out; omega
                              case rel => exact ⟨m + 4, acc ++ [z], A2, c2, by omega, by omega, rfl, by go_num, by rw [List.length_append]; rfl, by rw [List.length_append]; simp; omega, hown3, hB3, hb3, HTQ.out⟩
                      · have k3 : decide ((m : Int) + 3 < (s.size : Int)) = false := by simp; omega
                        have HTQ := Lib.hid (HT.out.trans (esc_no HX92.out (esc_xend HY120.out (by simp; omega))))
                        go_wp2_with fail
                        exact bodyPost_ret (res_ctt rfl _ w.heap.size 72 zTok rfl (by exact ((((HBLK.out.set_ 0 _).set_ 1 _).set_ 2 _).set_ 3 _)) _ Tryz.underlying72 rfl hdTok) rfl (post_bad HTQ.out (by omega) ((((hBr.setCell (Nat.le_refl _) _).setCell (Nat.le_refl _) _).setCell (Nat.le_refl _) _).setCell (Nat.le_refl _) _))
                    · have q4 : ((y.toNat : Int) == 120) = false := byte_ne (k := 120) hq120
                      have HTQ := Lib.hid (HT.out.trans (esc_no HX92.out (esc_else HY.out hq34 hq92 hq110 hq120)))
                      clear hq34 hq92 hq110 hq120
                      by_cases hl3 : m + 3 < s.size
                      · have k3 : decide ((m : Int) + 3 < (s.size : Int)) = true := by simp; omega
                        go_wp2_with fail
                        exact bodyPost_ret (res_ctt rfl _ w.heap.size 72 zTok rfl (by exact ((((HBLK.out.set_ 0 _).set_ 1 _).set_ 2 _).set_ 3 _)) _ Tryz.underlying72 rfl hdTok) rfl (post_bad HTQ.out (by omega) ((((hBr.setCell (Nat.le_refl _) _).setCell (Nat.le_refl _) _).setCell (Nat.le_refl _) _).setCell (Nat.le_refl _) _))
                      · have k3 : decide ((m : Int) + 3 < (s.size : Int)) = false := by simp; omega
                        go_wp2_with fail
                        exact bodyPost_ret (res_ctt rfl _ w.heap.size 72 zTok rfl (by exact ((((HBLK.out.set_ 0 _).set_ 1 _).set_ 2 _).set_ 3 _)) _ Tryz.underlying72 rfl hdTok) rfl (post_bad HTQ.out (by omega) ((((hBr.setCell (Nat.le_refl _) _).setCell (Nat.le_refl _) _).setCell (Nat.le_refl _) _).setCell (Nat.le_refl _) _))
            · have k1 : decide ((m : Int) + 1 < (s.size : Int)) = false := by simp; omega
              have k3 : decide ((m : Int) + 3 < (s.size : Int)) = false := by simp; omega
              have HTQ := Lib.hid (HT.out.trans (esc_no HX92.out (esc_end (by simp; omega))))
              go_wp2_with fail
              exact bodyPost_ret (res_ctt rfl _ w.heap.size 72 zTok rfl (by exact ((((HBLK.out.set_ 0 _).set_ 1 _).set_ 2 _).set_ 3 _)) _ Tryz.underlying72 rfl hdTok) rfl (post_bad HTQ.out (by omega) ((((hBr.setCell (Nat.le_refl _) _).setCell (Nat.le_refl _) _).setCell (Nat.le_refl _) _).setCell (Nat.le_refl _) _))
          · have e2 : ((x.toNat : Int) != 92) = true := byte_nb (k := 92) h92
            have HTQ := Lib.hid (HT.out.trans (text_plain HX.out H34.out h92 hct'))
            clear h92 hct hct'
            go_wp2_with (at_builtin; refine wpList_app rfl (.tmp 37) (.tmp 39) _ rfl (w.heap.size + 1) 5 1 1 Tryz.underlying83 eU8b (.slice A acc.length c) acc.length (u8s acc) (by rfl) (by exact hown.alloc _) (some ⟨wr.heap.size, 0, none⟩) 1 1 [.int .u8 x.toNat] (by rfl) (by exact RdS.new wr _ [.int .u8 x.toNat] 1 rfl) (by simp [Value.oneCell']) (by omega) (by omega) (by simp; omega) ?_)
            intro A2 c2 w3 hown2 hc2 hg2 hat2
            obtain ⟨hB3, hb3⟩ := app_keep hown (hBr.alloc hBr.size _) (HBLK.out.alloc _) hg2
            have hown3 : w3.ownsRow (w.heap.size + 1) 5 1 (.slice A2 (acc ++ [x]).length c2) (acc ++ [x]).length (u8s (acc ++ [x])) := by
              rw [u8s_append, List.length_append]; exact hown2
            clear hg2 hat2 hown2 hown hBr d0 d1 d2 d3 f0 f1 f2 f3
            go_wp2_with fail
            go_roundg (s.size - (m + 1))
            case measure => have := HGK.out; omega
            case rel => exact ⟨m + 1, acc ++ [x], A2, c2, by omega, by omega, rfl, by go_num, by rw [List.length_append]; rfl, by rw [List.length_append]; simp; omega, hown3, hB3, hb3, HTQ.out⟩
    · have hge : s.size ≤ m := by omega
      have HTQ := Lib.hid (HT.out.trans (text_end (by simpa using hge)))
      have hms : m = s.size := by omega
      have HTQ' : Hid (R = .inl (s.data.toList.drop s.size)) := by show _ = _; rw [HTQ.out, List.drop_eq_nil_of_le (by simp)]
      clear HTQ
      have HTQ := HTQ'
      clear HTQ' hms
      go_wp2_with fail
      exact bodyPost_ret (res_ctt rfl _ w.heap.size 72 zTok rfl (by exact ((((HBLK.out.set_ 0 _).set_ 1 _).set_ 2 _).set_ 3 _)) _ Tryz.underlying72 rfl hdTok) rfl (post_bad HTQ.out (by omega) ((((hBr.setCell (Nat.le_refl _) _).setCell (Nat.le_refl _) _).setCell (Nat.le_refl _) _).setCell (Nat.le_refl _) _))
end Go.Proofs.YtafjkbbiaopemaaGreatDoor
