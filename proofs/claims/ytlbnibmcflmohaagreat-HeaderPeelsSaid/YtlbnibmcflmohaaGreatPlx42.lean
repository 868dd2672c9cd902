/- Part of the proof: Ber. -/
import Derived.Test.YtlbnibmcflmohaaGreatPlx39
namespace Go.Proofs.YtlbnibmcflmohaaGreat
open Go.RowKit
def note (f e : Nat) : Nat := if e ≠ 0 ∧ (f = 0 ∨ e < f) then e else f
theorem cell1 {w : World} {g : Nat} {t : TypeId} {v : Value} (h : Blk w g t [v]) : w.cell? ⟨g, 0, none⟩ = some v := by rw [h.cell]; rfl
set_option maxRecDepth 100000 in
set_option maxHeartbeats 1000000 in
theorem note_any (g e f : Nat) (w : World) (h : Blk w g 31 [.int .i64 (f : Int)]) :
    Calls Tryz.prog 38 #[.int .i64 (e : Int), .pointer (some ⟨g, 0, none⟩)] w fun x w' => x = .returned (.tuple #[]) ∧ Blk w' g 31 [.int .i64 ((note f e : Nat) : Int)] ∧ Only w w' g := by
  have c0 := cell1 h
  have f0 := h.frozen 0
  have hB := Lib.hid h
  have HS := Lib.hid (h.set_ 0 (.int .i64 (e : Int)))
  have HO := Lib.hid (Only.of_setCells w g 0 [.int .i64 (e : Int)])
  have HW : Hid (Only w w g) := ⟨⟨rfl, rfl, rfl, Nat.le_refl _, fun _ _ _ => rfl⟩, rfl⟩
  clear h
  by_cases he : e = 0
  · have HN : Hid (note f e = f) := if_neg (fun h => h.1 he)
    have e1 : ((e : Int) != 0) = false := by rw [bne_eq_false_iff_eq]; omega
    go_enter Tryz.func38, Tryz.ntmps38
    go_wp2_with fail
    go_end0
    exact ⟨rfl, by rw [HN.out]; exact hB.out, HW.out⟩
  · have e1 : ((e : Int) != 0) = true := by rw [bne_iff_ne]; omega
    by_cases hf : f = 0
    · have HN : Hid (note f e = e) := if_pos ⟨he, .inl hf⟩
      have e2 : ((f : Int) == 0) = true := by rw [beq_iff_eq]; omega
      go_enter Tryz.func38, Tryz.ntmps38
      go_wp2_with fail
      go_end0
      exact ⟨rfl, by rw [HN.out]; exact HS.out, HO.out⟩
    · have e2 : ((f : Int) == 0) = false := by rw [beq_eq_false_iff_ne]; omega
      by_cases hl : e < f
      · have HN : Hid (note f e = e) := if_pos ⟨he, .inr hl⟩
        have e3 : (e : Int) < (f : Int) := by omega
        go_enter Tryz.func38, Tryz.ntmps38
        go_wp2_with fail
        go_end0
        exact ⟨rfl, by rw [HN.out]; exact HS.out, HO.out⟩
      · have HN : Hid (note f e = f) := if_neg (fun h => by rcases h.2 with h | h; exact hf h; exact hl h)
        have e3 : ¬ (e : Int) < (f : Int) := by omega
        go_enter Tryz.func38, Tryz.ntmps38
        go_wp2_with fail
        go_end0
        exact ⟨rfl, by rw [HN.out]; exact hB.out, HW.out⟩
theorem note_lit (k : Nat) (K : Int) (hK : K = k) (g f : Nat) (w : World) (h : Blk w g 31 [.int .i64 (f : Int)]) :
    Calls Tryz.prog 38 #[.int .i64 K, .pointer (some ⟨g, 0, none⟩)] w fun x w' => x = .returned (.tuple #[]) ∧ Blk w' g 31 [.int .i64 ((note f k : Nat) : Int)] ∧ Only w w' g := by
  subst hK
  exact note_any g k f w h
theorem note_2 (g f : Nat) (w : World) (h : Blk w g 31 [.int .i64 (f : Int)]) :
    Calls Tryz.prog 38 #[.int .i64 2, .pointer (some ⟨g, 0, none⟩)] w fun x w' => x = .returned (.tuple #[]) ∧ Blk w' g 31 [.int .i64 ((note f 2 : Nat) : Int)] ∧ Only w w' g := note_lit 2 2 rfl g f w h
theorem note_3 (g f : Nat) (w : World) (h : Blk w g 31 [.int .i64 (f : Int)]) :
    Calls Tryz.prog 38 #[.int .i64 3, .pointer (some ⟨g, 0, none⟩)] w fun x w' => x = .returned (.tuple #[]) ∧ Blk w' g 31 [.int .i64 ((note f 3 : Nat) : Int)] ∧ Only w w' g := note_lit 3 3 rfl g f w h
theorem note_0 (g f : Nat) (w : World) (h : Blk w g 31 [.int .i64 (f : Int)]) :
    Calls Tryz.prog 38 #[.int .i64 0, .pointer (some ⟨g, 0, none⟩)] w fun x w' => x = .returned (.tuple #[]) ∧ Blk w' g 31 [.int .i64 ((note f 0 : Nat) : Int)] ∧ Only w w' g := note_lit 0 0 rfl g f w h
def errN (cs : List Cm) (n : Nat) : Nat → Nat
  | 0 => 0
  | i + 1 => match cs[i]? with
    | none => 0
    | some c => if c.check = 0 ∧ (decide (c.k = 1) = decide (i + 1 = n)) then note (note (errN cs n i) c.check) 3 else note (errN cs n i) c.check
def berr (cs : List Cm) (ns : Nat) : Nat := if ns < 1 ∨ 5 < ns ∨ ns ≠ cs.length then note (errN cs cs.length cs.length) 2 else errN cs cs.length cs.length
theorem cm_range {w : World} {A : Option Addr} {n : Nat} {l : List Cm} (h : RdS 20 w A n (l.flatMap Cm.cells)) (hs : ∀ s ∈ l, s.ok) {i : Nat} {s : Cm} (hi : l[i]? = some s) (hn : 0 < n) :
    ∃ b off, A = some ⟨b, off, none⟩ ∧ b < w.heap.size ∧ w.rangeAt b (off + i * 20) s.cells := by
  obtain ⟨b, off, e, hb, hc⟩ := h.2 hn
  refine ⟨b, off, e, hb, fun j v hv => ?_⟩
  have h1 := flatMap_at (f := Cm.cells) (sz := 20) (fun a ha => Cm.cells_len (hs a ha)) hi hv
  rw [Nat.add_assoc]
  exact hc _ _ h1
attribute [local go_sem ↓] ldq_cm
set_option maxRecDepth 100000 in
set_option maxHeartbeats 4000000 in
theorem berr_any (A : Option Addr) (n c ns : Nat) (cs : List Cm) (w : World) (h : RdS 20 w A n (cs.flatMap Cm.cells)) (hs : ∀ c ∈ cs, c.ok) (hl : cs.length = n) (hn : n ≤ 140737488355328) (hns : ns ≤ 140737488355328) :
    Calls Tryz.prog 18 #[.slice A n c, .int .i64 (ns : Int)] w fun e w' => e = .returned (.int .i64 ((berr cs ns : Nat) : Int)) ∧ Below w.heap.size w w' := by
  have HR := Lib.hid h
  have HS := Lib.hid hs
  have HL := Lib.hid hl
  have HBE : Hid (berr cs ns = if ns < 1 ∨ 5 < ns ∨ ns ≠ n then note (errN cs n n) 2 else errN cs n n) := by show _ = _; rw [berr, hl]
  have HN0 : Hid (Blk (w.alloc (.cells #[.int .i64 0] 31)) w.heap.size 31 [.int .i64 ((errN cs n 0 : Nat) : Int)]) := Blk.new' rfl rfl
  have HE0 : Hid (Below w.heap.size w (w.alloc (.cells #[.int .i64 0] 31))) := (Below.refl _ w).alloc (Nat.le_refl _) _
  clear h hs hl
  go_enter Tryz.func18, Tryz.ntmps18
  go_wp2_with fail
  go_loopg [13] n (fun kk q wr => ∃ i : Nat, i ≤ n ∧ kk = n - i ∧ q = .int .i64 i ∧ Blk wr w.heap.size 31 [.int .i64 ((errN cs n i : Nat) : Int)] ∧ Below w.heap.size w wr)
  case atStart => exact ⟨0, by omega, rfl, rfl, HN0.out, HE0.out⟩
  case round =>
    clear HN0 HE0
    obtain ⟨i, hi, hgk, rfl, hb, hB⟩ := hrel
    have HGK := Lib.hid hgk
    clear hgk
    by_cases hlt : i < n
    · have hlt2 : (i : Int) < (n : Int) := by omega
      obtain ⟨s, hsi⟩ : ∃ s, cs[i]? = some s := ⟨_, List.getElem?_eq_getElem (by rw [HL.out]; omega)⟩
      have hok := HS.out s (List.mem_of_getElem? hsi)
      obtain ⟨b, off, rfl, hb2, hrg⟩ := cm_range (HR.out.bel hB (Nat.le_refl _)) HS.out hsi (by omega)
      have hld : (ldAt 50 (.pointer (some ⟨b, off + i * 20, none⟩))).run Tryz.prog wr = .ok (.agg s.cells.toArray) wr := run_loadAt_mid wr b (off + i * 20) 50 s.cells _ hrg Tryz.underlying50 rfl (by rw [Cm.cells_len hok]; exact hd76c)
      have HCK := Lib.hid (fun W => check_cm s hok W)
      have HCL := Lib.hid (Cm.cells_len hok)
      have HC1 := Lib.hid (Cm.cells_one s)
      have HC0 : Hid (s.cells[0]? = some (.int .u8 s.k.toNat)) := rfl
      have HEN : Hid (errN cs n (i + 1) = if s.check = 0 ∧ (decide (s.k = 1) = decide (i + 1 = n)) then note (note (errN cs n i) s.check) 3 else note (errN cs n i) s.check) := by show _ = _; rw [errN, hsi]
      have e1 : ((s.k.toNat : Int) == 1) = decide (s.k = 1) := k_eq s.k 1
      have e2 : ((i : Int) + 1 == (n : Int)) = decide (i + 1 = n) := by rw [Bool.eq_iff_iff, beq_iff_eq, decide_eq_true_iff]; omega
      have HB := Lib.hid hb
      have HE := Lib.hid hB
      have hgl := hb.lt
      generalize decide (s.k = 1) = pk at *
      generalize decide (i + 1 = n) = pn at *
      generalize s.cells = C at *
      generalize s.check = E at *
      generalize s.k.toNat = K at *
      generalize errN cs n i = F at *
      clear hsi hok hrg hb hB
      have hbs := HE.out.size
      by_cases hE : E = 0
      · subst hE
        rw [show ((0 : Nat) : Int) = 0 from rfl] at HCK
        cases hpp : (pk == pn) with
        | true =>
          have hpe : pk = pn := by simpa using hpp
          rw [if_pos ⟨rfl, hpe⟩] at HEN
          go_wp2_with (first
          | (refine wpList_store_all rfl 50 (.tmp 8) (.tmp 17) rfl wr.heap.size C (by rfl) (by rfl) 50 Cm.zero.cells (by exact Blk.new' rfl rfl) (by rw [HCL.out]; exact hd76c) HC1.out (by rw [HCL.out]; rfl) ?_
             intro w1 hb1 ho1
             have HE1 := Lib.hid (ho1.below (HE.out.alloc hbs _) hbs (Nat.le_trans hbs (by simp)))
             have HB1 := Lib.hid (ho1.blk (HB.out.alloc _) (by omega))
             have HC8 := Lib.hid hb1
             have hl8 := cm_ld hb1 HCL.out
             clear hb1 ho1)
          | (go_at_call 39; (with_reducible refine (HCK.out _).mono ?_); rintro e w2 ⟨rfl, hB2⟩
             have HE2 := qtr HE1 hB2
             have HB2 := qbl HB1 hB2
             have HC82 := qbl HC8 hB2
             clear hB2)
          | (go_at_call 38; (with_reducible refine (note_3 _ _ _ (by exact HN3.out)).mono ?_); rintro e w4 ⟨rfl, hb4, ho4⟩
             have HE4 := Lib.hid (ho4.below HE3.out (Nat.le_refl _) HE3.out.size)
             have HN4 := Lib.hid hb4
             clear hb4 ho4)
          | (go_at_call 38; (with_reducible refine (note_0 _ _ _ (by exact HB2.out)).mono ?_); rintro e w3 ⟨rfl, hb3, ho3⟩
             have HE3 := Lib.hid (ho3.below HE2.out (Nat.le_refl _) HE2.out.size)
             have HN3 := Lib.hid hb3
             have c83 := ((ho3.blk HC82.out (by omega)).cell 0).trans HC0.out
             clear hb3 ho3))
          go_roundg (n - (i + 1))
          case measure => have := HGK.out; omega
          case rel => exact ⟨i + 1, by omega, rfl, by go_num, by rw [HEN.out]; exact HN4.out, HE4.out⟩
        | false =>
          have hpe : ¬ pk = pn := by simpa using hpp
          rw [if_neg (fun h => hpe h.2)] at HEN
          go_wp2_with (first
          | (refine wpList_store_all rfl 50 (.tmp 8) (.tmp 17) rfl wr.heap.size C (by rfl) (by rfl) 50 Cm.zero.cells (by exact Blk.new' rfl rfl) (by rw [HCL.out]; exact hd76c) HC1.out (by rw [HCL.out]; rfl) ?_
             intro w1 hb1 ho1
             have HE1 := Lib.hid (ho1.below (HE.out.alloc hbs _) hbs (Nat.le_trans hbs (by simp)))
             have HB1 := Lib.hid (ho1.blk (HB.out.alloc _) (by omega))
             have HC8 := Lib.hid hb1
             have hl8 := cm_ld hb1 HCL.out
             clear hb1 ho1)
          | (go_at_call 39; (with_reducible refine (HCK.out _).mono ?_); rintro e w2 ⟨rfl, hB2⟩
             have HE2 := qtr HE1 hB2
             have HB2 := qbl HB1 hB2
             have HC82 := qbl HC8 hB2
             clear hB2)
          | (go_at_call 38; (with_reducible refine (note_3 _ _ _ (by exact HN3.out)).mono ?_); rintro e w4 ⟨rfl, hb4, ho4⟩
             have HE4 := Lib.hid (ho4.below HE3.out (Nat.le_refl _) HE3.out.size)
             have HN4 := Lib.hid hb4
             clear hb4 ho4)
          | (go_at_call 38; (with_reducible refine (note_0 _ _ _ (by exact HB2.out)).mono ?_); rintro e w3 ⟨rfl, hb3, ho3⟩
             have HE3 := Lib.hid (ho3.below HE2.out (Nat.le_refl _) HE2.out.size)
             have HN3 := Lib.hid hb3
             have c83 := ((ho3.blk HC82.out (by omega)).cell 0).trans HC0.out
             clear hb3 ho3))
          go_roundg (n - (i + 1))
          case measure => have := HGK.out; omega
          case rel => exact ⟨i + 1, by omega, rfl, by go_num, by rw [HEN.out]; exact HN3.out, HE3.out⟩
      · have hE1 : ((E : Int) == 0) = false := by rw [beq_eq_false_iff_ne]; omega
        rw [if_neg (fun h => hE h.1)] at HEN
        clear hE
        go_upto_region 8 with (first
        | (refine wpList_store_all rfl 50 (.tmp 8) (.tmp 17) rfl wr.heap.size C (by rfl) (by rfl) 50 Cm.zero.cells (by exact Blk.new' rfl rfl) (by rw [HCL.out]; exact hd76c) HC1.out (by rw [HCL.out]; rfl) ?_
           intro w1 hb1 ho1
           have HE1 := Lib.hid (ho1.below (HE.out.alloc hbs _) hbs (Nat.le_trans hbs (by simp)))
           have HB1 := Lib.hid (ho1.blk (HB.out.alloc _) (by omega))
           have HC8 := Lib.hid hb1
           have hl8 := cm_ld hb1 HCL.out
           clear hb1 ho1)
        | (go_at_call 39; (with_reducible refine (HCK.out _).mono ?_); rintro e w2 ⟨rfl, hB2⟩
           have HE2 := qtr HE1 hB2
           have HB2 := qbl HB1 hB2
           have HC82 := qbl HC8 hB2
           clear hB2)
        | (go_at_call 38; (with_reducible refine (note_3 _ _ _ (by exact HN3.out)).mono ?_); rintro e w4 ⟨rfl, hb4, ho4⟩
           have HE4 := Lib.hid (ho4.below HE3.out (Nat.le_refl _) HE3.out.size)
           have HN4 := Lib.hid hb4
           clear hb4 ho4)
        | (go_at_call 38; (with_reducible refine (note_any _ E _ _ (by exact HB2.out)).mono ?_); rintro e w3 ⟨rfl, hb3, ho3⟩
           have HE3 := Lib.hid (ho3.below HE2.out (Nat.le_refl _) HE2.out.size)
           have HN3 := Lib.hid hb3
           have c83 := ((ho3.blk HC82.out (by omega)).cell 0).trans HC0.out
           clear hb3 ho3))
        repeat (first | go_values | go_skip | go_guarded | go_step | go_upon | go_back)
        go_roundg (n - (i + 1))
        case measure => have := HGK.out; omega
        case rel => exact ⟨i + 1, by omega, rfl, by go_num, by rw [HEN.out]; exact HN3.out, HE3.out⟩
    · obtain rfl : i = n := by omega
      have hlt2 : ¬ (i : Int) < (i : Int) := by omega
      have HB := Lib.hid hb
      have HE := Lib.hid hB
      have hgl := hb.lt
      have c0 := cell1 hb
      clear hb hB
      by_cases hbad : ns < 1 ∨ 5 < ns ∨ ns ≠ i
      · rw [if_pos hbad] at HBE
        rcases (show ns < 1 ∨ (¬ ns < 1 ∧ 5 < ns) ∨ (¬ ns < 1 ∧ ¬ 5 < ns ∧ ns ≠ i) by omega) with h1 | ⟨h1, h2⟩ | ⟨h1, h2, h3⟩
        · have i1 : (ns : Int) < 1 := by omega
          clear hbad h1
          go_wp2_with (go_at_call 38; (with_reducible refine (note_2 _ _ _ (by exact HB.out)).mono ?_); rintro e w4 ⟨rfl, hb4, ho4⟩; have HE4 := Lib.hid (ho4.below HE.out (Nat.le_refl _) HE.out.size); have c4 := cell1 hb4; clear hb4 ho4)
          go_ret
          exact ⟨by rw [HBE.out]; rfl, HE4.out⟩
        · have i1 : ¬ (ns : Int) < 1 := by omega
          have i2 : (5 : Int) < (ns : Int) := by omega
          clear hbad h1 h2
          go_wp2_with (go_at_call 38; (with_reducible refine (note_2 _ _ _ (by exact HB.out)).mono ?_); rintro e w4 ⟨rfl, hb4, ho4⟩; have HE4 := Lib.hid (ho4.below HE.out (Nat.le_refl _) HE.out.size); have c4 := cell1 hb4; clear hb4 ho4)
          go_ret
          exact ⟨by rw [HBE.out]; rfl, HE4.out⟩
        · have i1 : ¬ (ns : Int) < 1 := by omega
          have i2 : ¬ (5 : Int) < (ns : Int) := by omega
          have i3 : ((ns : Int) != (i : Int)) = true := by rw [bne_iff_ne]; omega
          clear hbad h1 h2 h3
          go_wp2_with (go_at_call 38; (with_reducible refine (note_2 _ _ _ (by exact HB.out)).mono ?_); rintro e w4 ⟨rfl, hb4, ho4⟩; have HE4 := Lib.hid (ho4.below HE.out (Nat.le_refl _) HE.out.size); have c4 := cell1 hb4; clear hb4 ho4)
          go_ret
          exact ⟨by rw [HBE.out]; rfl, HE4.out⟩
      · rw [if_neg hbad] at HBE
        have i1 : ¬ (ns : Int) < 1 := by omega
        have i2 : ¬ (5 : Int) < (ns : Int) := by omega
        have i3 : ((ns : Int) != (i : Int)) = false := by rw [bne_eq_false_iff_eq]; omega
        clear hbad
        go_wp2_with fail
        go_ret
        exact ⟨by rw [HBE.out]; rfl, HE.out⟩
end Go.Proofs.YtlbnibmcflmohaaGreat
