/- LexSpells, the walk: a spelling too long. -/
import Derived.Test.YtkpacpkldjfbhaaLexSpellsW
namespace Go.Proofs.Ytkpacpkldjfbhaa.lexSpells
open Go.RowKit

set_option maxRecDepth 100000 in
set_option maxHeartbeats 4000000 in
theorem big (s : ByteArray) (A : Option Addr) (n c : Nat) (l : List GT) (w : World) (X : ByteArray) (HX : Hid (X = bytesOf (gSpell l))) (h : FirstOk w A n l) {us : List Lx.Tok} {m m5 : Nat} (hsc : Lx.scan s.data.toList = ((0, 0), us ++ [⟨6, [], 0, m⟩])) (hg : ∀ t ∈ us, Lx.Good t) (hlen : (us ++ [(⟨6, [], 0, m⟩ : Lx.Tok)]).length = m5) (h8 : m5 ≤ 8001) (hts : ∀ t ∈ (us ++ [(⟨6, [], 0, m⟩ : Lx.Tok)]).map ofTok, t.text.size ≤ 67108864) (Y : ByteArray) (hY : Y = bytesOf (Lx.glue us)) (hb : 8000 < Y.size) :
    Calls Try.prog 9 #[.string s, .slice A n c] w fun e w' => e = .returned (.bool true) ∧ Below w.heap.size w w' := by
  have e0 : decide ((300 : Int) < (n : Int)) = false := by have := h.2.1; simp; omega
  have own0 : Hid (∀ W' : World, (W'.alloc (.cells #[] 54)).ownsRow W'.heap.size 54 4 (.slice (some ⟨W'.heap.size, 0, none⟩) 0 0) 0 []) := fun W' => ⟨rfl, .inr ⟨W'.heap.size, 0, #[], rfl, Nat.le_refl _, heap_alloc_new W' _, Nat.le_refl _, by simp [maxLen], rfl, rfl⟩⟩
  have H1 : Hid (∀ W A1 c1, RdS 4 W A1 n (gtsCells l) → Calls Try.prog 32 #[.slice A1 n c1] W fun e w' => e = .returned (.string X) ∧ Below W.heap.size W w') := fun W A1 c1 hr => HX.out ▸ spell_any A1 n c1 l W hr (by have := h.2.1; omega) h.2.2
  have H2 : Hid (∀ W A1 c1, RdS 4 W A1 n (gtsCells l) → Calls Try.prog 33 #[.slice A1 n c1] W fun e w' => e = .returned (.string X) ∧ Below W.heap.size W w') := fun W A1 c1 hr => HX.out ▸ rspell_any A1 n c1 l W hr (by have := h.2.1; omega) h.2.2
  have HR := Lib.hid h.1
  have hkn := h.2.1
  have hone : Hid (∀ u ∈ gtsCells l, u.oneCell' = true) := gts_one l
  have eX : (X.toList == X.toList) = true := by simp
  have HSC := Lib.hid (fun w => scan_is s w hsc hlen)
  have H5 : Hid (∀ W A1 c1, RdS 4 W A1 m5 (toksCells (us ++ [⟨6, [], 0, m⟩])) → Calls Try.prog 32 #[.slice A1 m5 c1] W fun e w' => e = .returned (.string Y) ∧ Below W.heap.size W w') := fun W A1 c1 hr => by
    have := spell_any A1 m5 c1 ((us ++ [(⟨6, [], 0, m⟩ : Lx.Tok)]).map ofTok) W (by rw [← toks_gts]; exact hr) (by omega) hts
    rw [spell_toks hg, ← hY] at this
    exact this
  have hYl : Y.data.toList = Lx.glue us := by rw [hY]; rfl
  have eY : (Y.toList == Y.toList) = true := by simp
  have hsc2 : Lx.scan Y.data.toList = ((2, 0), []) := by
    unfold Lx.scan; rw [if_pos (by have : Y.data.toList.length = Y.size := by simp
                                   omega)]
  have HS2 := Lib.hid (fun w => scan_is Y w hsc2 (n := 0) rfl)
  have e8 : decide ((8000 : Int) < (Y.size : Int)) = true := by simp; omega
  clear h hsc hsc2 hY hYl hg hlen hts hb
  go_enter Try.func9, Try.ntmps9
  go_wp2_with (first
    | (go_at_call 20; refine (awake21 _).mono ?_; rintro e w1 ⟨rfl, hB1⟩; have HR1 := Lib.hid (HR.out.below hB1))
    | (at_builtin; refine wpList_app rfl (.tmp 16) (.tmp 17) _ rfl w1.heap.size 54 4 40 Try.underlying46 eTok (.slice (some ⟨w1.heap.size, 0, none⟩) 0 0) 0 [] (by rfl) (own0.out _) A n c (gtsCells l) (by rfl) (by exact HR1.out.alloc _) hone.out (by omega) (by omega) (by simp) ?_
       intro A2 c2 w2 hown2 hc2 hg2 hat2
       have hB2 : Below w1.heap.size w1 w2 := ((Below.refl _ _).alloc (Nat.le_refl _) _).grown hg2 (by simp) (by intro k hk; simp [Value.ownBlock] at hk; omega)
       rw [Nat.zero_add, List.nil_append] at hown2
       rw [Nat.zero_add]
       have HO2 := Lib.hid (RdS.of_own hown2)
       have HR2 := Lib.hid (HR1.out.below hB2)
       clear hown2 hc2 hg2 hat2)
    | (go_at_call 33; (with_reducible refine (H2.out _ _ _ (by exact HR3.out)).mono ?_); rintro e w4 ⟨rfl, hB4⟩
       have HB4 := Lib.hid (((hB1.trans (hB2.mono hB1.size)).trans (hB3.mono (Nat.le_trans hB1.size hB2.size))).trans (hB4.mono (Nat.le_trans (Nat.le_trans hB1.size hB2.size) hB3.size))))
    | (go_at_call 32; first
       | ((with_reducible refine (H1.out _ _ _ (by exact HO2.out)).mono ?_); rintro e w3 ⟨rfl, hB3⟩; have HR3 := Lib.hid (HR2.out.below hB3); clear HO2)
       | ((with_reducible refine (H5.out _ _ _ (by exact HO5.out)).mono ?_); rintro e w6 ⟨rfl, hB6⟩; have HO6 := Lib.hid (HO5.out.below hB6); have HF6 := Lib.hid (HF5.out.below hB6 HF5.out.lt); clear HO5)
       | ((with_reducible refine (H7.out _ _ _ (by exact HO9.out)).mono ?_); rintro e w10 ⟨rfl, hB10⟩))
    | (go_at_call 21; first
       | ((with_reducible refine (HSC.out _).mono ?_); rintro e w5 ⟨A5, c5, rfl, hc5, hown5, hB5⟩
          have HO5 := Lib.hid ((RdS.of_own hown5).alloc (.cells #[.int .i64 0, .int .i64 0] 48))
          have HF5 : Hid (Blk (w5.alloc (.cells #[.int .i64 0, .int .i64 0] 48)) w5.heap.size 48 [.int .i64 0, .int .i64 0]) := Blk.new w5 _ _
          clear hown5 hc5)
       | ((with_reducible refine (HS2.out _).mono ?_); rintro e w7 ⟨A7, c7, rfl, hc7, hown7, hB7⟩
          have HF7 := Lib.hid (HF6.out.below hB7 HF6.out.lt)
          obtain ⟨g0, g1, f0, f1⟩ := HF7.out.two
          have HO7 := Lib.hid hown7
          have HO7' := Lib.hid (HO6.out.below hB7)
          clear hown7)))
  go_ret
  have h5 := HB4.out.trans (hB5.mono HB4.out.size)
  have h6 := (h5.alloc h5.size _).trans (hB6.mono (Nat.le_trans h5.size (by simp)))
  have h7 := h6.trans (hB7.mono h6.size)
  exact ⟨by simp, (h7.setCell h5.size _).setCell h5.size _⟩
set_option maxRecDepth 100000 in
set_option maxHeartbeats 4000000 in
theorem big_cut (s : ByteArray) (A : Option Addr) (n c : Nat) (l : List GT) (w : World) (X : ByteArray) (HX : Hid (X = bytesOf (gSpell l))) (h : FirstOk w A 300 l) (hc : 300 < n) (hnc : n ≤ c) (hn : n ≤ 140737488355328) (hA : ∃ b off, A = some ⟨b, off, none⟩) {us : List Lx.Tok} {m m5 : Nat} (hsc : Lx.scan s.data.toList = ((0, 0), us ++ [⟨6, [], 0, m⟩])) (hg : ∀ t ∈ us, Lx.Good t) (hlen : (us ++ [(⟨6, [], 0, m⟩ : Lx.Tok)]).length = m5) (h8 : m5 ≤ 8001) (hts : ∀ t ∈ (us ++ [(⟨6, [], 0, m⟩ : Lx.Tok)]).map ofTok, t.text.size ≤ 67108864) (Y : ByteArray) (hY : Y = bytesOf (Lx.glue us)) (hb : 8000 < Y.size) :
    Calls Try.prog 9 #[.string s, .slice A n c] w fun e w' => e = .returned (.bool true) ∧ Below w.heap.size w w' := by
  have e0 : decide ((300 : Int) < (n : Int)) = true := by simp; omega
  obtain ⟨b0, o0, rfl⟩ := hA
  have c0 : (300 : Int) ≤ (c : Int) := by omega
  have own0 : Hid (∀ W' : World, (W'.alloc (.cells #[] 54)).ownsRow W'.heap.size 54 4 (.slice (some ⟨W'.heap.size, 0, none⟩) 0 0) 0 []) := fun W' => ⟨rfl, .inr ⟨W'.heap.size, 0, #[], rfl, Nat.le_refl _, heap_alloc_new W' _, Nat.le_refl _, by simp [maxLen], rfl, rfl⟩⟩
  have H1 : Hid (∀ W A1 c1, RdS 4 W A1 300 (gtsCells l) → Calls Try.prog 32 #[.slice A1 300 c1] W fun e w' => e = .returned (.string X) ∧ Below W.heap.size W w') := fun W A1 c1 hr => HX.out ▸ spell_any A1 300 c1 l W hr (by have := h.2.1; omega) h.2.2
  have H2 : Hid (∀ W A1 c1, RdS 4 W A1 300 (gtsCells l) → Calls Try.prog 33 #[.slice A1 300 c1] W fun e w' => e = .returned (.string X) ∧ Below W.heap.size W w') := fun W A1 c1 hr => HX.out ▸ rspell_any A1 300 c1 l W hr (by have := h.2.1; omega) h.2.2
  have HR := Lib.hid h.1
  have hkn := h.2.1
  have hone : Hid (∀ u ∈ gtsCells l, u.oneCell' = true) := gts_one l
  have eX : (X.toList == X.toList) = true := by simp
  have HSC := Lib.hid (fun w => scan_is s w hsc hlen)
  have H5 : Hid (∀ W A1 c1, RdS 4 W A1 m5 (toksCells (us ++ [⟨6, [], 0, m⟩])) → Calls Try.prog 32 #[.slice A1 m5 c1] W fun e w' => e = .returned (.string Y) ∧ Below W.heap.size W w') := fun W A1 c1 hr => by
    have := spell_any A1 m5 c1 ((us ++ [(⟨6, [], 0, m⟩ : Lx.Tok)]).map ofTok) W (by rw [← toks_gts]; exact hr) (by omega) hts
    rw [spell_toks hg, ← hY] at this
    exact this
  have hYl : Y.data.toList = Lx.glue us := by rw [hY]; rfl
  have eY : (Y.toList == Y.toList) = true := by simp
  have hsc2 : Lx.scan Y.data.toList = ((2, 0), []) := by
    unfold Lx.scan; rw [if_pos (by have : Y.data.toList.length = Y.size := by simp
                                   omega)]
  have HS2 := Lib.hid (fun w => scan_is Y w hsc2 (n := 0) rfl)
  have e8 : decide ((8000 : Int) < (Y.size : Int)) = true := by simp; omega
  clear h hsc hsc2 hY hYl hg hlen hts hb
  go_enter Try.func9, Try.ntmps9
  go_wp2_with (first
    | (go_at_call 20; refine (awake21 _).mono ?_; rintro e w1 ⟨rfl, hB1⟩; have HR1 := Lib.hid (HR.out.below hB1))
    | (at_builtin; refine wpList_app rfl (.tmp 16) (.tmp 17) _ rfl w1.heap.size 54 4 40 Try.underlying46 eTok (.slice (some ⟨w1.heap.size, 0, none⟩) 0 0) 0 [] (by rfl) (own0.out _) (some ⟨b0, o0, none⟩) 300 c (gtsCells l) (by rfl) (by exact HR1.out.alloc _) hone.out (by omega) (by omega) (by simp) ?_
       intro A2 c2 w2 hown2 hc2 hg2 hat2
       have hB2 : Below w1.heap.size w1 w2 := ((Below.refl _ _).alloc (Nat.le_refl _) _).grown hg2 (by simp) (by intro k hk; simp [Value.ownBlock] at hk; omega)
       rw [Nat.zero_add, List.nil_append] at hown2
       rw [Nat.zero_add]
       have HO2 := Lib.hid (RdS.of_own hown2)
       have HR2 := Lib.hid (HR1.out.below hB2)
       clear hown2 hc2 hg2 hat2)
    | (go_at_call 33; (with_reducible refine (H2.out _ _ _ (by exact HR3.out)).mono ?_); rintro e w4 ⟨rfl, hB4⟩
       have HB4 := Lib.hid (((hB1.trans (hB2.mono hB1.size)).trans (hB3.mono (Nat.le_trans hB1.size hB2.size))).trans (hB4.mono (Nat.le_trans (Nat.le_trans hB1.size hB2.size) hB3.size))))
    | (go_at_call 32; first
       | ((with_reducible refine (H1.out _ _ _ (by exact HO2.out)).mono ?_); rintro e w3 ⟨rfl, hB3⟩; have HR3 := Lib.hid (HR2.out.below hB3); clear HO2)
       | ((with_reducible refine (H5.out _ _ _ (by exact HO5.out)).mono ?_); rintro e w6 ⟨rfl, hB6⟩; have HO6 := Lib.hid (HO5.out.below hB6); have HF6 := Lib.hid (HF5.out.below hB6 HF5.out.lt); clear HO5)
       | ((with_reducible refine (H7.out _ _ _ (by exact HO9.out)).mono ?_); rintro e w10 ⟨rfl, hB10⟩))
    | (go_at_call 21; first
       | ((with_reducible refine (HSC.out _).mono ?_); rintro e w5 ⟨A5, c5, rfl, hc5, hown5, hB5⟩
          have HO5 := Lib.hid ((RdS.of_own hown5).alloc (.cells #[.int .i64 0, .int .i64 0] 48))
          have HF5 : Hid (Blk (w5.alloc (.cells #[.int .i64 0, .int .i64 0] 48)) w5.heap.size 48 [.int .i64 0, .int .i64 0]) := Blk.new w5 _ _
          clear hown5 hc5)
       | ((with_reducible refine (HS2.out _).mono ?_); rintro e w7 ⟨A7, c7, rfl, hc7, hown7, hB7⟩
          have HF7 := Lib.hid (HF6.out.below hB7 HF6.out.lt)
          obtain ⟨g0, g1, f0, f1⟩ := HF7.out.two
          have HO7 := Lib.hid hown7
          have HO7' := Lib.hid (HO6.out.below hB7)
          clear hown7)))
  go_ret
  have h5 := HB4.out.trans (hB5.mono HB4.out.size)
  have h6 := (h5.alloc h5.size _).trans (hB6.mono (Nat.le_trans h5.size (by simp)))
  have h7 := h6.trans (hB7.mono h6.size)
  exact ⟨by simp, (h7.setCell h5.size _).setCell h5.size _⟩
end Go.Proofs.Ytkpacpkldjfbhaa.lexSpells
