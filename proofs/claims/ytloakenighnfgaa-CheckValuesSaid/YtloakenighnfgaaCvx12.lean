/- Part of the proof: LexA, LexC. -/
import Derived.Test.YtloakenighnfgaaCvx11
set_option linter.unusedVariables false
namespace Go.Proofs.Ytloakenighnfgaa
open Go.RowKit
theorem res_tmp_cell {P : Program} {w : World} {fn : Func} {p u : Tmp} {ty : TypeId} (h : fn.results = #[.tmp u, .cell p ty]) (tmps : Array Value) (g : Nat) (t : TypeId) (cs : List Value) (hp : tmps.getD p undef = .pointer (some ⟨g, 0, none⟩))
    (hB : Blk w g t cs) (d : TypeDesc) (hu : P.underlying ty = some d) (hd : d.isRow = true) (hi : (P.info? ty).map (·.size) = some cs.length) :
    (results fn tmps).run P w = .ok (.tuple #[tmps.getD u undef, .agg cs.toArray]) w := by
  have hp' : tmps[p]?.getD undef = .pointer (some ⟨g, 0, none⟩) := by rw [← hp]; simp
  simp [results, h, hp', asAddr, run_loadVar_mid w g 0 ty cs d hB.range hu hd hi]
def faultV (p : Nat × Nat) : List Value := [.int .i64 p.1, .int .i64 p.2]
def ScanPost (w : World) (r : (Nat × Nat) × List Lx.Tok) (e : Ending) (w' : World) : Prop :=
  ∃ A c, e = .returned (.tuple #[.slice A r.2.length c, .agg (faultV r.1).toArray]) ∧ r.2.length ≤ c ∧ w'.ownsRow w.heap.size 129 4 (.slice A r.2.length c) r.2.length (toksCells r.2) ∧ Below w.heap.size w w'
theorem hd48 : (Try.prog.info? 42).map (·.size) = some 2 := by kernel_rfl
set_option maxHeartbeats 4000000 in
theorem scan_big (s : ByteArray) (w : World) (hs : 8000 < s.size) : Calls Try.prog 44 #[.string s] w (ScanPost w (Lx.scan s.data.toList)) := by
  have hsc : Lx.scan s.data.toList = ((2, 0), []) := by unfold Lx.scan; rw [if_pos (by simpa using hs)]
  rw [hsc]
  have e1 : decide ((8000 : Int) < (s.size : Int)) = true := by simp; omega
  go_enter Try.func44, Try.ntmps44
  go_wp2_with fail
  exact bodyPost_ret (res_tmp_cell rfl _ w.heap.size 42 [.int .i64 2, .int .i64 0] rfl (Blk.new w _ _) _ Try.underlying42 rfl hd48) rfl
    ⟨none, 0, rfl, Nat.le_refl _, World.ownsRow_nil _ _ _ _, (Below.refl _ _).alloc (Nat.le_refl _) _⟩
structure Mid (w : World) (s : ByteArray) (R : Sum (List UInt8) (List Lx.Tok)) (j : Nat) (ts : List Lx.Tok) (wr : World) : Prop where
  st : St wr (w.heap.size + 1) (w.heap.size + 1) s j ts
  ft : Blk wr w.heap.size 42 [.int .i64 0, .int .i64 0]
  bel : Below w.heap.size w wr
  le : j ≤ s.size
  few : ts.length ≤ j
  sk : Lx.skip false (s.data.toList.drop j) = s.data.toList.drop j
  res : R = Lx.scanF s.size (s.size - j + 1) (s.data.toList.drop j) ts
theorem mid_bad {w wr : World} {s : ByteArray} {R : Sum (List UInt8) (List Lx.Tok)} {j : Nat} {ts : List Lx.Tok} (h : Mid w s R j ts wr) (hj : j < s.size) {x : List UInt8} (ht : Lx.token (s.data.toList.drop j) = .inl x) : R = .inl x := by
  have hx := str_at s j hj
  have hc := drop_cons hx
  have h1 := h.res
  have hs := h.sk
  rw [hc] at h1 hs ht
  rw [Lx.scan_step _ _ _ _ _ hs, ht] at h1
  exact h1
theorem mid_end {w wr : World} {s : ByteArray} {R : Sum (List UInt8) (List Lx.Tok)} {j : Nat} {ts : List Lx.Tok} (h : Mid w s R j ts wr) (hj : s.size ≤ j) : R = .inr (ts ++ [⟨6, [], 0, s.size⟩]) := by
  have h1 := h.res
  rw [List.drop_eq_nil_of_le (by simpa using hj), Lx.scan_end] at h1
  exact h1
theorem mid_next {w wr : World} {s : ByteArray} {R : Sum (List UInt8) (List Lx.Tok)} {j : Nat} {ts : List Lx.Tok} (h : Mid w s R j ts wr) (hj : j < s.size) {k m : Nat} {t x : List UInt8} (ht : Lx.token (s.data.toList.drop j) = .inr (k, t, m, x))
    (i' : Nat) (hi : i' ≤ s.size) (hx : x = s.data.toList.drop i') (j' : Nat) (hj' : j' ≤ s.size) (hd : s.data.toList.drop j' = Lx.skip false (s.data.toList.drop i')) :
    j < i' ∧ R = Lx.scanF s.size (s.size - j' + 1) (s.data.toList.drop j') (ts ++ [⟨k, t, m, j⟩]) := by
  have hxx := str_at s j hj
  have hc := drop_cons hxx
  have h1 := h.res
  have hs := h.sk
  have hlen : x.length < (s.data.toList.drop j).length := by
    rw [hc] at ht ⊢
    exact Lx.token_len ht
  have hlj : (s.data.toList.drop j).length = s.size - j := by simp
  have hli : x.length = s.size - i' := by rw [hx]; simp
  have hlt : j < i' := by omega
  refine ⟨hlt, ?_⟩
  rw [hc] at h1 hs ht
  rw [Lx.scan_step _ _ _ _ _ hs, ht] at h1
  simp only [] at h1
  rw [← hc, hlj, show s.size - (s.size - j) = j from by omega] at h1
  rw [h1, hx]
  have hf : (s.data.toList.drop i').length < s.size - j := by rw [← hx]; omega
  obtain ⟨f, hfe⟩ : ∃ f, s.size - j = f + 1 := ⟨s.size - j - 1, by omega⟩
  rw [hfe, Lx.scan_skip, ← hd]
  have hl2 : (s.data.toList.drop j').length ≤ (s.data.toList.drop i').length := by rw [hd]; exact Lx.skip_len _ _
  exact Lx.scan_fuel _ _ _ _ (by omega) _ (by simp)
theorem scan_inl {s : ByteArray} (hs : s.size ≤ 8000) {x : List UInt8} (h : Lx.scanF s.size (s.size + 1) s.data.toList [] = .inl x) : Lx.scan s.data.toList = ((9, s.size - x.length), []) := by
  have e : s.data.toList.length = s.size := by simp
  unfold Lx.scan
  rw [if_neg (by omega), e, h]
theorem scan_inr {s : ByteArray} (hs : s.size ≤ 8000) {ts : List Lx.Tok} (h : Lx.scanF s.size (s.size + 1) s.data.toList [] = .inr ts) : Lx.scan s.data.toList = ((0, 0), ts) := by
  have e : s.data.toList.length = s.size := by simp
  unfold Lx.scan
  rw [if_neg (by omega), e, h]
theorem St.of_skip {w w' : World} {B g : Nat} {s : ByteArray} {i j : Nat} {ts : List Lx.Tok} {lv : Value} (h : St w B g s i ts) (hl : w.cell? ⟨g, 2, none⟩ = some lv) (hb : Blk w' g 151 (scn s j lv)) (ho : Only w w' g) : St w' B g s j ts := by
  obtain ⟨⟨A, c, h1, h2⟩, hle⟩ := h
  rw [scn2 h1] at hl
  injection hl with hl
  subst hl
  exact ⟨⟨A, c, hb, h2.kept ho.grown (.inr (own_blk_ne h2 h1 (by decide)))⟩, hle⟩
theorem suffix_at {s : ByteArray} {j : Nat} {k m : Nat} {t x : List UInt8} (ht : Lx.token (s.data.toList.drop j) = .inr (k, t, m, x)) : x = s.data.toList.drop (s.size - x.length) := by
  obtain ⟨q, hq⟩ := Lx.token_suffix ht
  rw [List.drop_drop] at hq
  have hl : x.length = s.size - (j + q) := by rw [hq]; simp
  rcases Nat.lt_or_ge (j + q) s.size with h | h
  · rw [show s.size - x.length = j + q from by omega]
    exact hq
  · rw [List.drop_eq_nil_of_le (by simpa using h)] at hq
    subst hq
    rw [List.drop_eq_nil_of_le (by simp)]
theorem skip_st (B g : Nat) (s : ByteArray) (i : Nat) (ts : List Lx.Tok) (w : World) (h : St w B g s i ts) (hi : i ≤ s.size) (hs : s.size ≤ 8000) :
    Calls Try.prog 69 #[.pointer (some ⟨g, 0, none⟩)] w fun e w' =>
      e = .returned (.tuple #[]) ∧ ∃ j, i ≤ j ∧ j ≤ s.size ∧ s.data.toList.drop j = Lx.skip false (s.data.toList.drop i) ∧ St w' B g s j ts ∧ Only w w' g := by
  obtain ⟨⟨A3, c3, hb3, hown3⟩, hle3⟩ := id h
  refine (skip_any g s i _ _ hb3 hi hs).mono ?_
  rintro e w3 ⟨rfl, j', hj0', hj', hb4, ho4, hd4⟩
  exact ⟨rfl, j', hj0', hj', hd4, h.of_skip (scn2 hb3) hb4 ho4, ho4⟩
set_option maxHeartbeats 4000000 in
theorem scan_small (s : ByteArray) (w : World) (hs : s.size ≤ 8000) : Calls Try.prog 44 #[.string s] w (ScanPost w (Lx.scan s.data.toList)) := by
  obtain ⟨R, hR⟩ : ∃ R, R = Lx.scanF s.size (s.size + 1) s.data.toList [] := ⟨_, rfl⟩
  have HR := Lib.hid hR
  clear hR
  have e1 : decide ((8000 : Int) < (s.size : Int)) = false := by simp; omega
  have hb0 : Blk ((w.alloc (.cells #[.int .i64 0, .int .i64 0] 42)).alloc (.cells #[.string s, .int .i64 0, .slice none 0 0] 151)) (w.heap.size + 1) 151 (scn s 0 (.slice none 0 0)) := Blk.new' (by simp) rfl
  go_enter Try.func44, Try.ntmps44
  go_wp2_with (go_at_call 69; refine (skip_any (w.heap.size + 1) s 0 (.slice none 0 0) _ hb0 (Nat.zero_le _) hs).mono ?_; rintro e w1 ⟨rfl, j, hj0, hj, hb1, ho1, hd1⟩)
  rw [List.drop_zero] at hd1
  have hM : Mid w s R j [] w1 := by
    refine ⟨⟨⟨none, 0, hb1, World.ownsRow_nil _ _ _ _⟩, Nat.le_refl _⟩, ho1.blk ((Blk.new' rfl rfl).alloc _) (by omega), ho1.below (((Below.refl _ _).alloc (Nat.le_refl _) _).alloc (by simp) _) (by omega) (by simp; omega), hj, Nat.zero_le _, by rw [hd1, Lx.skip_skip], ?_⟩
    rw [HR.out, Lx.scan_skip, ← hd1]
    exact Lx.scan_fuel _ _ _ _ (by simp; omega) _ (by simp)
  have HM := Lib.hid hM
  clear hM hb1 ho1 hd1 hb0
  go_loopg [5] (s.size - j) (fun k _ wr => ∃ (j : Nat) (ts : List Lx.Tok), k = s.size - j ∧ Mid w s R j ts wr)
  case atStart => exact ⟨j, [], rfl, HM.out⟩
  case round =>
    clear HM hj hj0
    obtain ⟨j, ts, hgk, hM⟩ := hrel
    have HGK := Lib.hid hgk
    have HM := Lib.hid hM
    have c1 := hM.st.c1
    have HC1 := Lib.hid c1
    have hle := hM.le
    have hfew := hM.few
    clear hgk
    by_cases hlt : j < s.size
    · have i1 : (j : Int) < (s.size : Int) := by omega
      have htok := token_any (w.heap.size + 1) (w.heap.size + 1) s j ts wr hM.st (by omega) hlt hs _ rfl
      cases ht : Lx.token (s.data.toList.drop j) with
      | inl x =>
        rw [ht] at htok
        have HTOK := Lib.hid htok
        have HB := Lib.hid (mid_bad hM hlt ht)
        have ft := hM.ft
        clear htok ht hM
        generalize hX : s.size - x.length = X at *
        have HFT := Lib.hid ft
        have HBEL := Lib.hid HM.out.bel
        have hX8 : X ≤ 8000 := by omega
        clear HM c1 ft
        have hcc : ∀ w2, Blk w2 w.heap.size 42 [.int .i64 0, .int .i64 0] → w2.cell? ⟨w.heap.size, 0, none⟩ = some (.int .i64 0) ∧ w2.cell? ⟨w.heap.size, 1, none⟩ = some (.int .i64 0) := fun w2 hb => ⟨by rw [hb.cell]; rfl, by rw [hb.cell]; rfl⟩
        have HCC := Lib.hid hcc
        clear hcc
        have c1 := HC1.out
        go_wp2_with (go_at_call 70; refine HTOK.out.mono ?_; rintro e w2 ⟨rfl, hB2⟩
                     have hf2 : Blk w2 w.heap.size 42 [.int .i64 0, .int .i64 0] := HFT.out.below hB2 (by omega)
                     obtain ⟨d0, d1⟩ := HCC.out _ hf2
                     have f0 := hf2.frozen 0
                     have f1 := hf2.frozen 1)
        have hsc := scan_inl hs (HR.out.symm.trans HB.out)
        rw [hX] at hsc
        have hB3 : Below w.heap.size w w2 := HBEL.out.trans (hB2.mono (by omega))
        have hb3 := (hf2.set_ 0 (.int .i64 9)).set_ 1 (.int .i64 X)
        refine bodyPost_ret (res_tmp_cell rfl _ w.heap.size 42 [.int .i64 9, .int .i64 X] rfl hb3 _ Try.underlying42 rfl hd48) rfl ?_
        rw [hsc]
        exact ⟨none, 0, rfl, Nat.le_refl _, World.ownsRow_nil _ _ _ _, (hB3.setCell (Nat.le_refl _) _).setCell (Nat.le_refl _) _⟩
      | inr p =>
        obtain ⟨k, t, m, x⟩ := p
        rw [ht] at htok
        have HTOK := Lib.hid htok
        have hsuf := suffix_at ht
        have hxl : s.size - x.length ≤ s.size := by omega
        have HT := Lib.hid ht
        have HSUF := Lib.hid hsuf
        clear htok ht hM hsuf
        obtain ⟨X, hX⟩ : ∃ X, X = s.size - x.length := ⟨_, rfl⟩
        rw [← hX] at hxl
        have HX := Lib.hid hX
        clear hX
        have HSK := Lib.hid (fun w2 (h : St w2 (w.heap.size + 1) (w.heap.size + 1) s X (ts ++ [⟨k, t, m, j⟩])) => skip_st (w.heap.size + 1) (w.heap.size + 1) s X _ w2 h hxl hs)
        go_wp2_with (first
          | (go_at_call 70; refine HTOK.out.mono ?_; rintro e w2 ⟨rfl, h2, hB2⟩; have H2 := Lib.hid (by rw [HX.out]; exact h2 : St w2 (w.heap.size + 1) (w.heap.size + 1) s X (ts ++ [⟨k, t, m, j⟩])); clear h2)
          | (go_at_call 69
             refine (HSK.out _ H2.out).mono ?_
             rintro e w3 ⟨rfl, j', hj0', hj', hd4, h4, ho4⟩))
        have h2 := H2.out
        obtain ⟨hlt2, hres⟩ := mid_next HM.out hlt HT.out X hxl (by rw [HX.out]; exact HSUF.out) j' hj' hd4
        have hB4 : Below (w.heap.size + 1) wr w3 := ho4.below hB2 (Nat.le_refl _) (Nat.le_of_lt h2.lt)
        have hM' : Mid w s R j' (ts ++ [⟨k, t, m, j⟩]) w3 :=
          ⟨h4, HM.out.ft.below hB4 (by omega), HM.out.bel.trans (hB4.mono (by omega)), hj', by rw [List.length_append]; simp; omega, by rw [hd4, Lx.skip_skip], hres⟩
        go_roundg (s.size - j')
        case measure => have := HGK.out; omega
        case rel => exact ⟨j', _, rfl, hM'⟩
    · have hge : s.size ≤ j := by omega
      have HE := Lib.hid (mid_end hM hge)
      have hje : j = s.size := by omega
      subst hje
      have hadd := add_any (w.heap.size + 1) (w.heap.size + 1) s s.size s.size ts 6 [] 0 wr hM.st (by omega)
      have HADD := Lib.hid hadd
      clear hadd hM
      go_wp2_with (go_at_call 71; refine HADD.out.mono ?_; rintro e w2 ⟨rfl, h2, hB2⟩
                   obtain ⟨⟨A3, c3, hb3, hown3⟩, hle3⟩ := id h2
                   have c2 := scn2 hb3
                   have hf2 : Blk w2 w.heap.size 42 [.int .i64 0, .int .i64 0] := HM.out.ft.below hB2 (by omega)
                   have d0 : w2.cell? ⟨w.heap.size, 0, none⟩ = some (.int .i64 0) := by rw [hf2.cell]; rfl
                   have d1 : w2.cell? ⟨w.heap.size, 1, none⟩ = some (.int .i64 0) := by rw [hf2.cell]; rfl
                   have f0 := hf2.frozen 0
                   have f1 := hf2.frozen 1)
      have hsc := scan_inr hs (HR.out.symm.trans HE.out)
      refine bodyPost_ret (res_tmp_cell rfl _ w.heap.size 42 [.int .i64 0, .int .i64 0] rfl ((hf2.set_ 0 _).set_ 1 _) _ Try.underlying42 rfl hd48) rfl ?_
      rw [hsc]
      have hlen : (ts ++ [(⟨6, [], 0, s.size⟩ : Lx.Tok)]).length = ts.length + 1 := by simp
      have ho : Only w2 ((w2.setCell ⟨w.heap.size, 0, none⟩ (.int .i64 0)).setCell ⟨w.heap.size, 1, none⟩ (.int .i64 0)) w.heap.size := ((Only.refl w2 w.heap.size).setCell 0 _).setCell 1 _
      have hown4 := own_mono (hown3.kept ho.grown (.inr (own_blk_ne hown3 hf2 (by decide)))) (Nat.le_succ w.heap.size)
      refine ⟨A3, c3, by simp only [hlen]; rfl, ?_, hown4, ?_⟩
      · obtain ⟨A', c', e', hc'⟩ := own_form hown4
        injection e' with _ _ e'
        subst e'
        exact hc'
      · exact ho.below (HM.out.bel.trans (hB2.mono (by omega))) (Nat.le_refl _) (Nat.le_of_lt hf2.lt)
theorem scan_any (s : ByteArray) (w : World) : Calls Try.prog 44 #[.string s] w (ScanPost w (Lx.scan s.data.toList)) := by
  by_cases h : s.size ≤ 8000
  · exact scan_small s w h
  · exact scan_big s w (by omega)
end Go.Proofs.Ytloakenighnfgaa
namespace Go.Proofs.Ytloakenighnfgaa
open Go.RowKit
theorem RdS.of_own {w : World} {base n c sz : Nat} {e : TypeId} {A : Option Addr} {xs : List Value} (h : w.ownsRow base e sz (.slice A n c) n xs) : RdS sz w A n xs := by
  refine ⟨h.1, fun hn => ?_⟩
  rcases h.2 with ⟨_, h0⟩ | ⟨g, cap, cur, hv, _, hg, hnc, _, hcs, htake⟩
  · omega
  · injection hv with hA
    subst hA
    refine ⟨g, 0, rfl, (Array.getElem?_eq_some_iff.1 hg).1, fun j u hu => ?_⟩
    rw [cell_of_row w g (0 + j) cur e (0, 0) hg, Nat.zero_add]
    rw [← htake, List.getElem?_take] at hu
    split at hu
    · simpa using hu
    · cases hu
theorem scan_is (s : ByteArray) (w : World) {p q n : Nat} {ts : List Lx.Tok} (h : Lx.scan s.data.toList = ((p, q), ts)) (hn : ts.length = n) :
    Calls Try.prog 44 #[.string s] w fun e w' => ∃ A c, e = .returned (.tuple #[.slice A n c, .agg #[.int .i64 p, .int .i64 q]]) ∧ n ≤ c ∧ w'.ownsRow w.heap.size 129 4 (.slice A n c) n (toksCells ts) ∧ Below w.heap.size w w' := by
  subst hn
  have := scan_any s w
  rw [h] at this
  exact this
theorem toks_get {l : List Lx.Tok} {i : Nat} {t : Lx.Tok} (h : l[i]? = some t) : (toksCells l)[i * 4 + 0]? = some (.int .i64 t.kind) ∧ (toksCells l)[i * 4 + 1]? = some (.string (bytesOf t.text)) ∧ (toksCells l)[i * 4 + 2]? = some (.int .i64 t.num) ∧ (toksCells l)[i * 4 + 3]? = some (.int .i64 t.at_) := by
  induction l generalizing i with
  | nil => simp at h
  | cons x l ih =>
    have hc : toksCells (x :: l) = tokCells x ++ toksCells l := by simp [toksCells]
    cases i with
    | zero =>
      simp at h
      subst h
      rw [hc]
      exact ⟨rfl, rfl, rfl, rfl⟩
    | succ i =>
      have := ih (i := i) (by simpa using h)
      rw [hc]
      have hl : (tokCells x).length = 4 := rfl
      have e : ∀ k, (tokCells x ++ toksCells l)[(i + 1) * 4 + k]? = (toksCells l)[i * 4 + k]? := fun k => by
        rw [List.getElem?_append_right (by rw [hl]; omega), hl]
        congr 1
        omega
      rw [e, e, e, e]
      exact this
end Go.Proofs.Ytloakenighnfgaa
