/- Part of the proof: Lex4, Lex5. -/
import Derived.Deep.RegionLaw
import Derived.Test.YtafjkbbiaopemaaGreatDoorTox04
set_option linter.unusedVariables false
namespace Go.Proofs.YtafjkbbiaopemaaGreatDoor
open Go.RowKit
def bytesOf (l : List UInt8) : ByteArray := ⟨l.toArray⟩
def tokCells (t : Lx.Tok) : List Value := [.int .i64 t.kind, .string (bytesOf t.text), .int .i64 t.num, .int .i64 t.at_]
def toksCells (l : List Lx.Tok) : List Value := l.flatMap tokCells
theorem toksCells_snoc (l : List Lx.Tok) (t : Lx.Tok) : toksCells (l ++ [t]) = toksCells l ++ tokCells t := by simp [toksCells]
theorem eTok : ElemIs Tryz.prog 72 4 40 := ElemIs.of (z := .agg #[.int .i64 0, .string ByteArray.empty, .int .i64 0, .int .i64 0]) (by kernel_rfl) rfl (by omega)
theorem own_blk_ne {w : World} {base g : Nat} {e t : TypeId} {size n : Nat} {v : Value} {xs cs : List Value} (h : w.ownsRow base e size v n xs) (hg : Blk w g t cs) (hne : e ≠ t) : v.ownBlock ≠ some g := by
  rcases h.2 with ⟨rfl, _⟩ | ⟨g', cap, cur, rfl, _, hh, _⟩
  · simp [Value.ownBlock]
  · intro he
    have : g' = g := by simpa [Value.ownBlock] using he
    subst this
    unfold Blk at hg
    rw [hh] at hg
    injection hg with hg
    injection hg with _ ht
    exact hne ht
structure St (w : World) (B g : Nat) (s : ByteArray) (i : Nat) (ts : List Lx.Tok) : Prop where
  ex : ∃ A c, Blk w g 125 (scn s i (.slice A ts.length c)) ∧ w.ownsRow B 72 4 (.slice A ts.length c) ts.length (toksCells ts)
  le : B ≤ g
set_option maxHeartbeats 2000000 in
theorem add_any (B g : Nat) (s : ByteArray) (i j : Nat) (ts : List Lx.Tok) (k : Nat) (t : List UInt8) (m : Nat) (w : World) (h : St w B g s i ts) (hn : ts.length ≤ 100000) :
    Calls Tryz.prog 80 #[.pointer (some ⟨g, 0, none⟩), .int .i64 k, .string (bytesOf t), .int .i64 m, .int .i64 j] w fun e w' =>
      e = .returned (.tuple #[]) ∧ St w' B g s j (ts ++ [⟨k, t, m, i⟩]) ∧ Below B w w' := by
  obtain ⟨⟨A, c, hb, hown⟩, hBg⟩ := h
  generalize hN : ts.length = n at *
  have HN := Lib.hid hN
  clear hN
  have hne := own_blk_ne hown hb (by decide)
  have HNE := Lib.hid hne
  clear hne
  have c1 := (scn1 hb)
  have c2 := (scn2 hb)
  have hgs := hb.lt
  generalize hT : bytesOf t = T at *
  have HT := Lib.hid hT
  clear hT
  go_enter Tryz.func80, Tryz.ntmps80
  go_wp2_with fail
  have f2 := hb.frozen 2
  go_region_law ((refine step_app rfl (.tmp 14) (.tmp 23) 65 rfl B 72 4 40 Tryz.underlying65 eTok (.slice A n c) n (toksCells ts) (by rfl) (by exact hown.alloc _) (some ⟨w.heap.size, 0, none⟩) 1 1 [.int .i64 k, .string T, .int .i64 m, .int .i64 i] (by rfl) (by exact RdS.new _ _ [.int .i64 k, .string T, .int .i64 m, .int .i64 i] 4 rfl) (by simp [Value.oneCell']) (by omega) (by omega) (by simp; omega) ?_; intro A2 c2' w2 hown2 hc2 hg2 hat2; have hb2 : Blk w2 g 125 (scn s i (.slice A n c)) := Blk.grown (hb.alloc _).drew hg2 (fun e => HNE.out e.symm); have c2x := scn2 hb2; have f2x := hb2.frozen 2))
  all_goals
    have hB2 : Below B w w2 := ((Below.refl _ _).alloc (by omega) _).drew.grown hg2 (by simp; omega) (fun q hq => (hown.lt q hq).1)
    have hne2 := own_blk_ne hown2 hb2 (by decide)
    have hb3 := scn_set2 (lv' := .slice A2 (n + 1) c2') hb2
    have hown3 : (w2.setCell ⟨g, 2, none⟩ (.slice A2 (n + 1) c2')).ownsRow B 72 4 (.slice A2 (n + 1) c2') (n + 1) (toksCells ts ++ [.int .i64 k, .string T, .int .i64 m, .int .i64 i]) :=
      hown2.kept (row := some g) ⟨rfl, rfl, rfl, by simp [World.setCell], fun q _ hq => Below.heap_setCell w2 ⟨g, 2, none⟩ _ q (fun e => hq (by rw [e]))⟩ (.inr hne2)
    have hB3 : Below B w (w2.setCell ⟨g, 2, none⟩ (.slice A2 (n + 1) c2')) := hB2.setCell hBg _
    clear hB2 hne2 hg2 hat2 hown2 hb2 c2x f2x hown hb c1 c2 f2
    generalize w2.setCell ⟨g, 2, none⟩ (.slice A2 (n + 1) c2') = w3 at *
    have c1 := scn1 hb3
    have f1 := hb3.frozen 1
    go_wp2_with fail
    have hne3 := own_blk_ne hown3 hb3 (by decide)
    have hown4 : (w3.setCell ⟨g, 1, none⟩ (.int .i64 j)).ownsRow B 72 4 (.slice A2 (n + 1) c2') (n + 1) (toksCells ts ++ [.int .i64 k, .string T, .int .i64 m, .int .i64 i]) :=
      hown3.kept (row := some g) ⟨rfl, rfl, rfl, by simp [World.setCell], fun q _ hq => Below.heap_setCell w3 ⟨g, 1, none⟩ _ q (fun e => hq (by rw [e]))⟩ (.inr hne3)
    refine bodyPost_end (results_none rfl _ _ _) rfl ⟨rfl, ⟨⟨A2, c2', ?_, ?_⟩, hBg⟩, hB3.setCell hBg _⟩
    · rw [List.length_append, HN.out]
      exact scn_set1 hb3
    · rw [List.length_append, HN.out, toksCells_snoc]
      rw [← HT.out] at hown4
      exact hown4
end Go.Proofs.YtafjkbbiaopemaaGreatDoor
namespace Go.Proofs.YtafjkbbiaopemaaGreatDoor
open Go.RowKit
theorem St.below {w w' : World} {B g : Nat} {s : ByteArray} {i : Nat} {ts : List Lx.Tok} (h : St w B g s i ts) {B' : Nat} (hb : Below B' w w') (hg : ∀ k, B ≤ k → k < w.heap.size → k < B') : St w' B g s i ts := by
  obtain ⟨⟨A, c, h1, h2⟩, hle⟩ := h
  refine ⟨⟨A, c, h1.below hb (hg g hle h1.lt), ?_⟩, hle⟩
  refine ⟨h2.1, ?_⟩
  rcases h2.2 with h3 | ⟨g', cap, cur, hv, hg', hh, r⟩
  · exact .inl h3
  · exact .inr ⟨g', cap, cur, hv, hg', (hb.block g' (hg g' hg' (Array.getElem?_eq_some_iff.1 hh).1)).trans hh, r⟩
theorem St.drewN {w : World} {B g : Nat} {s : ByteArray} {i : Nat} {ts : List Lx.Tok} (h : St w B g s i ts) (n : Nat) : St (w.drewN n) B g s i ts := ⟨h.ex, h.le⟩
theorem St.c0 {w : World} {B g : Nat} {s : ByteArray} {i : Nat} {ts : List Lx.Tok} (h : St w B g s i ts) : w.cell? ⟨g, 0, none⟩ = some (.string s) := by
  obtain ⟨⟨A, c, h1, h2⟩, hle⟩ := h
  exact scn0 h1
theorem St.c1 {w : World} {B g : Nat} {s : ByteArray} {i : Nat} {ts : List Lx.Tok} (h : St w B g s i ts) : w.cell? ⟨g, 1, none⟩ = some (.int .i64 i) := by
  obtain ⟨⟨A, c, h1, h2⟩, hle⟩ := h
  exact scn1 h1
theorem extract_eq (s : ByteArray) (a b : Nat) : s.extract a b = bytesOf ((s.data.toList.drop a).take (b - a)) := by
  apply ByteArray.ext
  rw [ByteArray.data_extract]
  unfold bytesOf
  apply Array.toList_inj.1
  rw [Array.toList_extract, List.extract_eq_take_drop]
theorem bytesOf_toList (l : List UInt8) : (bytesOf l).data.toList = l := by simp [bytesOf]
theorem take_run {p : UInt8 → Bool} (l : List UInt8) : l.take (l.takeWhile p).length = l.takeWhile p := by
  have := List.takeWhile_prefix p (l := l)
  exact (List.prefix_iff_eq_take.1 this).symm
theorem run_facts {B g : Nat} {s : ByteArray} {i E : Nat} {t : List UInt8} {ts : List Lx.Tok} {w : World} (letters : Bool) (h : St w B g s i ts) (hi : i ≤ s.size) (hs : s.size ≤ 8000) (ht : t = (s.data.toList.drop i).takeWhile (runP letters)) (hE : E = i + t.length) :
    E ≤ s.size ∧ i ≤ E ∧ (E : Int) - (i : Int) = (t.length : Int) ∧ s.extract i E = bytesOf t ∧
    Calls Tryz.prog 126 #[.pointer (some ⟨g, 0, none⟩), .int .i64 i, .bool letters] w fun e w' => e = .returned (.int .i64 E) ∧ w = w' := by
  have c0 := h.c0
  have hEs : E ≤ s.size := by
    have := run_le (p := runP letters) (l := s.data.toList) (i := i) (by simpa using hi)
    rw [← ht] at this
    simp at this
    omega
  have hrun := run_any g s i letters w c0 hi hs
  rw [← ht, ← hE] at hrun
  have hext : s.extract i E = bytesOf t := by
    rw [extract_eq, hE, Nat.add_sub_cancel_left, ht, take_run]
  exact ⟨hEs, by omega, by omega, hext, hrun.mono fun _ _ ⟨a, b⟩ => ⟨a, b.symm⟩⟩
set_option maxHeartbeats 2000000 in
theorem name_bad (B g : Nat) (s : ByteArray) (i E : Nat) (t : List UInt8) (ts : List Lx.Tok) (w : World) (h : St w B g s i ts) (hi : i ≤ s.size) (hs : s.size ≤ 8000)
    (ht : t = (s.data.toList.drop i).takeWhile Lx.alnum) (hE : E = i + t.length) (hbig : t.length > 16) :
    Calls Tryz.prog 106 #[.pointer (some ⟨g, 0, none⟩)] w fun e w' => e = .returned (.int .i64 i) ∧ w = w' := by
  have c0 := h.c0
  have c1 := h.c1
  obtain ⟨hEs, hiE, hEl, hext, hrun⟩ := run_facts true h hi hs ht hE
  have HRUN := Lib.hid hrun
  have HEL := Lib.hid hEl
  clear hrun ht hE hEl
  have hd : decide ((16 : Int) < (E : Int) - (i : Int)) = true := by rw [HEL.out]; simp; omega
  go_enter Tryz.func106, Tryz.ntmps106
  go_wp2_with (go_at_call 126; refine HRUN.out.mono ?_; rintro e w' ⟨rfl, rfl⟩)
  go_ret
  exact ⟨rfl, rfl⟩
set_option maxHeartbeats 2000000 in
theorem name_ok (B g : Nat) (s : ByteArray) (i E : Nat) (t : List UInt8) (ts : List Lx.Tok) (w : World) (h : St w B g s i ts) (hn : ts.length ≤ 100000) (hi : i ≤ s.size) (hs : s.size ≤ 8000)
    (ht : t = (s.data.toList.drop i).takeWhile Lx.alnum) (hE : E = i + t.length) (hbig : ¬ t.length > 16) :
    Calls Tryz.prog 106 #[.pointer (some ⟨g, 0, none⟩)] w fun e w' => e = .returned (.int .i64 (-1)) ∧ St w' B g s E (ts ++ [⟨if Lx.reserved t then 2 else 1, t, 0, i⟩]) ∧ Below B w w' := by
  have c0 := h.c0
  have c1 := h.c1
  obtain ⟨hEs, hiE, hEl, hext, hrun⟩ := run_facts true h hi hs ht hE
  have HRUN := Lib.hid hrun
  have HEL := Lib.hid hEl
  clear hrun ht hE hEl
  have hd : decide ((16 : Int) < (E : Int) - (i : Int)) = false := by rw [HEL.out]; simp; omega
  have hres : ∀ w, Calls Tryz.prog 127 #[.string (bytesOf t)] w fun e w' => e = .returned (.bool (Lx.reserved t)) ∧ w = w' := fun w => by
    have := reserved_any (bytesOf t) w
    rw [bytesOf_toList] at this
    exact this.mono fun _ _ ⟨a, b⟩ => ⟨a, b.symm⟩
  have HRES := Lib.hid hres
  have j0 : (0 : Int) ≤ (i : Int) := by omega
  have j1 : (i : Int) ≤ (E : Int) := by omega
  have j2 : (E : Int) ≤ (s.size : Int) := by omega
  clear hres
  obtain ⟨K, hK⟩ : ∃ K : Nat, K = if Lx.reserved t then 2 else 1 := ⟨_, rfl⟩
  rw [← hK]
  by_cases hr : Lx.reserved t = true
  · have hK' : K = 2 := by rw [hK, hr]; rfl
    clear hK
    subst hK'
    go_enter Tryz.func106, Tryz.ntmps106
    go_wp2_with (go_at_call 126; refine HRUN.out.mono ?_; rintro e w' ⟨rfl, rfl⟩)
    go_quiet (fail)
    have h1 := h.drewN nq
    have HB : Below B w (w.drewN nq) := below_drewN (Below.refl _ _) _
    clear c0 c1 HRUN h
    generalize w.drewN nq = w1 at *
    go_wp2_with (first
      | (go_at_call 127; refine (HRES.out _).mono ?_; rintro e w' ⟨rfl, rfl⟩)
      | (go_at_call 80; refine (add_any B g s i E ts 2 t 0 _ h1 hn).mono ?_; rintro e w2 ⟨rfl, h2, hB2⟩))
    go_ret
    exact ⟨rfl, h2, HB.trans hB2⟩
  · have hr' : Lx.reserved t = false := by simpa using hr
    have hK' : K = 1 := by rw [hK, hr']; rfl
    clear hK hr
    subst hK'
    go_enter Tryz.func106, Tryz.ntmps106
    go_wp2_with (go_at_call 126; refine HRUN.out.mono ?_; rintro e w' ⟨rfl, rfl⟩)
    go_quiet (fail)
    have h1 := h.drewN nq
    have HB : Below B w (w.drewN nq) := below_drewN (Below.refl _ _) _
    clear c0 c1 HRUN h
    generalize w.drewN nq = w1 at *
    go_wp2_with (first
      | (go_at_call 127; refine (HRES.out _).mono ?_; rintro e w' ⟨rfl, rfl⟩)
      | (go_at_call 80; refine (add_any B g s i E ts 1 t 0 _ h1 hn).mono ?_; rintro e w2 ⟨rfl, h2, hB2⟩))
    go_ret
    exact ⟨rfl, h2, HB.trans hB2⟩
end Go.Proofs.YtafjkbbiaopemaaGreatDoor
