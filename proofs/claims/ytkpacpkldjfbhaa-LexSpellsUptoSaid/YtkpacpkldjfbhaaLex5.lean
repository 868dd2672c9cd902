/- The scanner's name and number. -/
import Derived.Test.YtkpacpkldjfbhaaLex4
namespace Go.Proofs.Ytkpacpkldjfbhaa
open Go.RowKit

theorem St.below {w w' : World} {B g : Nat} {s : ByteArray} {i : Nat} {ts : List Lx.Tok} (h : St w B g s i ts) {B' : Nat} (hb : Below B' w w') (hg : ∀ k, B ≤ k → k < w.heap.size → k < B') : St w' B g s i ts := by
  obtain ⟨⟨A, c, h1, h2⟩, hle⟩ := h
  refine ⟨⟨A, c, h1.below hb (hg g hle h1.lt), ?_⟩, hle⟩
  refine ⟨h2.1, ?_⟩
  rcases h2.2 with h3 | ⟨g', cap, cur, hv, hg', hh, r⟩
  · exact .inl h3
  · exact .inr ⟨g', cap, cur, hv, hg', (hb.block g' (hg g' hg' (Array.getElem?_eq_some_iff.1 hh).1)).trans hh, r⟩
theorem St.drewN {w : World} {B g : Nat} {s : ByteArray} {i : Nat} {ts : List Lx.Tok} (h : St w B g s i ts) (n : Nat) : St (w.drewN n) B g s i ts := ⟨h.ex, h.le⟩
theorem St.c0 {w : World} {B g : Nat} {s : ByteArray} {i : Nat} {ts : List Lx.Tok} (h : St w B g s i ts) : w.cell? ⟨g, 0, none⟩ = some (.string s) := by
  obtain ⟨⟨A, c, h1, h2⟩, hle⟩ := h
  exact scn0 h1
theorem St.c1 {w : World} {B g : Nat} {s : ByteArray} {i : Nat} {ts : List Lx.Tok} (h : St w B g s i ts) : w.cell? ⟨g, 1, none⟩ = some (.int .i64 i) := by
  obtain ⟨⟨A, c, h1, h2⟩, hle⟩ := h
  exact scn1 h1

theorem extract_eq (s : ByteArray) (a b : Nat) : s.extract a b = bytesOf ((s.data.toList.drop a).take (b - a)) := by
  apply ByteArray.ext
  rw [ByteArray.data_extract]
  unfold bytesOf
  apply Array.toList_inj.1
  rw [Array.toList_extract, List.extract_eq_take_drop]
theorem bytesOf_toList (l : List UInt8) : (bytesOf l).data.toList = l := by simp [bytesOf]
theorem take_run {p : UInt8 → Bool} (l : List UInt8) : l.take (l.takeWhile p).length = l.takeWhile p := by
  have := List.takeWhile_prefix p (l := l)
  exact (List.prefix_iff_eq_take.1 this).symm

/-- what is known before a run of letters or digits is taken -/
theorem run_facts {B g : Nat} {s : ByteArray} {i E : Nat} {t : List UInt8} {ts : List Lx.Tok} {w : World} (letters : Bool) (h : St w B g s i ts) (hi : i ≤ s.size) (hs : s.size ≤ 8000) (ht : t = (s.data.toList.drop i).takeWhile (runP letters)) (hE : E = i + t.length) :
    E ≤ s.size ∧ i ≤ E ∧ (E : Int) - (i : Int) = (t.length : Int) ∧ s.extract i E = bytesOf t ∧
    Calls Try.prog 65 #[.pointer (some ⟨g, 0, none⟩), .int .i64 i, .bool letters] w fun e w' => e = .returned (.int .i64 E) ∧ w = w' := by
  have c0 := h.c0
  have hEs : E ≤ s.size := by
    have := run_le (p := runP letters) (l := s.data.toList) (i := i) (by simpa using hi)
    rw [← ht] at this
    simp at this
    omega
  have hrun := run_any g s i letters w c0 hi hs
  rw [← ht, ← hE] at hrun
  have hext : s.extract i E = bytesOf t := by
    rw [extract_eq, hE, Nat.add_sub_cancel_left, ht, take_run]
  exact ⟨hEs, by omega, by omega, hext, hrun.mono fun _ _ ⟨a, b⟩ => ⟨a, b.symm⟩⟩

set_option maxHeartbeats 2000000 in
theorem name_bad (B g : Nat) (s : ByteArray) (i E : Nat) (t : List UInt8) (ts : List Lx.Tok) (w : World) (h : St w B g s i ts) (hi : i ≤ s.size) (hs : s.size ≤ 8000)
    (ht : t = (s.data.toList.drop i).takeWhile Lx.alnum) (hE : E = i + t.length) (hbig : t.length > 16) :
    Calls Try.prog 54 #[.pointer (some ⟨g, 0, none⟩)] w fun e w' => e = .returned (.int .i64 i) ∧ w = w' := by
  have c0 := h.c0
  have c1 := h.c1
  obtain ⟨hEs, hiE, hEl, hext, hrun⟩ := run_facts true h hi hs ht hE
  have HRUN := Lib.hid hrun
  have HEL := Lib.hid hEl
  clear hrun ht hE hEl
  have hd : decide ((16 : Int) < (E : Int) - (i : Int)) = true := by rw [HEL.out]; simp; omega
  go_enter Try.func54, Try.ntmps54
  go_wp2_with (go_at_call 65; refine HRUN.out.mono ?_; rintro e w' ⟨rfl, rfl⟩)
  go_ret
  exact ⟨rfl, rfl⟩

set_option maxHeartbeats 2000000 in
theorem name_ok (B g : Nat) (s : ByteArray) (i E : Nat) (t : List UInt8) (ts : List Lx.Tok) (w : World) (h : St w B g s i ts) (hn : ts.length ≤ 100000) (hi : i ≤ s.size) (hs : s.size ≤ 8000)
    (ht : t = (s.data.toList.drop i).takeWhile Lx.alnum) (hE : E = i + t.length) (hbig : ¬ t.length > 16) :
    Calls Try.prog 54 #[.pointer (some ⟨g, 0, none⟩)] w fun e w' => e = .returned (.int .i64 (-1)) ∧ St w' B g s E (ts ++ [⟨if Lx.reserved t then 2 else 1, t, 0, i⟩]) ∧ Below B w w' := by
  have c0 := h.c0
  have c1 := h.c1
  obtain ⟨hEs, hiE, hEl, hext, hrun⟩ := run_facts true h hi hs ht hE
  have HRUN := Lib.hid hrun
  have HEL := Lib.hid hEl
  clear hrun ht hE hEl
  have hd : decide ((16 : Int) < (E : Int) - (i : Int)) = false := by rw [HEL.out]; simp; omega
  have hres : ∀ w, Calls Try.prog 66 #[.string (bytesOf t)] w fun e w' => e = .returned (.bool (Lx.reserved t)) ∧ w = w' := fun w => by
    have := reserved_any (bytesOf t) w
    rw [bytesOf_toList] at this
    exact this.mono fun _ _ ⟨a, b⟩ => ⟨a, b.symm⟩
  have HRES := Lib.hid hres
  have j0 : (0 : Int) ≤ (i : Int) := by omega
  have j1 : (i : Int) ≤ (E : Int) := by omega
  have j2 : (E : Int) ≤ (s.size : Int) := by omega
  clear hres
  obtain ⟨K, hK⟩ : ∃ K : Nat, K = if Lx.reserved t then 2 else 1 := ⟨_, rfl⟩
  rw [← hK]
  by_cases hr : Lx.reserved t = true
  · have hK' : K = 2 := by rw [hK, hr]; rfl
    clear hK
    subst hK'
    go_enter Try.func54, Try.ntmps54
    go_wp2_with (go_at_call 65; refine HRUN.out.mono ?_; rintro e w' ⟨rfl, rfl⟩)
    go_quiet (fail)
    have h1 := h.drewN nq
    have HB : Below B w (w.drewN nq) := below_drewN (Below.refl _ _) _
    clear c0 c1 HRUN h
    generalize w.drewN nq = w1 at *
    go_wp2_with (first
      | (go_at_call 66; refine (HRES.out _).mono ?_; rintro e w' ⟨rfl, rfl⟩)
      | (go_at_call 42; refine (add_any B g s i E ts 2 t 0 _ h1 hn).mono ?_; rintro e w2 ⟨rfl, h2, hB2⟩))
    go_ret
    exact ⟨rfl, h2, HB.trans hB2⟩
  · have hr' : Lx.reserved t = false := by simpa using hr
    have hK' : K = 1 := by rw [hK, hr']; rfl
    clear hK hr
    subst hK'
    go_enter Try.func54, Try.ntmps54
    go_wp2_with (go_at_call 65; refine HRUN.out.mono ?_; rintro e w' ⟨rfl, rfl⟩)
    go_quiet (fail)
    have h1 := h.drewN nq
    have HB : Below B w (w.drewN nq) := below_drewN (Below.refl _ _) _
    clear c0 c1 HRUN h
    generalize w.drewN nq = w1 at *
    go_wp2_with (first
      | (go_at_call 66; refine (HRES.out _).mono ?_; rintro e w' ⟨rfl, rfl⟩)
      | (go_at_call 42; refine (add_any B g s i E ts 1 t 0 _ h1 hn).mono ?_; rintro e w2 ⟨rfl, h2, hB2⟩))
    go_ret
    exact ⟨rfl, h2, HB.trans hB2⟩

end Go.Proofs.Ytkpacpkldjfbhaa
