/- LexStreams: the walk, joined. -/
import Derived.Test.YtkpacpkldjfbhaaLexY1
import Derived.Test.YtkpacpkldjfbhaaLexY2
import Derived.Test.YtkpacpkldjfbhaaLexY3
import Derived.Test.YtkpacpkldjfbhaaLexY4
import Derived.Test.YtkpacpkldjfbhaaLexPlacesW
namespace Go.Proofs.Ytkpacpkldjfbhaa.lexStreams
open Go.RowKit

def zS : List Value := [.slice none 0 0, .int .i64 0]
theorem zpeek (g : Nat) (W : World) (h : Blk W g 58 zS) : Calls Try.prog 26 #[.pointer (some ⟨g, 0, none⟩)] W fun e w' => e = .returned (.agg #[.int .i64 6, .string { data := #[] }, .int .i64 0, .int .i64 0]) ∧ Below W.heap.size W w' :=
  peek_out g none 0 0 0 W h (Nat.le_refl 0)
theorem rd0 (W : World) : RdS 4 W none 0 (toksCells []) := ⟨rfl, fun h => absurd h (by omega)⟩
theorem znext (g : Nat) (W : World) (h : Blk W g 58 zS) : Calls Try.prog 27 #[.pointer (some ⟨g, 0, none⟩)] W fun e w' => e = .returned (.agg #[.int .i64 6, .string { data := #[] }, .int .i64 0, .int .i64 0]) ∧ Blk w' g 58 zS ∧ Wrote g W w' :=
  next_any g none 0 0 0 [] endTok W h (rd0 W) rfl (by omega) (by omega) rfl
theorem zis (g : Nat) (A : Option Addr) (c : Nat) (W : World) (h : Blk W g 58 zS) (hr : Rd W A 1 (strs [{ data := #[59] }])) : Calls Try.prog 28 #[.pointer (some ⟨g, 0, none⟩), .slice A 1 c] W fun e w' => e = .returned (.bool false) ∧ Below W.heap.size W w' :=
  is_any g none 0 0 0 [] endTok A 1 c [{ data := #[59] }] W h (rd0 W) rfl (by omega) rfl hr (by omega)
theorem ne_blk {w : World} {b o n g : Nat} {t : TypeId} {xs : List Value} {p q : Value} (h : RdS 4 w (some ⟨b, o, none⟩) n xs) (hn : 0 < n) (hb : Blk w g t [p, q]) : b ≠ g := by
  rintro rfl
  obtain ⟨b', off, e, _, hc⟩ := h.2 hn
  injection e with e
  injection e with e1 e2
  subst e1
  subst e2
  have hl : 3 < xs.length := by have := h.1; omega
  have h3 := hc 3 _ (List.getElem?_eq_getElem hl)
  rw [hb.cell] at h3
  simp at h3
theorem last_kind {us : List Lx.Tok} {m : Nat} (a : Nat) (t : Lx.Tok) (h : (us ++ [(⟨6, [], 0, m⟩ : Lx.Tok)])[a]? = some t) (hk : t.kind ≠ 6) : a + 1 < (us ++ [(⟨6, [], 0, m⟩ : Lx.Tok)]).length := by
  rcases Nat.lt_or_ge a us.length with h1 | h1
  · simp; omega
  · rw [List.getElem?_append_right h1] at h
    rcases Nat.eq_zero_or_pos (a - us.length) with h2 | h2
    · rw [h2] at h
      simp at h
      subst h
      exact absurd rfl hk
    · rw [List.getElem?_eq_none (by simp; omega)] at h
      cases h

set_option maxRecDepth 100000 in
set_option maxHeartbeats 4000000 in
theorem walk_bad (s : ByteArray) (p q : Nat) (A : Option Addr) (nA cA : Nat) (w : World) (h : Lx.scan s.data.toList = ((p, q), [])) (hp : p ≠ 0) :
    Calls Try.prog 8 #[.string s, .slice A nA cA] w (Post w) := by
  have HNS := Lib.hid (fun w => new_no s w h hp)
  have HRC := Lib.hid (fun w => rscan_is s w h (n := 0) rfl)
  have e1 : ((p : Int) != 0) = true := by rw [bne_iff_ne]; omega
  clear h hp
  have HZ : Hid (∀ W : World, Blk (W.alloc (.cells #[.slice none 0 0, .int .i64 0] 58)) W.heap.size 58 zS) := fun W => Blk.new W _ zS
  go_enter Try.func8, Try.ntmps8
  go_wp2_with (first
    | (go_at_call 20; refine (awake21 _).mono ?_; rintro e w1 ⟨rfl, hB1⟩)
    | (go_at_call 26; (with_reducible refine (zpeek w1.heap.size _ (by exact HZ.out _)).mono ?_); rintro e w2 ⟨rfl, hB2⟩; have HZ2 := Lib.hid ((HZ.out w1).below hB2 (by simp)))
    | (go_at_call 27; (with_reducible refine (znext w1.heap.size _ (by exact HZ2.out)).mono ?_); rintro e w3 ⟨rfl, hb3, hW3⟩; have HZ3 := Lib.hid hb3; clear hb3)
    | (go_at_call 28; (with_reducible refine (zis w1.heap.size _ _ _ (by exact HZ3.out.alloc _) (by exact Rd.new1' rfl)).mono ?_); rintro e w4 ⟨rfl, hB4⟩)
    | (go_at_call 29; (with_reducible refine (HNS.out _).mono ?_); rintro e w5 ⟨rfl, hB5⟩)
    | (go_at_call 22; (with_reducible refine (HRC.out _).mono ?_); rintro e w6 ⟨A6, c6, rfl, hc6, hown6, hB6⟩
       have g0 : w6.cell? ⟨w5.heap.size, 0, none⟩ = some (.int .i64 p) := (hB6.cell (p := ⟨w5.heap.size, 0, none⟩) (by simp)).trans (by rw [(Blk.new w5 48 [.int .i64 p, .int .i64 q]).cell]; rfl)
       have g1 : w6.cell? ⟨w5.heap.size, 1, none⟩ = some (.int .i64 q) := (hB6.cell (p := ⟨w5.heap.size, 1, none⟩) (by simp)).trans (by rw [(Blk.new w5 48 [.int .i64 p, .int .i64 q]).cell]; rfl)
       have hz : w5.heap.size < w6.heap.size := by have := hB6.size; simp at this; omega))
  go_ret
  have h1 := hB1
  have h2 := (h1.alloc h1.size _).trans (hB2.mono (by have := h1.size; simp; omega))
  have h3 := Wrote.below hW3 h2 h1.size h2.size
  have h4 := (h3.alloc h3.size _).trans (hB4.mono (by have := h3.size; simp; omega))
  have h5 := h4.trans (hB5.mono h4.size)
  have h6 := (h5.alloc h5.size _).trans (hB6.mono (by have := h5.size; simp; omega))
  exact ⟨rfl, h6.alloc h6.size _⟩

set_option maxRecDepth 100000 in
set_option maxHeartbeats 8000000 in
theorem walk_ok (s : ByteArray) (us : List Lx.Tok) (m : Nat) (A : Option Addr) (nA cA : Nat) (l : List Ax) (w : World) (h : Lx.scan s.data.toList = ((0, 0), us ++ [⟨6, [], 0, m⟩])) (hus : us.length ≤ 8000) (hA : AxsIn w A nA l) (hnA : nA ≤ 140737488355328) :
    Calls Try.prog 8 #[.string s, .slice A nA cA] w (Post w) := by
  have HE := Lib.hid (last_kind (us := us) (m := m))
  obtain ⟨ts, hts⟩ : ∃ ts, us ++ [(⟨6, [], 0, m⟩ : Lx.Tok)] = ts := ⟨_, rfl⟩
  obtain ⟨n, hn⟩ : ∃ n, ts.length = n := ⟨_, rfl⟩
  have hn0 : 0 < n := by rw [← hn, ← hts]; simp
  have hn8 : n ≤ 100000 := by rw [← hn, ← hts]; simp; omega
  rw [hts] at h HE
  clear hts hus
  have HNS := Lib.hid (fun w => new_yes s w h hn)
  have HRC := Lib.hid (fun w => rscan_is s w h hn)
  have HN := Lib.hid hn
  have HAX := Lib.hid hA
  clear h hn hA
  have HZ : Hid (∀ W : World, Blk (W.alloc (.cells #[.slice none 0 0, .int .i64 0] 58)) W.heap.size 58 zS) := fun W => Blk.new W _ zS
  go_enter Try.func8, Try.ntmps8
  go_wp2_with (first
    | (go_at_call 20; refine (awake21 _).mono ?_; rintro e w1 ⟨rfl, hB1⟩)
    | (go_at_call 26; (with_reducible refine (zpeek w1.heap.size _ (by exact HZ.out _)).mono ?_); rintro e w2 ⟨rfl, hB2⟩; have HZ2 := Lib.hid ((HZ.out w1).below hB2 (by simp)))
    | (go_at_call 27; (with_reducible refine (znext w1.heap.size _ (by exact HZ2.out)).mono ?_); rintro e w3 ⟨rfl, hb3, hW3⟩; have HZ3 := Lib.hid hb3; clear hb3)
    | (go_at_call 28; (with_reducible refine (zis w1.heap.size _ _ _ (by exact HZ3.out.alloc _) (by exact Rd.new1' rfl)).mono ?_); rintro e w4 ⟨rfl, hB4⟩)
    | (go_at_call 29; (with_reducible refine (HNS.out _).mono ?_); rintro e w5 ⟨A5, c5, g, rfl, hg5, hst5, hB5⟩; have HS5 := Lib.hid hst5; clear hst5)
    | (go_at_call 22; (with_reducible refine (HRC.out _).mono ?_); rintro e w6 ⟨A6, c6, rfl, hc6, hown6, hB6⟩
       have g0 : w6.cell? ⟨w5.heap.size, 0, none⟩ = some (.int .i64 0) := (hB6.cell (p := ⟨w5.heap.size, 0, none⟩) (by simp)).trans (by rw [(Blk.new w5 48 [.int .i64 0, .int .i64 0]).cell]; rfl)
       have g1 : w6.cell? ⟨w5.heap.size, 1, none⟩ = some (.int .i64 0) := (hB6.cell (p := ⟨w5.heap.size, 1, none⟩) (by simp)).trans (by rw [(Blk.new w5 48 [.int .i64 0, .int .i64 0]).cell]; rfl)
       have hz : w5.heap.size < w6.heap.size := by have := hB6.size; simp at this; omega
       have HO6 := Lib.hid (RdS.of_own hown6); clear hown6))
  have hbel : Below w.heap.size w (w6.alloc (.cells #[.int .i64 0, .int .i64 0] 48)) ∧ w.heap.size ≤ w4.heap.size := by
    have h1 := hB1
    have h2 := (h1.alloc h1.size _).trans (hB2.mono (by have := h1.size; simp; omega))
    have h3 := Wrote.below hW3 h2 h1.size h2.size
    have h4 := (h3.alloc h3.size _).trans (hB4.mono (by have := h3.size; simp; omega))
    have h5 := h4.trans (hB5.mono h4.size)
    have h6 := (h5.alloc h5.size _).trans (hB6.mono (by have := h5.size; simp; omega))
    exact ⟨h6.alloc h6.size _, h4.size⟩
  obtain ⟨hbel, h4⟩ := hbel
  have hst : Stm g A5 n c5 0 ts (w6.alloc (.cells #[.int .i64 0, .int .i64 0] 48)) := ((HS5.out.alloc _).below hB6).alloc _
  have hrd : RdS 4 (w6.alloc (.cells #[.int .i64 0, .int .i64 0] 48)) A6 n (toksCells ts) := HO6.out.alloc _
  obtain ⟨b2, o2, hA5, hb2, _⟩ := hst.2.2 hn0
  subst hA5
  obtain ⟨b3, o3, hA6, hb3, _⟩ := hrd.2 hn0
  subst hA6
  have hne2 : b2 ≠ g := ne_blk hst.2 hn0 hst.1
  have hne3 : b3 ≠ g := ne_blk hrd hn0 hst.1
  have hgW : w.heap.size ≤ g := by omega
  clear hB1 hB2 hW3 hB4 hB5 hB6 HZ HZ2 HZ3 HS5 HO6 g0 g1 hz hg5 hc6 h4 HNS HRC
  refine wp_loop_ghost_k (Inv w g b2 o2 b3 o3 n c5 c6 ts A nA cA) nA ⟨0, 0, rfl, Nat.zero_le _, hn0, ⟨hst, hrd, hbel⟩, rfl, rfl, rfl, rfl, rfl, rfl, rfl, rfl⟩ ?_
  clear hst hrd hbel hb2 hb3
  intro gk a wr hI J K hJ hK
  obtain ⟨i, at_, hgk, hi, hat, hM, hdf, hsz, f6, f8, f10, f61, f62, f63⟩ := hI
  obtain ⟨tm, df⟩ := a
  obtain ⟨u, hu, htm⟩ := frame192 tm hsz
  simp only at hdf f6 f8 f10 f61 f62 f63
  rw [← hu] at f6 f8 f10 f61 f62 f63
  subst hdf
  rw [f6, f8, f10, f61, f62, f63] at htm
  subst htm
  clear hu hsz f6 f8 f10 f61 f62 f63
  have HGK := Lib.hid hgk
  have HM := Lib.hid hM
  clear hgk hM
  by_cases hlt : i < nA
  · have hAw := HAX.out
    have hrA : RdS 4 wr A nA (axsCells l) := hAw.1.keep HM.out.bel.size fun p hp => HM.out.bel.cell hp
    obtain ⟨bA, oA, rfl, hbA, hcA⟩ := hrA.2 (by omega)
    obtain ⟨x, hx⟩ : ∃ x, l[i]? = some x := ⟨_, List.getElem?_eq_getElem (by rw [hAw.2.1]; exact hlt)⟩
    obtain ⟨t, ht⟩ : ∃ t, ts[at_]? = some t := ⟨_, List.getElem?_eq_getElem (by rw [HN.out]; exact hat)⟩
    obtain ⟨y0, y1, y2, y3⟩ := axs_get hx
    have a0 := hcA _ _ y0
    have a1 := hcA _ _ y1
    have a2 := hcA _ _ y2
    have a3 := hcA _ _ y3
    rw [Nat.add_zero] at a0
    rw [← Nat.add_assoc] at a1 a2 a3
    obtain ⟨hxr, hx16⟩ := hAw.2.2 x (List.mem_of_getElem? hx)
    have HR : Hid (Rd wr x.A x.m (strs x.texts)) := hxr.keep HM.out.bel.size fun p hp => HM.out.bel.cell hp
    obtain ⟨d0, d1, d2, d3⟩ := HM.out.toks ht
    have HT := Lib.hid ht
    have hgl : g < wr.heap.size := HM.out.stm.1.lt
    have hb3 : b3 < wr.heap.size := by
      obtain ⟨b, o, e, hb, _⟩ := HM.out.rd.2 hn0
      injection e with e
      injection e with e1 e2
      omega
    have hdec : ∀ k : Int, ((x.kind : Int) == k) = true ∨ ((x.kind : Int) == k) = false := fun k => by cases ((x.kind : Int) == k) <;> simp
    have hpl : (((t.kind : Int) == 2) = false ∧ ((t.kind : Int) == 5) = false ∧ t.kind ≠ 2 ∧ t.kind ≠ 5) ∨ (((t.kind : Int) != 6) = true ∧ (t.kind = 2 ∨ t.kind = 5)) := by
      by_cases q2 : t.kind = 2
      · right; rw [q2]; exact ⟨by decide, .inl rfl⟩
      · by_cases q5 : t.kind = 5
        · right; rw [q5]; exact ⟨by decide, .inr rfl⟩
        · left; exact ⟨by rw [beq_eq_false_iff_ne]; omega, by rw [beq_eq_false_iff_ne]; omega, q2, q5⟩
    rcases hdec 1 with k1 | k1
    · exact case_1 _ (by unfold IsBody; rfl) w wr g b2 o2 b3 o3 n c5 c6 ts bA oA nA cA gk i at_ x t u J K _ hJ hK HGK HM hlt hat hnA hn8 HN HT hgW hgl hbA hb3 a0 a1 a2 a3 d0 d1 d2 d3 HR k1 hne2 hne3 HE
    rcases hdec 2 with k2 | k2
    · rcases hpl with ⟨s2, s5, q2, q5⟩ | ⟨s6, hp⟩
      · exact case_2a _ (by unfold IsBody; rfl) w wr g b2 o2 b3 o3 n c5 c6 ts bA oA nA cA gk i at_ x t u J K _ hJ hK HGK HM hlt hat hnA hn8 HN HT hgW hgl hbA hb3 a0 a1 a2 a3 d0 d1 d2 d3 HR k1 k2 hne2 hne3 HE s2 s5 ⟨q2, q5⟩ hx16
      · exact case_2b _ (by unfold IsBody; rfl) w wr g b2 o2 b3 o3 n c5 c6 ts bA oA nA cA gk i at_ x t u J K _ hJ hK HGK HM hlt hat hnA hn8 HN HT hgW hgl hbA hb3 a0 a1 a2 a3 d0 d1 d2 d3 HR k1 k2 hne2 hne3 HE s6 hp hx16
    rcases hdec 3 with k3 | k3
    · rcases hpl with ⟨s2, s5, q2, q5⟩ | ⟨s6, hp⟩
      · exact case_3a _ (by unfold IsBody; rfl) w wr g b2 o2 b3 o3 n c5 c6 ts bA oA nA cA gk i at_ x t u J K _ hJ hK HGK HM hlt hat hnA hn8 HN HT hgW hgl hbA hb3 a0 a1 a2 a3 d0 d1 d2 d3 HR k1 k2 k3 hne2 hne3 HE s2 s5
      · by_cases hT : x.text = bytesOf t.text
        · exact case_3c _ (by unfold IsBody; rfl) w wr g b2 o2 b3 o3 n c5 c6 ts bA oA nA cA gk i at_ x t u J K _ hJ hK HGK HM hlt hat hnA hn8 HN HT hgW hgl hbA hb3 a0 a1 a2 a3 d0 d1 d2 d3 HR k1 k2 k3 hne2 hne3 HE s6 hp hT
        · exact case_3b _ (by unfold IsBody; rfl) w wr g b2 o2 b3 o3 n c5 c6 ts bA oA nA cA gk i at_ x t u J K _ hJ hK HGK HM hlt hat hnA hn8 HN HT hgW hgl hbA hb3 a0 a1 a2 a3 d0 d1 d2 d3 HR k1 k2 k3 hne2 hne3 HE s6 hp hT
    rcases hdec 4 with k4 | k4
    · by_cases hxn : x.n = (t.kind : Int)
      · exact case_4b _ (by unfold IsBody; rfl) w wr g b2 o2 b3 o3 n c5 c6 ts bA oA nA cA gk i at_ x t u J K _ hJ hK HGK HM hlt hat hnA hn8 HN HT hgW hgl hbA hb3 a0 a1 a2 a3 d0 d1 d2 d3 HR k1 k2 k3 k4 hne2 hne3 HE hxn
      · exact case_4a _ (by unfold IsBody; rfl) w wr g b2 o2 b3 o3 n c5 c6 ts bA oA nA cA gk i at_ x t u J K _ hJ hK HGK HM hlt hat hnA hn8 HN HT hgW hgl hbA hb3 a0 a1 a2 a3 d0 d1 d2 d3 HR k1 k2 k3 k4 hne2 hne3 HE hxn
    · exact case_else _ (by unfold IsBody; rfl) w wr g b2 o2 b3 o3 n c5 c6 ts bA oA nA cA gk i at_ x t u J K _ hJ hK HGK HM hlt hat hnA hn8 HN HT hgW hgl hbA hb3 a0 a1 a2 a3 d0 d1 d2 d3 HR k1 k2 k3 k4
  · have hge : ¬ (i : Int) < (nA : Int) := by omega
    go_wp2_with fail
    go_ret
    exact ⟨rfl, HM.out.bel⟩

theorem walk (s : ByteArray) (A : Option Addr) (nA cA : Nat) (l : List Ax) (w : World) (hA : AxsIn w A nA l) (hnA : nA ≤ 140737488355328) :
    Calls Try.prog 8 #[.string s, .slice A nA cA] w (Post w) := by
  have hl : s.data.toList.length = s.size := by simp
  rcases Lx.scan_cases s.data.toList with ⟨p, q, h, hp⟩ | ⟨us, h, h1, h2, hs⟩
  · exact walk_bad s p q A nA cA w h (by rcases hp with ⟨rfl, _⟩ | ⟨rfl, _⟩ <;> omega)
  · have := lexPlaces.few h1 h2
    exact walk_ok s us _ A nA cA l w h (by omega) hA hnA
end Go.Proofs.Ytkpacpkldjfbhaa.lexStreams
