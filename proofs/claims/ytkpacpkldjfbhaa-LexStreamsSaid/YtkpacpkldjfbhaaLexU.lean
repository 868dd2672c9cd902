/- shallotref21.Scan computes Lx.scan. -/
import Derived.Test.YtkpacpkldjfbhaaLexU2
import Derived.Test.YtkpacpkldjfbhaaLexU3
namespace Go.Proofs.Ytkpacpkldjfbhaa
open Go.RowKit

set_option maxRecDepth 100000 in
set_option maxHeartbeats 8000000 in
theorem rscan_small (s : ByteArray) (w : World) (hs : s.size ≤ 8000) : Calls Try.prog 22 #[.string s] w (ScanPost w (Lx.scan s.data.toList)) := by
  obtain ⟨R, hR⟩ : ∃ R, R = Lx.scanF s.size (s.size + 1) s.data.toList [] := ⟨_, rfl⟩
  have HR := Lib.hid hR
  have e1 : decide ((8000 : Int) < (s.size : Int)) = false := by simp; omega
  clear hR
  have HN : Hid (s.data.toList.length = s.size) := by show _ = _; simp
  go_enter Try.func22, Try.ntmps22
  go_wp2_with fail
  refine wp_loop_ghost_k (RInv w s R) s.size ⟨0, [], none, 0, rfl, ⟨World.ownsRow_nil _ _ _ _, Blk.new' rfl rfl, (Below.refl _ _).alloc (Nat.le_refl _) _, Nat.zero_le _, Nat.le_refl _, HR.out⟩, rfl, rfl, rfl, rfl, rfl, rfl⟩ ?_
  intro gk a wr hI J K hJ hK
  obtain ⟨j, ts, A, c, hgk, hM, hdf, hsz, h0, h3, h4, h5⟩ := hI
  obtain ⟨tm, df⟩ := a
  obtain ⟨u, hu, htm⟩ := frame197 tm hsz
  simp only at hdf h0 h3 h4 h5
  rw [← hu] at h0 h3 h4 h5
  subst hdf
  rw [h0, h3, h4, h5] at htm
  subst htm
  clear hu hsz h0 h3 h4 h5
  have HGK := Lib.hid hgk
  have HM := Lib.hid hM
  have hle := hM.le
  have hfew := hM.few
  have hgl : w.heap.size < wr.heap.size := hM.ft.lt
  have hown := hM.own
  clear hgk hM
  by_cases hlt : j < s.size
  · have hx := str_at s j hlt
    obtain ⟨x, hxx⟩ : ∃ x, s[j] = x := ⟨_, rfl⟩
    rw [hxx] at hx
    have HX := Lib.hid hx
    by_cases hbl : Lx.blank x = true
    · exact case_blank _ (by unfold IsBody; rfl) s w wr R hs HR HN gk j ts A c u J K _ hJ hK HGK HM hle hfew hgl hlt x hxx HX hbl
    · have hbl' : Lx.blank x = false := by simpa using hbl
      have hnb : ((x.toNat : Int) == 32) = false ∧ ((x.toNat : Int) == 9) = false ∧ ((x.toNat : Int) == 10) = false := by
        refine ⟨byte_ne (k := 32) fun e => ?_, byte_ne (k := 9) fun e => ?_, byte_ne (k := 10) fun e => ?_⟩ <;> (subst e; revert hbl'; decide)
      obtain ⟨b1, b2, b3⟩ := hnb
      have HBL := Lib.hid hbl'
      by_cases h35 : x = 35
      · exact case_com _ (by unfold IsBody; rfl) s w wr R hs HR HN gk j ts A c u J K _ hJ hK HGK HM hle hfew hgl hlt x hxx HX HBL b1 b2 b3 h35
      · have e35 : ((x.toNat : Int) == 35) = false := byte_ne (k := 35) h35
        by_cases hl : Lx.letter x = true
        · exact case_letter _ (by unfold IsBody; rfl) s w wr R hs HR HN gk j ts A c u J K _ hJ hK HGK HM hle hfew hgl hlt x hxx HX HBL b1 b2 b3 e35 h35 hown hl
        · have hl' : Lx.letter x = false := by simpa using hl
          by_cases hd : Lx.digit x = true
          · exact case_digit _ (by unfold IsBody; rfl) s w wr R hs HR HN gk j ts A c u J K _ hJ hK HGK HM hle hfew hgl hlt x hxx HX HBL b1 b2 b3 e35 h35 hown hl' hd
          · have hd' : Lx.digit x = false := by simpa using hd
            by_cases h34 : x = 34
            · exact case_text _ (by unfold IsBody; rfl) s w wr R hs HR HN gk j ts A c u J K _ hJ hK HGK HM hle hfew hgl hlt x hxx HX HBL b1 b2 b3 e35 h35 hown hl' hd' h34
            · exact case_mark _ (by unfold IsBody; rfl) s w wr R hs HR HN gk j ts A c u J K _ hJ hK HGK HM hle hfew hgl hlt x hxx HX HBL b1 b2 b3 e35 h35 hown hl' hd' h34
  · have hge : s.size ≤ j := by omega
    have HE := Lib.hid (HM.out.res.trans (scr_end HN.out hge))
    go_wp2_with (at_builtin; refine wpList_app rfl (.tmp 190) (.tmp 194) _ rfl (w.heap.size + 1) 54 4 40 Try.underlying46 eTok (.slice A ts.length c) ts.length (toksCells ts) (by rfl) (by exact hown.alloc _) (some ⟨wr.heap.size, 0, none⟩) 1 1 [.int .i64 6, .string (bytesOf []), .int .i64 0, .int .i64 s.size] (by rfl) (by exact RdS.new wr _ [.int .i64 6, .string (bytesOf []), .int .i64 0, .int .i64 s.size] 4 rfl) (by simp [Value.oneCell']) (by omega) (by omega) (by simp; omega) ?_
                 intro A2 c2 w3 hown2 hc2 hg2 hat2
                 obtain ⟨hB3, hf3⟩ := app_keep hown (HM.out.bel.alloc HM.out.bel.size _) (HM.out.ft.alloc _) hg2
                 have d0 : w3.cell? ⟨w.heap.size, 0, none⟩ = some (.int .i64 0) := by rw [hf3.cell]; rfl
                 have d1 : w3.cell? ⟨w.heap.size, 1, none⟩ = some (.int .i64 0) := by rw [hf3.cell]; rfl
                 have f0 := hf3.frozen 0
                 have f1 := hf3.frozen 1)
    have hsc := scan_inr hs (HR.out.symm.trans HE.out)
    refine bodyPost_ret (res_tmp_cell rfl _ w.heap.size 48 [.int .i64 0, .int .i64 0] rfl ((hf3.set_ 0 _).set_ 1 _) _ Try.underlying48 rfl hd48) rfl ?_
    rw [hsc]
    have hlen : (ts ++ [(⟨6, [], 0, s.size⟩ : Lx.Tok)]).length = ts.length + 1 := by simp
    have ho : Only w3 ((w3.setCell ⟨w.heap.size, 0, none⟩ (.int .i64 0)).setCell ⟨w.heap.size, 1, none⟩ (.int .i64 0)) w.heap.size := ((Only.refl w3 w.heap.size).setCell 0 _).setCell 1 _
    have hown4 := own_mono (hown2.kept ho.grown (.inr (own_blk_ne hown2 hf3 (by decide)))) (Nat.le_succ w.heap.size)
    refine ⟨A2, c2, by simp only [hlen]; rfl, by rw [hlen]; exact hc2, by rw [hlen, toksCells_snoc]; exact hown4, ?_⟩
    exact ho.below hB3 (Nat.le_refl _) (Nat.le_of_lt hf3.lt)
theorem rscan_any (s : ByteArray) (w : World) : Calls Try.prog 22 #[.string s] w (ScanPost w (Lx.scan s.data.toList)) := by
  by_cases h : s.size ≤ 8000
  · exact rscan_small s w h
  · exact rscan_big s w (by omega)
theorem rscan_is (s : ByteArray) (w : World) {p q n : Nat} {ts : List Lx.Tok} (h : Lx.scan s.data.toList = ((p, q), ts)) (hn : ts.length = n) :
    Calls Try.prog 22 #[.string s] w fun e w' => ∃ A c, e = .returned (.tuple #[.slice A n c, .agg #[.int .i64 p, .int .i64 q]]) ∧ n ≤ c ∧ w'.ownsRow w.heap.size 54 4 (.slice A n c) n (toksCells ts) ∧ Below w.heap.size w w' := by
  subst hn
  have := rscan_any s w
  rw [h] at this
  exact this
end Go.Proofs.Ytkpacpkldjfbhaa
