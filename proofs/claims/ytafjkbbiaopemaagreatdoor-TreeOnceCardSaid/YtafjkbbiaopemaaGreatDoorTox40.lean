/- Part of the proof: Bh, Bi. -/
import Derived.Test.YtafjkbbiaopemaaGreatDoorTox38
set_option linter.unusedVariables false
namespace Go.Proofs.YtafjkbbiaopemaaGreatDoor.Tr
open Go.RowKit
theorem lfP_u8 : Tryz.prog.cellsOf 5 = 1 := by kernel_rfl
section
variable {w w' : World} {b B : Nat} {l : List UInt8}
set_option maxRecDepth 100000 in
set_option maxHeartbeats 1000000 in
theorem str_c (h : IsP B b l w) (h0 : l ≠ []) : Calls Tryz.prog 36 #[.pointer (some ⟨b, 0, none⟩)] w fun e w' => e = .returned (.string ⟨l.toArray⟩) ∧ Below B w w' := by
  obtain ⟨hBb, p, v, hp, hb, hown, hne⟩ := h
  have hl0 : l.length ≠ 0 := by simpa using h0
  obtain ⟨g, cap, cur, rfl, hbg, hg, hnc, hcm, hcs, htake⟩ : ∃ g cap cur, v = .slice (some ⟨g, 0, none⟩) l.length cap ∧ B ≤ g ∧ w.heap[g]? = some (.cells cur 5 (0, 0)) ∧ l.length ≤ cap ∧ cap ≤ maxLen ∧ cur.size = cap * 1 ∧ cur.toList.take (l.length * 1) = u8s l := by
    rcases hown.2 with ⟨_, hz⟩ | ⟨g, cap, cur, hv, r⟩
    · exact absurd hz hl0
    · exact ⟨g, cap, cur, hv, r⟩
  have c1 : w.drew.cell? ⟨b, 1, none⟩ = some (.slice (some ⟨g, 0, none⟩) l.length cap) := hb.cell 1
  have hSD : (Builtin.unsafeSliceData_ #[83] 118 #[.slice (some ⟨g, 0, none⟩) l.length cap]).run Tryz.prog w.drew = .ok (.pointer (some ⟨g, 0, none⟩)) w.drew :=
    Lib.run_unsafeSliceData_row _ _ _ _ _ _ (by omega)
  have hUS : (Builtin.unsafeString_ #[118, 3] 9 #[.pointer (some ⟨g, 0, none⟩), .int .i64 l.length]).run Tryz.prog w.drew = .ok (.string ⟨l.toArray⟩) (w.drew.freeze ⟨g, 0, none⟩ l.length) := by
    refine Lib.run_unsafeString_row w.drew 118 3 9 5 Tryz.underlying118 lfP_u8 g cur.size (by have hg' : w.drew.heap[g]? = some (.cells cur 5 (0, 0)) := hg; simp [World.shape?, hg']) l h0 (by omega) (by unfold maxLen at hcm; omega) ?_
    intro j x hx
    have := hown.cells (g := g) rfl j (.int .u8 x.toNat) (by simp [u8s, hx]; rfl)
    exact this
  clear hb hown hne hp
  have mixed : Tryz.prog.follows .mixedOrders = true := by kernel_rfl
  go_enter Tryz.func36, Tryz.ntmps36
  go_wp2
  go_region_o
  all_goals (go_wp2; go_ret; exact ⟨rfl, Lib.below_freeze (Below.drew (Below.refl B w)) (p := ⟨g, 0, none⟩) hbg _⟩)
end
end Go.Proofs.YtafjkbbiaopemaaGreatDoor.Tr
namespace Go.Proofs.YtafjkbbiaopemaaGreatDoor.Tr
open Go.RowKit
@[reducible] def srcM : ByteArray := { data := #[108, 101, 116, 32, 109, 61, 49, 59, 99, 111, 118, 101, 114, 32, 109, 59] }
@[reducible] def txtM : ByteArray := { data := #[108, 101, 116, 32, 109, 32, 61, 32, 49, 59, 10, 99, 111, 118, 101, 114, 32, 109, 59, 10] }
def dcX : Dc := ⟨k_let, ⟨sM, 4⟩, .mk k_number 1 zs 6 [], []⟩
def stX : St := .mk k_cover 8 zR zE zE zE [⟨sM, 14⟩] zR zR [] []
theorem parseM : parse srcM.data.toList = (⟨[dcX], [stX]⟩, (0, 0)) := by kernel_rfl
structure TrM (B : Nat) (w : World) (gd od : Nat) (p : plA) (gb ob : Nat) (ps : StA) (g off c : Nat) : Prop where
  d : gd < B ∧ w.rangeAt gd od (dcM p)
  s : gb < B ∧ w.rangeAt gb ob (stCv ps g off c)
  r : RtI g off B w
section
variable {w w' w0 : World} {b B g off c gd od gb ob : Nat} {p : plA} {ps : StA} {l l' : List UInt8}
theorem range_belo {cs : List Value} (h : g < B ∧ w.rangeAt g off cs) (hb : Below B w w') : g < B ∧ w'.rangeAt g off cs := ⟨h.1, fun j v hj => (World.cell?_of_block (a := ⟨g, off + j, none⟩) (hb.block g h.1)).trans (h.2 j v hj)⟩
theorem TrM.belo (h : TrM B w gd od p gb ob ps g off c) (hb : Below B w w') : TrM B w' gd od p gb ob ps g off c := ⟨range_belo h.d hb, range_belo h.s hb, h.r.belo hb⟩
theorem trM_of {F : Nat → Prop} {A D : Option Addr} (hd : DcsIn F w D [dcX]) (hb : BodyIn F w A [stX]) : ∃ gd od p gb ob ps g off c, D = some ⟨gd, od, none⟩ ∧ A = some ⟨gb, ob, none⟩ ∧ TrM w.heap.size w gd od p gb ob ps g off c := by
  obtain ⟨sl, hl, hr, _⟩ := hd
  obtain ⟨p, rfl⟩ : ∃ p, sl = [p] := List.length_eq_one_iff.1 hl
  obtain ⟨gd, od, rfl, hgd, hcd⟩ := hr.1.2 (by simp)
  cases hb with
  | mk _ _ sl hl hr he hy hz =>
    obtain ⟨ps, rfl⟩ : ∃ p, sl = [p] := List.length_eq_one_iff.1 hl
    obtain ⟨gb, ob, rfl, hgb, hcb⟩ := hr.1.2 (by simp)
    have hR := (he 0 stX ps rfl rfl).2.2.2
    obtain ⟨g, off, e3, hg, hc⟩ := hR.1.2 (by decide)
    have e4 : ps.r = (some ⟨g, off, none⟩, ps.r.2) := by rw [← e3]
    refine ⟨gd, od, p, gb, ob, ps, g, off, ps.r.2, rfl, rfl, ⟨hgd, fun j v hj => hcd j v (by rw [show zipC dcC [dcX] [p] = dcM p from rfl]; exact hj)⟩, ⟨hgb, ?_⟩, ⟨hg, fun j v hj => hc j v hj⟩⟩
    have e5 : stC stX ps = stCv ps g off ps.r.2 := by
      unfold stC stCv
      rw [e4]
      rfl
    intro j v hj
    rw [← e5] at hj
    exact hcb j v (by simpa [zipC] using hj)
theorem parse_M (w : World) : Calls Tryz.prog 9 #[.string srcM] w fun e w' => ∃ gd od d p gb ob cb ps g off c, e = .returned (.tuple #[.agg #[.slice (some ⟨gd, od, none⟩) 1 d, .slice (some ⟨gb, ob, none⟩) 1 cb], .agg #[.int .i64 0, .int .i64 0]]) ∧ TrM w'.heap.size w' gd od p gb ob ps g off c ∧ Below w.heap.size w w' := by
  have h := parse_any srcM w
  unfold PaK at h
  rw [parseM] at h
  refine h.mono ?_
  rintro e w' ⟨D, d, A, cb, rfl, hd, hb, hB⟩
  obtain ⟨gd, od, p, gb, ob, ps, g, off, c, rfl, rfl, ht⟩ := trM_of hd hb
  exact ⟨gd, od, d, p, gb, ob, cb, ps, g, off, c, rfl, ht, hB⟩
attribute [local go_sem ↓] ldq_Dc
set_option maxRecDepth 100000 in
set_option maxHeartbeats 2000000 in
theorem print_M (d cb : Nat) (h : TrM w.heap.size w gd od p gb ob ps g off c) : Calls Tryz.prog 12 #[.agg #[.slice (some ⟨gd, od, none⟩) 1 d, .slice (some ⟨gb, ob, none⟩) 1 cb]] w fun e w' => e = .returned (.string txtM) ∧ Below w.heap.size w w' := by
  have HP0 : Hid (∀ W, W = (w.alloc (.cells #[.slice (some ⟨gd, od, none⟩) 1 d, .slice (some ⟨gb, ob, none⟩) 1 cb] 26)).alloc (.cells #[.pointer none, .slice none 0 0] 87) → IsP w.heap.size (w.heap.size + 1) [] W ∧ Below w.heap.size w W ∧ Blk W w.heap.size 26 [.slice (some ⟨gd, od, none⟩) 1 d, .slice (some ⟨gb, ob, none⟩) 1 cb]) := by
    rintro W rfl
    exact ⟨⟨by omega, none, _, .inl rfl, Blk.new' (by simp) rfl, World.ownsRow_nil _ _ _ _, by simp [Value.ownBlock]⟩, ((Below.refl _ _).alloc (Nat.le_refl _) _).alloc (by simp) _, (Blk.new _ _ _).alloc _⟩
  have HT := Lib.hid h
  clear h
  go_enter Tryz.func12, Tryz.ntmps12
  go_upto_region 2 with fail
  obtain ⟨W2, hW2⟩ : ∃ W2, W2 = (w.alloc (.cells #[.slice (some ⟨gd, od, none⟩) 1 d, .slice (some ⟨gb, ob, none⟩) 1 cb] 26)).alloc (.cells #[.pointer none, .slice none 0 0] 87) := ⟨_, rfl⟩
  rw [← hW2]
  have HQ := Lib.hid (HP0.out W2 hW2)
  clear HP0 hW2
  obtain ⟨G, hG⟩ : ∃ G, G = w.heap.size := ⟨_, rfl⟩
  have HS0 : Hid (PrS G (G + 1) W2 [] W2) := by subst hG; exact PrS.start HQ.out.1 HQ.out.2.1.size
  have HT2 : Hid (TrM G W2 gd od p gb ob ps g off c) := by subst hG; exact HT.out.belo HQ.out.2.1
  have HB2 : Hid (Blk W2 G 26 [.slice (some ⟨gd, od, none⟩) 1 d, .slice (some ⟨gb, ob, none⟩) 1 cb]) := by subst hG; exact HQ.out.2.2
  have HBB : Hid (∀ W, Below G W2 W → Below w.heap.size w W) := by subst hG; exact fun W hW => HQ.out.2.1.trans hW
  rw [← hG]
  clear HQ hG HT
  have s0 : W2.cell? ⟨G, 0, none⟩ = some (.slice (some ⟨gd, od, none⟩) 1 d) := HB2.out.cell 0
  have hgd : gd < W2.heap.size := Nat.lt_of_lt_of_le HT2.out.d.1 HS0.out.hB
  have hld : (ldAt 45 (.pointer (some ⟨gd, od, none⟩))).run Tryz.prog W2 = .ok (.agg (dcM p).toArray) W2 := run_loadAt_mid W2 gd od 45 (dcM p) _ HT2.out.d.2 Tryz.underlying45 rfl hdDc
  have HD := Lib.hid (fun W (hW : PrS G (G + 1) W2 [] W) => pdecl_m p hW.p (Nat.le_trans hW.hB hW.bl.size) (by simp))
  have HM := Lib.hid (fun W (hW : PrS G (G + 1) W2 [108, 101, 116, 32, 109, 32, 61, 32, 49, 59, 10] W) => pstmts_c gb ob cb hW.p (Nat.le_trans hW.hB hW.bl.size) (by simp) (HT2.out.r.belo hW.bl) (range_belo HT2.out.s hW.bl))
  have HZ := Lib.hid (fun W (hW : PrS G (G + 1) W2 txtM.data.toList W) => str_c hW.p (by simp))
  go_wp2
  go_loopg [9] 1 (fun kk q wr => ∃ j : Nat, j ≤ 1 ∧ kk = 1 - j ∧ q = .int .i64 (j : Int) ∧ (j = 0 → wr = W2) ∧ (j = 1 → Hid (PrS G (G + 1) W2 [108, 101, 116, 32, 109, 32, 61, 32, 49, 59, 10] wr)))
  case atStart => exact ⟨0, by omega, rfl, rfl, fun _ => rfl, fun h => by cases h⟩
  case round =>
    obtain ⟨j, hj, hk, rfl, h0, h1⟩ := hrel
    rcases (by omega : j = 0 ∨ j = 1) with rfl | rfl
    · obtain rfl := h0 rfl
      clear h0 h1 hj
      have hld1 := ldAt_run (Blk.new wr 45 (dcM p)) 45 0 (dcM p) rfl _ Tryz.underlying45 rfl hdDc
      have H1 := Lib.hid (HS0.out.al (.cells (dcM p).toArray 45))
      go_wp2_with (go_at_call 34; (refine (HD.out _ H1.out).mono ?_); rintro e w3 h3; have H3 := Lib.hid (H1.out.st h3); obtain ⟨rfl, _⟩ := h3)
      go_roundg 0
      case measure => omega
      case rel => exact ⟨1, by omega, rfl, rfl, (fun h => by cases h), fun _ => H3.out⟩
    · have H3 := h1 rfl
      clear h0 h1 hj hk hld
      have hb3 := H3.out.ot.blk HB2.out (by omega) (by decide)
      have s1 : wr.cell? ⟨G, 1, none⟩ = some (.slice (some ⟨gb, ob, none⟩) 1 cb) := hb3.cell 1
      clear hb3
      go_wp2_with (first
        | (go_at_call 36; (refine (HZ.out _ H4.out).mono ?_); rintro e w5 ⟨rfl, hB5⟩)
        | (go_at_call 35; (refine (HM.out _ H3.out).mono ?_); rintro e w4 h4; have H4 : Hid (PrS G (G + 1) W2 txtM.data.toList w4) := H3.out.st h4; obtain ⟨rfl, _⟩ := h4))
      first | go_ret | go_end0
      exact ⟨rfl, HBB.out _ (H4.out.bl.trans hB5)⟩
end
end Go.Proofs.YtafjkbbiaopemaaGreatDoor.Tr
