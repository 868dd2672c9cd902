/- Part of the proof: Ts, Sa. -/
import Derived.Deep.DeepCutAuto
import Derived.Test.YtafjkbbiaopemaaGreatDoorTox15
set_option linter.unusedVariables false
namespace Go.Proofs.YtafjkbbiaopemaaGreatDoor.Tr
open Go.RowKit
theorem Blk.five {w : World} {g : Nat} {t : TypeId} {a b c d e : Value} (h : Blk w g t [a, b, c, d, e]) : w.cell? ⟨g, 0, none⟩ = some a ∧ w.cell? ⟨g, 1, none⟩ = some b ∧ w.cell? ⟨g, 2, none⟩ = some c ∧ w.cell? ⟨g, 3, none⟩ = some d ∧ w.cell? ⟨g, 4, none⟩ = some e :=
  ⟨h.cell 0, h.cell 1, h.cell 2, h.cell 3, h.cell 4⟩
theorem Blk.fro5 {w : World} {g : Nat} {t : TypeId} {cs : List Value} (h : Blk w g t cs) : w.frozen? ⟨g, 0, none⟩ = false ∧ w.frozen? ⟨g, 1, none⟩ = false ∧ w.frozen? ⟨g, 2, none⟩ = false ∧ w.frozen? ⟨g, 3, none⟩ = false ∧ w.frozen? ⟨g, 4, none⟩ = false :=
  ⟨h.frozen 0, h.frozen 1, h.frozen 2, h.frozen 3, h.frozen 4⟩
def Fr (B k : Nat) : Prop := B ≤ k
section
variable {B B' : Nat} {w w' : World} {A : Option Addr} {es : List Ex}
theorem keep_wr {L : List Nat} (hw : Wr L w w') (hL : ∀ g ∈ L, g < B) (hB : B' ≤ B) : Keep (Fr B) (Fr B') w w' := hw.keep (Fr B) (Fr B') (fun k hk _ hm => by have := hL k hm; unfold Fr at hk; omega) (fun k hk _ => by unfold Fr at *; omega)
theorem keep_set {p : Addr} (hp : p.block < B) (v : Value) : Keep (Fr B) (Fr B) w (w.setCell p v) :=
  ⟨by simp [World.setCell], fun k hk _ => Below.heap_setCell w p v k (by unfold Fr at hk; omega), fun _ h _ => h⟩
theorem keep_alloc (o : Obj) : Keep (Fr B) (Fr B) w (w.alloc o) := ⟨((Below.refl w.heap.size w).alloc (Nat.le_refl _) o).size, fun k _ hk => Below.heap_alloc w o k hk, fun _ h _ => h⟩
theorem keep_low (hB : B' ≤ B) : Keep (Fr B) (Fr B') w w := ⟨Nat.le_refl _, fun _ _ _ => rfl, fun k hk _ => by unfold Fr at *; omega⟩
end
structure Q (d : Nat) (s : PS) : Prop where
  p0 : 0 ≤ s.pa
  p1 : s.pa ≤ 13
  d1 : 1 ≤ d
  ok : s.ok = true → s.pa ≤ 12 ∧ 14 ≤ (d : Int) + s.pa
theorem Q.pg {d : Nat} {ts : List Lx.Tok} {s q : PS} (h : Q d s) (k : Pg ts s q) : Q d q := ⟨by rw [k.pa]; exact h.p0, by rw [k.pa]; exact h.p1, h.d1, fun hq => by rw [k.pa]; exact h.ok (k.okof hq)⟩
def ExK (gp gs : Nat) (A : Option Addr) (n c : Nat) (ts : List Lx.Tok) (f : FuncId) (P : PS → Ex × PS) (R : PS → Prop) : Prop :=
  ∀ (s : PS) (w : World), PSt gp gs A n c ts s w → R s → Calls Tryz.prog f #[.pointer (some ⟨gp, 0, none⟩)] w fun e w' => ∃ a : Option Addr × Nat, e = .returned (.agg (exC (P s).1 a).toArray) ∧ ArgsIn (Fr w.heap.size) w' a.1 (P s).1.args ∧ PSt gp gs A n c ts (P s).2 w' ∧ Wr [gp, gs] w w'
theorem hdEx : (Tryz.prog.info? 39).map (·.size) = some 5 := by kernel_rfl
@[reducible] def zEc : List Value := [.string zs, .int .i64 0, .string zs, .int .i64 0, .slice none 0 0]
section
variable {gp gs : Nat} {A : Option Addr} {n c : Nat} {ts : List Lx.Tok} {s : PS} {w w' : World}
theorem kind1_c (cx : Cx gp gs A n ts) (h : PSt gp gs A n c ts s w) : Calls Tryz.prog 23 #[.pointer (some ⟨gp, 0, none⟩), .int .i64 1] w fun e w' => e = .returned (.bool (kindIs ts 1 s)) ∧ Below w.heap.size w w' := kind_c cx h 1
theorem kind3_c (cx : Cx gp gs A n ts) (h : PSt gp gs A n c ts s w) : Calls Tryz.prog 23 #[.pointer (some ⟨gp, 0, none⟩), .int .i64 3] w fun e w' => e = .returned (.bool (kindIs ts 3 s)) ∧ Below w.heap.size w w' := kind_c cx h 3
theorem kind4_c (cx : Cx gp gs A n ts) (h : PSt gp gs A n c ts s w) : Calls Tryz.prog 23 #[.pointer (some ⟨gp, 0, none⟩), .int .i64 4] w fun e w' => e = .returned (.bool (kindIs ts 4 s)) ∧ Below w.heap.size w w' := kind_c cx h 4
theorem PSt.lo2 (cx : Cx gp gs A n ts) (h : PSt gp gs A n c ts s w) : ∀ g ∈ [gp, gs], g < w.heap.size := by
  intro g hg
  have h1 := h.lo cx
  have h2 := h1.1
  have h3 := h1.2.1
  simp only [List.mem_cons, List.not_mem_nil, or_false] at hg
  omega
theorem open_Q {d : Nat} (cx : Cx gp gs A n ts) (h : Q (d + 1) s) (hs : sees ts [m_lpar] s = true) : Q d (openP ts s) := by
  have hg := open_g cx.ends s
  have hk := h.ok (sees_ok hs)
  have h0 := h.p0
  have hpa := hg.1
  refine ⟨by omega, by omega, by omega, fun ho => ?_⟩
  have h2 : s.pa ≠ 12 := by
    intro h3
    have hx : (s.pa == 12) = true := by simp [h3]
    unfold openP at ho
    simp only [hs, hx, if_true, Bool.and_self] at ho
    have hk2 := sees_ok hs
    have hf : (failP ts 11 s).ok = false := by unfold failP; rw [hk2]; rfl
    have h4 := (take_g cx.ends m_lpar (failP ts 11 s)).notok hf
    change (takeP ts m_lpar (failP ts 11 s)).ok = true at ho
    rw [h4] at ho
    cases ho
  omega
set_option maxRecDepth 100000 in
set_option maxHeartbeats 1000000 in
theorem atom_c (cx : Cx gp gs A n ts) (d : Nat) (hex : ExK gp gs A n c ts 50 (exprP ts d) (Q d)) : ExK gp gs A n c ts 84 (atomP ts (exprP ts d)) (Q (d + 1)) := by
  intro s w h hq
  have HK3 := Lib.hid (fun W (h : PSt gp gs A n c ts s W) => kind3_c cx h)
  have HK1 := Lib.hid (fun W (h : PSt gp gs A n c ts s W) => kind1_c cx h)
  have HS := Lib.hid (fun W A1 (h : PSt gp gs A n c ts s W) (hl : Rd W A1 1 (strs [m_lpar])) => sees_c cx h [m_lpar] A1 1 1 hl (by omega))
  have HFA := Lib.hid (fun W (h : PSt gp gs A n c ts s W) => fail_c cx h 9 (by decide))
  have HH := Lib.hid (h.alloc (.cells #[.string { data := #[] }, .int .i64 0, .string { data := #[] }, .int .i64 0, .slice none 0 0] 39))
  have HE : Hid (Wr [gp, gs] w (w.alloc (.cells #[.string { data := #[] }, .int .i64 0, .string { data := #[] }, .int .i64 0, .slice none 0 0] 39))) := (Wr.refl _ _).alloc _
  have HB : Hid (Blk (w.alloc (.cells #[.string { data := #[] }, .int .i64 0, .string { data := #[] }, .int .i64 0, .slice none 0 0] 39)) w.heap.size 39 zEc) := Blk.new' rfl rfl
  have HLO := Lib.hid (h.lo cx)
  have hpl := h.par.lt
  have hsl := h.stm.1.lt
  have c0 : ∀ W, PSt gp gs A n c ts s W → W.cell? ⟨gp, 0, none⟩ = some (.pointer (some ⟨gs, 0, none⟩)) := fun W h => h.par.cell 0
  have HC0 := Lib.hid c0
  clear c0
  cases hk3 : kindIs ts 3 s
  · rw [hk3] at HK3
    cases hk1 : kindIs ts 1 s
    · rw [hk1] at HK1
      cases hk : sees ts [m_lpar] s
      · rw [hk] at HS
        have HR : Hid (atomP ts (exprP ts d) s = (zE, failP ts 9 s)) := (by show _ = _; unfold atomP; rw [hk3, hk1, hk]; rfl)
        rw [HR.out]
        clear h hk hk1 hk3 hq hex
        go_enter Tryz.func84, Tryz.ntmps84
        go_wp2_with (first
          | (go_at_call 23; (with_reducible refine (HK3.out _ (by exact HH.out)).mono ?_); rintro e w2 ⟨rfl, hB2⟩
             have H2 := Lib.hid (HH.out.below hB2)
             have HE2 := Lib.hid (HE.out.trans (Wr.of_below hB2))
             have HB2 := qbl HB hB2
             clear hB2)
          | (go_at_call 23; (with_reducible refine (HK1.out _ (by exact H2.out)).mono ?_); rintro e w3 ⟨rfl, hB3⟩
             have H3 := Lib.hid (H2.out.below hB3)
             have HE3 := Lib.hid (HE2.out.trans (Wr.of_below hB3))
             have HB3 := qbl HB2 hB3
             clear hB3)
          | (go_at_call 20; (refine (HS.out _ _ (by exact H3.out.alloc _) (by exact Rd.new1' rfl)).mono ?_); rintro e w4 ⟨rfl, hB4⟩
             have H4 := Lib.hid ((H3.out.alloc _).below hB4)
             have HE4 := Lib.hid ((HE3.out.alloc _).trans (Wr.of_below hB4))
             have HB4 := Lib.hid ((HB3.out.alloc _).below hB4 (HB3.out.alloc _).lt)
             clear hB4)
          | (go_at_call 54; (refine (HFA.out _ (by exact H4.out)).mono ?_); rintro e w5 ⟨rfl, h5, hW5⟩
             have H5 := Lib.hid h5
             have HE5 := Lib.hid (HE4.out.trans (hW5.mono (by simp)))
             have HB5 : Hid (Blk w5 w.heap.size 39 zEc) := (hW5.block _ HB4.out.lt (by simp; omega)).trans HB4.out
             obtain ⟨z0, z1, z2, z3, z4⟩ := Blk.five HB5.out
             obtain ⟨f0, f1, f2, f3, f4⟩ := Blk.fro5 HB5.out
             clear h5 hW5))
        refine bodyPost_ret (res_c rfl _ w.heap.size 39 (exC zE (none, 0)) rfl (by exact ((((HB5.out.set_ 0 _).set_ 1 _).set_ 2 _).set_ 3 _).set_ 4 _) _ Tryz.underlying39 rfl hdEx) rfl ⟨(none, 0), rfl, ArgsIn.nil _ _ _, ?_, ?_⟩
        · exact ((((H5.out.setNew HLO.out (Nat.le_refl _) _).setNew HLO.out (Nat.le_refl _) _).setNew HLO.out (Nat.le_refl _) _).setNew HLO.out (Nat.le_refl _) _).setNew HLO.out (Nat.le_refl _) _
        · exact ((((HE5.out.setNew (Nat.le_refl _) _).setNew (Nat.le_refl _) _).setNew (Nat.le_refl _) _).setNew (Nat.le_refl _) _).setNew (Nat.le_refl _) _
      · rw [hk] at HS
        have HR : Hid (atomP ts (exprP ts d) s = ((exprP ts d (openP ts s)).1, shutP ts (exprP ts d (openP ts s)).2)) := (by show _ = _; unfold atomP; rw [hk3, hk1, hk]; rfl)
        rw [HR.out]
        have hq2 := open_Q cx hq hk
        have hgo := open_g cx.ends s
        have hpa : 0 ≤ s.pa ∧ s.pa ≤ 100 := ⟨hq.p0, by have := hq.p1; omega⟩
        have hpb : 0 ≤ (exprP ts d (openP ts s)).2.pa ∧ (exprP ts d (openP ts s)).2.pa ≤ 100 := by
          have h5 := (expr_g cx.ends d (openP ts s)).pa
          rw [h5, hgo.1]
          have := hq.p1
          omega
        have HOP := Lib.hid (fun W (h : PSt gp gs A n c ts s W) => open_c cx h hpa)
        have HEX := Lib.hid (fun W (h : PSt gp gs A n c ts (openP ts s) W) => hex (openP ts s) W h hq2)
        have HSH := Lib.hid (fun W (h : PSt gp gs A n c ts (exprP ts d (openP ts s)).2 W) => shut_c cx h hpb)
        clear h hk hk1 hk3 hq hex hq2 hgo hpa hpb HR
        generalize (exprP ts d (openP ts s)).1 = E at *
        generalize (exprP ts d (openP ts s)).2 = q at *
        unfold exC at HEX
        go_enter Tryz.func84, Tryz.ntmps84
        go_wp2_with (first
          | (go_at_call 23; (with_reducible refine (HK3.out _ (by exact HH.out)).mono ?_); rintro e w2 ⟨rfl, hB2⟩
             have H2 := Lib.hid (HH.out.below hB2)
             have HE2 := Lib.hid (HE.out.trans (Wr.of_below hB2))
             have HB2 := qbl HB hB2
             have c2 := HC0.out _ H2.out
             clear hB2)
          | (go_at_call 23; (with_reducible refine (HK1.out _ (by exact H2.out)).mono ?_); rintro e w3 ⟨rfl, hB3⟩
             have H3 := Lib.hid (H2.out.below hB3)
             have HE3 := Lib.hid (HE2.out.trans (Wr.of_below hB3))
             have HB3 := qbl HB2 hB3
             have c3 := HC0.out _ H3.out
             clear hB3)
          | (go_at_call 20; (refine (HS.out _ _ (by exact H3.out.alloc _) (by exact Rd.new1' rfl)).mono ?_); rintro e w4 ⟨rfl, hB4⟩
             have H4 := Lib.hid ((H3.out.alloc _).below hB4)
             have HE4 := Lib.hid ((HE3.out.alloc _).trans (Wr.of_below hB4))
             have HB4 := Lib.hid ((HB3.out.alloc _).below hB4 (HB3.out.alloc _).lt)
             clear hB4)
          | (go_at_call 112; (refine (HOP.out _ (by exact H4.out)).mono ?_); rintro e w5 ⟨rfl, h5, hW5⟩
             have H5 := Lib.hid h5
             have HE5 := Lib.hid (HE4.out.trans hW5)
             have HB5 : Hid (Blk w5 w.heap.size 39 zEc) := Blk.wr HB4.out hW5 HLO.out (Nat.le_refl _)
             clear h5 hW5)
          | (go_at_call 50; (refine (HEX.out _ (by exact H5.out)).mono ?_); rintro e w6 ⟨⟨a1, a2⟩, rfl, ha6, h6, hW6⟩
             have HA6 := Lib.hid ha6
             have H6 := Lib.hid h6
             have HE6 := Lib.hid (HE5.out.trans hW6)
             have HB6 : Hid (Blk w6 w.heap.size 39 zEc) := Blk.wr HB5.out hW6 HLO.out (Nat.le_refl _)
             clear ha6 h6 hW6)
          | (go_at_call 113; (refine (HSH.out _ (by exact H6.out.alloc _)).mono ?_); rintro e w7 ⟨rfl, h7, hW7⟩
             have H7 := Lib.hid h7
             have HE7 := Lib.hid ((HE6.out.alloc _).trans hW7)
             have HL6 := H6.out.lo cx
             have HB7 : Hid (Blk w7 w.heap.size 39 zEc) := Blk.wr (HB6.out.alloc _) hW7 HLO.out (Nat.le_refl _)
             have HN7 : Hid (Blk w7 w6.heap.size 39 [.string E.op, .int .i64 E.num, .string E.text, .int .i64 E.at_, .slice a1 E.args.length a2]) := Blk.wr (Blk.new' rfl rfl) hW7 HL6 (Nat.le_refl _)
             have HA7 : Hid (ArgsIn (Fr w5.heap.size) w7 a1 E.args) := (HA6.out.keep (keep_alloc _)).keep (keep_wr hW7 (H5.out.lo2 cx) (Nat.le_refl _))
             obtain ⟨n0, n1, n2, n3, n4⟩ := Blk.five HN7.out
             obtain ⟨z0, z1, z2, z3, z4⟩ := Blk.five HB7.out
             obtain ⟨f0, f1, f2, f3, f4⟩ := Blk.fro5 HB7.out
             clear h7 hW7 HL6))
        have hlt5 : w.heap.size < w5.heap.size := HB5.out.lt
        refine bodyPost_ret (res_c rfl _ w.heap.size 39 (exC E (a1, a2)) rfl (by exact ((((HB7.out.set_ 0 _).set_ 1 _).set_ 2 _).set_ 3 _).set_ 4 _) _ Tryz.underlying39 rfl hdEx) rfl ⟨(a1, a2), rfl, ?_, ?_, ?_⟩
        · exact (((((HA7.out.keep (keep_set hlt5 _)).keep (keep_set hlt5 _)).keep (keep_set hlt5 _)).keep (keep_set hlt5 _)).keep (keep_set hlt5 _)).keep (keep_low (Nat.le_of_lt hlt5))
        · exact ((((H7.out.setNew HLO.out (Nat.le_refl _) _).setNew HLO.out (Nat.le_refl _) _).setNew HLO.out (Nat.le_refl _) _).setNew HLO.out (Nat.le_refl _) _).setNew HLO.out (Nat.le_refl _) _
        · exact ((((HE7.out.setNew (Nat.le_refl _) _).setNew (Nat.le_refl _) _).setNew (Nat.le_refl _) _).setNew (Nat.le_refl _) _).setNew (Nat.le_refl _) _
    · have hk6 : (tokAt ts s.i).kind ≠ 6 := by
        have hk := hk1
        unfold kindIs pk at hk
        simp only [Bool.and_eq_true, decide_eq_true_eq] at hk
        omega
      have HNX := Lib.hid (fun W (h : PSt gp gs A n c ts s W) => next_c cx h hk6)
      have HR : Hid (atomP ts (exprP ts d) s = (.mk k_name 0 (bytesOf (pk ts s).text) ((pk ts s).at_ : Int) [], nxt s)) := (by show _ = _; unfold atomP; rw [hk3, hk1]; rfl)
      rw [HR.out]
      rw [hk1] at HK1
      clear h hk3 hk1 hk6 hq hex HR
      unfold pk
      generalize tokAt ts s.i = t at *
      unfold tokCells at HNX
      go_enter Tryz.func84, Tryz.ntmps84
      go_wp2_with (first
            | (go_at_call 23; (with_reducible refine (HK3.out _ (by exact HH.out)).mono ?_); rintro e w2 ⟨rfl, hB2⟩
               have H2 := Lib.hid (HH.out.below hB2)
               have HE2 := Lib.hid (HE.out.trans (Wr.of_below hB2))
               have HB2 := qbl HB hB2
               have c2 := HC0.out _ H2.out
               clear hB2)
            | (go_at_call 23; (with_reducible refine (HK1.out _ (by exact H2.out)).mono ?_); rintro e w3 ⟨rfl, hB3⟩
               have H3 := Lib.hid (H2.out.below hB3)
               have HE3 := Lib.hid (HE2.out.trans (Wr.of_below hB3))
               have HB3 := qbl HB2 hB3
               have c3 := HC0.out _ H3.out
               clear hB3)
            | (go_at_call 47; (refine (HNX.out _ (by exact H3.out)).mono ?_); rintro e w4 ⟨rfl, h4, hW4⟩
               have H4 := Lib.hid h4
               have HE4 := Lib.hid (HE3.out.trans hW4)
               have HB4 : Hid (Blk w4 w.heap.size 39 zEc) := Blk.wr HB3.out hW4 HLO.out (Nat.le_refl _)
               obtain ⟨z0, z1, z2, z3, z4⟩ := Blk.five HB4.out
               obtain ⟨f0, f1, f2, f3, f4⟩ := Blk.fro5 HB4.out
               have hz4 : w.heap.size < w4.heap.size := HB4.out.lt
               clear h4 hW4))
      refine bodyPost_ret (res_c rfl _ w.heap.size 39 (exC (.mk k_name 0 (bytesOf t.text) (t.at_ : Int) []) (none, 0)) rfl (by exact (((((HB4.out.set_ 0 _).set_ 1 _).set_ 2 _).set_ 3 _).set_ 4 _).alloc _) _ Tryz.underlying39 rfl hdEx) rfl ⟨(none, 0), rfl, ArgsIn.nil _ _ _, ?_, ?_⟩
      · exact (((((H4.out.setNew HLO.out (Nat.le_refl _) _).setNew HLO.out (Nat.le_refl _) _).setNew HLO.out (Nat.le_refl _) _).setNew HLO.out (Nat.le_refl _) _).setNew HLO.out (Nat.le_refl _) _).alloc _
      · exact (((((HE4.out.setNew (Nat.le_refl _) _).setNew (Nat.le_refl _) _).setNew (Nat.le_refl _) _).setNew (Nat.le_refl _) _).setNew (Nat.le_refl _) _).alloc _
  · have hk6 : (tokAt ts s.i).kind ≠ 6 := by
      have hk := hk3
      unfold kindIs pk at hk
      simp only [Bool.and_eq_true, decide_eq_true_eq] at hk
      omega
    have HNX := Lib.hid (fun W (h : PSt gp gs A n c ts s W) => next_c cx h hk6)
    have HR : Hid (atomP ts (exprP ts d) s = (.mk k_number ((pk ts s).num : Int) zs ((pk ts s).at_ : Int) [], nxt s)) := (by show _ = _; unfold atomP; rw [hk3]; rfl)
    rw [HR.out]
    rw [hk3] at HK3
    clear h hk3 hk6 hq hex HR
    unfold pk
    generalize tokAt ts s.i = t at *
    unfold tokCells at HNX
    go_enter Tryz.func84, Tryz.ntmps84
    go_wp2_with (first
          | (go_at_call 23; (with_reducible refine (HK3.out _ (by exact HH.out)).mono ?_); rintro e w2 ⟨rfl, hB2⟩
             have H2 := Lib.hid (HH.out.below hB2)
             have HE2 := Lib.hid (HE.out.trans (Wr.of_below hB2))
             have HB2 := qbl HB hB2
             have c2 := HC0.out _ H2.out
             clear hB2)
          | (go_at_call 47; (refine (HNX.out _ (by exact H2.out)).mono ?_); rintro e w4 ⟨rfl, h4, hW4⟩
             have H4 := Lib.hid h4
             have HE4 := Lib.hid (HE2.out.trans hW4)
             have HB4 : Hid (Blk w4 w.heap.size 39 zEc) := Blk.wr HB2.out hW4 HLO.out (Nat.le_refl _)
             obtain ⟨z0, z1, z2, z3, z4⟩ := Blk.five HB4.out
             obtain ⟨f0, f1, f2, f3, f4⟩ := Blk.fro5 HB4.out
             have hz4 : w.heap.size < w4.heap.size := HB4.out.lt
             clear h4 hW4))
    refine bodyPost_ret (res_c rfl _ w.heap.size 39 (exC (.mk k_number (t.num : Int) zs (t.at_ : Int) []) (none, 0)) rfl (by exact (((((HB4.out.set_ 0 _).set_ 1 _).set_ 2 _).set_ 3 _).set_ 4 _).alloc _) _ Tryz.underlying39 rfl hdEx) rfl ⟨(none, 0), rfl, ArgsIn.nil _ _ _, ?_, ?_⟩
    · exact (((((H4.out.setNew HLO.out (Nat.le_refl _) _).setNew HLO.out (Nat.le_refl _) _).setNew HLO.out (Nat.le_refl _) _).setNew HLO.out (Nat.le_refl _) _).setNew HLO.out (Nat.le_refl _) _).alloc _
    · exact (((((HE4.out.setNew (Nat.le_refl _) _).setNew (Nat.le_refl _) _).setNew (Nat.le_refl _) _).setNew (Nat.le_refl _) _).setNew (Nat.le_refl _) _).alloc _
end
end Go.Proofs.YtafjkbbiaopemaaGreatDoor.Tr
namespace Go.Proofs.YtafjkbbiaopemaaGreatDoor.Tr
open Go.RowKit
theorem Keep.of_below {w w' : World} (h : Below w.heap.size w w') (F : Nat → Prop) : Keep F F w w' := ⟨h.size, fun k _ hk => h.block k hk, fun _ hk _ => hk⟩
section
variable {w w' : World}
set_option maxRecDepth 100000 in
set_option maxHeartbeats 1000000 in
theorem sameRef_c (r : Rf) (w : World) : Calls Tryz.prog 31 #[.agg #[.string r.name, .int .i64 r.at_], .agg #[.string r.name, .int .i64 r.at_], .bool true] w fun e w' => e = .returned (.bool true) ∧ Below w.heap.size w w' := by
  obtain ⟨nm, at_⟩ := r
  dsimp only
  go_enter Tryz.func31, Tryz.ntmps31
  go_wp2
  go_ret
  exact ⟨rfl, ((Below.refl _ _).alloc (Nat.le_refl _) _).alloc (by simp) _⟩
theorem rf_cells {F : Nat → Prop} {A : Option Addr} {l : List Rf} (h : RfsIn F w A l) (i : Nat) (hi : i < l.length) : ∃ b off, A = some ⟨b, off, none⟩ ∧ b < w.heap.size ∧ w.cell? ⟨b, off + i * 2, none⟩ = some (.string l[i].name) ∧ w.cell? ⟨b, off + (i * 2 + 1), none⟩ = some (.int .i64 l[i].at_) := by
  obtain ⟨b, off, rfl, hb, hc⟩ := h.1.2 (by omega)
  have hg : ∀ (l : List Rf) (i : Nat) (hi : i < l.length), (l.flatMap rfC)[i * 2]? = some (.string l[i].name) ∧ (l.flatMap rfC)[i * 2 + 1]? = some (.int .i64 l[i].at_) := by
    intro l
    induction l with
    | nil => intro i hi; simp at hi
    | cons x l ih =>
      intro i hi
      cases i with
      | zero => exact ⟨rfl, rfl⟩
      | succ i =>
        have := ih i (by simpa using hi)
        rw [show (i + 1) * 2 = i * 2 + 2 by omega, show i * 2 + 2 + 1 = (i * 2 + 1) + 2 by omega]
        exact this
  obtain ⟨h1, h2⟩ := hg l i hi
  exact ⟨b, off, rfl, hb, hc _ _ h1, hc _ _ h2⟩
set_option maxRecDepth 100000 in
set_option maxHeartbeats 2000000 in
theorem sameRefs_c {F G : Nat → Prop} (A B : Option Addr) (l : List Rf) (n a b : Nat) (hn : l.length = n) (hn8 : n ≤ 140737488355328) (w : World) (hA : RfsIn F w A l) (hB : RfsIn G w B l) : Calls Tryz.prog 69 #[.slice A n a, .slice B n b, .bool true] w fun e w' => e = .returned (.bool true) ∧ Below w.heap.size w w' := by
  have HA := Lib.hid hA
  have HB := Lib.hid hB
  have HN := Lib.hid hn
  have HS := Lib.hid sameRef_c
  clear hA hB hn
  go_enter Tryz.func69, Tryz.ntmps69
  go_wp2
  go_loopg [7] n (fun kk q wr => ∃ j : Nat, j ≤ n ∧ kk = n - j ∧ q = .int .i64 (j : Int) ∧ Hid (Below w.heap.size w wr))
  case atStart => exact ⟨0, by omega, by omega, rfl, Lib.hid (Below.refl _ _)⟩
  case round =>
    obtain ⟨j, hj, hk, rfl, HR⟩ := hrel
    rcases Nat.eq_or_lt_of_le hj with rfl | hlt
    · have hnl : ¬ (j : Int) < (j : Int) := by omega
      clear hk hj
      go_wp2
      go_ret
      exact ⟨rfl, HR.out⟩
    · have hlt2 : (j : Int) < (n : Int) := by omega
      have hjl : j < l.length := by have := HN.out; omega
      obtain ⟨b1, o1, rfl, hb1, x1, y1⟩ := rf_cells (HA.out.keep (Keep.of_below HR.out F)) j hjl
      obtain ⟨b2, o2, rfl, hb2, x2, y2⟩ := rf_cells (HB.out.keep (Keep.of_below HR.out G)) j hjl
      have hSC := Lib.hid (fun W => HS.out l[j] W)
      generalize l[j] = R at *
      obtain ⟨nm, at_⟩ := R
      dsimp only at x1 y1 x2 y2 hSC
      have y1' : wr.cell? ⟨b1, o1 + j * 2 + 1, none⟩ = some (.int .i64 at_) := y1
      have y2' : wr.cell? ⟨b2, o2 + j * 2 + 1, none⟩ = some (.int .i64 at_) := y2
      clear y1 y2
      go_upto_region 6 with fail
      go_region_with (go_at_call 31; (refine (hSC.out _).mono ?_); rintro e w2 ⟨rfl, hB2⟩; have H2 : Hid (Below w.heap.size w w2) := (Below.drew HR.out).trans (hB2.mono (by exact HR.out.size)); clear hB2)
      all_goals
        go_wp2
        go_roundg (gk - 1)
        case measure => omega
        case rel => exact ⟨j + 1, by omega, by omega, by simp, H2⟩
inductive ExSm : List Ex → Prop
  | mk (es : List Ex) (hl : es.length ≤ 140737488355328) (hi : ∀ e ∈ es, ExSm e.args) : ExSm es
theorem ExSm.nil : ExSm [] := .mk _ (by simp) (fun _ h => by simp at h)
theorem ex_cells {F : Nat → Prop} {A : Option Addr} {es : List Ex} (h : ArgsIn F w A es) (i : Nat) (hi : i < es.length) : ∃ b off p, A = some ⟨b, off, none⟩ ∧ b < w.heap.size ∧ (∀ j v, (exC es[i] p)[j]? = some v → w.cell? ⟨b, off + (i * 5 + j), none⟩ = some v) ∧ ArgsIn F w p.1 es[i].args := by
  cases h with
  | mk _ _ sl hl hr hi2 =>
    obtain ⟨b, off, rfl, hb, hc⟩ := hr.1.2 (by omega)
    have h1 : es[i]? = some es[i] := List.getElem?_eq_getElem hi
    have h2 : sl[i]? = some (sl[i]'(by omega)) := List.getElem?_eq_getElem _
    exact ⟨b, off, sl[i]'(by omega), rfl, hb, fun j v hv => hc _ v (zipC_get exC 5 (fun _ _ => rfl) es sl i _ _ j v h1 h2 hv), hi2 i _ _ h1 h2⟩
set_option maxRecDepth 100000 in
set_option maxHeartbeats 4000000 in
theorem sameExpr_c {es : List Ex} (h : ExSm es) : ∀ {F G : Nat → Prop} (A B : Option Addr) (op text : ByteArray) (num at_ : Int) (n a b : Nat) (_ : es.length = n) (w : World) (_ : ArgsIn F w A es) (_ : ArgsIn G w B es),
    Calls Tryz.prog 32 #[.agg #[.string op, .int .i64 num, .string text, .int .i64 at_, .slice A n a], .agg #[.string op, .int .i64 num, .string text, .int .i64 at_, .slice B n b], .bool true] w fun e w' => e = .returned (.bool true) ∧ Below w.heap.size w w' := by
  induction h with
  | mk es hl hi ih =>
    intro F G A B op text num at_ n a b hn w hA hB
    have HI := Lib.hid ih
    have HN := Lib.hid hn
    have hn8 : n ≤ 140737488355328 := by omega
    have HW : Hid (∀ W, W = (w.alloc (.cells #[.string op, .int .i64 num, .string text, .int .i64 at_, .slice A n a] 39)).alloc (.cells #[.string op, .int .i64 num, .string text, .int .i64 at_, .slice B n b] 39) → Below w.heap.size w W ∧ Blk W w.heap.size 39 [.string op, .int .i64 num, .string text, .int .i64 at_, .slice A n a] ∧ Blk W (w.heap.size + 1) 39 [.string op, .int .i64 num, .string text, .int .i64 at_, .slice B n b] ∧ ArgsIn F W A es ∧ ArgsIn G W B es) := by
      rintro W rfl
      have hb2 : Below w.heap.size w ((w.alloc (.cells #[.string op, .int .i64 num, .string text, .int .i64 at_, .slice A n a] 39)).alloc (.cells #[.string op, .int .i64 num, .string text, .int .i64 at_, .slice B n b] 39)) := ((Below.refl _ _).alloc (Nat.le_refl _) _).alloc (by simp) _
      exact ⟨hb2, (Blk.new _ _ _).alloc _, Blk.new' (by simp) rfl, hA.keep (Keep.of_below hb2 F), hB.keep (Keep.of_below hb2 G)⟩
    clear ih hl hi hn hA hB
    go_enter Tryz.func32, Tryz.ntmps32
    go_wp2
    obtain ⟨g1, hg1⟩ : ∃ g1, g1 = w.heap.size := ⟨_, rfl⟩
    obtain ⟨g2, hg2⟩ : ∃ g2, g2 = w.heap.size + 1 := ⟨_, rfl⟩
    obtain ⟨W1, hW1⟩ : ∃ W1, W1 = ((w.alloc (.cells #[.string op, .int .i64 num, .string text, .int .i64 at_, .slice A n a] 39)).alloc (.cells #[.string op, .int .i64 num, .string text, .int .i64 at_, .slice B n b] 39)) := ⟨_, rfl⟩
    have HX := Lib.hid (HW.out W1 hW1)
    rw [← hW1]
    have HX2 : Hid (Blk W1 g1 39 [.string op, .int .i64 num, .string text, .int .i64 at_, .slice A n a] ∧ Blk W1 g2 39 [.string op, .int .i64 num, .string text, .int .i64 at_, .slice B n b]) := by subst hg1 hg2; exact ⟨HX.out.2.1, HX.out.2.2.1⟩
    rw [← hg2, ← hg1]
    have HBW : Hid (∀ W, Below W1.heap.size W1 W → Below w.heap.size w W) := fun W hW => HX.out.1.trans (hW.mono HX.out.1.size)
    clear HW hW1 hg2 hg1
    go_loopg [7] n (fun kk q wr => ∃ j : Nat, j ≤ n ∧ kk = n - j ∧ q = .int .i64 (j : Int) ∧ Hid (Below W1.heap.size W1 wr))
    case atStart => exact ⟨0, by omega, by omega, rfl, Lib.hid (Below.refl _ _)⟩
    case round =>
      obtain ⟨j, hj, hk, rfl, HR⟩ := hrel
      have f1 : wr.cell? ⟨g1, 4, none⟩ = some (.slice A n a) := (HX2.out.1.below HR.out HX2.out.1.lt).cell 4
      have f2 : wr.cell? ⟨g2, 4, none⟩ = some (.slice B n b) := (HX2.out.2.below HR.out HX2.out.2.lt).cell 4
      rcases Nat.eq_or_lt_of_le hj with rfl | hlt
      · have hnl : ¬ (j : Int) < (j : Int) := by omega
        clear hk hj
        go_wp2
        go_ret
        exact ⟨rfl, HBW.out _ HR.out⟩
      · have hlt2 : (j : Int) < (n : Int) := by omega
        have hjl : j < es.length := by have := HN.out; omega
        obtain ⟨b1, o1, p1, rfl, hb1, x1, k1⟩ := ex_cells (HX.out.2.2.2.1.keep (Keep.of_below HR.out F)) j hjl
        obtain ⟨b2, o2, p2, rfl, hb2, x2, k2⟩ := ex_cells (HX.out.2.2.2.2.keep (Keep.of_below HR.out G)) j hjl
        have hSC := Lib.hid (fun W (hW : Below wr.heap.size wr W) => HI.out es[j] (List.getElem_mem _) p1.1 p2.1 es[j].op es[j].text es[j].num es[j].at_ es[j].args.length p1.2 p2.2 rfl W (k1.keep (Keep.of_below hW F)) (k2.keep (Keep.of_below hW G)))
        clear k1 k2 HI
        generalize es[j] = E at *
        obtain ⟨op', num', text', at', args'⟩ := E
        obtain ⟨q1, c1⟩ := p1
        obtain ⟨q2, c2⟩ := p2
        have u0 : wr.cell? ⟨b1, o1 + j * 5, none⟩ = some (.string op') := x1 0 _ rfl
        have u1 : wr.cell? ⟨b1, o1 + j * 5 + 1, none⟩ = some (.int .i64 num') := x1 1 _ rfl
        have u2 : wr.cell? ⟨b1, o1 + j * 5 + 2, none⟩ = some (.string text') := x1 2 _ rfl
        have u3 : wr.cell? ⟨b1, o1 + j * 5 + 3, none⟩ = some (.int .i64 at') := x1 3 _ rfl
        have u4 : wr.cell? ⟨b1, o1 + j * 5 + 4, none⟩ = some (.slice q1 args'.length c1) := x1 4 _ rfl
        have v0 : wr.cell? ⟨b2, o2 + j * 5, none⟩ = some (.string op') := x2 0 _ rfl
        have v1 : wr.cell? ⟨b2, o2 + j * 5 + 1, none⟩ = some (.int .i64 num') := x2 1 _ rfl
        have v2 : wr.cell? ⟨b2, o2 + j * 5 + 2, none⟩ = some (.string text') := x2 2 _ rfl
        have v3 : wr.cell? ⟨b2, o2 + j * 5 + 3, none⟩ = some (.int .i64 at') := x2 3 _ rfl
        have v4 : wr.cell? ⟨b2, o2 + j * 5 + 4, none⟩ = some (.slice q2 args'.length c2) := x2 4 _ rfl
        clear x1 x2
        dsimp only [Ex.op, Ex.num, Ex.text, Ex.at_, Ex.args] at hSC
        generalize args'.length = m at *
        go_upto_region 6 with fail
        go_region_with (go_at_call 32; (refine (hSC.out _ (by exact Below.drew (Below.refl _ _))).mono ?_); rintro e w2 ⟨rfl, hB2⟩; have H2 : Hid (Below W1.heap.size W1 w2) := (Below.drew HR.out).trans (hB2.mono (by exact HR.out.size)); clear hB2)
        all_goals
          go_wp2
          go_roundg (gk - 1)
          case measure => omega
          case rel => exact ⟨j + 1, by omega, by omega, by simp, H2⟩
end
end Go.Proofs.YtafjkbbiaopemaaGreatDoor.Tr
