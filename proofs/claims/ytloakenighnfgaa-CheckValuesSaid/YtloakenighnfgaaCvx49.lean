/- Part of the proof: Kq. -/
import Derived.Test.YtloakenighnfgaaCvx48
set_option linter.unusedVariables false
namespace Go.Proofs.Ytloakenighnfgaa.Tr
open Go.RowKit
@[reducible] def tyC (st sk vr : Int) (A : Option Addr) (n c : Nat) : List Value := [.int .i64 0, .int .i64 0, .int .i64 st, .int .i64 sk, .int .i64 0, .int .i64 0, .slice A n c, .slice none 0 0, .int .i64 vr, .int .i64 0]
structure FIn (w : World) (A : Option Addr) (b off : Nat) (p : StA) (b2 off2 b3 off3 c3 : Nat) (p2 : StA) (B1 : Option Addr) (c1 : Nat) (B2 : Option Addr) (c2 : Nat) : Prop where
  e1 : A = some ⟨b, off, none⟩
  e2 : p.y.1 = some ⟨b2, off2, none⟩
  r1 : b < w.heap.size ∧ w.rangeAt b off (stR p)
  r2 : b2 < w.heap.size ∧ w.rangeAt b2 off2 (stW b3 off3 c3 p2)
  r3 : b3 < w.heap.size ∧ w.rangeAt b3 off3 (arM B1 c1 B2 c2)
theorem FIn.of {F : Nat → Prop} {w : World} {A : Option Addr} (h : BodyIn F w A [stOut]) : ∃ b off p b2 off2 b3 off3 c3 p2 B1 c1 B2 c2, FIn w A b off p b2 off2 b3 off3 c3 p2 B1 c1 B2 c2 := by
  obtain ⟨b, off, p, e1, hb, hr, _, hy, _⟩ := body_one h
  obtain ⟨b2, off2, p2, e2, hb2, hr2, ⟨ha, _⟩, _⟩ := body_one hy
  obtain ⟨b3, off3, q1, q2, e3, hb3, hr3⟩ := args_two ha
  have e4 : p2.a = (some ⟨b3, off3, none⟩, p2.a.2) := by rw [← e3]
  refine ⟨b, off, p, b2, off2, b3, off3, p2.a.2, p2, q1.1, q1.2, q2.1, q2.2, e1, e2, ⟨hb, hr⟩, ⟨hb2, ?_⟩, ⟨hb3, hr3⟩⟩
  have e5 : stC stIn p2 = stW b3 off3 p2.a.2 p2 := by
    unfold stC stW
    rw [e4]
    rfl
  rw [← e5]
  exact hr2
theorem FIn.wr {w w' : World} {A : Option Addr} {b off : Nat} {p : StA} {b2 off2 b3 off3 c3 : Nat} {p2 : StA} {B1 : Option Addr} {c1 : Nat} {B2 : Option Addr} {c2 : Nat} (h : FIn w A b off p b2 off2 b3 off3 c3 p2 B1 c1 B2 c2) (hW : Below w.heap.size w w') : FIn w' A b off p b2 off2 b3 off3 c3 p2 B1 c1 B2 c2 :=
  ⟨h.e1, h.e2, range_wr h.r1 (Wr.of_below (L := []) hW) (by simp), range_wr h.r2 (Wr.of_below (L := []) hW) (by simp), range_wr h.r3 (Wr.of_below (L := []) hW) (by simp)⟩
theorem MapB.new (w : World) : MapB (w.alloc (.map #[] 0)) w.heap.size [] := ⟨#[], 0, by show (w.heap.push _)[w.heap.size]? = _; simp, by simp [mpEnt]⟩
theorem ldq_Ty (v : Value) : Instr.loadAt 40 v = ldAt 40 v := rfl
attribute [local go_sem ↓] ldq_Ty
theorem ok_b {w : World} {cp : Nat} (h : w.cell? ⟨cp, 12, none⟩ = some (.int .i64 0)) : Calls Try.prog 21 #[.pointer (some ⟨cp, 0, none⟩)] w fun e w' => e = .returned (.bool true) ∧ w = w' := by
  go_enter Try.func21, Try.ntmps21
  go_wp2
  go_ret
  exact ⟨rfl, rfl⟩
@[reducible] def ckF (M : Nat) (A : Option Addr) (c : Nat) : List Value := [.slice none 0 0, .map (some M), .int .i64 0, .int .i64 0, .int .i64 46, .int .i64 2, .int .i64 0, .int .i64 0, .slice A 1 c, .slice none 0 0, .int .i64 2, .int .i64 0, .int .i64 0, .int .i64 0, .int .i64 16, .int .i64 0, .int .i64 2]
theorem tyC_one (st sk vr : Int) (A : Option Addr) (n c : Nat) : ∀ v ∈ tyC st sk vr A n c, v.oneCell' = true := by
  intro v hv
  simp only [tyC, List.mem_cons, List.not_mem_nil, or_false] at hv
  rcases hv with rfl | rfl | rfl | rfl | rfl | rfl | rfl | rfl | rfl | rfl <;> rfl
set_option maxRecDepth 100000 in
set_option maxHeartbeats 4000000 in
theorem check_F (w : World) : Calls Try.prog 10 #[.string srcF, .slice none 0 0] w fun e w' => ∃ A c, e = .returned (.tuple #[.agg (tyC 46 2 2 A 1 c).toArray, .agg #[.int .i64 0, .int .i64 0]]) ∧ Below w.heap.size w w' := by
  have HP := Lib.hid parseF
  have HD := Lib.hid dcheck_nil
  have HS := Lib.hid (fun W cp mp (h : CkS cp mp [] 1 1 1 1 0 W) => stmts_F h)
  have HO := Lib.hid (fun W cp mp (h : CkS cp mp [] 46 2 2 16 2 W) => ok_k h)
  have HZ : Hid (∀ W, Below (w.heap.size + 2) ((w.alloc (.cells (tyC 0 0 0 none 0 0).toArray 40)).alloc (.cells #[.int .i64 0, .int .i64 0] 42)) W → Blk W w.heap.size 40 (tyC 0 0 0 none 0 0) ∧ Blk W (w.heap.size + 1) 42 [.int .i64 0, .int .i64 0] ∧ Below w.heap.size w W) := fun W hW =>
    ⟨((Blk.new w _ _).alloc _).below hW (by omega), (Blk.new' (by simp) rfl).below hW (by omega), (((Below.refl w.heap.size w).alloc (Nat.le_refl _) _).alloc (by simp) _).trans (hW.mono (by omega))⟩
  have hmm := @run_makeMap Try.prog
  go_enter Try.func10, Try.ntmps10
  go_upto_region 4 with (first
    | (go_at_call 17; (refine (HP.out _).mono ?_); rintro e w2 ⟨A2, c2, rfl, hb2, hB2⟩
       obtain ⟨b, off, p, b2, off2, b3, off3, c3, p2, B1, c1, B2, c2', hF2⟩ := FIn.of hb2
       have HB2 := Lib.hid hF2
       have HZ2 := Lib.hid (HZ.out w2 (by simpa using hB2))
       have hs2 : Hid (w.heap.size + 2 ≤ w2.heap.size) := by have := hB2.size; simp at this; exact this
       clear hb2 hB2 hF2))
  have HS3 : Hid (Blk ((w2.alloc (.cells #[.slice none 0 0, .slice A2 1 c2] 59)).alloc (.cells #[.int .i64 0, .int .i64 0] 42)) w2.heap.size 59 [.slice none 0 0, .slice A2 1 c2] ∧ Below w2.heap.size w2 ((w2.alloc (.cells #[.slice none 0 0, .slice A2 1 c2] 59)).alloc (.cells #[.int .i64 0, .int .i64 0] 42))) := ⟨(Blk.new _ _ _).alloc _, ((Below.refl _ _).alloc (Nat.le_refl _) _).alloc (by simp) _⟩
  have HB3 : Hid (FIn ((w2.alloc (.cells #[.slice none 0 0, .slice A2 1 c2] 59)).alloc (.cells #[.int .i64 0, .int .i64 0] 42)) A2 b off p b2 off2 b3 off3 c3 p2 B1 c1 B2 c2') := HB2.out.wr HS3.out.2
  have HB3l : Hid (b < w2.heap.size ∧ b2 < w2.heap.size ∧ b3 < w2.heap.size) := ⟨HB2.out.r1.1, HB2.out.r2.1, HB2.out.r3.1⟩
  have HZ3 : Hid (Blk ((w2.alloc (.cells #[.slice none 0 0, .slice A2 1 c2] 59)).alloc (.cells #[.int .i64 0, .int .i64 0] 42)) w.heap.size 40 (tyC 0 0 0 none 0 0) ∧ Blk ((w2.alloc (.cells #[.slice none 0 0, .slice A2 1 c2] 59)).alloc (.cells #[.int .i64 0, .int .i64 0] 42)) (w.heap.size + 1) 42 [.int .i64 0, .int .i64 0] ∧ Below w.heap.size w ((w2.alloc (.cells #[.slice none 0 0, .slice A2 1 c2] 59)).alloc (.cells #[.int .i64 0, .int .i64 0] 42))) := ⟨HZ2.out.1.below HS3.out.2 HZ2.out.1.lt, HZ2.out.2.1.below HS3.out.2 HZ2.out.2.1.lt, HZ2.out.2.2.trans (HS3.out.2.mono (by have := hs2.out; omega))⟩
  generalize ((w2.alloc (.cells #[.slice none 0 0, .slice A2 1 c2] 59)).alloc (.cells #[.int .i64 0, .int .i64 0] 42)) = w3 at *
  obtain ⟨G, hG⟩ : ∃ G, G = w2.heap.size := ⟨_, rfl⟩
  rw [← hG] at HS3 hs2 HB3l
  rw [← hG]
  clear HB2 HZ2 HZ hG
  go_upto_region 9 with (go_at_call 18; (refine (HD.out _).mono ?_); rintro e w4 ⟨rfl, rfl⟩)
  obtain ⟨M, hM⟩ : ∃ M, M = w3.heap.size := ⟨_, rfl⟩
  have HC5 : Hid (CkS (M + 1) M [] 1 1 1 1 0 ((w3.alloc (.map #[] 0)).alloc (.cells (ckC w3.heap.size 1 1 1 1 0).toArray 66))) := by
    subst hM
    exact ⟨Blk.new' (by simp) rfl, MapB.alloc (MapB.new w3) _, by omega⟩
  have HB5 : Hid (Below w3.heap.size w3 ((w3.alloc (.map #[] 0)).alloc (.cells (ckC w3.heap.size 1 1 1 1 0).toArray 66))) := ((Below.refl _ _).alloc (Nat.le_refl _) _).alloc (by simp) _
  have HF5 : Hid (FIn ((w3.alloc (.map #[] 0)).alloc (.cells (ckC w3.heap.size 1 1 1 1 0).toArray 66)) A2 b off p b2 off2 b3 off3 c3 p2 B1 c1 B2 c2' ∧ b < M ∧ b2 < M ∧ b3 < M) := ⟨HB3.out.wr HB5.out, by have := HB3.out.r1.1; have := HB3.out.r2.1; have := HB3.out.r3.1; omega⟩
  have HZ5 : Hid (Blk ((w3.alloc (.map #[] 0)).alloc (.cells (ckC w3.heap.size 1 1 1 1 0).toArray 66)) w.heap.size 40 (tyC 0 0 0 none 0 0) ∧ Blk ((w3.alloc (.map #[] 0)).alloc (.cells (ckC w3.heap.size 1 1 1 1 0).toArray 66)) (w.heap.size + 1) 42 [.int .i64 0, .int .i64 0] ∧ Below w.heap.size w ((w3.alloc (.map #[] 0)).alloc (.cells (ckC w3.heap.size 1 1 1 1 0).toArray 66)) ∧ Blk ((w3.alloc (.map #[] 0)).alloc (.cells (ckC w3.heap.size 1 1 1 1 0).toArray 66)) G 59 [.slice none 0 0, .slice A2 1 c2] ∧ w.heap.size + 2 ≤ M ∧ G < M) := ⟨HZ3.out.1.below HB5.out HZ3.out.1.lt, HZ3.out.2.1.below HB5.out HZ3.out.2.1.lt, HZ3.out.2.2.trans (HB5.out.mono HZ3.out.2.2.size), HS3.out.1.below HB5.out HS3.out.1.lt, by have h1 := hs2.out; have h2 := HS3.out.2.size; have h3 := HS3.out.1.lt; omega⟩
  rw [← hM] at *
  generalize ((w3.alloc (.map #[] 0)).alloc (.cells (ckC M 1 1 1 1 0).toArray 66)) = w5 at *
  clear HB5 HB3 HS3 HZ3 HB3l hs2 hM HP HD hmm
  have s0 : w5.cell? ⟨G, 0, none⟩ = some (.slice none 0 0) := HZ5.out.2.2.2.1.cell 0
  have s1 : w5.cell? ⟨G, 1, none⟩ = some (.slice A2 1 c2) := HZ5.out.2.2.2.1.cell 1
  go_wp2
  trace_state
  go_loopg [50] 0 (fun kk q wr => q = .int .i64 0 ∧ wr = w5)
  case atStart => exact ⟨rfl, rfl⟩
  case round =>
    obtain ⟨rfl, rfl⟩ := hrel
    go_upto_region 19 with (go_at_call 22; (first | rw [HF5.out.1.e1] | skip); (refine (HS.out _ (M + 1) M (by exact HC5.out) b off c2 p b2 off2 HF5.out.1.e2 b3 off3 c3 p2 B1 c1 B2 c2' HF5.out.1.r1 HF5.out.1.r2 HF5.out.1.r3 (by have := HF5.out.2; simp; omega) (by have := HF5.out.2; simp; omega) (by have := HF5.out.2; simp; omega)).mono ?_); rintro e w6 ⟨A6, c6, rfl, hc6, hW6⟩
                            have HC6 := Lib.hid hc6
                            have HW6 := Lib.hid hW6
                            have c8 : w6.cell? ⟨M + 1, 8, none⟩ = some (.slice none 0 0) := hc6.b.cell 8
                            have f8 := hc6.b.frozen 8
                            clear hc6 hW6)
    have HC7 : Hid (Blk (w6.setCell ⟨M + 1, 8, none⟩ (.slice A6 1 c6)) (M + 1) 66 (ckF M A6 c6)) := HC6.out.b.set_ 8 _
    have HW7 : Hid (Wr [M + 1, M] wr (w6.setCell ⟨M + 1, 8, none⟩ (.slice A6 1 c6))) := HW6.out.setCell (by simp) _
    generalize w6.setCell ⟨M + 1, 8, none⟩ (.slice A6 1 c6) = w7 at *
    have HZ7 : Hid (Blk w7 w.heap.size 40 (tyC 0 0 0 none 0 0) ∧ Blk w7 (w.heap.size + 1) 42 [.int .i64 0, .int .i64 0] ∧ Below w.heap.size w w7 ∧ w.heap.size + 2 ≤ M) := by
      obtain ⟨z1, z2, z3, z4, z5, z6⟩ := HZ5.out
      exact ⟨(HW7.out.block _ z1.lt (by simp; omega)).trans z1, (HW7.out.block _ z2.lt (by simp; omega)).trans z2, HW7.out.below z3 (by simp; omega) z3.size, z5⟩
    clear HZ5 HF5 HC5 HC6 HW6 c8 f8 s0 s1 HS HO
    have c12 : w7.cell? ⟨M + 1, 12, none⟩ = some (.int .i64 0) := HC7.out.cell 12
    have c2 : w7.cell? ⟨M + 1, 2, none⟩ = some (.int .i64 0) := HC7.out.cell 2
    have c7 : w7.cell? ⟨M + 1, 7, none⟩ = some (.int .i64 0) := HC7.out.cell 7
    have c3 : w7.cell? ⟨M + 1, 3, none⟩ = some (.int .i64 0) := HC7.out.cell 3
    have f3 := HC7.out.frozen 3
    go_upto_region 21 with (go_at_call 21; (refine (ok_b (by exact c12)).mono ?_); rintro e w8 ⟨rfl, rfl⟩)
    go_region
    have HC8 : Hid (Blk ((w7.setCell ⟨M + 1, 3, none⟩ (.int .i64 0)).drew) (M + 1) 66 (ckF M A6 c6)) := (HC7.out.set_ 3 _).drew
    have HO8 : Hid (Only w7 ((w7.setCell ⟨M + 1, 3, none⟩ (.int .i64 0)).drew) (M + 1)) := ((Only.refl w7 _).setCell 3 _).drewN 1
    generalize ((w7.setCell ⟨M + 1, 3, none⟩ (.int .i64 0)).drew) = w8 at *
    have HZ8 : Hid (Blk w8 w.heap.size 40 (tyC 0 0 0 none 0 0) ∧ Blk w8 (w.heap.size + 1) 42 [.int .i64 0, .int .i64 0] ∧ Below w.heap.size w w8) := by
      obtain ⟨z1, z2, z3, z4⟩ := HZ7.out
      exact ⟨HO8.out.blk z1 (by omega), HO8.out.blk z2 (by omega), HO8.out.below z3 (by omega) z3.size⟩
    clear HZ7 HO8 HC7 HW7 c12 c2 c7 c3 f3
    have hld8 := ldAt_run HC8.out 40 2 (tyC 46 2 2 A6 1 c6) rfl _ Try.underlying40 rfl hdTy
    go_wp2_with (first
      | (refine wpList_store_all rfl 40 (.tmp 4) (.tmp 112) rfl w.heap.size (tyC 46 2 2 A6 1 c6) (by rfl) (by rfl) 40 (tyC 0 0 0 none 0 0) (by exact HZ8.out.1) hdTy (tyC_one _ _ _ _ _ _) rfl ?_
         intro w9 hb9 ho9
         have HB9 := Lib.hid hb9
         have HO9 := Lib.hid ho9
         have HZ9 := Lib.hid (ho9.blk HZ8.out.2.1 (by omega))
         clear hb9 ho9)
      | (refine wpList_store_all rfl 42 (.tmp 5) (.tmp 113) rfl (w.heap.size + 1) [.int .i64 0, .int .i64 0] (by rfl) (by rfl) 42 [.int .i64 0, .int .i64 0] (by exact HZ9.out) hd48 (by intro v hv; simp only [List.mem_cons, List.not_mem_nil, or_false] at hv; rcases hv with rfl | rfl <;> rfl) rfl ?_
         intro w10 hb10 ho10))
    have hs8 := HZ8.out.2.2.size
    have hs9 := (HO9.out.below HZ8.out.2.2 (Nat.le_refl _) hs8)
    exact bodyPost_ret (res_cc rfl _ w.heap.size (w.heap.size + 1) 40 42 (tyC 46 2 2 A6 1 c6) [.int .i64 0, .int .i64 0] rfl rfl (ho10.blk HB9.out (by omega)) hb10 _ _ Try.underlying40 rfl hdTy Try.underlying42 rfl hd48) rfl ⟨A6, c6, rfl, ho10.below hs9 (by omega) hs9.size⟩
end Go.Proofs.Ytloakenighnfgaa.Tr
