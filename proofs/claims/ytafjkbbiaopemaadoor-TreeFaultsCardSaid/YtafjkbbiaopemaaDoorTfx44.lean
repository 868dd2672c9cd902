/- Part of the proof: Vf. -/
import Derived.Test.YtafjkbbiaopemaaDoorTfx43
set_option linter.unusedVariables false
namespace Go.Proofs.YtafjkbbiaopemaaDoor.Tr
open Go.RowKit
theorem decl_adv {ts : List Lx.Tok} (HT : Ends ts) {q : PS} (hs : sees ts [k_let, k_route] q = true) : q.i + 1 ≤ (declP ts q).2.i := by
  have h1 := ref_g HT (nxt q)
  have h2 := h1.trans (take_g HT m_eq _)
  unfold declP
  dsimp only
  split
  · exact ((h2.trans (expr_g HT 14 _)).trans (take_g HT m_semi _)).le
  · exact (((h2.trans (place_g HT _)).trans (placeLoop_g HT _ _ _)).trans (take_g HT m_semi _)).le
theorem eDc : ElemIs Tryd.prog 52 9 136 := ElemIs.of (z := .agg (dcC zDc pl0).toArray) (by kernel_rfl) rfl (by omega)
theorem oneDc (X : Dc) (y : plA) : (Tryd.prog.info? 52).map (fun i => ((i.zero.map (fun z => z.cells.size)), i.size)) = some (some (dcC X y).length, (dcC X y).length) := by kernel_rfl
theorem dcC_len (T : Dc) (p : plA) : (dcC T p).length = 9 := rfl
theorem agSdc (w : World) : (isAgg 23).run Tryd.prog w = .ok false w := by kernel_rfl
theorem szSdc (w : World) : (sizeOf 23).run Tryd.prog w = .ok 1 w := by kernel_rfl
def PaK (s : ByteArray) (R : Sr × (Int × Int)) (w : World) : Prop :=
  Calls Tryd.prog 5 #[.string s] w fun e w' => ∃ B d A c, e = .returned (.tuple #[.agg #[.slice B R.1.decls.length d, .slice A R.1.body.length c], .agg #[.int .i64 R.2.1, .int .i64 R.2.2]]) ∧ DcsIn (Fr w.heap.size) w' B R.1.decls ∧ BodyIn (Fr w.heap.size) w' A R.1.body ∧ Below w.heap.size w w'
set_option maxRecDepth 100000 in
set_option maxHeartbeats 2000000 in
theorem parse_no (s : ByteArray) {p q : Nat} {ts : List Lx.Tok} (hsc : Lx.scan s.data.toList = ((p, q), ts)) (hp : p ≠ 0) (w : World) : PaK s (⟨[], []⟩, ((p : Int), (q : Int))) w := by
  unfold PaK
  have HNS := Lib.hid (fun W => new_no s W hsc hp)
  have hpn : ((p : Int) != 0) = true := by rw [bne_iff_ne]; omega
  have HZ0 : Hid (∀ W, Below (w.heap.size + 2) ((w.alloc (.cells #[.slice none 0 0, .slice none 0 0] 26)).alloc (.cells #[.int .i64 0, .int .i64 0] 29)) W → Blk W w.heap.size 26 [.slice none 0 0, .slice none 0 0] ∧ Blk W (w.heap.size + 1) 29 [.int .i64 0, .int .i64 0] ∧ Below w.heap.size w W ∧ w.heap.size + 2 ≤ W.heap.size) := fun W hW =>
    ⟨((Blk.new w _ _).alloc _).below hW (by omega), (Blk.new' (by simp) rfl).below hW (by omega), (((Below.refl w.heap.size w).alloc (Nat.le_refl _) _).alloc (by simp) _).trans (hW.mono (by omega)), by have := hW.size; simp at this; omega⟩
  clear hsc hp
  generalize (p : Int) = P at *
  generalize (q : Int) = Q at *
  go_enter Tryd.func5, Tryd.ntmps5
  go_upto_region 3 with (go_at_call 8; (refine (HNS.out _).mono ?_); rintro e w2 ⟨rfl, hB2⟩; have HB2 := Lib.hid (HZ0.out w2 (by simpa using hB2)); clear hB2)
  have HB3 : Hid (Blk (w2.alloc (.cells #[.int .i64 P, .int .i64 Q] 29)) w.heap.size 26 [.slice none 0 0, .slice none 0 0] ∧ Blk (w2.alloc (.cells #[.int .i64 P, .int .i64 Q] 29)) (w.heap.size + 1) 29 [.int .i64 0, .int .i64 0] ∧ Below w.heap.size w (w2.alloc (.cells #[.int .i64 P, .int .i64 Q] 29)) ∧ Blk (w2.alloc (.cells #[.int .i64 P, .int .i64 Q] 29)) w2.heap.size 29 [.int .i64 P, .int .i64 Q] ∧ w.heap.size + 2 ≤ w2.heap.size) :=
    ⟨HB2.out.1.alloc _, HB2.out.2.1.alloc _, HB2.out.2.2.1.alloc HB2.out.2.2.1.size _, Blk.new _ _ _, HB2.out.2.2.2⟩
  generalize w2.alloc (.cells #[.int .i64 P, .int .i64 Q] 29) = w3 at *
  generalize w2.heap.size = G at *
  clear HB2 HNS HZ0
  obtain ⟨n0, n1, f0, f1⟩ := Blk.two HB3.out.2.2.2.1
  obtain ⟨x0, x1, k0, k1⟩ := Blk.two HB3.out.1
  obtain ⟨y0, y1, m0, m1⟩ := Blk.two HB3.out.2.1
  have hne1 : ¬ G = w.heap.size := by have := HB3.out.2.2.2.2; omega
  have hne2 : ¬ G = w.heap.size + 1 := by have := HB3.out.2.2.2.2; omega
  go_region
  go_wp2
  have HZ := HB3.out
  refine bodyPost_ret (res_cc rfl _ w.heap.size (w.heap.size + 1) 26 29 [.slice none 0 0, .slice none 0 0] [.int .i64 P, .int .i64 Q] rfl rfl (by exact ((((HZ.1.set_ 0 _).set_ 1 _).far (by simp) _).far (by simp) _).drew) (by exact ((((HZ.2.1.far (by simp) _).far (by simp) _).set_ 0 _).set_ 1 _).drew) _ _ Tryd.underlying26 rfl hdSr Tryd.underlying29 rfl hd48) rfl ?_
  exact ⟨none, 0, none, 0, rfl, DcsIn.nil _ _ _, BodyIn.nil _ _ _, ((((HZ.2.2.1.setCell (by simp) _).setCell (by simp) _).setCell (by simp) _).setCell (by simp) _).drew⟩
end Go.Proofs.YtafjkbbiaopemaaDoor.Tr
