/- LexStreams: a round of the law's loop, case 3. -/
import Derived.Test.YtkpacpkldjfbhaaLexY
namespace Go.Proofs.Ytkpacpkldjfbhaa.lexStreams
open Go.RowKit

set_option maxRecDepth 100000 in
set_option maxHeartbeats 4000000 in
theorem case_3a (body : Code) (hb : IsBody body) (W wr : World) (g b2 o2 b3 o3 n c2 c3 : Nat) (ts : List Lx.Tok) (bA oA nA cA : Nat) (gk i at_ : Nat) (x : Ax) (t : Lx.Tok) (u : Nat → Value) (J : Nat → Act → World → Prop) (K K1 : Act → World → Prop)
    (hJ : ∀ k a' w', Inv W g b2 o2 b3 o3 n c2 c3 ts (some ⟨bA, oA, none⟩) nA cA k a' w' → J k a' w') (hK : ∀ a' w', Handed J gk a' w' → K a' w')
    (HGK : Hid (gk = nA - i)) (HM : Hid (Mid W g b2 o2 b3 o3 n c2 ts at_ wr)) (hi : i < nA) (hat : at_ < n) (hnA : nA ≤ 140737488355328) (hn8 : n ≤ 100000) (HN : Hid (ts.length = n)) (HT : Hid (ts[at_]? = some t))
    (hgW : W.heap.size ≤ g) (hgl : g < wr.heap.size) (hbA : bA < wr.heap.size) (hb3 : b3 < wr.heap.size)
    (a0 : wr.cell? ⟨bA, oA + i * 4, none⟩ = some (.int .i64 x.kind)) (a1 : wr.cell? ⟨bA, oA + i * 4 + 1, none⟩ = some (.int .i64 x.n)) (a2 : wr.cell? ⟨bA, oA + i * 4 + 2, none⟩ = some (.string x.text)) (a3 : wr.cell? ⟨bA, oA + i * 4 + 3, none⟩ = some (.slice x.A x.m x.c))
    (d0 : wr.cell? ⟨b3, o3 + at_ * 4, none⟩ = some (.int .i64 t.kind)) (d1 : wr.cell? ⟨b3, o3 + at_ * 4 + 1, none⟩ = some (.string (bytesOf t.text))) (d2 : wr.cell? ⟨b3, o3 + at_ * 4 + 2, none⟩ = some (.int .i64 t.num)) (d3 : wr.cell? ⟨b3, o3 + at_ * 4 + 3, none⟩ = some (.int .i64 t.at_))
    (HR : Hid (Rd wr x.A x.m (strs x.texts)))
    (k1 : ((x.kind : Int) == 1) = false) (k2 : ((x.kind : Int) == 2) = false) (k3 : ((x.kind : Int) == 3) = true) (h2 : b2 ≠ g) (h3 : b3 ≠ g) (HE : Hid (∀ a (t : Lx.Tok), ts[a]? = some t → t.kind ≠ 6 → a + 1 < ts.length)) (s2 : ((t.kind : Int) == 2) = false) (s5 : ((t.kind : Int) == 5) = false) :
    body.wp Try.prog (Exit.then K (Exit.inBlock 0 (Exit.then K1 (bodyPost Try.prog Try.f8 (Post W))))) ⟨#[u 0, u 1, u 2, u 3, u 4, u 5, .pointer (some ⟨g, 0, none⟩), u 7, .slice (some ⟨b3, o3, none⟩) n c3, u 9, .int .i64 at_, u 11, u 12, u 13, u 14, u 15, u 16, u 17, u 18, u 19, u 20, u 21, u 22, u 23, u 24, u 25, u 26, u 27, u 28, u 29, u 30, u 31, u 32, u 33, u 34, u 35, u 36, u 37, u 38, u 39, u 40, u 41, u 42, u 43, u 44, u 45, u 46, u 47, u 48, u 49, u 50, u 51, u 52, u 53, u 54, u 55, u 56, u 57, u 58, u 59, u 60, .slice (some ⟨bA, oA, none⟩) nA cA, .int .i64 nA, .int .i64 i, u 64, u 65, u 66, u 67, u 68, u 69, u 70, u 71, u 72, u 73, u 74, u 75, u 76, u 77, u 78, u 79, u 80, u 81, u 82, u 83, u 84, u 85, u 86, u 87, u 88, u 89, u 90, u 91, u 92, u 93, u 94, u 95, u 96, u 97, u 98, u 99, u 100, u 101, u 102, u 103, u 104, u 105, u 106, u 107, u 108, u 109, u 110, u 111, u 112, u 113, u 114, u 115, u 116, u 117, u 118, u 119, u 120, u 121, u 122, u 123, u 124, u 125, u 126, u 127, u 128, u 129, u 130, u 131, u 132, u 133, u 134, u 135, u 136, u 137, u 138, u 139, u 140, u 141, u 142, u 143, u 144, u 145, u 146, u 147, u 148, u 149, u 150, u 151, u 152, u 153, u 154, u 155, u 156, u 157, u 158, u 159, u 160, u 161, u 162, u 163, u 164, u 165, u 166, u 167, u 168, u 169, u 170, u 171, u 172, u 173, u 174, u 175, u 176, u 177, u 178, u 179, u 180, u 181, u 182, u 183, u 184, u 185, u 186, u 187, u 188, u 189, u 190, u 191], []⟩ wr := by
  unfold IsBody at hb
  conv at hb => lhs; whnf
  injection hb with hb
  subst hb
  have i1 : (i : Int) < (nA : Int) := by omega
  have i0 : (0 : Int) ≤ (i : Int) := by omega
  have j1 : (at_ : Int) < (n : Int) := by omega
  have j0 : (0 : Int) ≤ (at_ : Int) := by omega
  have HP := Lib.hid (fun W' (h : Stm g (some ⟨b2, o2, none⟩) n c2 at_ ts W') => peek_in g _ n c2 at_ ts t W' h.1 h.2 HN.out hn8 HT.out)
  have HH : Hid (Held W g b2 o2 b3 o3 n c2 ts at_ wr.heap.size x t (((wr.alloc (.cells (axCells x).toArray 66)).alloc (.cells (tokCells t).toArray 54)).alloc (.cells #[.int .i64 9, .int .i64 t.at_] 48))) :=
    ⟨((HM.out.alloc _).alloc _).alloc _, ((Blk.new wr _ _).alloc _).alloc _, (Blk.new' (by simp) rfl : Blk _ _ _ (tokCells t)).alloc _, Blk.new' (by simp) rfl⟩
  unfold tokCells axCells at HH
  unfold tokCells at HP
  have HTA : Hid (tokAt ts at_ = t) := by unfold tokAt; show _ = _; rw [HT.out]; rfl
  have hcl : ((t.kind : Int) != 6) = false ∨ ((t.kind : Int) != 6) = true := by cases ((t.kind : Int) != 6) <;> simp
  rcases hcl with s6 | s6
  all_goals
    have q2 : t.kind ≠ 2 := fun h => by rw [h] at s2; revert s2; decide
    have q5 : t.kind ≠ 5 := fun h => by rw [h] at s5; revert s5; decide
    have hno : isOf t [x.text] = false := by unfold isOf; simp [q2, q5]
    clear q2 q5
    have HK : Hid (∀ W', Stm g (some ⟨b2, o2, none⟩) n c2 at_ ts W' → Calls Try.prog 30 #[.pointer (some ⟨g, 0, none⟩), .string x.text] W' fun e w' => e = .returned (.agg #[.int .i64 9, .int .i64 t.at_]) ∧ Below W'.heap.size W' w') := fun W' h => take_no g _ n c2 at_ ts t x.text W' h HN.out hn8 HTA.out hno
    clear hno
    go_wp2_with fail
    go_region_held3 (fun W' => W'.cell? ⟨wr.heap.size + 1, 0, none⟩ = some (.int .i64 t.kind) ∧ W'.cell? ⟨wr.heap.size + 1, 1, none⟩ = some (.string (bytesOf t.text)) ∧ W'.cell? ⟨wr.heap.size + 1, 2, none⟩ = some (.int .i64 t.num) ∧ W'.cell? ⟨wr.heap.size + 1, 3, none⟩ = some (.int .i64 t.at_))
      (first | assumption | exact HH.out.toks) (first
      | (go_at_call 26; (with_reducible refine (HP.out _ (by exact HH.out.drew.mid.stm)).mono ?_); rintro e w6 ⟨rfl, hB6⟩; have HH6 := Lib.hid (HH.out.drew.below hB6); have ht6 := HH6.out.toks))
    clear ht6 hB6 HH
    obtain ⟨x0, x1, x2, x3⟩ := HH6.out.axs
    go_wp2_with (first
      | (go_at_call 30; (with_reducible refine (HK.out _ (by exact HH6.out.mid.stm)).mono ?_); rintro e w7 ⟨rfl, hB7⟩; have HH7 := Lib.hid (HH6.out.below hB7); have hl0 := HH7.out.ax.lt; have hl1 := HH7.out.tok.lt; have hl2 := HH7.out.ft.lt; obtain ⟨y0, y1, y2, y3⟩ := HH7.out.axs; obtain ⟨z0, z1, z2, z3⟩ := HH7.out.toks; obtain ⟨v0, v1⟩ := HH7.out.fts))
    have HH8 := Lib.hid (HH7.out.alloc (.cells #[.int .i64 9, .int .i64 t.at_] 48))
    clear y0 y1 y2 y3 z0 z1 z2 z3 v0 v1 hB7
    go_region_held3 (fun W' => W'.cell? ⟨b3, o3 + at_ * 4, none⟩ = some (.int .i64 t.kind) ∧ W'.cell? ⟨b3, o3 + at_ * 4 + 1, none⟩ = some (.string (bytesOf t.text)) ∧ W'.cell? ⟨b3, o3 + at_ * 4 + 2, none⟩ = some (.int .i64 t.num) ∧ W'.cell? ⟨b3, o3 + at_ * 4 + 3, none⟩ = some (.int .i64 t.at_))
      (first | assumption | exact HH8.out.mid.toks HT.out) (first
      | (go_at_call 26; (with_reducible refine (HP.out _ (by exact HH8.out.drew.mid.stm)).mono ?_); rintro e w9 ⟨rfl, hB9⟩; have HH9 := Lib.hid (HH8.out.drew.below hB9); have ht9 := HH9.out.mid.toks HT.out))
    clear ht9 hB9
    go_wp2_with fail
    refine Handed.intro (nA - (i + 1)) ?_ (hJ _ _ _ ⟨i + 1, at_, rfl, by omega, hat, HH9.out.mid, rfl, rfl, rfl, rfl, rfl, rfl, rfl, by show Value.int _ _ = _; first | rfl | go_num⟩)
    have := HGK.out; omega
set_option maxRecDepth 100000 in
set_option maxHeartbeats 4000000 in
theorem case_3b (body : Code) (hb : IsBody body) (W wr : World) (g b2 o2 b3 o3 n c2 c3 : Nat) (ts : List Lx.Tok) (bA oA nA cA : Nat) (gk i at_ : Nat) (x : Ax) (t : Lx.Tok) (u : Nat → Value) (J : Nat → Act → World → Prop) (K K1 : Act → World → Prop)
    (hJ : ∀ k a' w', Inv W g b2 o2 b3 o3 n c2 c3 ts (some ⟨bA, oA, none⟩) nA cA k a' w' → J k a' w') (hK : ∀ a' w', Handed J gk a' w' → K a' w')
    (HGK : Hid (gk = nA - i)) (HM : Hid (Mid W g b2 o2 b3 o3 n c2 ts at_ wr)) (hi : i < nA) (hat : at_ < n) (hnA : nA ≤ 140737488355328) (hn8 : n ≤ 100000) (HN : Hid (ts.length = n)) (HT : Hid (ts[at_]? = some t))
    (hgW : W.heap.size ≤ g) (hgl : g < wr.heap.size) (hbA : bA < wr.heap.size) (hb3 : b3 < wr.heap.size)
    (a0 : wr.cell? ⟨bA, oA + i * 4, none⟩ = some (.int .i64 x.kind)) (a1 : wr.cell? ⟨bA, oA + i * 4 + 1, none⟩ = some (.int .i64 x.n)) (a2 : wr.cell? ⟨bA, oA + i * 4 + 2, none⟩ = some (.string x.text)) (a3 : wr.cell? ⟨bA, oA + i * 4 + 3, none⟩ = some (.slice x.A x.m x.c))
    (d0 : wr.cell? ⟨b3, o3 + at_ * 4, none⟩ = some (.int .i64 t.kind)) (d1 : wr.cell? ⟨b3, o3 + at_ * 4 + 1, none⟩ = some (.string (bytesOf t.text))) (d2 : wr.cell? ⟨b3, o3 + at_ * 4 + 2, none⟩ = some (.int .i64 t.num)) (d3 : wr.cell? ⟨b3, o3 + at_ * 4 + 3, none⟩ = some (.int .i64 t.at_))
    (HR : Hid (Rd wr x.A x.m (strs x.texts)))
    (k1 : ((x.kind : Int) == 1) = false) (k2 : ((x.kind : Int) == 2) = false) (k3 : ((x.kind : Int) == 3) = true) (h2 : b2 ≠ g) (h3 : b3 ≠ g) (HE : Hid (∀ a (t : Lx.Tok), ts[a]? = some t → t.kind ≠ 6 → a + 1 < ts.length)) (s6 : ((t.kind : Int) != 6) = true) (hpl : t.kind = 2 ∨ t.kind = 5) (hT : x.text ≠ bytesOf t.text) :
    body.wp Try.prog (Exit.then K (Exit.inBlock 0 (Exit.then K1 (bodyPost Try.prog Try.f8 (Post W))))) ⟨#[u 0, u 1, u 2, u 3, u 4, u 5, .pointer (some ⟨g, 0, none⟩), u 7, .slice (some ⟨b3, o3, none⟩) n c3, u 9, .int .i64 at_, u 11, u 12, u 13, u 14, u 15, u 16, u 17, u 18, u 19, u 20, u 21, u 22, u 23, u 24, u 25, u 26, u 27, u 28, u 29, u 30, u 31, u 32, u 33, u 34, u 35, u 36, u 37, u 38, u 39, u 40, u 41, u 42, u 43, u 44, u 45, u 46, u 47, u 48, u 49, u 50, u 51, u 52, u 53, u 54, u 55, u 56, u 57, u 58, u 59, u 60, .slice (some ⟨bA, oA, none⟩) nA cA, .int .i64 nA, .int .i64 i, u 64, u 65, u 66, u 67, u 68, u 69, u 70, u 71, u 72, u 73, u 74, u 75, u 76, u 77, u 78, u 79, u 80, u 81, u 82, u 83, u 84, u 85, u 86, u 87, u 88, u 89, u 90, u 91, u 92, u 93, u 94, u 95, u 96, u 97, u 98, u 99, u 100, u 101, u 102, u 103, u 104, u 105, u 106, u 107, u 108, u 109, u 110, u 111, u 112, u 113, u 114, u 115, u 116, u 117, u 118, u 119, u 120, u 121, u 122, u 123, u 124, u 125, u 126, u 127, u 128, u 129, u 130, u 131, u 132, u 133, u 134, u 135, u 136, u 137, u 138, u 139, u 140, u 141, u 142, u 143, u 144, u 145, u 146, u 147, u 148, u 149, u 150, u 151, u 152, u 153, u 154, u 155, u 156, u 157, u 158, u 159, u 160, u 161, u 162, u 163, u 164, u 165, u 166, u 167, u 168, u 169, u 170, u 171, u 172, u 173, u 174, u 175, u 176, u 177, u 178, u 179, u 180, u 181, u 182, u 183, u 184, u 185, u 186, u 187, u 188, u 189, u 190, u 191], []⟩ wr := by
  unfold IsBody at hb
  conv at hb => lhs; whnf
  injection hb with hb
  subst hb
  have i1 : (i : Int) < (nA : Int) := by omega
  have i0 : (0 : Int) ≤ (i : Int) := by omega
  have j1 : (at_ : Int) < (n : Int) := by omega
  have j0 : (0 : Int) ≤ (at_ : Int) := by omega
  have HP := Lib.hid (fun W' (h : Stm g (some ⟨b2, o2, none⟩) n c2 at_ ts W') => peek_in g _ n c2 at_ ts t W' h.1 h.2 HN.out hn8 HT.out)
  have HH : Hid (Held W g b2 o2 b3 o3 n c2 ts at_ wr.heap.size x t (((wr.alloc (.cells (axCells x).toArray 66)).alloc (.cells (tokCells t).toArray 54)).alloc (.cells #[.int .i64 9, .int .i64 t.at_] 48))) :=
    ⟨((HM.out.alloc _).alloc _).alloc _, ((Blk.new wr _ _).alloc _).alloc _, (Blk.new' (by simp) rfl : Blk _ _ _ (tokCells t)).alloc _, Blk.new' (by simp) rfl⟩
  unfold tokCells axCells at HH
  unfold tokCells at HP
  have HTA : Hid (tokAt ts at_ = t) := by unfold tokAt; show _ = _; rw [HT.out]; rfl
  have hcl : ((t.kind : Int) == 2) = true ∨ (((t.kind : Int) == 2) = false ∧ ((t.kind : Int) == 5) = true) := by rcases hpl with q | q <;> simp [q]
  have e3 : (x.text.toList == (bytesOf t.text).toList) = false := str_ne hT
  have hno : isOf t [x.text] = false := by unfold isOf; rw [Bool.and_eq_false_iff]; right; rw [← Bool.not_eq_true, bmem_iff]; simpa using fun h => hT h.symm
  clear hT hpl
  rcases hcl with s2 | ⟨s2, s5⟩
  all_goals
    have HK : Hid (∀ W', Stm g (some ⟨b2, o2, none⟩) n c2 at_ ts W' → Calls Try.prog 30 #[.pointer (some ⟨g, 0, none⟩), .string x.text] W' fun e w' => e = .returned (.agg #[.int .i64 9, .int .i64 t.at_]) ∧ Below W'.heap.size W' w') := fun W' h => take_no g _ n c2 at_ ts t x.text W' h HN.out hn8 HTA.out hno
    clear hno
    go_wp2_with fail
    go_region_held3 (fun W' => W'.cell? ⟨wr.heap.size + 1, 0, none⟩ = some (.int .i64 t.kind) ∧ W'.cell? ⟨wr.heap.size + 1, 1, none⟩ = some (.string (bytesOf t.text)) ∧ W'.cell? ⟨wr.heap.size + 1, 2, none⟩ = some (.int .i64 t.num) ∧ W'.cell? ⟨wr.heap.size + 1, 3, none⟩ = some (.int .i64 t.at_))
      (first | assumption | exact HH.out.toks) (first
      | (go_at_call 26; (with_reducible refine (HP.out _ (by exact HH.out.drew.mid.stm)).mono ?_); rintro e w6 ⟨rfl, hB6⟩; have HH6 := Lib.hid (HH.out.drew.below hB6); have ht6 := HH6.out.toks))
    clear ht6 hB6 HH
    obtain ⟨x0, x1, x2, x3⟩ := HH6.out.axs
    go_wp2_with (first
      | (go_at_call 30; (with_reducible refine (HK.out _ (by exact HH6.out.mid.stm)).mono ?_); rintro e w7 ⟨rfl, hB7⟩; have HH7 := Lib.hid (HH6.out.below hB7); have hl0 := HH7.out.ax.lt; have hl1 := HH7.out.tok.lt; have hl2 := HH7.out.ft.lt; obtain ⟨y0, y1, y2, y3⟩ := HH7.out.axs; obtain ⟨z0, z1, z2, z3⟩ := HH7.out.toks; obtain ⟨v0, v1⟩ := HH7.out.fts))
    have HH8 := Lib.hid (HH7.out.alloc (.cells #[.int .i64 9, .int .i64 t.at_] 48))
    clear y0 y1 y2 y3 z0 z1 z2 z3 v0 v1 hB7
    go_region_held3 (fun W' => W'.cell? ⟨b3, o3 + at_ * 4, none⟩ = some (.int .i64 t.kind) ∧ W'.cell? ⟨b3, o3 + at_ * 4 + 1, none⟩ = some (.string (bytesOf t.text)) ∧ W'.cell? ⟨b3, o3 + at_ * 4 + 2, none⟩ = some (.int .i64 t.num) ∧ W'.cell? ⟨b3, o3 + at_ * 4 + 3, none⟩ = some (.int .i64 t.at_))
      (first | assumption | exact HH8.out.mid.toks HT.out) (first
      | (go_at_call 26; (with_reducible refine (HP.out _ (by exact HH8.out.drew.mid.stm)).mono ?_); rintro e w9 ⟨rfl, hB9⟩; have HH9 := Lib.hid (HH8.out.drew.below hB9); have ht9 := HH9.out.mid.toks HT.out))
    clear ht9 hB9
    go_wp2_with fail
    refine Handed.intro (nA - (i + 1)) ?_ (hJ _ _ _ ⟨i + 1, at_, rfl, by omega, hat, HH9.out.mid, rfl, rfl, rfl, rfl, rfl, rfl, rfl, by show Value.int _ _ = _; first | rfl | go_num⟩)
    have := HGK.out; omega
set_option maxRecDepth 100000 in
set_option maxHeartbeats 4000000 in
theorem case_3c (body : Code) (hb : IsBody body) (W wr : World) (g b2 o2 b3 o3 n c2 c3 : Nat) (ts : List Lx.Tok) (bA oA nA cA : Nat) (gk i at_ : Nat) (x : Ax) (t : Lx.Tok) (u : Nat → Value) (J : Nat → Act → World → Prop) (K K1 : Act → World → Prop)
    (hJ : ∀ k a' w', Inv W g b2 o2 b3 o3 n c2 c3 ts (some ⟨bA, oA, none⟩) nA cA k a' w' → J k a' w') (hK : ∀ a' w', Handed J gk a' w' → K a' w')
    (HGK : Hid (gk = nA - i)) (HM : Hid (Mid W g b2 o2 b3 o3 n c2 ts at_ wr)) (hi : i < nA) (hat : at_ < n) (hnA : nA ≤ 140737488355328) (hn8 : n ≤ 100000) (HN : Hid (ts.length = n)) (HT : Hid (ts[at_]? = some t))
    (hgW : W.heap.size ≤ g) (hgl : g < wr.heap.size) (hbA : bA < wr.heap.size) (hb3 : b3 < wr.heap.size)
    (a0 : wr.cell? ⟨bA, oA + i * 4, none⟩ = some (.int .i64 x.kind)) (a1 : wr.cell? ⟨bA, oA + i * 4 + 1, none⟩ = some (.int .i64 x.n)) (a2 : wr.cell? ⟨bA, oA + i * 4 + 2, none⟩ = some (.string x.text)) (a3 : wr.cell? ⟨bA, oA + i * 4 + 3, none⟩ = some (.slice x.A x.m x.c))
    (d0 : wr.cell? ⟨b3, o3 + at_ * 4, none⟩ = some (.int .i64 t.kind)) (d1 : wr.cell? ⟨b3, o3 + at_ * 4 + 1, none⟩ = some (.string (bytesOf t.text))) (d2 : wr.cell? ⟨b3, o3 + at_ * 4 + 2, none⟩ = some (.int .i64 t.num)) (d3 : wr.cell? ⟨b3, o3 + at_ * 4 + 3, none⟩ = some (.int .i64 t.at_))
    (HR : Hid (Rd wr x.A x.m (strs x.texts)))
    (k1 : ((x.kind : Int) == 1) = false) (k2 : ((x.kind : Int) == 2) = false) (k3 : ((x.kind : Int) == 3) = true) (h2 : b2 ≠ g) (h3 : b3 ≠ g) (HE : Hid (∀ a (t : Lx.Tok), ts[a]? = some t → t.kind ≠ 6 → a + 1 < ts.length)) (s6 : ((t.kind : Int) != 6) = true) (hpl : t.kind = 2 ∨ t.kind = 5) (hT : x.text = bytesOf t.text) :
    body.wp Try.prog (Exit.then K (Exit.inBlock 0 (Exit.then K1 (bodyPost Try.prog Try.f8 (Post W))))) ⟨#[u 0, u 1, u 2, u 3, u 4, u 5, .pointer (some ⟨g, 0, none⟩), u 7, .slice (some ⟨b3, o3, none⟩) n c3, u 9, .int .i64 at_, u 11, u 12, u 13, u 14, u 15, u 16, u 17, u 18, u 19, u 20, u 21, u 22, u 23, u 24, u 25, u 26, u 27, u 28, u 29, u 30, u 31, u 32, u 33, u 34, u 35, u 36, u 37, u 38, u 39, u 40, u 41, u 42, u 43, u 44, u 45, u 46, u 47, u 48, u 49, u 50, u 51, u 52, u 53, u 54, u 55, u 56, u 57, u 58, u 59, u 60, .slice (some ⟨bA, oA, none⟩) nA cA, .int .i64 nA, .int .i64 i, u 64, u 65, u 66, u 67, u 68, u 69, u 70, u 71, u 72, u 73, u 74, u 75, u 76, u 77, u 78, u 79, u 80, u 81, u 82, u 83, u 84, u 85, u 86, u 87, u 88, u 89, u 90, u 91, u 92, u 93, u 94, u 95, u 96, u 97, u 98, u 99, u 100, u 101, u 102, u 103, u 104, u 105, u 106, u 107, u 108, u 109, u 110, u 111, u 112, u 113, u 114, u 115, u 116, u 117, u 118, u 119, u 120, u 121, u 122, u 123, u 124, u 125, u 126, u 127, u 128, u 129, u 130, u 131, u 132, u 133, u 134, u 135, u 136, u 137, u 138, u 139, u 140, u 141, u 142, u 143, u 144, u 145, u 146, u 147, u 148, u 149, u 150, u 151, u 152, u 153, u 154, u 155, u 156, u 157, u 158, u 159, u 160, u 161, u 162, u 163, u 164, u 165, u 166, u 167, u 168, u 169, u 170, u 171, u 172, u 173, u 174, u 175, u 176, u 177, u 178, u 179, u 180, u 181, u 182, u 183, u 184, u 185, u 186, u 187, u 188, u 189, u 190, u 191], []⟩ wr := by
  unfold IsBody at hb
  conv at hb => lhs; whnf
  injection hb with hb
  subst hb
  have i1 : (i : Int) < (nA : Int) := by omega
  have i0 : (0 : Int) ≤ (i : Int) := by omega
  have j1 : (at_ : Int) < (n : Int) := by omega
  have j0 : (0 : Int) ≤ (at_ : Int) := by omega
  have HP := Lib.hid (fun W' (h : Stm g (some ⟨b2, o2, none⟩) n c2 at_ ts W') => peek_in g _ n c2 at_ ts t W' h.1 h.2 HN.out hn8 HT.out)
  have HH : Hid (Held W g b2 o2 b3 o3 n c2 ts at_ wr.heap.size x t (((wr.alloc (.cells (axCells x).toArray 66)).alloc (.cells (tokCells t).toArray 54)).alloc (.cells #[.int .i64 9, .int .i64 t.at_] 48))) :=
    ⟨((HM.out.alloc _).alloc _).alloc _, ((Blk.new wr _ _).alloc _).alloc _, (Blk.new' (by simp) rfl : Blk _ _ _ (tokCells t)).alloc _, Blk.new' (by simp) rfl⟩
  unfold tokCells axCells at HH
  unfold tokCells at HP
  have HTA : Hid (tokAt ts at_ = t) := by unfold tokAt; show _ = _; rw [HT.out]; rfl
  have hcl : ((t.kind : Int) == 2) = true ∨ (((t.kind : Int) == 2) = false ∧ ((t.kind : Int) == 5) = true) := by rcases hpl with q | q <;> simp [q]
  have e3 : (x.text.toList == (bytesOf t.text).toList) = true := by rw [hT]; simp
  rcases hcl with s2 | ⟨s2, s5⟩
  all_goals
    have hk6 : t.kind ≠ 6 := fun h => by rw [h] at s6; revert s6; decide
    have hat1 : at_ + 1 < n := by rw [← HN.out]; exact HE.out _ _ HT.out hk6
    obtain ⟨t', ht'⟩ : ∃ t', ts[at_ + 1]? = some t' := ⟨_, List.getElem?_eq_getElem (by rw [HN.out]; exact hat1)⟩
    have HT' := Lib.hid ht'
    clear ht'
    have HP' := Lib.hid (fun W' (h : Stm g (some ⟨b2, o2, none⟩) n c2 (at_ + 1) ts W') => peek_in g _ n c2 (at_ + 1) ts t' W' h.1 h.2 HN.out hn8 HT'.out)
    unfold tokCells at HP'
    have j2 : (at_ : Int) + 1 < (n : Int) := by omega
    have j3 : (0 : Int) ≤ (at_ : Int) + 1 := by omega
    clear hk6
    have HK : Hid (∀ W', Stm g (some ⟨b2, o2, none⟩) n c2 at_ ts W' → Calls Try.prog 30 #[.pointer (some ⟨g, 0, none⟩), .string x.text] W' fun e w' => e = .returned (.agg #[.int .i64 0, .int .i64 0]) ∧ Blk w' g 58 [.slice (some ⟨b2, o2, none⟩) n c2, .int .i64 ((at_ + 1 : Nat) : Int)] ∧ Wrote g W' w') := fun W' h => take_yes g _ n c2 at_ ts t x.text W' h HN.out hn8 (by omega) HTA.out (by unfold isOf; rw [hT]; have q : t.kind = 2 ∨ t.kind = 5 := hpl; rcases q with q | q <;> rw [q] <;> simp [bmem])
    clear hpl
    clear hT
    go_wp2_with fail
    go_region_held3 (fun W' => W'.cell? ⟨wr.heap.size + 1, 0, none⟩ = some (.int .i64 t.kind) ∧ W'.cell? ⟨wr.heap.size + 1, 1, none⟩ = some (.string (bytesOf t.text)) ∧ W'.cell? ⟨wr.heap.size + 1, 2, none⟩ = some (.int .i64 t.num) ∧ W'.cell? ⟨wr.heap.size + 1, 3, none⟩ = some (.int .i64 t.at_))
      (first | assumption | exact HH.out.toks) (first
      | (go_at_call 26; (with_reducible refine (HP.out _ (by exact HH.out.drew.mid.stm)).mono ?_); rintro e w6 ⟨rfl, hB6⟩; have HH6 := Lib.hid (HH.out.drew.below hB6); have ht6 := HH6.out.toks))
    clear ht6 hB6 HH
    obtain ⟨x0, x1, x2, x3⟩ := HH6.out.axs
    go_wp2_with (first
      | (go_at_call 30; (with_reducible refine (HK.out _ (by exact HH6.out.mid.stm)).mono ?_); rintro e w7 ⟨rfl, hb7, hW7⟩; have HH7 := Lib.hid (HH6.out.next hW7 hb7 h2 h3 hgW hgl); have hl0 := HH7.out.ax.lt; have hl1 := HH7.out.tok.lt; have hl2 := HH7.out.ft.lt; obtain ⟨y0, y1, y2, y3⟩ := HH7.out.axs; obtain ⟨z0, z1, z2, z3⟩ := HH7.out.toks; obtain ⟨v0, v1⟩ := HH7.out.fts))
    have HH8 := Lib.hid (HH7.out.alloc (.cells #[.int .i64 0, .int .i64 0] 48))
    clear y0 y1 y2 y3 z0 z1 z2 z3 v0 v1 hb7 hW7
    go_region_held3 (fun W' => W'.cell? ⟨b3, o3 + (at_ + 1) * 4, none⟩ = some (.int .i64 t'.kind) ∧ W'.cell? ⟨b3, o3 + (at_ + 1) * 4 + 1, none⟩ = some (.string (bytesOf t'.text)) ∧ W'.cell? ⟨b3, o3 + (at_ + 1) * 4 + 2, none⟩ = some (.int .i64 t'.num) ∧ W'.cell? ⟨b3, o3 + (at_ + 1) * 4 + 3, none⟩ = some (.int .i64 t'.at_))
      (first | assumption | exact HH8.out.mid.toks HT'.out) (first
      | (go_at_call 26; (with_reducible refine (HP'.out _ (by exact HH8.out.drew.mid.stm)).mono ?_); rintro e w9 ⟨rfl, hB9⟩; have HH9 := Lib.hid (HH8.out.drew.below hB9); have ht9 := HH9.out.mid.toks HT'.out))
    clear ht9 hB9
    go_wp2_with fail
    refine Handed.intro (nA - (i + 1)) ?_ (hJ _ _ _ ⟨i + 1, at_ + 1, rfl, by omega, by omega, HH9.out.mid, rfl, rfl, rfl, rfl, (by show Value.int _ _ = _; first | rfl | go_num), rfl, rfl, by show Value.int _ _ = _; first | rfl | go_num⟩)
    have := HGK.out; omega
end Go.Proofs.Ytkpacpkldjfbhaa.lexStreams
