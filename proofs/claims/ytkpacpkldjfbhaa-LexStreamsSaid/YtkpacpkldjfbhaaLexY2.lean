/- LexStreams: a round of the law's loop, case 2. -/
import Derived.Test.YtkpacpkldjfbhaaLexY
namespace Go.Proofs.Ytkpacpkldjfbhaa.lexStreams
open Go.RowKit

theorem eStr : ElemIs Try.prog 9 1 16 := ElemIs.of (z := .string ByteArray.empty) (by kernel_rfl) rfl (by omega)
theorem strs_one (l : List ByteArray) : ∀ v ∈ strs l, v.oneCell' = true := by
  intro v hv
  obtain ⟨c, _, rfl⟩ := List.mem_map.1 hv
  rfl
theorem isOf_nil (t : Lx.Tok) : Hid (false = isOf t ([] : List ByteArray)) := by
  show _ = _
  unfold isOf
  rw [show bmem (bytesOf t.text) [] = false from rfl, Bool.and_false]
theorem isOf_step (t : Lx.Tok) (l : List ByteArray) (k : Nat) (y : ByteArray) (p : Bool) (hy : l[k]? = some y) (hp : (decide (t.kind = 2) || decide (t.kind = 5)) = p) :
    (isOf t (l.take k) || (p && (y.toList == (bytesOf t.text).toList))) = isOf t (l.take (k + 1)) := by
  unfold isOf
  rw [hp, List.take_add_one, hy]
  have e : bmem (bytesOf t.text) (l.take k ++ (some y).toList) = (bmem (bytesOf t.text) (l.take k) || (y.toList == (bytesOf t.text).toList)) := by
    rw [Bool.eq_iff_iff, Bool.or_eq_true, bmem_iff, bmem_iff]
    simp only [Option.toList_some, List.mem_append, List.mem_singleton, beq_iff_eq]
    constructor
    · rintro (h | h)
      · exact .inl h
      · exact .inr (by rw [h])
    · rintro (h | h)
      · exact .inl h
      · by_cases hh : y = bytesOf t.text
        · exact .inr hh.symm
        · have := str_ne hh
          rw [h] at this
          simp at this
  rw [e]
  cases p <;> simp
set_option maxRecDepth 100000 in
set_option maxHeartbeats 4000000 in
theorem case_2a (body : Code) (hb : IsBody body) (W wr : World) (g b2 o2 b3 o3 n c2 c3 : Nat) (ts : List Lx.Tok) (bA oA nA cA : Nat) (gk i at_ : Nat) (x : Ax) (t : Lx.Tok) (u : Nat → Value) (J : Nat → Act → World → Prop) (K K1 : Act → World → Prop)
    (hJ : ∀ k a' w', Inv W g b2 o2 b3 o3 n c2 c3 ts (some ⟨bA, oA, none⟩) nA cA k a' w' → J k a' w') (hK : ∀ a' w', Handed J gk a' w' → K a' w')
    (HGK : Hid (gk = nA - i)) (HM : Hid (Mid W g b2 o2 b3 o3 n c2 ts at_ wr)) (hi : i < nA) (hat : at_ < n) (hnA : nA ≤ 140737488355328) (hn8 : n ≤ 100000) (HN : Hid (ts.length = n)) (HT : Hid (ts[at_]? = some t))
    (hgW : W.heap.size ≤ g) (hgl : g < wr.heap.size) (hbA : bA < wr.heap.size) (hb3 : b3 < wr.heap.size)
    (a0 : wr.cell? ⟨bA, oA + i * 4, none⟩ = some (.int .i64 x.kind)) (a1 : wr.cell? ⟨bA, oA + i * 4 + 1, none⟩ = some (.int .i64 x.n)) (a2 : wr.cell? ⟨bA, oA + i * 4 + 2, none⟩ = some (.string x.text)) (a3 : wr.cell? ⟨bA, oA + i * 4 + 3, none⟩ = some (.slice x.A x.m x.c))
    (d0 : wr.cell? ⟨b3, o3 + at_ * 4, none⟩ = some (.int .i64 t.kind)) (d1 : wr.cell? ⟨b3, o3 + at_ * 4 + 1, none⟩ = some (.string (bytesOf t.text))) (d2 : wr.cell? ⟨b3, o3 + at_ * 4 + 2, none⟩ = some (.int .i64 t.num)) (d3 : wr.cell? ⟨b3, o3 + at_ * 4 + 3, none⟩ = some (.int .i64 t.at_))
    (HR : Hid (Rd wr x.A x.m (strs x.texts)))
    (k1 : ((x.kind : Int) == 1) = false) (k2 : ((x.kind : Int) == 2) = true) (h2 : b2 ≠ g) (h3 : b3 ≠ g) (HE : Hid (∀ a (t : Lx.Tok), ts[a]? = some t → t.kind ≠ 6 → a + 1 < ts.length)) (s2 : ((t.kind : Int) == 2) = false) (s5 : ((t.kind : Int) == 5) = false) (hnp : t.kind ≠ 2 ∧ t.kind ≠ 5) (hm16 : x.m * 16 ≤ 140737488355328) :
    body.wp Try.prog (Exit.then K (Exit.inBlock 0 (Exit.then K1 (bodyPost Try.prog Try.f8 (Post W))))) ⟨#[u 0, u 1, u 2, u 3, u 4, u 5, .pointer (some ⟨g, 0, none⟩), u 7, .slice (some ⟨b3, o3, none⟩) n c3, u 9, .int .i64 at_, u 11, u 12, u 13, u 14, u 15, u 16, u 17, u 18, u 19, u 20, u 21, u 22, u 23, u 24, u 25, u 26, u 27, u 28, u 29, u 30, u 31, u 32, u 33, u 34, u 35, u 36, u 37, u 38, u 39, u 40, u 41, u 42, u 43, u 44, u 45, u 46, u 47, u 48, u 49, u 50, u 51, u 52, u 53, u 54, u 55, u 56, u 57, u 58, u 59, u 60, .slice (some ⟨bA, oA, none⟩) nA cA, .int .i64 nA, .int .i64 i, u 64, u 65, u 66, u 67, u 68, u 69, u 70, u 71, u 72, u 73, u 74, u 75, u 76, u 77, u 78, u 79, u 80, u 81, u 82, u 83, u 84, u 85, u 86, u 87, u 88, u 89, u 90, u 91, u 92, u 93, u 94, u 95, u 96, u 97, u 98, u 99, u 100, u 101, u 102, u 103, u 104, u 105, u 106, u 107, u 108, u 109, u 110, u 111, u 112, u 113, u 114, u 115, u 116, u 117, u 118, u 119, u 120, u 121, u 122, u 123, u 124, u 125, u 126, u 127, u 128, u 129, u 130, u 131, u 132, u 133, u 134, u 135, u 136, u 137, u 138, u 139, u 140, u 141, u 142, u 143, u 144, u 145, u 146, u 147, u 148, u 149, u 150, u 151, u 152, u 153, u 154, u 155, u 156, u 157, u 158, u 159, u 160, u 161, u 162, u 163, u 164, u 165, u 166, u 167, u 168, u 169, u 170, u 171, u 172, u 173, u 174, u 175, u 176, u 177, u 178, u 179, u 180, u 181, u 182, u 183, u 184, u 185, u 186, u 187, u 188, u 189, u 190, u 191], []⟩ wr := by
  unfold IsBody at hb
  conv at hb => lhs; whnf
  injection hb with hb
  subst hb
  have i1 : (i : Int) < (nA : Int) := by omega
  have i0 : (0 : Int) ≤ (i : Int) := by omega
  have j1 : (at_ : Int) < (n : Int) := by omega
  have j0 : (0 : Int) ≤ (at_ : Int) := by omega
  have HP := Lib.hid (fun W' (h : Stm g (some ⟨b2, o2, none⟩) n c2 at_ ts W') => peek_in g _ n c2 at_ ts t W' h.1 h.2 HN.out hn8 HT.out)
  have HH : Hid (Held W g b2 o2 b3 o3 n c2 ts at_ wr.heap.size x t (((wr.alloc (.cells (axCells x).toArray 66)).alloc (.cells (tokCells t).toArray 54)).alloc (.cells #[.int .i64 9, .int .i64 t.at_] 48))) :=
    ⟨((HM.out.alloc _).alloc _).alloc _, ((Blk.new wr _ _).alloc _).alloc _, (Blk.new' (by simp) rfl : Blk _ _ _ (tokCells t)).alloc _, Blk.new' (by simp) rfl⟩
  unfold tokCells axCells at HH
  unfold tokCells at HP
  have HTA : Hid (tokAt ts at_ = t) := by unfold tokAt; show _ = _; rw [HT.out]; rfl
  have hcl : ((t.kind : Int) != 6) = false ∨ ((t.kind : Int) != 6) = true := by cases ((t.kind : Int) != 6) <;> simp
  rcases hcl with s6 | s6
  all_goals
    go_wp2_with fail
    go_region_held3 (fun W' => W'.cell? ⟨wr.heap.size + 1, 0, none⟩ = some (.int .i64 t.kind) ∧ W'.cell? ⟨wr.heap.size + 1, 1, none⟩ = some (.string (bytesOf t.text)) ∧ W'.cell? ⟨wr.heap.size + 1, 2, none⟩ = some (.int .i64 t.num) ∧ W'.cell? ⟨wr.heap.size + 1, 3, none⟩ = some (.int .i64 t.at_))
      (first | assumption | exact HH.out.toks) (first
      | (go_at_call 26; (with_reducible refine (HP.out _ (by exact HH.out.drew.mid.stm)).mono ?_); rintro e w6 ⟨rfl, hB6⟩; have HH6 := Lib.hid (HH.out.drew.below hB6); have ht6 := HH6.out.toks; have HR6 := Lib.hid ((((HR.out.alloc _).alloc _).alloc _).drew.below hB6)))
    clear ht6 hB6 HH
    obtain ⟨x0, x1, x2, x3⟩ := HH6.out.axs
    obtain ⟨f0, f1, f2, f3⟩ := HH6.out.toks
    have hl0 := HH6.out.ax.lt
    have hl1 := HH6.out.tok.lt
    go_wp2_with fail
    go_loop [17, 105] (fun q r => ∃ (k : Nat) (B : Bool), k ≤ x.m ∧ r = .int .i64 k ∧ q = .bool B ∧ Hid (B = isOf t (x.texts.take k))) (fun _ r => x.m - (intOf r).toNat)
    case atStart => exact ⟨0, false, Nat.zero_le _, rfl, rfl, isOf_nil t⟩
    case round =>
      obtain ⟨k, B, hk, rfl, rfl, HB⟩ := hrel
      by_cases hlt : k < x.m
      · obtain ⟨b, off, u', hA, hbl, HU, hc⟩ := HR6.out.at_ hlt
        obtain ⟨y, hy, rfl⟩ := strs_get HU.out
        have HY := Lib.hid hy
        have l0 : (0 : Int) ≤ (k : Int) := by omega
        have l1 : (k : Int) < (x.m : Int) := by omega
        clear hy HU
        have HS : Hid (∀ B', B' = (B || (false && (y.toList == (bytesOf t.text).toList))) → B' = isOf t (x.texts.take (k + 1))) := fun B' h => by
          rw [h, HB.out]; exact isOf_step t x.texts k y false HY.out (by simp [hnp.1, hnp.2])
        rw [hA] at x3
        cases B
        · go_wp2_with fail
          go_round
          case rel => exact ⟨k + 1, false, by omega, by go_num, rfl, HS.out _ (by simp)⟩
          case measure => simp [intOf]; omega
        · go_wp2_with fail
          go_round
          case rel => exact ⟨k + 1, true, by omega, by go_num, rfl, HS.out _ (by simp)⟩
          case measure => simp [intOf]; omega
      · have hB2 : Hid (B = isOf t x.texts) := by
          have := HB.out
          rwa [List.take_of_length_le (by have := HR6.out.1; simp [strs] at this; omega)] at this
        clear hk HB
        have own0 : Hid (∀ W' : World, (W'.alloc (.cells #[] 9)).ownsRow W'.heap.size 9 1 (.slice (some ⟨W'.heap.size, 0, none⟩) 0 0) 0 []) := fun W' => ⟨rfl, .inr ⟨W'.heap.size, 0, #[], rfl, Nat.le_refl _, heap_alloc_new W' _, Nat.le_refl _, by simp [maxLen], rfl, rfl⟩⟩
        have HI : Hid (∀ W' A1 c1, Stm g (some ⟨b2, o2, none⟩) n c2 at_ ts W' → Rd W' A1 x.m (strs x.texts) → Calls Try.prog 28 #[.pointer (some ⟨g, 0, none⟩), .slice A1 x.m c1] W' fun e w' => e = .returned (.bool B) ∧ Below W'.heap.size W' w') := fun W' A1 c1 h hr => hB2.out ▸ is_any g _ n c2 at_ ts t A1 x.m c1 x.texts W' h.1 h.2 HN.out hn8 HTA.out hr (by omega)
        clear hB2
        cases B
        all_goals
          go_wp2_with (first
            | (at_builtin; refine wpList_app rfl (.tmp 121) (.tmp 123) _ rfl w6.heap.size 9 1 16 Try.underlying64 eStr (.slice (some ⟨w6.heap.size, 0, none⟩) 0 0) 0 [] (by rfl) (own0.out _) x.A x.m x.c (strs x.texts) (by rfl) (by exact (HR6.out.alloc _).toS) (strs_one _) (by omega) (by omega) (by simp) ?_
               intro A7 c7 w7 hown7 hc7 hg7 hat7
               have hB7 : Below w6.heap.size w6 w7 := ((Below.refl _ _).alloc (Nat.le_refl _) _).grown hg7 (by simp) (by intro k hk; simp [Value.ownBlock] at hk; omega)
               have HH7 := Lib.hid (HH6.out.below hB7)
               rw [Nat.zero_add, List.nil_append] at hown7
               rw [Nat.zero_add]
               have HO7 := Lib.hid (Rd.of_own hown7)
               clear hown7 hc7 hg7 hat7 hB7)
            | (go_at_call 28; (with_reducible refine (HI.out _ _ _ (by exact HH7.out.mid.stm) (by exact HO7.out)).mono ?_); rintro e w8 ⟨rfl, hB8⟩; have HH8 := Lib.hid (HH7.out.below hB8)))
          go_region_held3 (fun W' => W'.cell? ⟨b3, o3 + at_ * 4, none⟩ = some (.int .i64 t.kind) ∧ W'.cell? ⟨b3, o3 + at_ * 4 + 1, none⟩ = some (.string (bytesOf t.text)) ∧ W'.cell? ⟨b3, o3 + at_ * 4 + 2, none⟩ = some (.int .i64 t.num) ∧ W'.cell? ⟨b3, o3 + at_ * 4 + 3, none⟩ = some (.int .i64 t.at_))
            (first | assumption | exact HH8.out.mid.toks HT.out) (first
            | (go_at_call 26; (with_reducible refine (HP.out _ (by exact HH8.out.drew.mid.stm)).mono ?_); rintro e w9 ⟨rfl, hB9⟩; have HH9 := Lib.hid (HH8.out.drew.below hB9); have ht9 := HH9.out.mid.toks HT.out))
          clear ht9 hB9
          go_wp2_with fail
          refine Handed.intro (nA - (i + 1)) ?_ (hJ _ _ _ ⟨i + 1, at_, rfl, by omega, hat, HH9.out.mid, rfl, rfl, rfl, rfl, rfl, rfl, rfl, by show Value.int _ _ = _; first | rfl | go_num⟩)
          have := HGK.out; omega
set_option maxRecDepth 100000 in
set_option maxHeartbeats 4000000 in
theorem case_2b (body : Code) (hb : IsBody body) (W wr : World) (g b2 o2 b3 o3 n c2 c3 : Nat) (ts : List Lx.Tok) (bA oA nA cA : Nat) (gk i at_ : Nat) (x : Ax) (t : Lx.Tok) (u : Nat → Value) (J : Nat → Act → World → Prop) (K K1 : Act → World → Prop)
    (hJ : ∀ k a' w', Inv W g b2 o2 b3 o3 n c2 c3 ts (some ⟨bA, oA, none⟩) nA cA k a' w' → J k a' w') (hK : ∀ a' w', Handed J gk a' w' → K a' w')
    (HGK : Hid (gk = nA - i)) (HM : Hid (Mid W g b2 o2 b3 o3 n c2 ts at_ wr)) (hi : i < nA) (hat : at_ < n) (hnA : nA ≤ 140737488355328) (hn8 : n ≤ 100000) (HN : Hid (ts.length = n)) (HT : Hid (ts[at_]? = some t))
    (hgW : W.heap.size ≤ g) (hgl : g < wr.heap.size) (hbA : bA < wr.heap.size) (hb3 : b3 < wr.heap.size)
    (a0 : wr.cell? ⟨bA, oA + i * 4, none⟩ = some (.int .i64 x.kind)) (a1 : wr.cell? ⟨bA, oA + i * 4 + 1, none⟩ = some (.int .i64 x.n)) (a2 : wr.cell? ⟨bA, oA + i * 4 + 2, none⟩ = some (.string x.text)) (a3 : wr.cell? ⟨bA, oA + i * 4 + 3, none⟩ = some (.slice x.A x.m x.c))
    (d0 : wr.cell? ⟨b3, o3 + at_ * 4, none⟩ = some (.int .i64 t.kind)) (d1 : wr.cell? ⟨b3, o3 + at_ * 4 + 1, none⟩ = some (.string (bytesOf t.text))) (d2 : wr.cell? ⟨b3, o3 + at_ * 4 + 2, none⟩ = some (.int .i64 t.num)) (d3 : wr.cell? ⟨b3, o3 + at_ * 4 + 3, none⟩ = some (.int .i64 t.at_))
    (HR : Hid (Rd wr x.A x.m (strs x.texts)))
    (k1 : ((x.kind : Int) == 1) = false) (k2 : ((x.kind : Int) == 2) = true) (h2 : b2 ≠ g) (h3 : b3 ≠ g) (HE : Hid (∀ a (t : Lx.Tok), ts[a]? = some t → t.kind ≠ 6 → a + 1 < ts.length)) (s6 : ((t.kind : Int) != 6) = true) (hpl : t.kind = 2 ∨ t.kind = 5) (hm16 : x.m * 16 ≤ 140737488355328) :
    body.wp Try.prog (Exit.then K (Exit.inBlock 0 (Exit.then K1 (bodyPost Try.prog Try.f8 (Post W))))) ⟨#[u 0, u 1, u 2, u 3, u 4, u 5, .pointer (some ⟨g, 0, none⟩), u 7, .slice (some ⟨b3, o3, none⟩) n c3, u 9, .int .i64 at_, u 11, u 12, u 13, u 14, u 15, u 16, u 17, u 18, u 19, u 20, u 21, u 22, u 23, u 24, u 25, u 26, u 27, u 28, u 29, u 30, u 31, u 32, u 33, u 34, u 35, u 36, u 37, u 38, u 39, u 40, u 41, u 42, u 43, u 44, u 45, u 46, u 47, u 48, u 49, u 50, u 51, u 52, u 53, u 54, u 55, u 56, u 57, u 58, u 59, u 60, .slice (some ⟨bA, oA, none⟩) nA cA, .int .i64 nA, .int .i64 i, u 64, u 65, u 66, u 67, u 68, u 69, u 70, u 71, u 72, u 73, u 74, u 75, u 76, u 77, u 78, u 79, u 80, u 81, u 82, u 83, u 84, u 85, u 86, u 87, u 88, u 89, u 90, u 91, u 92, u 93, u 94, u 95, u 96, u 97, u 98, u 99, u 100, u 101, u 102, u 103, u 104, u 105, u 106, u 107, u 108, u 109, u 110, u 111, u 112, u 113, u 114, u 115, u 116, u 117, u 118, u 119, u 120, u 121, u 122, u 123, u 124, u 125, u 126, u 127, u 128, u 129, u 130, u 131, u 132, u 133, u 134, u 135, u 136, u 137, u 138, u 139, u 140, u 141, u 142, u 143, u 144, u 145, u 146, u 147, u 148, u 149, u 150, u 151, u 152, u 153, u 154, u 155, u 156, u 157, u 158, u 159, u 160, u 161, u 162, u 163, u 164, u 165, u 166, u 167, u 168, u 169, u 170, u 171, u 172, u 173, u 174, u 175, u 176, u 177, u 178, u 179, u 180, u 181, u 182, u 183, u 184, u 185, u 186, u 187, u 188, u 189, u 190, u 191], []⟩ wr := by
  unfold IsBody at hb
  conv at hb => lhs; whnf
  injection hb with hb
  subst hb
  have i1 : (i : Int) < (nA : Int) := by omega
  have i0 : (0 : Int) ≤ (i : Int) := by omega
  have j1 : (at_ : Int) < (n : Int) := by omega
  have j0 : (0 : Int) ≤ (at_ : Int) := by omega
  have HP := Lib.hid (fun W' (h : Stm g (some ⟨b2, o2, none⟩) n c2 at_ ts W') => peek_in g _ n c2 at_ ts t W' h.1 h.2 HN.out hn8 HT.out)
  have HH : Hid (Held W g b2 o2 b3 o3 n c2 ts at_ wr.heap.size x t (((wr.alloc (.cells (axCells x).toArray 66)).alloc (.cells (tokCells t).toArray 54)).alloc (.cells #[.int .i64 9, .int .i64 t.at_] 48))) :=
    ⟨((HM.out.alloc _).alloc _).alloc _, ((Blk.new wr _ _).alloc _).alloc _, (Blk.new' (by simp) rfl : Blk _ _ _ (tokCells t)).alloc _, Blk.new' (by simp) rfl⟩
  unfold tokCells axCells at HH
  unfold tokCells at HP
  have HTA : Hid (tokAt ts at_ = t) := by unfold tokAt; show _ = _; rw [HT.out]; rfl
  have hcl : ((t.kind : Int) == 2) = true ∨ (((t.kind : Int) == 2) = false ∧ ((t.kind : Int) == 5) = true) := by rcases hpl with q | q <;> simp [q]
  rcases hcl with s2 | ⟨s2, s5⟩
  all_goals
    go_wp2_with fail
    go_region_held3 (fun W' => W'.cell? ⟨wr.heap.size + 1, 0, none⟩ = some (.int .i64 t.kind) ∧ W'.cell? ⟨wr.heap.size + 1, 1, none⟩ = some (.string (bytesOf t.text)) ∧ W'.cell? ⟨wr.heap.size + 1, 2, none⟩ = some (.int .i64 t.num) ∧ W'.cell? ⟨wr.heap.size + 1, 3, none⟩ = some (.int .i64 t.at_))
      (first | assumption | exact HH.out.toks) (first
      | (go_at_call 26; (with_reducible refine (HP.out _ (by exact HH.out.drew.mid.stm)).mono ?_); rintro e w6 ⟨rfl, hB6⟩; have HH6 := Lib.hid (HH.out.drew.below hB6); have ht6 := HH6.out.toks; have HR6 := Lib.hid ((((HR.out.alloc _).alloc _).alloc _).drew.below hB6)))
    clear ht6 hB6 HH
    obtain ⟨x0, x1, x2, x3⟩ := HH6.out.axs
    obtain ⟨f0, f1, f2, f3⟩ := HH6.out.toks
    have hl0 := HH6.out.ax.lt
    have hl1 := HH6.out.tok.lt
    go_wp2_with fail
    go_loop [17, 105] (fun q r => ∃ (k : Nat) (B : Bool), k ≤ x.m ∧ r = .int .i64 k ∧ q = .bool B ∧ Hid (B = isOf t (x.texts.take k))) (fun _ r => x.m - (intOf r).toNat)
    case atStart => exact ⟨0, false, Nat.zero_le _, rfl, rfl, isOf_nil t⟩
    case round =>
      obtain ⟨k, B, hk, rfl, rfl, HB⟩ := hrel
      by_cases hlt : k < x.m
      · obtain ⟨b, off, u', hA, hbl, HU, hc⟩ := HR6.out.at_ hlt
        obtain ⟨y, hy, rfl⟩ := strs_get HU.out
        have HY := Lib.hid hy
        have l0 : (0 : Int) ≤ (k : Int) := by omega
        have l1 : (k : Int) < (x.m : Int) := by omega
        clear hy HU
        have HS : Hid (∀ B', B' = (B || (true && (y.toList == (bytesOf t.text).toList))) → B' = isOf t (x.texts.take (k + 1))) := fun B' h => by
          rw [h, HB.out]; exact isOf_step t x.texts k y true HY.out (by rcases hpl with q | q <;> simp [q])
        rw [hA] at x3
        cases B
        · by_cases hy : y = bytesOf t.text
          · have e5 : (y.toList == (bytesOf t.text).toList) = true := by rw [hy]; simp
            clear hy
            go_wp2_with fail
            go_round
            case rel => exact ⟨k + 1, true, by omega, by go_num, rfl, HS.out _ (by simp [e5])⟩
            case measure => simp [intOf]; omega
          · have e5 : (y.toList == (bytesOf t.text).toList) = false := str_ne hy
            clear hy
            go_wp2_with fail
            go_round
            case rel => exact ⟨k + 1, false, by omega, by go_num, rfl, HS.out _ (by simp [e5])⟩
            case measure => simp [intOf]; omega
        · go_wp2_with fail
          go_round
          case rel => exact ⟨k + 1, true, by omega, by go_num, rfl, HS.out _ (by simp)⟩
          case measure => simp [intOf]; omega
      · have hB2 : Hid (B = isOf t x.texts) := by
          have := HB.out
          rwa [List.take_of_length_le (by have := HR6.out.1; simp [strs] at this; omega)] at this
        clear hk HB
        have own0 : Hid (∀ W' : World, (W'.alloc (.cells #[] 9)).ownsRow W'.heap.size 9 1 (.slice (some ⟨W'.heap.size, 0, none⟩) 0 0) 0 []) := fun W' => ⟨rfl, .inr ⟨W'.heap.size, 0, #[], rfl, Nat.le_refl _, heap_alloc_new W' _, Nat.le_refl _, by simp [maxLen], rfl, rfl⟩⟩
        have HI : Hid (∀ W' A1 c1, Stm g (some ⟨b2, o2, none⟩) n c2 at_ ts W' → Rd W' A1 x.m (strs x.texts) → Calls Try.prog 28 #[.pointer (some ⟨g, 0, none⟩), .slice A1 x.m c1] W' fun e w' => e = .returned (.bool B) ∧ Below W'.heap.size W' w') := fun W' A1 c1 h hr => hB2.out ▸ is_any g _ n c2 at_ ts t A1 x.m c1 x.texts W' h.1 h.2 HN.out hn8 HTA.out hr (by omega)
        clear hB2
        cases B
        all_goals
          go_wp2_with (first
            | (at_builtin; refine wpList_app rfl (.tmp 121) (.tmp 123) _ rfl w6.heap.size 9 1 16 Try.underlying64 eStr (.slice (some ⟨w6.heap.size, 0, none⟩) 0 0) 0 [] (by rfl) (own0.out _) x.A x.m x.c (strs x.texts) (by rfl) (by exact (HR6.out.alloc _).toS) (strs_one _) (by omega) (by omega) (by simp) ?_
               intro A7 c7 w7 hown7 hc7 hg7 hat7
               have hB7 : Below w6.heap.size w6 w7 := ((Below.refl _ _).alloc (Nat.le_refl _) _).grown hg7 (by simp) (by intro k hk; simp [Value.ownBlock] at hk; omega)
               have HH7 := Lib.hid (HH6.out.below hB7)
               rw [Nat.zero_add, List.nil_append] at hown7
               rw [Nat.zero_add]
               have HO7 := Lib.hid (Rd.of_own hown7)
               clear hown7 hc7 hg7 hat7 hB7)
            | (go_at_call 28; (with_reducible refine (HI.out _ _ _ (by exact HH7.out.mid.stm) (by exact HO7.out)).mono ?_); rintro e w8 ⟨rfl, hB8⟩; have HH8 := Lib.hid (HH7.out.below hB8)))
          go_region_held3 (fun W' => W'.cell? ⟨b3, o3 + at_ * 4, none⟩ = some (.int .i64 t.kind) ∧ W'.cell? ⟨b3, o3 + at_ * 4 + 1, none⟩ = some (.string (bytesOf t.text)) ∧ W'.cell? ⟨b3, o3 + at_ * 4 + 2, none⟩ = some (.int .i64 t.num) ∧ W'.cell? ⟨b3, o3 + at_ * 4 + 3, none⟩ = some (.int .i64 t.at_))
            (first | assumption | exact HH8.out.mid.toks HT.out) (first
            | (go_at_call 26; (with_reducible refine (HP.out _ (by exact HH8.out.drew.mid.stm)).mono ?_); rintro e w9 ⟨rfl, hB9⟩; have HH9 := Lib.hid (HH8.out.drew.below hB9); have ht9 := HH9.out.mid.toks HT.out))
          clear ht9 hB9
          go_wp2_with fail
          refine Handed.intro (nA - (i + 1)) ?_ (hJ _ _ _ ⟨i + 1, at_, rfl, by omega, hat, HH9.out.mid, rfl, rfl, rfl, rfl, rfl, rfl, rfl, by show Value.int _ _ = _; first | rfl | go_num⟩)
          have := HGK.out; omega
end Go.Proofs.Ytkpacpkldjfbhaa.lexStreams
