/- LexStreams: what a round of the law's loop keeps, and the case of a mere look. -/
import Derived.Test.YtkpacpkldjfbhaaLexU
import Derived.Test.YtkpacpkldjfbhaaLexX
namespace Go.Proofs.Ytkpacpkldjfbhaa.lexStreams
open Go.RowKit

/-- an act as it lies in memory -/
structure Ax where
  kind : Int
  n : Int
  text : ByteArray
  A : Option Addr
  m : Nat
  c : Nat
  texts : List ByteArray
def axCells (a : Ax) : List Value := [.int .i64 a.kind, .int .i64 a.n, .string a.text, .slice a.A a.m a.c]
def axsCells (l : List Ax) : List Value := l.flatMap axCells
theorem axs_get {l : List Ax} {i : Nat} {t : Ax} (h : l[i]? = some t) : (axsCells l)[i * 4 + 0]? = some (.int .i64 t.kind) ∧ (axsCells l)[i * 4 + 1]? = some (.int .i64 t.n) ∧ (axsCells l)[i * 4 + 2]? = some (.string t.text) ∧ (axsCells l)[i * 4 + 3]? = some (.slice t.A t.m t.c) := by
  induction l generalizing i with
  | nil => simp at h
  | cons a l ih =>
    cases i with
    | zero => simp at h; subst h; simp [axsCells, axCells]
    | succ i =>
      simp at h
      have := ih h
      have e : ∀ j, (i + 1) * 4 + j = (i * 4 + j) + 4 := fun j => by omega
      have e2 : axsCells (a :: l) = axCells a ++ axsCells l := by simp [axsCells]
      have e3 : ∀ j, (axCells a ++ axsCells l)[(i * 4 + j) + 4]? = (axsCells l)[i * 4 + j]? := fun j => by
        rw [List.getElem?_append_right (by simp [axCells])]; simp [axCells]
      simp only [e, e2, e3]
      exact this
/-- the acts, wherever they lie -/
def AxsIn (w : World) (A : Option Addr) (n : Nat) (l : List Ax) : Prop := RdS 4 w A n (axsCells l) ∧ l.length = n ∧ ∀ a ∈ l, Rd w a.A a.m (strs a.texts) ∧ a.m * 16 ≤ 140737488355328

theorem RdS.wrote {sz : Nat} {w w' : World} {b o n g : Nat} {xs : List Value} (h : RdS sz w (some ⟨b, o, none⟩) n xs) (hw : Wrote g w w') (hb : b ≠ g) : RdS sz w' (some ⟨b, o, none⟩) n xs :=
  ⟨h.1, fun hn => by
    obtain ⟨b', off, e, hbl, hc⟩ := h.2 hn
    injection e with e
    injection e with e1 e2
    subst e1
    subst e2
    exact ⟨b, o, rfl, Nat.lt_of_lt_of_le hbl hw.size, fun j u hu => (World.grownBy.cell_far hw ⟨b, o + j, none⟩ hbl (fun e => hb (by injection e))).trans (hc j u hu)⟩⟩
theorem Wrote.below {B g : Nat} {w0 w w' : World} (h : Wrote g w w') (hb : Below B w0 w) (hg : B ≤ g) (hB : B ≤ w.heap.size) : Below B w0 w' :=
  hb.grown h hB (fun k hk => by injection hk with hk; omega)

section
variable (W : World) (g b2 o2 b3 o3 n c2 : Nat) (ts : List Lx.Tok)
/-- between two acts -/
structure Mid (at_ : Nat) (wr : World) : Prop where
  stm : Stm g (some ⟨b2, o2, none⟩) n c2 at_ ts wr
  rd : RdS 4 wr (some ⟨b3, o3, none⟩) n (toksCells ts)
  bel : Below W.heap.size W wr
end
section
variable {W : World} {g b2 o2 b3 o3 n c2 : Nat} {ts : List Lx.Tok} {at_ : Nat} {w w' : World}
theorem Mid.below (h : Mid W g b2 o2 b3 o3 n c2 ts at_ w) (hb : Below w.heap.size w w') : Mid W g b2 o2 b3 o3 n c2 ts at_ w' := ⟨h.stm.below hb, h.rd.below hb, h.bel.trans (hb.mono h.bel.size)⟩
theorem Mid.alloc (h : Mid W g b2 o2 b3 o3 n c2 ts at_ w) (o : Obj) : Mid W g b2 o2 b3 o3 n c2 ts at_ (w.alloc o) := h.below ((Below.refl _ _).alloc (Nat.le_refl _) o)
theorem Mid.drew (h : Mid W g b2 o2 b3 o3 n c2 ts at_ w) : Mid W g b2 o2 b3 o3 n c2 ts at_ w.drew := h.below (Below.refl _ _).drew
theorem Mid.toks (h : Mid W g b2 o2 b3 o3 n c2 ts at_ w) {a : Nat} {t : Lx.Tok} (ht : ts[a]? = some t) : w.cell? ⟨b3, o3 + a * 4, none⟩ = some (.int .i64 t.kind) ∧ w.cell? ⟨b3, o3 + a * 4 + 1, none⟩ = some (.string (bytesOf t.text)) ∧ w.cell? ⟨b3, o3 + a * 4 + 2, none⟩ = some (.int .i64 t.num) ∧ w.cell? ⟨b3, o3 + a * 4 + 3, none⟩ = some (.int .i64 t.at_) := by
  obtain ⟨b, off, e, hbl, hcells⟩ := h.rd.2 (by
    have := h.rd.1; rw [toksCells_len] at this
    have := (List.getElem?_eq_some_iff.1 ht).1
    omega)
  injection e with e
  injection e with e1 e2
  subst e1
  subst e2
  obtain ⟨x0, x1, x2, x3⟩ := toks_get ht
  have d0 := hcells _ _ x0
  have d1 := hcells _ _ x1
  have d2 := hcells _ _ x2
  have d3 := hcells _ _ x3
  rw [Nat.add_zero] at d0
  rw [← Nat.add_assoc] at d1 d2 d3
  exact ⟨d0, d1, d2, d3⟩
theorem Mid.next (h : Mid W g b2 o2 b3 o3 n c2 ts at_ w) (hw : Wrote g w w') {at' : Nat} (hb : Blk w' g 58 [.slice (some ⟨b2, o2, none⟩) n c2, .int .i64 at']) (h2 : b2 ≠ g) (h3 : b3 ≠ g) (hg : W.heap.size ≤ g) : Mid W g b2 o2 b3 o3 n c2 ts at' w' :=
  ⟨⟨hb, RdS.wrote h.stm.2 hw h2⟩, RdS.wrote h.rd hw h3, Wrote.below hw h.bel hg h.bel.size⟩
end

def IsBody (c : Code) : Prop := Try.f8.body.bind firstLoop = some c

set_option maxRecDepth 100000 in
theorem frame192 (t : Array Value) (h : t.size = 192) : ∃ u : Nat → Value, (∀ k, u k = t.getD k undef) ∧ t = #[u 0, u 1, u 2, u 3, u 4, u 5, u 6, u 7, u 8, u 9, u 10, u 11, u 12, u 13, u 14, u 15, u 16, u 17, u 18, u 19, u 20, u 21, u 22, u 23, u 24, u 25, u 26, u 27, u 28, u 29, u 30, u 31, u 32, u 33, u 34, u 35, u 36, u 37, u 38, u 39, u 40, u 41, u 42, u 43, u 44, u 45, u 46, u 47, u 48, u 49, u 50, u 51, u 52, u 53, u 54, u 55, u 56, u 57, u 58, u 59, u 60, u 61, u 62, u 63, u 64, u 65, u 66, u 67, u 68, u 69, u 70, u 71, u 72, u 73, u 74, u 75, u 76, u 77, u 78, u 79, u 80, u 81, u 82, u 83, u 84, u 85, u 86, u 87, u 88, u 89, u 90, u 91, u 92, u 93, u 94, u 95, u 96, u 97, u 98, u 99, u 100, u 101, u 102, u 103, u 104, u 105, u 106, u 107, u 108, u 109, u 110, u 111, u 112, u 113, u 114, u 115, u 116, u 117, u 118, u 119, u 120, u 121, u 122, u 123, u 124, u 125, u 126, u 127, u 128, u 129, u 130, u 131, u 132, u 133, u 134, u 135, u 136, u 137, u 138, u 139, u 140, u 141, u 142, u 143, u 144, u 145, u 146, u 147, u 148, u 149, u 150, u 151, u 152, u 153, u 154, u 155, u 156, u 157, u 158, u 159, u 160, u 161, u 162, u 163, u 164, u 165, u 166, u 167, u 168, u 169, u 170, u 171, u 172, u 173, u 174, u 175, u 176, u 177, u 178, u 179, u 180, u 181, u 182, u 183, u 184, u 185, u 186, u 187, u 188, u 189, u 190, u 191] := by
  refine ⟨fun k => t.getD k undef, fun _ => rfl, ?_⟩
  have : t = Array.ofFn (n := 192) (fun i => t.getD i undef) := by
    apply Array.ext
    · simp [h]
    · intro i h1 h2
      simp [Array.getD, h1]
  refine this.trans ?_
  kernel_rfl

def Inv (W : World) (g b2 o2 b3 o3 n c2 c3 : Nat) (ts : List Lx.Tok) (VA : Option Addr) (nA cA : Nat) (k : Nat) (a : Act) (wr : World) : Prop :=
  ∃ i at_ : Nat, k = nA - i ∧ i ≤ nA ∧ at_ < n ∧ Mid W g b2 o2 b3 o3 n c2 ts at_ wr ∧ a.defers = [] ∧ a.tmps.size = 192 ∧ a.tmps.getD 6 undef = .pointer (some ⟨g, 0, none⟩) ∧ a.tmps.getD 8 undef = .slice (some ⟨b3, o3, none⟩) n c3 ∧ a.tmps.getD 10 undef = .int .i64 at_ ∧
    a.tmps.getD 61 undef = .slice VA nA cA ∧ a.tmps.getD 62 undef = .int .i64 nA ∧ a.tmps.getD 63 undef = .int .i64 i

/-- what the blocks of a round hold, in every later world -/
structure Held (W : World) (g b2 o2 b3 o3 n c2 : Nat) (ts : List Lx.Tok) (at_ : Nat) (u : Nat) (x : Ax) (t : Lx.Tok) (w : World) : Prop where
  mid : Mid W g b2 o2 b3 o3 n c2 ts at_ w
  ax : Blk w u 66 (axCells x)
  tok : Blk w (u + 1) 54 (tokCells t)
  ft : Blk w (u + 1 + 1) 48 [.int .i64 9, .int .i64 t.at_]
section
variable {W : World} {g b2 o2 b3 o3 n c2 : Nat} {ts : List Lx.Tok} {at_ u : Nat} {x : Ax} {t : Lx.Tok} {w w' : World}
theorem Held.below (h : Held W g b2 o2 b3 o3 n c2 ts at_ u x t w) (hb : Below w.heap.size w w') : Held W g b2 o2 b3 o3 n c2 ts at_ u x t w' := ⟨h.mid.below hb, h.ax.below hb h.ax.lt, h.tok.below hb h.tok.lt, h.ft.below hb h.ft.lt⟩
theorem Held.drew (h : Held W g b2 o2 b3 o3 n c2 ts at_ u x t w) : Held W g b2 o2 b3 o3 n c2 ts at_ u x t w.drew := h.below (Below.refl _ _).drew
theorem Held.alloc (h : Held W g b2 o2 b3 o3 n c2 ts at_ u x t w) (o : Obj) : Held W g b2 o2 b3 o3 n c2 ts at_ u x t (w.alloc o) := h.below ((Below.refl _ _).alloc (Nat.le_refl _) o)
theorem Held.next (h : Held W g b2 o2 b3 o3 n c2 ts at_ u x t w) (hw : Wrote g w w') {at' : Nat} (hb : Blk w' g 58 [.slice (some ⟨b2, o2, none⟩) n c2, .int .i64 at']) (h2 : b2 ≠ g) (h3 : b3 ≠ g) (hg : W.heap.size ≤ g) (hu : g < u) : Held W g b2 o2 b3 o3 n c2 ts at' u x t w' :=
  ⟨h.mid.next hw hb h2 h3 hg, Blk.grown h.ax hw (fun e => by injection e with e; omega), Blk.grown h.tok hw (fun e => by injection e with e; omega), Blk.grown h.ft hw (fun e => by injection e with e; omega)⟩
theorem Held.toks (h : Held W g b2 o2 b3 o3 n c2 ts at_ u x t w) : w.cell? ⟨u + 1, 0, none⟩ = some (.int .i64 t.kind) ∧ w.cell? ⟨u + 1, 1, none⟩ = some (.string (bytesOf t.text)) ∧ w.cell? ⟨u + 1, 2, none⟩ = some (.int .i64 t.num) ∧ w.cell? ⟨u + 1, 3, none⟩ = some (.int .i64 t.at_) := ⟨h.tok.cell 0, h.tok.cell 1, h.tok.cell 2, h.tok.cell 3⟩
theorem Held.axs (h : Held W g b2 o2 b3 o3 n c2 ts at_ u x t w) : w.cell? ⟨u, 0, none⟩ = some (.int .i64 x.kind) ∧ w.cell? ⟨u, 1, none⟩ = some (.int .i64 x.n) ∧ w.cell? ⟨u, 2, none⟩ = some (.string x.text) ∧ w.cell? ⟨u, 3, none⟩ = some (.slice x.A x.m x.c) := ⟨h.ax.cell 0, h.ax.cell 1, h.ax.cell 2, h.ax.cell 3⟩
theorem Held.fts (h : Held W g b2 o2 b3 o3 n c2 ts at_ u x t w) : w.cell? ⟨u + 1 + 1, 0, none⟩ = some (.int .i64 9) ∧ w.cell? ⟨u + 1 + 1, 1, none⟩ = some (.int .i64 t.at_) := ⟨h.ft.cell 0, h.ft.cell 1⟩
end
theorem kinds (k : Nat) : (((k : Int) != 6) = false ∧ ((k : Int) == 2) = false ∧ ((k : Int) == 5) = false) ∨ (((k : Int) != 6) = true ∧ ((k : Int) == 2) = true) ∨ (((k : Int) != 6) = true ∧ ((k : Int) == 2) = false ∧ ((k : Int) == 5) = true) ∨ (((k : Int) != 6) = true ∧ ((k : Int) == 2) = false ∧ ((k : Int) == 5) = false) := by
  simp only [bne_eq_false_iff_eq, beq_eq_false_iff_ne, bne_iff_ne, beq_iff_eq, ne_eq]
  omega
def Post (W : World) (e : Ending) (w' : World) : Prop := e = .returned (.bool true) ∧ Below W.heap.size W w'

set_option maxRecDepth 100000 in
set_option maxHeartbeats 4000000 in
theorem case_else (body : Code) (hb : IsBody body) (W wr : World) (g b2 o2 b3 o3 n c2 c3 : Nat) (ts : List Lx.Tok) (bA oA nA cA : Nat) (gk i at_ : Nat) (x : Ax) (t : Lx.Tok) (u : Nat → Value) (J : Nat → Act → World → Prop) (K K1 : Act → World → Prop)
    (hJ : ∀ k a' w', Inv W g b2 o2 b3 o3 n c2 c3 ts (some ⟨bA, oA, none⟩) nA cA k a' w' → J k a' w') (hK : ∀ a' w', Handed J gk a' w' → K a' w')
    (HGK : Hid (gk = nA - i)) (HM : Hid (Mid W g b2 o2 b3 o3 n c2 ts at_ wr)) (hi : i < nA) (hat : at_ < n) (hnA : nA ≤ 140737488355328) (hn8 : n ≤ 100000) (HN : Hid (ts.length = n)) (HT : Hid (ts[at_]? = some t))
    (hgW : W.heap.size ≤ g) (hgl : g < wr.heap.size) (hbA : bA < wr.heap.size) (hb3 : b3 < wr.heap.size)
    (a0 : wr.cell? ⟨bA, oA + i * 4, none⟩ = some (.int .i64 x.kind)) (a1 : wr.cell? ⟨bA, oA + i * 4 + 1, none⟩ = some (.int .i64 x.n)) (a2 : wr.cell? ⟨bA, oA + i * 4 + 2, none⟩ = some (.string x.text)) (a3 : wr.cell? ⟨bA, oA + i * 4 + 3, none⟩ = some (.slice x.A x.m x.c))
    (d0 : wr.cell? ⟨b3, o3 + at_ * 4, none⟩ = some (.int .i64 t.kind)) (d1 : wr.cell? ⟨b3, o3 + at_ * 4 + 1, none⟩ = some (.string (bytesOf t.text))) (d2 : wr.cell? ⟨b3, o3 + at_ * 4 + 2, none⟩ = some (.int .i64 t.num)) (d3 : wr.cell? ⟨b3, o3 + at_ * 4 + 3, none⟩ = some (.int .i64 t.at_))
    (HR : Hid (Rd wr x.A x.m (strs x.texts)))
    (k1 : ((x.kind : Int) == 1) = false) (k2 : ((x.kind : Int) == 2) = false) (k3 : ((x.kind : Int) == 3) = false) (k4 : ((x.kind : Int) == 4) = false) :
    body.wp Try.prog (Exit.then K (Exit.inBlock 0 (Exit.then K1 (bodyPost Try.prog Try.f8 (Post W))))) ⟨#[u 0, u 1, u 2, u 3, u 4, u 5, .pointer (some ⟨g, 0, none⟩), u 7, .slice (some ⟨b3, o3, none⟩) n c3, u 9, .int .i64 at_, u 11, u 12, u 13, u 14, u 15, u 16, u 17, u 18, u 19, u 20, u 21, u 22, u 23, u 24, u 25, u 26, u 27, u 28, u 29, u 30, u 31, u 32, u 33, u 34, u 35, u 36, u 37, u 38, u 39, u 40, u 41, u 42, u 43, u 44, u 45, u 46, u 47, u 48, u 49, u 50, u 51, u 52, u 53, u 54, u 55, u 56, u 57, u 58, u 59, u 60, .slice (some ⟨bA, oA, none⟩) nA cA, .int .i64 nA, .int .i64 i, u 64, u 65, u 66, u 67, u 68, u 69, u 70, u 71, u 72, u 73, u 74, u 75, u 76, u 77, u 78, u 79, u 80, u 81, u 82, u 83, u 84, u 85, u 86, u 87, u 88, u 89, u 90, u 91, u 92, u 93, u 94, u 95, u 96, u 97, u 98, u 99, u 100, u 101, u 102, u 103, u 104, u 105, u 106, u 107, u 108, u 109, u 110, u 111, u 112, u 113, u 114, u 115, u 116, u 117, u 118, u 119, u 120, u 121, u 122, u 123, u 124, u 125, u 126, u 127, u 128, u 129, u 130, u 131, u 132, u 133, u 134, u 135, u 136, u 137, u 138, u 139, u 140, u 141, u 142, u 143, u 144, u 145, u 146, u 147, u 148, u 149, u 150, u 151, u 152, u 153, u 154, u 155, u 156, u 157, u 158, u 159, u 160, u 161, u 162, u 163, u 164, u 165, u 166, u 167, u 168, u 169, u 170, u 171, u 172, u 173, u 174, u 175, u 176, u 177, u 178, u 179, u 180, u 181, u 182, u 183, u 184, u 185, u 186, u 187, u 188, u 189, u 190, u 191], []⟩ wr := by
  unfold IsBody at hb
  conv at hb => lhs; whnf
  injection hb with hb
  subst hb
  have i1 : (i : Int) < (nA : Int) := by omega
  have i0 : (0 : Int) ≤ (i : Int) := by omega
  have j1 : (at_ : Int) < (n : Int) := by omega
  have j0 : (0 : Int) ≤ (at_ : Int) := by omega
  have HP := Lib.hid (fun W' (h : Stm g (some ⟨b2, o2, none⟩) n c2 at_ ts W') => peek_in g _ n c2 at_ ts t W' h.1 h.2 HN.out hn8 HT.out)
  have HH : Hid (Held W g b2 o2 b3 o3 n c2 ts at_ wr.heap.size x t (((wr.alloc (.cells (axCells x).toArray 66)).alloc (.cells (tokCells t).toArray 54)).alloc (.cells #[.int .i64 9, .int .i64 t.at_] 48))) :=
    ⟨((HM.out.alloc _).alloc _).alloc _, ((Blk.new wr _ _).alloc _).alloc _, (Blk.new' (by simp) rfl : Blk _ _ _ (tokCells t)).alloc _, Blk.new' (by simp) rfl⟩
  unfold tokCells axCells at HH
  unfold tokCells at HP
  have hcl : (((t.kind : Int) != 6) = false ∧ ((t.kind : Int) == 2) = false ∧ ((t.kind : Int) == 5) = false) ∨ (((t.kind : Int) != 6) = true ∧ ((t.kind : Int) == 2) = true) ∨ (((t.kind : Int) != 6) = true ∧ ((t.kind : Int) == 2) = false ∧ ((t.kind : Int) == 5) = true) ∨ (((t.kind : Int) != 6) = true ∧ ((t.kind : Int) == 2) = false ∧ ((t.kind : Int) == 5) = false) := kinds t.kind
  rcases hcl with ⟨s6, s2, s5⟩ | ⟨s6, s2⟩ | ⟨s6, s2, s5⟩ | ⟨s6, s2, s5⟩
  all_goals
    go_wp2_with fail
    go_region_held3 (fun W' => W'.cell? ⟨wr.heap.size + 1, 0, none⟩ = some (.int .i64 t.kind) ∧ W'.cell? ⟨wr.heap.size + 1, 1, none⟩ = some (.string (bytesOf t.text)) ∧ W'.cell? ⟨wr.heap.size + 1, 2, none⟩ = some (.int .i64 t.num) ∧ W'.cell? ⟨wr.heap.size + 1, 3, none⟩ = some (.int .i64 t.at_))
      (first | assumption | exact HH.out.toks) (first
      | (go_at_call 26; (with_reducible refine (HP.out _ (by exact HH.out.drew.mid.stm)).mono ?_); rintro e w6 ⟨rfl, hB6⟩; have HH6 := Lib.hid (HH.out.drew.below hB6); have ht6 := HH6.out.toks))
    clear ht6 hB6 HH
    obtain ⟨x0, x1, x2, x3⟩ := HH6.out.axs
    go_wp2_with fail
    go_region_held3 (fun W' => W'.cell? ⟨b3, o3 + at_ * 4, none⟩ = some (.int .i64 t.kind) ∧ W'.cell? ⟨b3, o3 + at_ * 4 + 1, none⟩ = some (.string (bytesOf t.text)) ∧ W'.cell? ⟨b3, o3 + at_ * 4 + 2, none⟩ = some (.int .i64 t.num) ∧ W'.cell? ⟨b3, o3 + at_ * 4 + 3, none⟩ = some (.int .i64 t.at_))
      (first | assumption | exact HH6.out.mid.toks HT.out) (first
      | (go_at_call 26; (with_reducible refine (HP.out _ (by exact HH6.out.drew.mid.stm)).mono ?_); rintro e w7 ⟨rfl, hB7⟩; have HH7 := Lib.hid (HH6.out.drew.below hB7); have ht7 := HH7.out.mid.toks HT.out))
    clear ht7 hB7
    go_wp2_with fail
    refine Handed.intro (nA - (i + 1)) ?_ (hJ _ _ _ ⟨i + 1, at_, rfl, by omega, hat, HH7.out.mid, rfl, rfl, rfl, rfl, rfl, rfl, rfl, by show Value.int _ _ = _; first | rfl | go_num⟩)
    have := HGK.out; omega
end Go.Proofs.Ytkpacpkldjfbhaa.lexStreams
