/- The scanner's add: a token is appended. -/
import Derived.Test.YtkpacpkldjfbhaaLex3
import Derived.Deep.RegionLaw
namespace Go.Proofs.Ytkpacpkldjfbhaa
open Go.RowKit

def bytesOf (l : List UInt8) : ByteArray := ⟨l.toArray⟩
def tokCells (t : Lx.Tok) : List Value := [.int .i64 t.kind, .string (bytesOf t.text), .int .i64 t.num, .int .i64 t.at_]
def toksCells (l : List Lx.Tok) : List Value := l.flatMap tokCells
theorem toksCells_snoc (l : List Lx.Tok) (t : Lx.Tok) : toksCells (l ++ [t]) = toksCells l ++ tokCells t := by simp [toksCells]
theorem toksCells_len (l : List Lx.Tok) : (toksCells l).length = l.length * 4 := by
  induction l with
  | nil => rfl
  | cons t l ih =>
    have : toksCells (t :: l) = tokCells t ++ toksCells l := by simp [toksCells]
    rw [this, List.length_append, ih, List.length_cons]
    simp [tokCells]
    omega
theorem eTok : ElemIs Try.prog 54 4 40 := ElemIs.of (z := .agg #[.int .i64 0, .string ByteArray.empty, .int .i64 0, .int .i64 0]) (by kernel_rfl) rfl (by omega)

theorem own_blk_ne {w : World} {base g : Nat} {e t : TypeId} {size n : Nat} {v : Value} {xs cs : List Value} (h : w.ownsRow base e size v n xs) (hg : Blk w g t cs) (hne : e ≠ t) : v.ownBlock ≠ some g := by
  rcases h.2 with ⟨rfl, _⟩ | ⟨g', cap, cur, rfl, _, hh, _⟩
  · simp [Value.ownBlock]
  · intro he
    have : g' = g := by simpa [Value.ownBlock] using he
    subst this
    unfold Blk at hg
    rw [hh] at hg
    injection hg with hg
    injection hg with _ ht
    exact hne ht

/-- the scanner's state: its block, and its row of tokens, all from block B on -/
structure St (w : World) (B g : Nat) (s : ByteArray) (i : Nat) (ts : List Lx.Tok) : Prop where
  ex : ∃ A c, Blk w g 88 (scn s i (.slice A ts.length c)) ∧ w.ownsRow B 54 4 (.slice A ts.length c) ts.length (toksCells ts)
  le : B ≤ g

set_option maxHeartbeats 2000000 in
theorem add_any (B g : Nat) (s : ByteArray) (i j : Nat) (ts : List Lx.Tok) (k : Nat) (t : List UInt8) (m : Nat) (w : World) (h : St w B g s i ts) (hn : ts.length ≤ 100000) :
    Calls Try.prog 42 #[.pointer (some ⟨g, 0, none⟩), .int .i64 k, .string (bytesOf t), .int .i64 m, .int .i64 j] w fun e w' =>
      e = .returned (.tuple #[]) ∧ St w' B g s j (ts ++ [⟨k, t, m, i⟩]) ∧ Below B w w' := by
  obtain ⟨⟨A, c, hb, hown⟩, hBg⟩ := h
  generalize hN : ts.length = n at *
  have HN := Lib.hid hN
  clear hN
  have hne := own_blk_ne hown hb (by decide)
  have HNE := Lib.hid hne
  clear hne
  have c1 := (scn1 hb)
  have c2 := (scn2 hb)
  have hgs := hb.lt
  generalize hT : bytesOf t = T at *
  have HT := Lib.hid hT
  clear hT
  go_enter Try.func42, Try.ntmps42
  go_wp2_with fail
  have f2 := hb.frozen 2
  go_region_law ((refine step_app rfl (.tmp 14) (.tmp 23) 46 rfl B 54 4 40 Try.underlying46 eTok (.slice A n c) n (toksCells ts) (by rfl) (by exact hown.alloc _) (some ⟨w.heap.size, 0, none⟩) 1 1 [.int .i64 k, .string T, .int .i64 m, .int .i64 i] (by rfl) (by exact RdS.new _ _ [.int .i64 k, .string T, .int .i64 m, .int .i64 i] 4 rfl) (by simp [Value.oneCell']) (by omega) (by omega) (by simp; omega) ?_; intro A2 c2' w2 hown2 hc2 hg2 hat2; have hb2 : Blk w2 g 88 (scn s i (.slice A n c)) := Blk.grown (hb.alloc _).drew hg2 (fun e => HNE.out e.symm); have c2x := scn2 hb2; have f2x := hb2.frozen 2))
  all_goals
    have hB2 : Below B w w2 := ((Below.refl _ _).alloc (by omega) _).drew.grown hg2 (by simp; omega) (fun q hq => (hown.lt q hq).1)
    have hne2 := own_blk_ne hown2 hb2 (by decide)
    have hb3 := scn_set2 (lv' := .slice A2 (n + 1) c2') hb2
    have hown3 : (w2.setCell ⟨g, 2, none⟩ (.slice A2 (n + 1) c2')).ownsRow B 54 4 (.slice A2 (n + 1) c2') (n + 1) (toksCells ts ++ [.int .i64 k, .string T, .int .i64 m, .int .i64 i]) :=
      hown2.kept (row := some g) ⟨rfl, rfl, rfl, by simp [World.setCell], fun q _ hq => Below.heap_setCell w2 ⟨g, 2, none⟩ _ q (fun e => hq (by rw [e]))⟩ (.inr hne2)
    have hB3 : Below B w (w2.setCell ⟨g, 2, none⟩ (.slice A2 (n + 1) c2')) := hB2.setCell hBg _
    clear hB2 hne2 hg2 hat2 hown2 hb2 c2x f2x hown hb c1 c2 f2
    generalize w2.setCell ⟨g, 2, none⟩ (.slice A2 (n + 1) c2') = w3 at *
    have c1 := scn1 hb3
    have f1 := hb3.frozen 1
    go_wp2_with fail
    have hne3 := own_blk_ne hown3 hb3 (by decide)
    have hown4 : (w3.setCell ⟨g, 1, none⟩ (.int .i64 j)).ownsRow B 54 4 (.slice A2 (n + 1) c2') (n + 1) (toksCells ts ++ [.int .i64 k, .string T, .int .i64 m, .int .i64 i]) :=
      hown3.kept (row := some g) ⟨rfl, rfl, rfl, by simp [World.setCell], fun q _ hq => Below.heap_setCell w3 ⟨g, 1, none⟩ _ q (fun e => hq (by rw [e]))⟩ (.inr hne3)
    refine bodyPost_end (results_none rfl _ _ _) rfl ⟨rfl, ⟨⟨A2, c2', ?_, ?_⟩, hBg⟩, hB3.setCell hBg _⟩
    · rw [List.length_append, HN.out]
      exact scn_set1 hb3
    · rw [List.length_append, HN.out, toksCells_snoc]
      rw [← HT.out] at hown4
      exact hown4

end Go.Proofs.Ytkpacpkldjfbhaa
