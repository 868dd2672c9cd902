/- The fixed fact of layer 21: it holds. -/
import Derived.Test.YtkpacpkldjfbhaaLexB
namespace Go.Proofs.Ytkpacpkldjfbhaa
open Go.RowKit

theorem RdS.of_own {w : World} {base n c sz : Nat} {e : TypeId} {A : Option Addr} {xs : List Value} (h : w.ownsRow base e sz (.slice A n c) n xs) : RdS sz w A n xs := by
  refine ⟨h.1, fun hn => ?_⟩
  rcases h.2 with ⟨_, h0⟩ | ⟨g, cap, cur, hv, _, hg, hnc, _, hcs, htake⟩
  · omega
  · injection hv with hA
    subst hA
    refine ⟨g, 0, rfl, (Array.getElem?_eq_some_iff.1 hg).1, fun j u hu => ?_⟩
    rw [cell_of_row w g (0 + j) cur e (0, 0) hg, Nat.zero_add]
    rw [← htake, List.getElem?_take] at hu
    split at hu
    · simpa using hu
    · cases hu
theorem RdS.of_blk {w : World} {g n sz : Nat} {t : TypeId} {cs : List Value} (h : Blk w g t cs) (hn : cs.length = n * sz) : RdS sz w (some ⟨g, 0, none⟩) n cs :=
  ⟨hn, fun _ => ⟨g, 0, rfl, h.lt, fun j u hu => by rw [h.cell, Nat.zero_add]; exact hu⟩⟩

theorem scan_is (s : ByteArray) (w : World) {p q n : Nat} {ts : List Lx.Tok} (h : Lx.scan s.data.toList = ((p, q), ts)) (hn : ts.length = n) :
    Calls Try.prog 21 #[.string s] w fun e w' => ∃ A c, e = .returned (.tuple #[.slice A n c, .agg #[.int .i64 p, .int .i64 q]]) ∧ n ≤ c ∧ w'.ownsRow w.heap.size 54 4 (.slice A n c) n (toksCells ts) ∧ Below w.heap.size w w' := by
  subst hn
  have := scan_any s w
  rw [h] at this
  exact this

theorem same_self (l : List Lx.Tok) (pl : Bool) : ∀ (i : Nat) (t t' : Lx.Tok), l[i]? = some t → l[i]? = some t' → t.kind = t'.kind ∧ t.text = t'.text ∧ t.num = t'.num ∧ (pl = true → t.at_ = t'.at_) :=
  fun i t t' h h' => by rw [h] at h'; injection h' with h'; subst h'; exact ⟨rfl, rfl, rfl, fun _ => rfl⟩

def fixed21 : ByteArray := { data := #[115, 101, 110, 100, 32, 104, 105, 59] }
def toks21 : List Lx.Tok := [⟨2, [115, 101, 110, 100], 0, 0⟩, ⟨1, [104, 105], 0, 5⟩, ⟨5, [59], 0, 7⟩, ⟨6, [], 0, 8⟩]
theorem scan21 : Lx.scan fixed21.data.toList = ((0, 0), toks21) := by rfl

theorem tc21 : (toksCells toks21).toArray = #[.int .i64 2, .string { data := #[115, 101, 110, 100] }, .int .i64 0, .int .i64 0, .int .i64 1, .string { data := #[104, 105] }, .int .i64 0, .int .i64 5, .int .i64 5, .string { data := #[59] }, .int .i64 0, .int .i64 7,
    .int .i64 6, .string { data := #[] }, .int .i64 0, .int .i64 8] := by rfl

set_option maxHeartbeats 1000000 in
theorem awake21 (w : World) : Calls Try.prog 20 #[] w fun e w' => e = .returned (.bool true) ∧ Below w.heap.size w w' := by
  have HSC := Lib.hid (scan_is { data := #[115, 101, 110, 100, 32, 104, 105, 59] } w scan21 (n := 4) rfl)
  go_enter Try.func20, Try.ntmps20
  go_wp2_with (first
    | (go_at_call 21; refine HSC.out.mono ?_; rintro e w1 ⟨A, c, rfl, hc, hown, hB1⟩)
    | (go_at_call 23
       refine (same_any A (some ⟨w1.heap.size + 1, 0, none⟩) 4 c 4 toks21 toks21 true _ (RdS.of_own ((hown.alloc _).alloc _)) (RdS.of_blk (Blk.new' (by simp) tc21.symm) rfl) rfl (by omega) (same_self toks21 true)).mono ?_
       rintro e w2 ⟨rfl, hB2⟩))
  go_ret
  refine ⟨rfl, (((hB1.alloc hB1.size _).alloc (by have := hB1.size; simp; omega) _).trans (hB2.mono (by have := hB1.size; simp; omega)))⟩
end Go.Proofs.Ytkpacpkldjfbhaa
