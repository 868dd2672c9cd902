/- LexStreams: the acts as an argument. -/
import Derived.Test.YtkpacpkldjfbhaaLexZ
import Derived.Test.YtkpacpkldjfbhaaRead
namespace Go.Proofs.Ytkpacpkldjfbhaa.lexStreams
open Go.RowKit

def AxQ (W : World) (a : Ax) : Prop := Rd W a.A a.m (strs a.texts) ∧ a.m * 16 ≤ 140737488355328
theorem flat_strs (l : List ByteArray) : (l.flatMap fun s => [Value.string s]) = strs l := by
  induction l with
  | nil => rfl
  | cons a l ih => rw [List.flatMap_cons, ih]; rfl
theorem reads_act (N : Nat) : Reads Try.prog N 66 axCells AxQ :=
  Reads.mono ((reads_struct (N := N + 1) Try.underlying66 (by kernel_rfl)
    (readsF_cons (sz := 1) rfl (by kernel_rfl) (reads_int Try.underlying3) (readsF_cons (sz := 1) rfl (by kernel_rfl) (reads_int Try.underlying3) (readsF_cons (sz := 1) rfl (by kernel_rfl) (reads_str Try.underlying9)
      (readsF_cons (sz := 1) rfl (by kernel_rfl) (reads_slice (N := N) 1 16 Try.underlying64 (by kernel_rfl) (by kernel_rfl) (by omega) (reads_str Try.underlying9)) readsF_nil))))).imp
    fun W ⟨k, n, t, s, _⟩ ⟨_, _, _, hs, _⟩ => ⟨⟨k, n, t, s.A, s.n, s.c, s.l⟩, rfl, by
      refine ⟨?_, ?_⟩
      · have := hs.rd
        rw [flat_strs] at this
        exact this.to1
      · show s.n * 16 ≤ _
        have h1 : s.n ≤ s.c := hs.cap
        have h2 : s.c * 16 ≤ reachBytes := hs.reach
        unfold reachBytes at h2
        omega⟩) (by omega)
theorem reads_acts (N : Nat) : Reads Try.prog N 56 (fun s : Sl Ax => [s.val]) (SlIn 4 56 axCells AxQ) :=
  Reads.mono (reads_slice (N := N) 4 56 Try.underlying56 (by kernel_rfl) (by kernel_rfl) (by omega) (reads_act N)) (by omega)
theorem walkA {W : World} (s : ByteArray) (_ : s.size ≤ reachBytes) (a : Sl Ax) (h : SlIn 4 56 axCells AxQ W a) : Calls Try.prog 8 #[.string s, a.val] W fun e w' => e = .returned (.bool true) ∧ Below W.heap.size W w' :=
  walk s a.A a.n a.c a.l W ⟨h.rd, h.len, h.each⟩ (by have := h.cap; have := h.reach; unfold reachBytes at this; omega)
end Go.Proofs.Ytkpacpkldjfbhaa.lexStreams
