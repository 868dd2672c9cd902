/- A list of bytes as an argument. -/
import Derived.Test.YtgkhglnfbhdkeaaRead
namespace Go.Proofs.Ytgkhglnfbhdkeaa
open Go.RowKit

theorem flat_u8 (l : List UInt8) : (l.flatMap fun x => [u8 x]) = u8s l := by
  induction l with
  | nil => rfl
  | cons a l ih => rw [List.flatMap_cons, ih]; rfl
theorem reads_bytes (B : Option Nat) (N : Nat) : Reads Try.prog B N 22 (fun s : Sl UInt8 => [s.val]) (fun W s => Rd W s.A s.n (u8s s.l) ∧ s.n ≤ s.c ∧ s.c ≤ 140737488351232) :=
  Reads.mono ((reads_slice (N := N) 1 1 Try.underlying22 (by kernel_rfl) (by kernel_rfl) (by omega) (reads_u8 Try.underlying5)).imp
    fun W s h => ⟨s, rfl, by
      refine ⟨?_, h.cap, ?_⟩
      · have := h.rd
        rw [flat_u8] at this
        exact this.to1
      · have h2 : s.c * 1 ≤ reachBytes := h.reach
        unfold reachBytes at h2
        omega⟩) (by omega)
end Go.Proofs.Ytgkhglnfbhdkeaa
