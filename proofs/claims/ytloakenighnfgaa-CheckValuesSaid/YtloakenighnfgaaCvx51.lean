/- Part of the proof: CheckValuesV. -/
import Derived.Test.YtloakenighnfgaaCvx50
set_option linter.unusedVariables false
namespace Go.Proofs.Ytloakenighnfgaa.checkValues
open Go.RowKit Tr
theorem ints_flat (l : List Int) : (l.flatMap fun n : Int => [Value.int .i64 n]) = intsV l := by
  induction l with
  | nil => rfl
  | cons a l ih => rw [List.flatMap_cons, ih]; rfl
theorem walkA {W : World} (d : Nd) (h : NdIn W d) (b : Sl Int) (h2 : SlIn none 1 8 (fun n : Int => [.int .i64 n]) (fun _ n => (Lit.int .i64 n).wf = true) W b) : Calls Try.prog 3 #[.agg (ndC d).toArray, b.val] W fun e w' => e = .returned (.bool true) ∧ Below W.heap.size W w' :=
  walk_c d b.A b.n b.c b.l h2.len W h (by have h3 := h2.rd; rw [ints_flat] at h3; exact h3.to1) h2.cap (by have h4 := h2.reach; unfold reachBytes at h4; omega)
end Go.Proofs.Ytloakenighnfgaa.checkValues
